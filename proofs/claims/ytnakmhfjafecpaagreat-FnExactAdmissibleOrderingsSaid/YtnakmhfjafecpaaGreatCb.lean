/- Walks over abstract states: lists of lists, repetitions struck out. -/
import Derived.Test.YtnakmhfjafecpaaGreatUa
import Derived.Test.YtnakmhfjafecpaaGreatWy
import Derived.Test.YtnakmhfjafecpaaGreatWp
set_option linter.unusedSimpArgs false
set_option linter.unusedVariables false
set_option linter.unusedSectionVars false
namespace Go.Proofs.YtnakmhfjafecpaaGreat
open Go.RowKit
set_option maxRecDepth 100000
set_option maxHeartbeats 4000000

/-- The heads of the runs. -/
def cmpH (f : Hdr → List Int) : Option (List Int) → List Hdr → List Hdr
  | _, [] => []
  | p, y :: l => if p = some (f y) then cmpH f p l else y :: cmpH f (some (f y)) l
section
variable {f : Hdr → List Int} {vs zs : List Hdr} {m k : Nat} {x y : Hdr} {l : List (List Int)} {i j n : Int}
theorem cmpH_sub : ∀ (l : List Hdr) (p : Option (List Int)), (cmpH f p l).Sublist l
  | [], _ => List.Sublist.refl _
  | y :: l, p => by
    unfold cmpH
    split
    · exact (cmpH_sub l p).cons y
    · exact (cmpH_sub l _).cons_cons y
theorem cmpH_some : ∀ (l : List Hdr) (x : List Int), x :: (cmpH f (some x) l).map f = cmpG (x :: l.map f)
  | [], x => rfl
  | y :: l, x => by
    unfold cmpH
    rw [List.map_cons, cmpG]
    by_cases h : x = f y
    · rw [if_pos (congrArg some h), if_pos h, ← h]; exact cmpH_some l x
    · rw [if_neg (fun e => h (Option.some.inj e)), if_neg h, List.map_cons, cmpH_some l (f y)]
theorem cmpH_map : ∀ l : List Hdr, (cmpH f none l).map f = cmpG (l.map f)
  | [] => rfl
  | y :: l => by rw [cmpH, if_neg (by simp), List.map_cons, cmpH_some l (f y), List.map_cons]
theorem cmpH_snoc (y : Hdr) : ∀ (l : List Hdr) (p : Option (List Int)), cmpH f p (l ++ [y]) = cmpH f p l ++ (if ((l.getLast?).map f).or p = some (f y) then [] else [y])
  | [], p => by
    by_cases h : p = some (f y)
    · simp [cmpH, h]
    · simp [cmpH, h]
  | z :: l, p => by
    have hl : ∀ q : Option (List Int), (((z :: l).getLast?).map f).or q = ((l.getLast?).map f).or (some (f z)) := fun q => by
      rw [List.getLast?_cons]
      cases l.getLast? <;> rfl
    rw [hl, List.cons_append, cmpH, cmpH]
    by_cases h : p = some (f z)
    · rw [if_pos h, if_pos h, cmpH_snoc y l p, h]
    · rw [if_neg h, if_neg h, cmpH_snoc y l (some (f z)), List.cons_append]
theorem cmpH_step (h1 : vs[m]? = some x) (h2 : vs[m + 1]? = some y) : cmpH f none (vs.take (m + 1 + 1)) = cmpH f none (vs.take (m + 1)) ++ (if f x = f y then [] else [y]) := by
  rw [take_snoc h2, cmpH_snoc]
  have : (vs.take (m + 1)).getLast? = some x := by rw [take_snoc h1]; simp
  rw [this]; simp
theorem cmpH_eq (hi : 1 ≤ i) (hx : vs[(i - 1).toNat]? = some x) (hy : vs[i.toNat]? = some y) (h : f y = f x) : cmpH f none (vs.take (i + 1).toNat) = cmpH f none (vs.take i.toNat) := by
  have := cmpH_step (f := f) hx (y := y) (by rw [show (i - 1).toNat + 1 = i.toNat by omega]; exact hy)
  rw [show (i - 1).toNat + 1 = i.toNat by omega, show i.toNat + 1 = (i + 1).toNat by omega, if_pos h.symm, List.append_nil] at this
  exact this
theorem cmpH_ne (hi : 1 ≤ i) (hx : vs[(i - 1).toNat]? = some x) (hy : vs[i.toNat]? = some y) (h : ¬ f y = f x) : cmpH f none (vs.take (i + 1).toNat) = cmpH f none (vs.take i.toNat) ++ [y] := by
  have := cmpH_step (f := f) hx (y := y) (by rw [show (i - 1).toNat + 1 = i.toNat by omega]; exact hy)
  rw [show (i - 1).toNat + 1 = i.toNat by omega, show i.toNat + 1 = (i + 1).toNat by omega, if_neg (fun e => h e.symm)] at this
  exact this
theorem cmp_st0 (h : 2 ≤ (vs.length : Int)) : cmpH f none (vs.take (1 : Int).toNat) = vs.take (1 : Int).toNat := by
  match vs, h with
  | a :: b :: vs, _ => simp [cmpH]
theorem cmp_stS (hi : 1 ≤ i) (hP : cmpH f none (vs.take i.toNat) = vs.take i.toNat) (hx : vs[(i - 1).toNat]? = some x) (hy : vs[i.toNat]? = some y) (h : ¬ f y = f x) : cmpH f none (vs.take (i + 1).toNat) = vs.take (i + 1).toNat := by
  rw [cmpH_ne hi hx hy h, hP, show (i + 1).toNat = i.toNat + 1 by omega, take_snoc hy]
theorem cmp_in0 (hi : 1 ≤ i) (hP : cmpH f none (vs.take i.toNat) = vs.take i.toNat) (hx : vs[(i - 1).toNat]? = some x) (hy : vs[i.toNat]? = some y) (h : f y = f x) : vs.take i.toNat = cmpH f none (vs.take (i + 1).toNat) := by
  rw [cmpH_eq hi hx hy h, hP]
theorem cmp_end1 (hvf : vs.map f = l) (hP : cmpH f none (vs.take i.toNat) = vs.take i.toNat) (h : ¬ i < (vs.length : Int)) : vs.map f = cmpG l := by
  rw [List.take_of_length_le (by omega)] at hP
  rw [← hvf, ← cmpH_map, hP]
theorem cmp_few (hvf : vs.map f = l) (h : (vs.length : Int) < 2) : vs.map f = cmpG l := by
  rw [← hvf]
  match vs, h with
  | [], _ => rfl
  | [a], _ => rfl
  | a :: b :: vs, h => simp at h; omega
theorem cmp_inE (hm : 1 ≤ n) (hj : 1 ≤ j) (hz : zs.take i.toNat = cmpH f none (vs.take (n + j).toNat)) (ht : ∀ t : Nat, n + j - 1 ≤ (t : Int) → zs[t]? = vs[t]?)
    (hx : zs[n.toNat + (j - 1).toNat]? = some x) (hy : zs[n.toNat + j.toNat]? = some y) (h : f y = f x) : zs.take i.toNat = cmpH f none (vs.take (n + (j + 1)).toNat) := by
  rw [hz, show n + (j + 1) = (n + j) + 1 by omega]
  refine (cmpH_eq (by omega) (x := x) (y := y) ?_ ?_ h).symm
  · rw [← ht _ (by omega), ← hx]; congr 1; omega
  · rw [← ht _ (by omega), ← hy]; congr 1; omega
theorem cmp_inN (hm : 1 ≤ n) (hj : 1 ≤ j) (h0 : 0 ≤ i) (hl : i < (zs.length : Int)) (hz : zs.take i.toNat = cmpH f none (vs.take (n + j).toNat)) (ht : ∀ t : Nat, n + j - 1 ≤ (t : Int) → zs[t]? = vs[t]?)
    (hx : zs[n.toNat + (j - 1).toNat]? = some x) (hy : zs[n.toNat + j.toNat]? = some y) (h : ¬ f y = f x) : (zs.set i.toNat y).take (i + 1).toNat = cmpH f none (vs.take (n + (j + 1)).toNat) := by
  have e1 : (zs.set i.toNat y)[i.toNat]? = some y := List.getElem?_set_self (by omega)
  rw [show (i + 1).toNat = i.toNat + 1 by omega, take_snoc e1, List.take_set_of_le (Nat.le_refl _), hz, show n + (j + 1) = (n + j) + 1 by omega]
  refine (cmpH_ne (by omega) (x := x) (y := y) ?_ ?_ h).symm
  · rw [← ht _ (by omega), ← hx]; congr 1; omega
  · rw [← ht _ (by omega), ← hy]; congr 1; omega
theorem cmp_inT (hi : i ≤ n + j - 1) (h0 : 0 ≤ i) (ht : ∀ t : Nat, n + j - 1 ≤ (t : Int) → zs[t]? = vs[t]?) : ∀ t : Nat, n + (j + 1) - 1 ≤ (t : Int) → (zs.set i.toNat y)[t]? = vs[t]? := fun t h => by
  rw [List.getElem?_set_ne (by omega)]; exact ht t (by omega)
theorem cmp_row (h0 : 0 ≤ i) (hl : i ≤ (zs.length : Int)) (r : List Hdr) : (zs.take i.toNat ++ r).take i.toNat = zs.take i.toNat := by
  rw [List.take_left' (by rw [List.length_take]; omega)]
theorem cmp_shut (h0 : 0 ≤ i) (hl : i ≤ (zs.length : Int)) (r : List Hdr) (hz : zs.take i.toNat = cmpH f none (vs.take (n + j).toNat)) : ∃ l : List Hdr, l.Perm ((zs.take i.toNat ++ r).take i.toNat) ∧ l.Sublist vs := by
  rw [cmp_row h0 hl, hz]
  exact ⟨_, List.Perm.refl _, (cmpH_sub _ _).trans (List.take_sublist ..)⟩
theorem cmp_end2 (hvf : vs.map f = l) (h0 : 0 ≤ i) (hl : i ≤ (zs.length : Int)) (r : List Hdr) (hz : zs.take i.toNat = cmpH f none (vs.take (n + j).toNat)) (he : (vs.length : Int) ≤ n + j) : ((zs.take i.toNat ++ r).take i.toNat).map f = cmpG l := by
  rw [cmp_row h0 hl, hz, List.take_of_length_le (by omega), cmpH_map, hvf]
end

theorem fc_slices_CompactFunc_int_int (l : List (List Int)) (hl : l.length ≤ 1000000) : FC Tryz.prog 116 [(false, [.ref 0]), (false, [.clo 117 []])] [(0, some (.arr 106 (.sl 3 .int) l))] 0 (Own1 106 (.sl 3 .int) (cmpG l)) := by
 refine FC.go Tryz.func116 rfl rfl Tryz.ntmps116 fun O_ hO w0_ N0_ X_ h0_ f0_ => ?_
 refine AC.seq <| AC.poolO (q := 0) (e := .int) 1 rfl (Fresh.of rfl) (nlr rfl) fun vs gf hvf => ?_
 have hvl : vs.length = l.length := by rw [← hvf, List.length_map]
 iterate 9 refine w_ ?_
 cases hb1 : (decide ((vs.length : Int) < 2))
 ·have hb1' := of_decide_eq_false hb1
  iterate 7 refine w_ ?_
  refine AC.loopW (fun m_ s_ => ∃  (m : Int), m_ = ((vs.length : Int) - m).toNat ∧ (1 ≤ m ∧ m ≤ (vs.length : Int)) ∧ (cmpH gf none (vs.take m.toNat) = vs.take m.toNat) ∧ s_ = ⟨[(0, lR 0), (1, lf (.clo 117 [])), (5, lI m)], [(0, some (.arr 106 .vl vs)), (1, some (.pl true (.sl 3 .int) vs gf))]⟩) ⟨1, rfl, (by omega), (cmp_st0 (by omega)), rfl⟩ ?_ ?_
  · exact Wk.of [(0, 0), (1, 1)] rfl ⟨rfl, rfl, rfl, trivial⟩ ⟨rfl, rfl, trivial⟩ rfl rfl
  rintro m_ s_ ⟨m, hm3, hm, hP, rfl⟩
  iterate 7 refine w_ ?_
  cases hb4 : (decide (m < (vs.length : Int)))
  ·have hb4' := of_decide_eq_false hb4
   refine w_ ?_
   refine AC.exit ?_
   refine (?_ : AC _ _ _ _ _)
   iterate 4 refine w_ ?_
   refine AC.wk (Wk.unpool (q := 0) (p := 1) (zs := vs) rfl rfl (by exact ⟨_, List.Perm.refl _, List.Sublist.refl _⟩)) <| AC.ret ?_
   subst hO
   refine fin_own (e := (.sl 3 .int)) (xs := (vs.map gf)) (Res.one rfl (Rs.tmp rfl)) rfl ?_
   exact cmp_end1 hvf hP (by omega)
  ·have hb4' := of_decide_eq_true hb4
   iterate 4 refine w_ ?_
   obtain ⟨y, hx6⟩ : ∃ z, vs[(m).toNat]? = some z := ⟨_, List.getElem?_eq_getElem (by omega)⟩
   have yh := hx6
   obtain ⟨x, hx8⟩ : ∃ z, vs[(m - 1).toNat]? = some z := ⟨_, List.getElem?_eq_getElem (by omega)⟩
   have xh := hx8
   refine dw [io 18 (lf (.clo 117 [])), io 19 (lR 0), io 20 (lI m), io 21 (lf (.ept 0 1 ((m).toNat) 0)), io 22 (lf (.dat .vl y)), io 23 (lR 0), io 24 (lI m), io 25 (lI (m - 1)), io 26 (lf (.ept 0 1 ((m - 1).toNat) 0)), io 27 (lf (.dat .vl x)), io 28 (lB (decide ((gf y) = (gf x))))] [0, 0, 0, 6, 14, 0, 0, 64, 224, 480, 1023] mixed rfl (by kernel_rfl) ⟨dxm rfl rfl, dxm rfl rfl, dxm rfl rfl, fun _ h_ => ac (Does.indexI (e := .vl) (h_.v rfl) (h_.en 0 rfl) (h_.v rfl) und_30 tsh_106 rfl (by omega) (by first | omega | (simp only [List.length_set]; omega))) rfl, fun _ h_ => ac (Does.loadI (e := .vl) (h_.v rfl) (h_.n 0 rfl) hx6 rfl tsh_106 rfl rfl) rfl, dxm rfl rfl, dxm rfl rfl, fun _ h_ => ac (Does.sub (h_.v rfl) (Evl.int rfl) rfl (by omega)) rfl, fun _ h_ => ac (Does.indexI (e := .vl) (h_.v rfl) (h_.en 0 rfl) (h_.v rfl) und_30 tsh_106 rfl (by omega) (by first | omega | (simp only [List.length_set]; omega))) rfl, fun _ h_ => ac (Does.loadI (e := .vl) (h_.v rfl) (h_.n 0 rfl) hx8 rfl tsh_106 rfl rfl) rfl, fun _ h_ => ac (Does.callFB (fc_slices_Equal_int_int (gf y) (gf x)) enters_117 (h_.v rfl) ⟨_, _, rfl, (Evl.plB (p := 1) (h_.v rfl) (h_.n 1 rfl) (List.mem_of_getElem? hx6)), ⟨_, _, rfl, (Evl.plB (p := 1) (h_.v rfl) (h_.n 1 rfl) (List.mem_of_getElem? hx8)), rfl⟩⟩ rfl rfl rfl) rfl, ⟨⟩⟩ ?_
   cases hb9 : (decide ((gf y) = (gf x)))
   ·have hb9' := of_decide_eq_false hb9
    refine w_ ?_
    refine AC.skip ?_
    refine (?_ : AC _ _ _ _ _)
    iterate 4 refine w_ ?_
    refine AL.nil <| lend ⟨(m + 1), rfl, (by omega), (cmp_stS (by omega) hP xh yh (of_decide_eq_false (by assumption))), rfl⟩ (by omega) ?_
    exact Wk.of [(0, 0), (1, 1)] rfl ⟨rfl, rfl, rfl, trivial⟩ ⟨rfl, rfl, trivial⟩ rfl rfl
   ·have hb9' := of_decide_eq_true hb9
    iterate 4 refine w_ ?_
    refine lc (Does.sliceO (e := .vl) (a := (m).toNat) (b := vs.length - (m).toNat) (l := (some m)) (h := none) (Evl.tmp rfl) rfl (by exact (Evl.tmp rfl)) (by exact trivial) und_30 tsh_106 rfl (by first | (simp only [Option.getD_none, Option.getD_some]; omega) | omega | (simp only [Option.getD_none, Option.getD_some, List.length_append, List.length_take, List.length_replicate]; omega)) (by first | (simp only [Option.getD_none, Option.getD_some]; omega) | omega | (simp only [Option.getD_none, Option.getD_some, List.length_append, List.length_take, List.length_replicate]; omega)) (by first | (simp only [Option.getD_none, Option.getD_some]; omega) | omega | (simp only [Option.getD_none, Option.getD_some, List.length_append, List.length_take, List.length_replicate]; omega)) (by first | rfl | simp) (by first | rfl | simp)) ?_
    iterate 7 refine w_ ?_
    refine AC.loopW (fun m_ s_ => ∃  (zs : List Hdr) (i : Int) (j : Int), m_ = ((vs.length : Int) - m - j).toNat ∧ (zs.length = vs.length) ∧ (m ≤ i ∧ 1 ≤ j ∧ i ≤ m + j - 1 ∧ m + j ≤ (vs.length : Int)) ∧ (zs.take i.toNat = cmpH gf none (vs.take (m + j).toNat)) ∧ (∀ t : Nat, m + j - 1 ≤ (t : Int) → zs[t]? = vs[t]?) ∧ s_ = ⟨[(0, lR 2), (1, lf (.clo 117 [])), (5, lI i), (6, lf (.sub 2 1 ((m).toNat) (vs.length - (m).toNat))), (7, lI j), (12, lI m), (14, lI (vs.length : Int)), (15, lB true), (18, lf (.clo 117 [])), (20, lI m), (22, lf (.dat .vl y)), (24, lI m), (25, lI (m - 1)), (27, lf (.dat .vl x)), (28, lB true), (30, lI m)], [(1, some (.pl true (.sl 3 .int) vs gf)), (2, some (.arr 106 .vl zs))]⟩) ⟨vs, m, 1, rfl, rfl, (by omega), (cmp_in0 (by omega) hP xh yh (of_decide_eq_true (by assumption))), (fun t _ => rfl), rfl⟩ ?_ ?_
    · exact Wk.of [(1, 1), (2, 0)] rfl ⟨rfl, rfl, rfl, rfl, rfl, rfl, rfl, rfl, rfl, rfl, rfl, rfl, rfl, rfl, rfl, rfl, trivial⟩ ⟨rfl, rfl, trivial⟩ rfl rfl
    rintro m_ s_ ⟨zs, i, j, hm11, hz0, hij, hzs, htl, rfl⟩
    iterate 4 refine w_ ?_
    refine lc (Does.lenSub (e := .vl) (Evl.tmp rfl) rfl (by omega) und_30 rfl) ?_
    iterate 2 refine w_ ?_
    cases hb12 : (decide (j < ((vs.length - (m).toNat : Nat) : Int)))
    ·have hb12' := of_decide_eq_false hb12
     refine w_ ?_
     refine AC.exit ?_
     refine (?_ : AC _ _ _ _ _)
     iterate 3 refine w_ ?_
     refine lc (Does.sliceO (e := .vl) (a := (i).toNat) (b := zs.length - (i).toNat) (l := (some i)) (h := none) (Evl.tmp rfl) rfl (by exact (Evl.tmp rfl)) (by exact trivial) und_30 tsh_106 rfl (by first | (simp only [Option.getD_none, Option.getD_some]; omega) | omega | (simp only [Option.getD_none, Option.getD_some, List.length_append, List.length_take, List.length_replicate]; omega)) (by first | (simp only [Option.getD_none, Option.getD_some]; omega) | omega | (simp only [Option.getD_none, Option.getD_some, List.length_append, List.length_take, List.length_replicate]; omega)) (by first | (simp only [Option.getD_none, Option.getD_some]; omega) | omega | (simp only [Option.getD_none, Option.getD_some, List.length_append, List.length_take, List.length_replicate]; omega)) (by first | rfl | simp) (by first | rfl | simp)) <| lc (Does.clearO (e := .vl) (Evl.tmp rfl) rfl (by omega) und_30 zer_106 rfl rfl rfl) ?_
     iterate 4 refine w_ ?_
     refine lc (Does.sliceO (e := .vl) (a := 0) (b := (i).toNat) (l := none) (h := (some i)) (Evl.tmp rfl) rfl (by exact trivial) (by exact (Evl.tmp rfl)) und_30 tsh_106 rfl (by first | (simp only [Option.getD_none, Option.getD_some]; omega) | omega | (simp only [Option.getD_none, Option.getD_some, List.length_append, List.length_take, List.length_replicate]; omega)) (by first | (simp only [Option.getD_none, Option.getD_some]; omega) | omega | (simp only [Option.getD_none, Option.getD_some, List.length_append, List.length_take, List.length_replicate]; omega)) (by first | (simp only [Option.getD_none, Option.getD_some]; omega) | omega | (simp only [Option.getD_none, Option.getD_some, List.length_append, List.length_take, List.length_replicate]; omega)) (by first | rfl | simp) (by first | rfl | simp)) ?_
     iterate 2 refine w_ ?_
     refine AC.wk (Wk.shorten 3 4 (e := .vl) (xs := zs.take ((i).toNat) ++ List.replicate (zs.length - (i).toNat) (Ty.zero .vl)) rfl rfl (by first | omega | (simp only [List.length_append, List.length_take, List.length_replicate]; omega)) rfl (Fresh.of rfl) (nlr rfl)) <| AC.wk (Wk.unpool (q := 3) (p := 1) (zs := (zs.take ((i).toNat) ++ List.replicate (zs.length - (i).toNat) (Ty.zero .vl)).take ((i).toNat)) rfl rfl (by exact cmp_shut (by omega) (by omega) _ hzs)) <| AC.ret ?_
     subst hO
     refine fin_own (e := (.sl 3 .int)) (xs := (((zs.take ((i).toNat) ++ List.replicate (zs.length - (i).toNat) (Ty.zero .vl)).take ((i).toNat)).map gf)) (Res.one rfl (Rs.tmp rfl)) rfl ?_
     exact cmp_end2 hvf (by omega) (by omega) _ hzs (by omega)
    ·have hb12' := of_decide_eq_true hb12
     iterate 4 refine w_ ?_
     obtain ⟨y2, hx14⟩ : ∃ z, zs[(((m).toNat) + (j).toNat)]? = some z := ⟨_, List.getElem?_eq_getElem (by omega)⟩
     have y2h := hx14
     obtain ⟨x2, hx16⟩ : ∃ z, zs[(((m).toNat) + (j - 1).toNat)]? = some z := ⟨_, List.getElem?_eq_getElem (by omega)⟩
     have x2h := hx16
     refine dw [io 38 (lf (.clo 117 [])), io 39 (lf (.sub 2 1 ((m).toNat) (vs.length - (m).toNat))), io 40 (lI j), io 41 (lf (.ept 2 1 (((m).toNat) + (j).toNat) 0)), io 42 (lf (.dat .vl y2)), io 43 (lf (.sub 2 1 ((m).toNat) (vs.length - (m).toNat))), io 44 (lI j), io 45 (lI (j - 1)), io 46 (lf (.ept 2 1 (((m).toNat) + (j - 1).toNat) 0)), io 47 (lf (.dat .vl x2)), io 48 (lB (decide ((gf y2) = (gf x2)))), io 49 (lB (!(decide ((gf y2) = (gf x2)))))] [0, 0, 0, 6, 14, 0, 0, 64, 224, 480, 1023, 2047] mixed rfl (by kernel_rfl) ⟨dxm rfl rfl, dxm rfl rfl, dxm rfl rfl, fun _ h_ => ac (Does.indexSub (e := .vl) (k := ((m).toNat) + (j).toNat) (h_.v rfl) (h_.en 2 rfl) (by omega) (h_.v rfl) und_30 tsh_106 rfl (by omega) (by omega) (by first | rfl | omega)) rfl, fun _ h_ => ac (Does.loadI (e := .vl) (h_.v rfl) (h_.n 2 rfl) hx14 rfl tsh_106 rfl rfl) rfl, dxm rfl rfl, dxm rfl rfl, fun _ h_ => ac (Does.sub (h_.v rfl) (Evl.int rfl) rfl (by omega)) rfl, fun _ h_ => ac (Does.indexSub (e := .vl) (k := ((m).toNat) + (j - 1).toNat) (h_.v rfl) (h_.en 2 rfl) (by omega) (h_.v rfl) und_30 tsh_106 rfl (by omega) (by omega) (by first | rfl | omega)) rfl, fun _ h_ => ac (Does.loadI (e := .vl) (h_.v rfl) (h_.n 2 rfl) hx16 rfl tsh_106 rfl rfl) rfl, fun _ h_ => ac (Does.callFB (fc_slices_Equal_int_int (gf y2) (gf x2)) enters_117 (h_.v rfl) ⟨_, _, rfl, (Evl.plB (p := 1) (h_.v rfl) (h_.en 1 rfl) (List.mem_of_getElem? ((htl _ (by omega)).symm.trans hx14))), ⟨_, _, rfl, (Evl.plB (p := 1) (h_.v rfl) (h_.en 1 rfl) (List.mem_of_getElem? ((htl _ (by omega)).symm.trans hx16))), rfl⟩⟩ rfl rfl rfl) rfl, fun _ h_ => ac (Does.not (h_.v rfl) rfl) rfl, ⟨⟩⟩ ?_
     cases hb17 : (decide ((gf y2) = (gf x2)))
     ·have hb17' := of_decide_eq_false hb17
      iterate 6 refine w_ ?_
      refine lc (Does.indexSub (e := .vl) (k := ((m).toNat) + (j).toNat) (Evl.tmp rfl) rfl (by omega) (Evl.tmp rfl) und_30 tsh_106 rfl (by omega) (by omega) (by first | rfl | omega)) <| lc (Does.loadI (e := .vl) (Evl.tmp rfl) rfl hx14 rfl tsh_106 rfl rfl) <| lc (Does.indexI (e := .vl) (Evl.tmp rfl) rfl (Evl.tmp rfl) und_30 tsh_106 rfl (by omega) (by first | omega | (simp only [List.length_set]; omega))) ?_
      obtain ⟨x18, hx19⟩ : ∃ z, zs[(i).toNat]? = some z := ⟨_, List.getElem?_eq_getElem (by omega)⟩
      have x18h := hx19
      refine lc (Does.storeI (e := .vl) (z' := y2) (Evl.tmp rfl) rfl hx19 rfl (Ev.tmp rfl) rfl tsh_106 rfl rfl) ?_
      iterate 5 refine w_ ?_
      refine AL.nil ?_
      refine (?_ : AC _ _ _ _ _)
      iterate 4 refine w_ ?_
      refine AL.nil <| lend ⟨(zs.set ((i).toNat) y2), (i + 1), (j + 1), rfl, (by (rw [List.length_set]; assumption)), (by omega), (by exact cmp_inN (by omega) (by omega) (by omega) (by omega) hzs htl x2h y2h (of_decide_eq_false (by assumption))), (by exact cmp_inT (by omega) (by omega) htl), rfl⟩ (by omega) ?_
      exact Wk.of [(1, 1), (2, 2)] rfl ⟨rfl, rfl, rfl, rfl, rfl, rfl, rfl, rfl, rfl, rfl, rfl, rfl, rfl, rfl, rfl, rfl, trivial⟩ ⟨rfl, (entE (by first | rfl | simp)), trivial⟩ rfl rfl
     ·have hb17' := of_decide_eq_true hb17
      refine w_ ?_
      refine AC.skip ?_
      refine (?_ : AC _ _ _ _ _)
      iterate 4 refine w_ ?_
      refine AL.nil <| lend ⟨zs, i, (j + 1), rfl, (by assumption), (by omega), (by exact cmp_inE (by omega) (by omega) hzs htl x2h y2h (of_decide_eq_true (by assumption))), (by exact fun t h => htl t (by omega)), rfl⟩ (by omega) ?_
      exact Wk.of [(1, 1), (2, 2)] rfl ⟨rfl, rfl, rfl, rfl, rfl, rfl, rfl, rfl, rfl, rfl, rfl, rfl, rfl, rfl, rfl, rfl, trivial⟩ ⟨rfl, rfl, trivial⟩ rfl rfl
 ·have hb1' := of_decide_eq_true hb1
  iterate 5 refine w_ ?_
  refine AC.wk (Wk.unpool (q := 0) (p := 1) (zs := vs) rfl rfl (by exact ⟨_, List.Perm.refl _, List.Sublist.refl _⟩)) <| AC.ret ?_
  subst hO
  refine fin_own (e := (.sl 3 .int)) (xs := (vs.map gf)) (Res.one rfl (Rs.tmp rfl)) rfl ?_
  exact cmp_few hvf (by omega)

end Go.Proofs.YtnakmhfjafecpaaGreat

/- Walks over abstract states: what is enabled together, the reference. -/
namespace Go.Proofs.YtnakmhfjafecpaaGreat
open Go.RowKit
set_option maxRecDepth 100000
set_option maxHeartbeats 4000000

theorem putG_len {α : Type _} [DecidableEq α] {lt : α → α → Bool} (x : α) : ∀ l : List α, (putG lt x l).length ≤ l.length + 1
  | [] => Nat.le_refl _
  | y :: l => by
    unfold putG
    have := putG_len (lt := lt) x l
    split
    · simp only [List.length_cons]; omega
    · split <;> simp
theorem ofG_len {α : Type _} [DecidableEq α] {lt : α → α → Bool} (l : List α) : (ofG lt l).length ≤ l.length := by
  have : ∀ (l s : List α), (l.foldl (fun s x => putG lt x s) s).length ≤ s.length + l.length := fun l => by
    induction l with
    | nil => intro s; simp
    | cons x l ih => intro s; have h1 := ih (putG lt x s); have h2 := putG_len (lt := lt) x s; rw [List.foldl_cons, List.length_cons]; omega
  simpa [ofG] using this l []
/-- Whether two transitions have a place in both. -/
def shV (n : DNet) (t u : Int) : Bool := ((n.2[t.toNat]?).getD ([], [])).1.any fun z => decide (z ∈ ((n.2[u.toNat]?).getD ([], [])).1)
def rowS (n : DNet) (t : Int) (l : List Int) : List (List Int) := (l.filter fun u => decide (t < u) && !shV n t u).map fun u => [t, u]
def rowI (n : DNet) (t : Int) (l : List Int) : List (List Int) := (l.filter fun u => !shV n t u).map fun u => [t, u]
def allS (n : DNet) (on l : List Int) : List (List Int) := l.flatMap fun t => rowS n t on
def allI (n : DNet) (on : List Int) (k : Nat) : List (List Int) := (List.range k).flatMap fun i => rowI n ((on[i]?).getD 0) (on.drop (i + 1))
def togS (n : DNet) (ms : List ByteArray) : List (List Int) := ms.flatMap fun mk => allS n (enbs n mk) (enbs n mk)
section
variable {n : DNet} {k f i j : Nat} {mk : ByteArray} {t u : Int} {ts on l : List Int} {st : RS} {s : DSTG} {xt xu : DTransition} {ms : List ByteArray} {as_ bs : List (List Int)}
theorem goT_bits (hm : Bits mk n.1) (h : ∀ m ∈ st.1, Bits m n.1) : ∀ m ∈ (goT n k mk ts st).1.1, Bits m n.1 := by
  induction ts generalizing st with
  | nil => rw [goT]; exact h
  | cons t ts ih =>
    rw [goT]
    split
    · exact h
    · rename_i h0
      split
      · exact ih (st := (st.1, _, st.2.2)) h
      · split
        · exact h
        · exact ih (st := (st.1 ++ [_], _, _)) (all_app h (fireV_bits hm rfl (by revert h0; cases (fireV n mk t).2 <;> simp)))
theorem goK_bits (h : ∀ m ∈ st.1, Bits m n.1) : ∀ m ∈ (goK n f k st).1.1, Bits m n.1 := by
  induction f generalizing k st with
  | zero => rw [goK]; exact h
  | succ f ih =>
    rw [goK]
    cases hx : st.1[k]? with
    | none => exact h
    | some mk =>
      have h1 := goT_bits (k := k) (ts := enbs n mk) (h mk (List.mem_of_getElem? hx)) h
      show ∀ m ∈ (if (goT n k mk (enbs n mk) st).2.2.2 = true then goK n f (k + 1) (goT n k mk (enbs n mk) st).1 else goT n k mk (enbs n mk) st).1.1, Bits m n.1
      split
      · exact ih h1
      · exact h1
theorem exploreV_pl [∀ s, Decidable (StgOk s)] : ∀ m ∈ (exploreV s).1.1, ∀ t ∈ s.1.2, PlOk m t.1 ∧ PlOk m t.2 := fun m hm => by
  unfold exploreV at hm
  split at hm
  · rename_i h1
    refine net_pl h1.1.net ?_
    exact goK_bits (n := s.1) (k := 0) (f := 301) (st := ([s.2.2.2], [], [((0 : Int), (0 : Int), (0 : Int))])) (fun m hm => by rw [List.mem_singleton.1 hm]; exact h1.1.bits) m hm
  · cases hm
theorem exploreV_few [∀ s, Decidable (StgOk s)] : (exploreV s).1.1.length ≤ 300 := by
  cases h : (exploreV s).2 with
  | true => exact (exploreV_ok h).2.2.1
  | false =>
    unfold exploreV at h ⊢
    split
    · rename_i h1; rw [if_pos h1] at h; cases h
    · exact Nat.zero_le _
theorem exploreV_net [∀ s, Decidable (StgOk s)] (h : (exploreV s).2 = true) : s.1.2.length ≤ 24 := (exploreV_ok h).1.net.2.1
theorem exploreV_noM [∀ s, Decidable (StgOk s)] (h : (exploreV s).2 = false) : (exploreV s).1.1 = [] := by
  unfold exploreV at h ⊢
  split
  · rename_i h1; rw [if_pos h1] at h; cases h
  · rfl
theorem shV_at (h1 : n.2[t.toNat]? = some xt) (h2 : n.2[u.toNat]? = some xu) : shV n t u = xt.1.any fun z => decide (z ∈ xu.1) := by unfold shV; rw [h1, h2]; rfl
theorem rowS_yes (hx : on[k]? = some u) (h1 : n.2[t.toNat]? = some xt) (h2 : n.2[u.toNat]? = some xu) (ht : t < u) (h : (xt.1.any fun z => decide (z ∈ xu.1)) = false) : rowS n t (on.take k) ++ [[t, u]] = rowS n t (on.take (k + 1)) := by
  unfold rowS
  rw [take_snoc hx, List.filter_append, List.map_append]
  rw [← shV_at h1 h2] at h
  simp [ht, h]
theorem rowS_lt (hx : on[k]? = some u) (ht : ¬ t < u) : rowS n t (on.take k) = rowS n t (on.take (k + 1)) := by
  unfold rowS
  rw [take_snoc hx, List.filter_append, List.map_append]
  simp [ht]
theorem rowS_no (hx : on[k]? = some u) (h1 : n.2[t.toNat]? = some xt) (h2 : n.2[u.toNat]? = some xu) (h : (xt.1.any fun z => decide (z ∈ xu.1)) = true) : rowS n t (on.take k) = rowS n t (on.take (k + 1)) := by
  unfold rowS
  rw [take_snoc hx, List.filter_append, List.map_append]
  rw [← shV_at h1 h2] at h
  simp [h]
theorem rowS_len : (rowS n t l).length ≤ l.length := by unfold rowS; rw [List.length_map]; exact List.length_filter_le ..
theorem rowI_len : (rowI n t l).length ≤ l.length := by unfold rowI; rw [List.length_map]; exact List.length_filter_le ..
theorem flatS_len {α : Type} {f : α → List (List Int)} {m : Nat} : ∀ {l : List α}, (∀ x ∈ l, (f x).length ≤ m) → (l.flatMap f).length ≤ m * l.length
  | [], _ => by simp
  | x :: l, h => by
    rw [List.flatMap_cons, List.length_append, List.length_cons, Nat.mul_add]
    have h1 := h x (List.mem_cons_self ..)
    have h2 := flatS_len (f := f) (l := l) fun y hy => h y (List.mem_cons_of_mem _ hy)
    omega
theorem allS_len (h : on.length ≤ 24) : (allS n on l).length ≤ 24 * l.length := flatS_len fun _ _ => Nat.le_trans rowS_len h
theorem togS_len (h : n.2.length ≤ 24) : (togS n ms).length ≤ 576 * ms.length := flatS_len fun mk _ => by
  have h1 := enbs_len n mk
  have h2 := allS_len (n := n) (on := enbs n mk) (l := enbs n mk) (by omega)
  omega
theorem allS_succ (hx : l[k]? = some t) : allS n on (l.take k) ++ rowS n t on = allS n on (l.take (k + 1)) := by unfold allS; rw [take_snoc hx, List.flatMap_append]; simp
theorem togS_succ (hx : ms[k]? = some mk) : togS n (ms.take k) ++ allS n (enbs n mk) (enbs n mk) = togS n (ms.take (k + 1)) := by unfold togS; rw [take_snoc hx, List.flatMap_append]; simp
theorem togS_end (hx : ms[k]? = some mk) (hi : (enbs n mk).length ≤ i) : ofG ltP (togS n (ms.take k) ++ allS n (enbs n mk) ((enbs n mk).take i)) = ofG ltP (togS n (ms.take (k + 1))) := by rw [List.take_of_length_le hi, togS_succ hx]
theorem allS_end (hx : on[i]? = some t) (hj : on.length ≤ j) : ofG ltP (as_ ++ allS n on (on.take i) ++ rowS n t (on.take j)) = ofG ltP (as_ ++ allS n on (on.take (i + 1))) := by rw [List.take_of_length_le hj, List.append_assoc, allS_succ hx]
/-! A pair put to its place. -/
end
section
variable {vs vs2 : List Hdr} {gf gf2 gj : Hdr → List Int} {l : List (List Int)} {m : Int} {x : List Int}
theorem put3_lo (hvf : vs.map gf = l) (h0 : 0 ≤ m) (hP : ∀ j : Nat, (j : Int) < m → ∀ y, vs[j]? = some y → ltP (gf y) x = true) {y : Hdr} (h : vs[m.toNat]? = some y) (he : gf y = x) : vs.map gf = putG ltP x l := by
  subst hvf
  refine (putG_same (k := m.toNat) (fun j hj z hz => ?_) (by rw [List.getElem?_map, h, Option.map_some, he]) (ltP_irr x)).symm
  rw [List.getElem?_map] at hz
  obtain ⟨z', h1, rfl⟩ := Option.map_eq_some_iff.1 hz
  exact hP j (by omega) z' h1
theorem put3_at (hvf : vs.map gf = l) (h2 : vs2.map gf2 = [x]) (j1 : ∀ v ∈ vs, gj v = gf v) (j2 : ∀ v ∈ vs2, gj v = gf2 v) (h0 : 0 ≤ m) (h1 : m ≤ (vs.length : Int)) (hP : ∀ j : Nat, (j : Int) < m → ∀ y, vs[j]? = some y → ltP (gf y) x = true)
    (h : ∀ y, vs[m.toNat]? = some y → ltP (gf y) x = false ∧ gf y ≠ x) : (((vs.take m.toNat) ++ vs2) ++ vs.drop m.toNat).map gj = putG ltP x l := by
  subst hvf
  rw [List.map_append, List.map_append, List.map_congr_left (l := vs.take m.toNat) (fun v hv => j1 v (List.mem_of_mem_take hv)), List.map_congr_left (l := vs.drop m.toNat) (fun v hv => j1 v (List.mem_of_mem_drop hv)), List.map_congr_left j2, h2, List.map_take, List.map_drop, List.append_assoc]
  refine (putG_at (k := m.toNat) (fun j hj z hz => ?_) (by rw [List.length_map]; omega) fun z hz => ?_).symm
  · rw [List.getElem?_map] at hz
    obtain ⟨z', h1, rfl⟩ := Option.map_eq_some_iff.1 hz
    exact hP j (by omega) z' h1
  · rw [List.getElem?_map] at hz
    obtain ⟨z', h1, rfl⟩ := Option.map_eq_some_iff.1 hz
    exact h z' h1
theorem put3_perm : ∃ l : List Hdr, l.Perm (((vs.take m.toNat) ++ vs2) ++ vs.drop m.toNat) ∧ l.Sublist (vs ++ vs2) := ⟨vs ++ vs2, by
  have h : (vs.take m.toNat ++ vs.drop m.toNat ++ vs2).Perm (vs.take m.toNat ++ vs2 ++ vs.drop m.toNat) := by
    rw [List.append_assoc, List.append_assoc]
    exact List.Perm.append_left _ List.perm_append_comm
  rwa [List.take_append_drop] at h, List.Sublist.refl _⟩
theorem row3 (h0 : 0 ≤ m) (h1 : m ≤ (vs.length : Int)) : (([] ++ (vs.take (0 + m.toNat)).drop 0) ++ vs2) ++ ([] ++ (vs.take (m.toNat + (vs.length - m.toNat))).drop m.toNat) = ((vs.take m.toNat) ++ vs2) ++ vs.drop m.toNat := by
  rw [show m.toNat + (vs.length - m.toNat) = vs.length by omega, List.take_length]
  simp
end

theorem fc_spec_l1Least (a : Int) (b : Int)  : FC Tryz.prog 165 [(false, [dI a]), (false, [dI b])] [] 0 (Pure (lI (min a b))) := by
 refine FC.go Tryz.func165 rfl rfl Tryz.ntmps165 fun O_ hO w0_ N0_ X_ h0_ f0_ => ?_
 refine AC.fact (fact_int (x := .tmp 0) (Evl.tmp rfl)) fun hi1 => AC.fact (fact_int (x := .tmp 1) (Evl.tmp rfl)) fun hi2 => ?_
 iterate 9 refine w_ ?_
 cases hb3 : (decide (a < b))
 ·have hb3' := of_decide_eq_false hb3
  iterate 6 refine w_ ?_
  refine AC.ret ?_
  subst hO
  have e4 : (b : Int) = (min a b) := by
   omega
  exact fin_pure (Res.one rfl (Rs.tmp rfl)) ((congrArg (fun z_ => lI z_) e4)) rfl
 ·have hb3' := of_decide_eq_true hb3
  iterate 5 refine w_ ?_
  refine AC.ret ?_
  subst hO
  have e5 : (a : Int) = (min a b) := by
   omega
  exact fin_pure (Res.one rfl (Rs.tmp rfl)) ((congrArg (fun z_ => lI z_) e5)) rfl

theorem fc_spec_l1Most (a : Int) (b : Int)  : FC Tryz.prog 166 [(false, [dI a]), (false, [dI b])] [] 0 (Pure (lI (max a b))) := by
 refine FC.go Tryz.func166 rfl rfl Tryz.ntmps166 fun O_ hO w0_ N0_ X_ h0_ f0_ => ?_
 refine AC.fact (fact_int (x := .tmp 0) (Evl.tmp rfl)) fun hi1 => AC.fact (fact_int (x := .tmp 1) (Evl.tmp rfl)) fun hi2 => ?_
 iterate 9 refine w_ ?_
 cases hb3 : (decide (b < a))
 ·have hb3' := of_decide_eq_false hb3
  iterate 6 refine w_ ?_
  refine AC.ret ?_
  subst hO
  have e4 : (b : Int) = (max a b) := by
   omega
  exact fin_pure (Res.one rfl (Rs.tmp rfl)) ((congrArg (fun z_ => lI z_) e4)) rfl
 ·have hb3' := of_decide_eq_true hb3
  iterate 5 refine w_ ?_
  refine AC.ret ?_
  subst hO
  have e5 : (a : Int) = (max a b) := by
   omega
  exact fin_pure (Res.one rfl (Rs.tmp rfl)) ((congrArg (fun z_ => lI z_) e5)) rfl

theorem fc_spec_l1Meet (a : List Int) (b : List Int)  : FC Tryz.prog 109 [(false, [.dat (.sl 3 .int) a]), (false, [.dat (.sl 3 .int) b])] [] 0 (Pure (lB (a.any fun z => decide (z ∈ b)))) := by
 refine FC.go Tryz.func109 rfl rfl Tryz.ntmps109 fun O_ hO w0_ N0_ X_ h0_ f0_ => ?_
 iterate 6 refine w_ ?_
 refine AL.fact (fact_len (x := .tmp 7) (Evl.tmp rfl)) fun hl1 => ?_
 iterate 4 refine w_ ?_
 refine AC.loopW (fun m_ s_ => ∃ (k : Nat), k ≤ a.length ∧ m_ = a.length - k ∧ (∀ j, j < k → ∀ y, a[j]? = some y → ¬ y ∈ b) ∧ s_ = ⟨[(1, lf (.dat (.sl 3 .int) b)), (7, lf (.dat (.sl 3 .int) a)), (8, lI (a.length : Int)), (9, lI (k : Int))], []⟩) ⟨0, Nat.zero_le _, rfl, (fun j hj => absurd hj (Nat.not_lt_zero j)), rfl⟩ ?_ ?_
 · exact Wk.of [] rfl ⟨rfl, rfl, rfl, rfl, trivial⟩ trivial rfl rfl
 rintro m_ s_ ⟨k, hk2, hm3, hno, rfl⟩
 iterate 4 refine w_ ?_
 cases hb4 : (decide ((k : Int) < (a.length : Int)))
 ·have hb4' := of_decide_eq_false hb4
  refine w_ ?_
  refine AC.exit ?_
  refine (?_ : AC _ _ _ _ _)
  iterate 3 refine w_ ?_
  refine AC.ret ?_
  subst hO
  have e5 : (false : Bool) = (a.any fun z => decide (z ∈ b)) := by
   first | exact (List.any_eq_false.2 fun z hz => by obtain ⟨j, hj⟩ := List.mem_iff_getElem?.1 hz; rw [decide_eq_true_eq]; exact hno j (by have := (List.getElem?_eq_some_iff.1 hj).1; omega) z hj).symm
  exact fin_pure (Res.one rfl (Rs.tmp rfl)) ((congrArg (fun z_ => lB z_) e5)) rfl
 ·have hb4' := of_decide_eq_true hb4
  iterate 5 refine w_ ?_
  obtain ⟨x6, hx7⟩ : ∃ z, a[k]? = some z := ⟨_, List.getElem?_eq_getElem (by omega)⟩
  refine lc (Does.indexE (Evl.tmp rfl) (Evl.tmp rfl) und_106 tsh_3 rfl (by omega) hx7) ?_
  refine w_ ?_
  refine AL.fact (fact_int (x := .tmp 12) (Evl.tmp rfl)) fun hi8 => ?_
  iterate 5 refine w_ ?_
  refine lc (Does.call (fc_spec_l1Has b x6) enters_187 ⟨_, _, rfl, (Ev.tmp rfl), ⟨_, _, rfl, (Ev.tmp rfl), rfl⟩⟩ rfl rfl) ?_
  refine w_ ?_
  cases hb9 : (decide (x6 ∈ b))
  ·have hb9' := of_decide_eq_false hb9
   refine w_ ?_
   refine AC.skip ?_
   refine (?_ : AC _ _ _ _ _)
   iterate 3 refine w_ ?_
   refine AL.nil <| lend ⟨k + 1, by omega, rfl, (each_step hno hx7 (of_decide_eq_false (by assumption))), rfl⟩ (by omega) ?_
   exact Wk.of [] rfl ⟨rfl, rfl, rfl, rfl, trivial⟩ trivial rfl rfl
  ·have hb9' := of_decide_eq_true hb9
   iterate 4 refine w_ ?_
   refine AC.ret ?_
   subst hO
   have e10 : (true : Bool) = (a.any fun z => decide (z ∈ b)) := by
    exact (List.any_eq_true.2 ⟨_, List.mem_of_getElem? hx7, by assumption⟩).symm
   exact fin_pure (Res.one rfl (Rs.tmp rfl)) ((congrArg (fun z_ => lB z_) e10)) rfl

theorem ltP_at {a b : List Int} {k : Nat} {x y : Int} (hE : ∀ j, j < k → a[j]? = b[j]?) (ha : a[k]? = some x) (hb : b[k]? = some y) (h : x ≠ y) : decide (x < y) = ltP a b := by
  induction k generalizing a b with
  | zero =>
    cases a with
    | nil => cases ha
    | cons p a =>
      cases b with
      | nil => cases hb
      | cons q b =>
        cases ha; cases hb
        unfold ltP
        by_cases h1 : x < y
        · simp [h1]
        · rw [if_neg h1, if_pos (by omega), decide_eq_false h1]
  | succ k ih =>
    cases a with
    | nil => cases ha
    | cons p a =>
      cases b with
      | nil => cases hb
      | cons q b =>
        have h0 := hE 0 (Nat.succ_pos _)
        cases h0
        unfold ltP
        rw [if_neg (by omega), if_neg (by omega)]
        exact ih (fun j hj => hE (j + 1) (by omega)) ha hb
theorem ltP_end {a b : List Int} {k : Nat} (hE : ∀ j, j < k → a[j]? = b[j]?) (h : a.length ≤ k ∨ b.length ≤ k) (hk : k ≤ a.length ∧ k ≤ b.length) : decide ((a.length : Int) < (b.length : Int)) = ltP a b := by
  induction k generalizing a b with
  | zero =>
    rcases h with h | h
    · cases a with
      | nil => cases b <;> simp [ltP]
      | cons p a => simp at h
    · cases b with
      | nil => cases a <;> simp [ltP]; omega
      | cons p a => simp at h
  | succ k ih =>
    cases a with
    | nil => simp at hk
    | cons p a =>
      cases b with
      | nil => simp at hk
      | cons q b =>
        have h0 := hE 0 (Nat.succ_pos _)
        cases h0
        unfold ltP
        rw [if_neg (by omega), if_neg (by omega), ← ih (a := a) (b := b) (fun j hj => hE (j + 1) (by omega)) (by simp at h; omega) (by simp at hk; omega)]
        simp

theorem fc_spec_l7Ahead (a : List Int) (b : List Int)  : FC Tryz.prog 188 [(false, [.dat (.sl 3 .int) a]), (false, [.dat (.sl 3 .int) b])] [] 0 (Pure (lB (ltP a b))) := by
 refine FC.go Tryz.func188 rfl rfl Tryz.ntmps188 fun O_ hO w0_ N0_ X_ h0_ f0_ => ?_
 iterate 8 refine w_ ?_
 refine AC.loopW (fun m_ s_ => ∃  (m : Int), m_ = ((a.length : Int) - m).toNat ∧ (0 ≤ m ∧ m ≤ (a.length : Int) ∧ m ≤ (b.length : Int)) ∧ (∀ j, j < m.toNat → a[j]? = b[j]?) ∧ s_ = ⟨[(0, lf (.dat (.sl 3 .int) a)), (1, lf (.dat (.sl 3 .int) b)), (5, lI m)], []⟩) ⟨0, rfl, (by omega), (fun j hj => by omega), rfl⟩ ?_ ?_
 · exact Wk.of [] rfl ⟨rfl, rfl, rfl, trivial⟩ trivial rfl rfl
 rintro m_ s_ ⟨m, hm2, hm, hE, rfl⟩
 iterate 4 refine w_ ?_
 refine AL.fact (fact_len (x := .tmp 7) (Evl.tmp rfl)) fun hl3 => ?_
 iterate 3 refine w_ ?_
 cases hb4 : (decide (m < (a.length : Int)))
 ·have hb4' := of_decide_eq_false hb4
  iterate 7 refine w_ ?_
  refine AC.exit ?_
  refine (?_ : AC _ _ _ _ _)
  iterate 2 refine w_ ?_
  refine AL.fact (fact_len (x := .tmp 36) (Evl.tmp rfl)) fun hl5 => ?_
  iterate 2 refine w_ ?_
  refine AL.fact (fact_len (x := .tmp 38) (Evl.tmp rfl)) fun hl6 => ?_
  iterate 4 refine w_ ?_
  refine AC.ret ?_
  subst hO
  have e7 : (decide ((a.length : Int) < (b.length : Int)) : Bool) = (ltP a b) := by
   exact ltP_end hE (by omega) (by omega)
  exact fin_pure (Res.one rfl (Rs.tmp rfl)) ((congrArg (fun z_ => lB z_) e7)) rfl
 ·have hb4' := of_decide_eq_true hb4
  iterate 2 refine w_ ?_
  refine AL.fact (fact_len (x := .tmp 12) (Evl.tmp rfl)) fun hl8 => ?_
  iterate 4 refine w_ ?_
  cases hb9 : (decide (m < (b.length : Int)))
  ·have hb9' := of_decide_eq_false hb9
   refine w_ ?_
   refine AC.exit ?_
   refine (?_ : AC _ _ _ _ _)
   iterate 2 refine w_ ?_
   refine AL.fact (fact_len (x := .tmp 36) (Evl.tmp rfl)) fun hl10 => ?_
   iterate 2 refine w_ ?_
   refine AL.fact (fact_len (x := .tmp 38) (Evl.tmp rfl)) fun hl11 => ?_
   iterate 4 refine w_ ?_
   refine AC.ret ?_
   subst hO
   have e12 : (decide ((a.length : Int) < (b.length : Int)) : Bool) = (ltP a b) := by
    exact ltP_end hE (by omega) (by omega)
   exact fin_pure (Res.one rfl (Rs.tmp rfl)) ((congrArg (fun z_ => lB z_) e12)) rfl
  ·have hb9' := of_decide_eq_true hb9
   iterate 4 refine w_ ?_
   obtain ⟨x, hx14⟩ : ∃ z, a[(m).toNat]? = some z := ⟨_, List.getElem?_eq_getElem (by omega)⟩
   have xh := hx14
   obtain ⟨y, hx16⟩ : ∃ z, b[(m).toNat]? = some z := ⟨_, List.getElem?_eq_getElem (by omega)⟩
   have yh := hx16
   refine dw [io 18 (lf (.dat (.sl 3 .int) a)), io 19 (lI m), io 20 (lf (.elt .int x 0)), io 21 (lI x), io 22 (lf (.dat (.sl 3 .int) b)), io 23 (lI m), io 24 (lf (.elt .int y 0)), io 25 (lI y), io 26 (lB (!decide (x = y)))] [0, 0, 3, 7, 0, 0, 48, 112, 255] mixed rfl (by kernel_rfl) ⟨dxm rfl rfl, dxm rfl rfl, fun _ h_ => ac (Does.indexE (h_.v rfl) (h_.v rfl) und_106 tsh_3 rfl (by omega) hx14) rfl, fun _ h_ => ac (Does.loadE (h_.v rfl) tsh_3 rfl rfl) rfl, dxm rfl rfl, dxm rfl rfl, fun _ h_ => ac (Does.indexE (h_.v rfl) (h_.v rfl) und_106 tsh_3 rfl (by omega) hx16) rfl, fun _ h_ => ac (Does.loadE (h_.v rfl) tsh_3 rfl rfl) rfl, fun _ h_ => ac (Does.neq (h_.v rfl) (h_.v rfl) rfl) rfl, ⟨⟩⟩ ?_
   cases hb17 : (!decide (x = y))
   ·have hb17' : (x = y) := nd_false hb17
    refine w_ ?_
    refine AC.skip ?_
    refine (?_ : AC _ _ _ _ _)
    iterate 4 refine w_ ?_
    refine AL.nil <| lend ⟨(m + 1), rfl, (by omega), (fun j hj => by by_cases e : j = m.toNat <;> first | (subst e; rw [xh, yh]; simp_all; done) | exact hE j (by omega)), rfl⟩ (by omega) ?_
    exact Wk.of [] rfl ⟨rfl, rfl, rfl, trivial⟩ trivial rfl rfl
   ·have hb17' : ¬ (x = y) := nd_true hb17
    refine w_ ?_
    refine dw [io 27 (lf (.dat (.sl 3 .int) a)), io 28 (lI m), io 29 (lf (.elt .int x 0)), io 30 (lI x), io 31 (lf (.dat (.sl 3 .int) b)), io 32 (lI m), io 33 (lf (.elt .int y 0)), io 34 (lI y), io 35 (lB (decide (x < y))), io 4 (lB (decide (x < y)))] [0, 0, 3, 7, 0, 0, 48, 112, 255, 511] mixed rfl (by kernel_rfl) ⟨dxm rfl rfl, dxm rfl rfl, fun _ h_ => ac (Does.indexE (h_.v rfl) (h_.v rfl) und_106 tsh_3 rfl (by omega) hx14) rfl, fun _ h_ => ac (Does.loadE (h_.v rfl) tsh_3 rfl rfl) rfl, dxm rfl rfl, dxm rfl rfl, fun _ h_ => ac (Does.indexE (h_.v rfl) (h_.v rfl) und_106 tsh_3 rfl (by omega) hx16) rfl, fun _ h_ => ac (Does.loadE (h_.v rfl) tsh_3 rfl rfl) rfl, fun _ h_ => ac (Does.lss (h_.v rfl) (h_.v rfl) rfl) rfl, dxt rfl rfl, ⟨⟩⟩ <| AC.ret ?_
    subst hO
    have e18 : (decide (x < y) : Bool) = (ltP a b) := by
     exact ltP_at hE xh yh (by simp_all)
    exact fin_pure (Res.one rfl (Rs.tmp rfl)) ((congrArg (fun z_ => lB z_) e18)) rfl

theorem fc_spec_l9Put (l : List (List Int)) (a : Int) (b : Int) (hl : l.length ≤ 1000000) : FC Tryz.prog 110 [(false, [.ref 0]), (false, [dI a]), (false, [dI b])] [(0, some (.arr 106 (.sl 3 .int) l))] 0 (Own1 106 (.sl 3 .int) (putG ltP [min a b, max a b] l)) := by
 refine FC.go Tryz.func110 rfl rfl Tryz.ntmps110 fun O_ hO w0_ N0_ X_ h0_ f0_ => ?_
 refine AC.fact (fact_int (x := .tmp 1) (Evl.tmp rfl)) fun hi1 => AC.fact (fact_int (x := .tmp 2) (Evl.tmp rfl)) fun hi2 => AC.seq <| AC.poolO (q := 0) (e := .int) 1 rfl (Fresh.of rfl) (nlr rfl) fun vs gf hvf => ?_
 have hvl : vs.length = l.length := by rw [← hvf, List.length_map]
 iterate 6 refine w_ ?_
 refine lc (Does.call (fc_spec_l1Least a b) enters_165 ⟨_, _, rfl, (Ev.tmp rfl), ⟨_, _, rfl, (Ev.tmp rfl), rfl⟩⟩ rfl rfl) ?_
 iterate 2 refine w_ ?_
 refine lc (Does.call (fc_spec_l1Most a b) enters_166 ⟨_, _, rfl, (Ev.tmp rfl), ⟨_, _, rfl, (Ev.tmp rfl), rfl⟩⟩ rfl rfl) <| lc (Does.buildSlice 2 (e := .int) und_106 tsh_3 zer_3 rfl ⟨_, _, rfl, (Ev.tmp rfl), ⟨_, _, rfl, (Ev.tmp rfl), rfl⟩⟩ (List.all_eq_true.1 rfl) ⟨_, _, _, _, rfl, ⟨rfl, rfl⟩, ⟨_, _, _, _, rfl, ⟨rfl, rfl⟩, ⟨rfl, rfl⟩, rfl⟩, rfl⟩ (by decide) rfl rfl (Fresh.of rfl) (nlr rfl)) ?_
 iterate 7 refine w_ ?_
 refine AC.loopW (fun m_ s_ => ∃  (m : Int), m_ = ((vs.length : Int) - m).toNat ∧ (0 ≤ m ∧ m ≤ (vs.length : Int)) ∧ (∀ j : Nat, (j : Int) < m → ∀ y, vs[j]? = some y → ltP (gf y) [min a b, max a b] = true) ∧ s_ = ⟨[(0, lR 0), (6, lf (.val (.slice none 0 0))), (7, lR 2), (8, lI m)], [(0, some (.arr 106 .vl vs)), (1, some (.pl true (.sl 3 .int) vs gf)), (2, some (.arr 3 .int ([min a b, max a b])))]⟩) ⟨0, rfl, (by omega), (fun j hj => by omega), rfl⟩ ?_ ?_
 · exact Wk.of [(0, 0), (1, 1), (2, 2)] rfl ⟨rfl, rfl, rfl, rfl, trivial⟩ ⟨rfl, rfl, rfl, trivial⟩ rfl rfl
 rintro m_ s_ ⟨m, hm4, hm, hP, rfl⟩
 iterate 7 refine w_ ?_
 cases hb5 : (decide (m < (vs.length : Int)))
 ·have hb5' := of_decide_eq_false hb5
  iterate 9 refine w_ ?_
  refine AC.exit ?_
  refine (?_ : AC _ _ _ _ _)
  iterate 7 refine w_ ?_
  have hb6 : (decide (m < (vs.length : Int))) = false := hb5
  try rw [hb6]
  iterate 11 refine w_ ?_
  refine lc (Does.buildSlice 3 (e := .vl) und_30 tsh_106 zer_106 rfl rfl (List.all_eq_true.1 rfl) ⟨rfl, rfl⟩ (by decide) rfl rfl (Fresh.of rfl) (nlr rfl)) ?_
  iterate 2 refine w_ ?_
  refine lc (Does.sliceO (e := .vl) (a := (m).toNat) (b := vs.length - (m).toNat) (l := (some m)) (h := none) (Evl.tmp rfl) rfl (by exact (Evl.tmp rfl)) (by exact trivial) und_30 tsh_106 rfl (by first | (simp only [Option.getD_none, Option.getD_some]; omega) | omega | (simp only [Option.getD_none, Option.getD_some, List.length_append, List.length_take, List.length_replicate]; omega)) (by first | (simp only [Option.getD_none, Option.getD_some]; omega) | omega | (simp only [Option.getD_none, Option.getD_some, List.length_append, List.length_take, List.length_replicate]; omega)) (by first | (simp only [Option.getD_none, Option.getD_some]; omega) | omega | (simp only [Option.getD_none, Option.getD_some, List.length_append, List.length_take, List.length_replicate]; omega)) (by first | rfl | simp) (by first | rfl | simp)) <| lc (Does.appendF 4 (Evl.tmp rfl) rfl (Evl.repSub (e := .vl) (Evl.tmp rfl) rfl (by omega)) rfl und_30 elb_106 (by first | omega | (simp only [List.length_append, List.length_map, List.length_take, List.length_cons, List.length_nil]; omega) | (simp only [List.length_append, List.length_drop, List.length_take, List.length_cons, List.length_nil]; omega)) rfl (Fresh.of rfl) (nlr rfl)) ?_
  iterate 3 refine w_ ?_
  refine lc (Does.buildSlice 5 (e := .vl) und_30 tsh_106 zer_106 rfl rfl (List.all_eq_true.1 rfl) ⟨rfl, rfl⟩ (by decide) rfl rfl (Fresh.of rfl) (nlr rfl)) ?_
  iterate 2 refine w_ ?_
  refine lc (Does.sliceO (e := .vl) (a := 0) (b := (m).toNat) (l := none) (h := (some m)) (Evl.tmp rfl) rfl (by exact trivial) (by exact (Evl.tmp rfl)) und_30 tsh_106 rfl (by first | (simp only [Option.getD_none, Option.getD_some]; omega) | omega | (simp only [Option.getD_none, Option.getD_some, List.length_append, List.length_take, List.length_replicate]; omega)) (by first | (simp only [Option.getD_none, Option.getD_some]; omega) | omega | (simp only [Option.getD_none, Option.getD_some, List.length_append, List.length_take, List.length_replicate]; omega)) (by first | (simp only [Option.getD_none, Option.getD_some]; omega) | omega | (simp only [Option.getD_none, Option.getD_some, List.length_append, List.length_take, List.length_replicate]; omega)) (by first | rfl | simp) (by first | rfl | simp)) <| lc (Does.appendF 6 (Evl.tmp rfl) rfl (Evl.repSub (e := .vl) (Evl.tmp rfl) rfl (by omega)) rfl und_30 elb_106 (by first | omega | (simp only [List.length_append, List.length_map, List.length_take, List.length_cons, List.length_nil]; omega) | (simp only [List.length_append, List.length_drop, List.length_take, List.length_cons, List.length_nil]; omega)) rfl (Fresh.of rfl) (nlr rfl)) ?_
  refine w_ ?_
  refine lc (Does.buildSlice 7 (e := (.sl 3 .int)) und_30 tsh_106 zer_106 rfl ⟨_, _, rfl, (Ev.tmp rfl), rfl⟩ (List.all_eq_true.1 rfl) ⟨_, _, _, _, rfl, (.inl ⟨_, rfl, rfl, rfl⟩), ⟨rfl, rfl⟩, rfl⟩ (by decide) rfl rfl (Fresh.of rfl) (nlr rfl)) <| AL.poolO (q := 7) (e := .int) 9 rfl (Fresh.of rfl) (nlr rfl) fun vs2 gf2 hvf2 => ?_
  have hvl2 : vs2.length = ([[min a b, max a b]]).length := by rw [← hvf2, List.length_map]
  simp only [List.length_cons, List.length_nil] at hvl2
  refine AL.poolJ (p := 1) (p2 := 9) rfl rfl rfl fun gj hj1 hj2 => lc (Does.append 8 (Evl.tmp rfl) rfl (Evl.tmp rfl) rfl rfl und_30 elb_106 (by first | omega | (simp only [List.length_append, List.length_map, List.length_take, List.length_cons, List.length_nil]; omega) | (simp only [List.length_append, List.length_drop, List.length_take, List.length_cons, List.length_nil]; omega)) rfl (Fresh.of rfl) (nlr rfl)) ?_
  refine w_ ?_
  refine lc (Does.appendF 10 (Evl.tmp rfl) rfl (Evl.repO (Evl.tmp rfl) rfl) rfl und_30 elb_106 (by first | omega | (simp only [List.length_append, List.length_map, List.length_take, List.length_cons, List.length_nil]; omega) | (simp only [List.length_append, List.length_drop, List.length_take, List.length_cons, List.length_nil]; omega)) rfl (Fresh.of rfl) (nlr rfl)) ?_
  iterate 2 refine w_ ?_
  refine AC.wk (Wk.unpool (q := 10) (p := 1) (zs := ((([]) ++ ((vs.take (0 + ((m).toNat))).drop 0)) ++ vs2) ++ (([]) ++ ((vs.take (((m).toNat) + (vs.length - (m).toNat))).drop ((m).toNat)))) rfl rfl (by (rw [row3 (by omega) (by omega)]; exact put3_perm))) <| AC.ret ?_
  subst hO
  refine fin_own (e := (.sl 3 .int)) (xs := ((((([]) ++ ((vs.take (0 + ((m).toNat))).drop 0)) ++ vs2) ++ (([]) ++ ((vs.take (((m).toNat) + (vs.length - (m).toNat))).drop ((m).toNat)))).map gj)) (Res.one rfl (Rs.tmp rfl)) rfl ?_
  (rw [row3 (by omega) (by omega)]; exact put3_at hvf hvf2 hj1 hj2 (by omega) (by omega) hP (fun z hz => by simp_all))
 ·have hb5' := of_decide_eq_true hb5
  iterate 2 refine w_ ?_
  refine lgy rfl rfl (Does.indexI (e := .vl) (Evl.tmp rfl) rfl (Evl.tmp rfl) und_30 tsh_106 rfl (by omega) (by first | omega | (simp only [List.length_set]; omega))) ?_
  obtain ⟨y, hx8⟩ : ∃ z, vs[(m).toNat]? = some z := ⟨_, List.getElem?_eq_getElem (by omega)⟩
  have yh := hx8
  refine lgy rfl rfl (Does.loadI (e := .vl) (Evl.tmp rfl) rfl hx8 rfl tsh_106 rfl rfl) ?_
  refine w_ ?_
  refine lgy rfl rfl (Does.callB (fc_spec_l7Ahead (gf y) ([min a b, max a b])) enters_188 ⟨_, _, rfl, (Evl.plB (p := 1) (Evl.tmp rfl) rfl (List.mem_of_getElem? hx8)), ⟨_, _, rfl, (Evl.ob (Evl.tmp rfl) rfl), rfl⟩⟩ rfl rfl rfl) ?_
  iterate 2 refine w_ ?_
  cases hb9 : (ltP (gf y) ([min a b, max a b]))
  ·refine w_ ?_
   refine AC.exit ?_
   refine (?_ : AC _ _ _ _ _)
   iterate 7 refine w_ ?_
   have hb10 : (decide (m < (vs.length : Int))) = true := hb5
   try rw [hb10]
   iterate 2 refine w_ ?_
   refine lgy rfl rfl (Does.indexI (e := .vl) (Evl.tmp rfl) rfl (Evl.tmp rfl) und_30 tsh_106 rfl (by omega) (by first | omega | (simp only [List.length_set]; omega))) <| lgy rfl rfl (Does.loadI (e := .vl) (Evl.tmp rfl) rfl hx8 rfl tsh_106 rfl rfl) ?_
   refine w_ ?_
   refine lgy rfl rfl (Does.callB (fc_spec_l1Same (gf y) ([min a b, max a b])) enters_164 ⟨_, _, rfl, (Evl.plB (p := 1) (Evl.tmp rfl) rfl (List.mem_of_getElem? hx8)), ⟨_, _, rfl, (Evl.ob (Evl.tmp rfl) rfl), rfl⟩⟩ rfl rfl rfl) ?_
   iterate 2 refine w_ ?_
   cases hb11 : (decide ((gf y) = ([min a b, max a b])))
   ·have hb11' := of_decide_eq_false hb11
    iterate 3 refine w_ ?_
    refine lc (Does.buildSlice 11 (e := .vl) und_30 tsh_106 zer_106 rfl rfl (List.all_eq_true.1 rfl) ⟨rfl, rfl⟩ (by decide) rfl rfl (Fresh.of rfl) (nlr rfl)) ?_
    iterate 2 refine w_ ?_
    refine lc (Does.sliceO (e := .vl) (a := (m).toNat) (b := vs.length - (m).toNat) (l := (some m)) (h := none) (Evl.tmp rfl) rfl (by exact (Evl.tmp rfl)) (by exact trivial) und_30 tsh_106 rfl (by first | (simp only [Option.getD_none, Option.getD_some]; omega) | omega | (simp only [Option.getD_none, Option.getD_some, List.length_append, List.length_take, List.length_replicate]; omega)) (by first | (simp only [Option.getD_none, Option.getD_some]; omega) | omega | (simp only [Option.getD_none, Option.getD_some, List.length_append, List.length_take, List.length_replicate]; omega)) (by first | (simp only [Option.getD_none, Option.getD_some]; omega) | omega | (simp only [Option.getD_none, Option.getD_some, List.length_append, List.length_take, List.length_replicate]; omega)) (by first | rfl | simp) (by first | rfl | simp)) <| lc (Does.appendF 12 (Evl.tmp rfl) rfl (Evl.repSub (e := .vl) (Evl.tmp rfl) rfl (by omega)) rfl und_30 elb_106 (by first | omega | (simp only [List.length_append, List.length_map, List.length_take, List.length_cons, List.length_nil]; omega) | (simp only [List.length_append, List.length_drop, List.length_take, List.length_cons, List.length_nil]; omega)) rfl (Fresh.of rfl) (nlr rfl)) ?_
    iterate 3 refine w_ ?_
    refine lc (Does.buildSlice 13 (e := .vl) und_30 tsh_106 zer_106 rfl rfl (List.all_eq_true.1 rfl) ⟨rfl, rfl⟩ (by decide) rfl rfl (Fresh.of rfl) (nlr rfl)) ?_
    iterate 2 refine w_ ?_
    refine lc (Does.sliceO (e := .vl) (a := 0) (b := (m).toNat) (l := none) (h := (some m)) (Evl.tmp rfl) rfl (by exact trivial) (by exact (Evl.tmp rfl)) und_30 tsh_106 rfl (by first | (simp only [Option.getD_none, Option.getD_some]; omega) | omega | (simp only [Option.getD_none, Option.getD_some, List.length_append, List.length_take, List.length_replicate]; omega)) (by first | (simp only [Option.getD_none, Option.getD_some]; omega) | omega | (simp only [Option.getD_none, Option.getD_some, List.length_append, List.length_take, List.length_replicate]; omega)) (by first | (simp only [Option.getD_none, Option.getD_some]; omega) | omega | (simp only [Option.getD_none, Option.getD_some, List.length_append, List.length_take, List.length_replicate]; omega)) (by first | rfl | simp) (by first | rfl | simp)) <| lc (Does.appendF 14 (Evl.tmp rfl) rfl (Evl.repSub (e := .vl) (Evl.tmp rfl) rfl (by omega)) rfl und_30 elb_106 (by first | omega | (simp only [List.length_append, List.length_map, List.length_take, List.length_cons, List.length_nil]; omega) | (simp only [List.length_append, List.length_drop, List.length_take, List.length_cons, List.length_nil]; omega)) rfl (Fresh.of rfl) (nlr rfl)) ?_
    refine w_ ?_
    refine lc (Does.buildSlice 15 (e := (.sl 3 .int)) und_30 tsh_106 zer_106 rfl ⟨_, _, rfl, (Ev.tmp rfl), rfl⟩ (List.all_eq_true.1 rfl) ⟨_, _, _, _, rfl, (.inl ⟨_, rfl, rfl, rfl⟩), ⟨rfl, rfl⟩, rfl⟩ (by decide) rfl rfl (Fresh.of rfl) (nlr rfl)) <| AL.poolO (q := 15) (e := .int) 17 rfl (Fresh.of rfl) (nlr rfl) fun vs2 gf2 hvf2 => ?_
    have hvl2 : vs2.length = ([[min a b, max a b]]).length := by rw [← hvf2, List.length_map]
    simp only [List.length_cons, List.length_nil] at hvl2
    refine AL.poolJ (p := 1) (p2 := 17) rfl rfl rfl fun gj hj1 hj2 => lc (Does.append 16 (Evl.tmp rfl) rfl (Evl.tmp rfl) rfl rfl und_30 elb_106 (by first | omega | (simp only [List.length_append, List.length_map, List.length_take, List.length_cons, List.length_nil]; omega) | (simp only [List.length_append, List.length_drop, List.length_take, List.length_cons, List.length_nil]; omega)) rfl (Fresh.of rfl) (nlr rfl)) ?_
    refine w_ ?_
    refine lc (Does.appendF 18 (Evl.tmp rfl) rfl (Evl.repO (Evl.tmp rfl) rfl) rfl und_30 elb_106 (by first | omega | (simp only [List.length_append, List.length_map, List.length_take, List.length_cons, List.length_nil]; omega) | (simp only [List.length_append, List.length_drop, List.length_take, List.length_cons, List.length_nil]; omega)) rfl (Fresh.of rfl) (nlr rfl)) ?_
    iterate 2 refine w_ ?_
    refine AC.wk (Wk.unpool (q := 18) (p := 1) (zs := ((([]) ++ ((vs.take (0 + ((m).toNat))).drop 0)) ++ vs2) ++ (([]) ++ ((vs.take (((m).toNat) + (vs.length - (m).toNat))).drop ((m).toNat)))) rfl rfl (by (rw [row3 (by omega) (by omega)]; exact put3_perm))) <| AC.ret ?_
    subst hO
    refine fin_own (e := (.sl 3 .int)) (xs := ((((([]) ++ ((vs.take (0 + ((m).toNat))).drop 0)) ++ vs2) ++ (([]) ++ ((vs.take (((m).toNat) + (vs.length - (m).toNat))).drop ((m).toNat)))).map gj)) (Res.one rfl (Rs.tmp rfl)) rfl ?_
    (rw [row3 (by omega) (by omega)]; exact put3_at hvf hvf2 hj1 hj2 (by omega) (by omega) hP (fun z hz => by simp_all))
   ·have hb11' := of_decide_eq_true hb11
    iterate 5 refine w_ ?_
    refine AC.wk (Wk.unpool (q := 0) (p := 1) (zs := vs) rfl rfl (by exact ⟨_, List.Perm.refl _, List.Sublist.refl _⟩)) <| AC.ret ?_
    subst hO
    refine fin_own (e := (.sl 3 .int)) (xs := (vs.map gf)) (Res.one rfl (Rs.tmp rfl)) rfl ?_
    exact put3_lo hvf (by omega) hP yh (by simp_all)
  ·iterate 7 refine w_ ?_
   refine AL.nil <| lend ⟨(m + 1), rfl, (by omega), (fun j hj z hz => by by_cases e : j = m.toNat <;> first | (subst e; simp_all; done) | exact hP j (by omega) z hz), rfl⟩ (by omega) ?_
   exact Wk.of [(0, 0), (1, 1), (2, 2)] rfl ⟨rfl, rfl, rfl, rfl, trivial⟩ ⟨rfl, rfl, rfl, trivial⟩ rfl rfl

end Go.Proofs.YtnakmhfjafecpaaGreat
