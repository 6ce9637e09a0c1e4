/- laws.FnExactOriginalStates and laws.FnExactInsertSignal walked. -/
import Derived.Test.YtbelopdphlllnaaVh
import Derived.Test.YtbelopdphlllnaaWr
import Derived.Test.YtbelopdphlllnaaAs
set_option linter.unusedSimpArgs false
set_option linter.unusedVariables false
namespace Go.Proofs.Ytbelopdphlllnaa
open Go.RowKit

theorem fc_szStateGraph (x : DStateGraph) (left : Int) (h0 : 0 ≤ left) (h1 : left ≤ 1048576) : FC Try.prog 28 [(true, leaves lStateGraph x), (false, [dI left])] [] 0 (Pure (lf (dI (szv left (Ty.tot lStateGraph x))))) :=
  FC.ofSzA (fun us w hr => by
    obtain ⟨a0, a1, a2, rfl⟩ := list_len3 hr.len
    exact szStateGraph_any a0 a1 a2 x left w hr h0 h1) h0 h1

theorem fc_toStateGraph (x : DStateGraph) (hz : Ty.tot lStateGraph x ≤ 1048576) : FC Try.prog 30 [(true, leaves lStateGraph x)] [] 0 (Is (ag (oL tStateGraph x 0)) (oT tStateGraph x 0)) :=
  FC.ofOwnA fun gh w vs ha => by
    obtain ⟨us, vs, rfl, hr, ha⟩ := ha.agg_cons
    obtain rfl := ha.nil_
    obtain ⟨a0, a1, a2, rfl⟩ := list_len3 hr.len
    refine Calls.mono (toStateGraph_any a0 a1 a2 x w hr hz) fun e w' he => ?_
    obtain ⟨u0, u1, u2, rfl, h1, h2⟩ := he
    exact ⟨_, rfl, h1, h2⟩

theorem fc_eqStateGraph (x y : DStateGraph) (h : x = y) : FC Try.prog 33 [(true, leaves tStateGraph x), (true, leaves tStateGraph y)] [] 0 (Pure (lf (dB true))) :=
  FC.ofEqA h fun us vs w h1 h2 => by
    obtain ⟨a0, a1, a2, rfl⟩ := list_len3 h1.len
    obtain ⟨b0, b1, b2, rfl⟩ := list_len3 h2.len
    exact eqStateGraph_same a0 a1 a2 b0 b1 b2 x w h1 h2

theorem fc_eqIntS (x y : List Int) (h : x = y) : FC Try.prog 32 [(false, [.dat (.sl 3 .int) x]), (false, [.dat (.sl 3 .int) y])] [] 0 (Pure (lf (dB true))) :=
  FC.ofEqS h fun u v w h1 h2 => eqIntS_same u v x w h1 h2

@[reducible] def f_str : (ByteArray) → Int → (ByteArray) × Int := fun _ k => (markT (k), k + 1)
theorem f_str_c : ∀ (x : (ByteArray)) (k : Int), (f_str x k).2 = k + ((fun _ => 1 : (ByteArray) → Nat) x : Nat) := fun _ k => by show k + 1 = k + ((1 : Nat) : Int); omega
theorem sum_f_str (a : List (ByteArray)) : (a.map fun _ => 1).sum = 1 * a.length := by
  induction a with
  | nil => rfl
  | cons x xs ih => simp [ih]; omega
theorem mk_f_str_le (a : List (ByteArray)) (k : Int) (i : Nat) : k ≤ mkC f_str a k i ∧ mkC f_str a k i ≤ k + 1 * a.length := by
  have := mkC_le _ f_str_c a k i
  rw [sum_f_str] at this
  omega
theorem mk_f_str_succ {l : List (ByteArray)} {k : Int} {i : Nat} (h : i < l.length) : mkC f_str l k i + 1 = mkC f_str l k (i + 1) := by rw [mkC_succ (List.getElem?_eq_getElem h)]
theorem mk_f_str_sum (l : List (ByteArray)) (k : Int) : (marks f_str l k).2 = k + 1 * l.length := by rw [mkC_sum _ f_str_c, sum_f_str]; omega

set_option maxRecDepth 100000 in
set_option maxHeartbeats 4000000 in
theorem fc_laws_markStringS (a : List ByteArray) (k : Int) (hk : 0 ≤ k ∧ k + 1 * a.length ≤ 1000000000) : FC Try.prog 81 [(false, [.ref 0]), (false, [dI k])] [(0, some (.arr 9 .str a))] 1 (Is (lf (dI ((marks f_str a k).2))) [(0, some (.arr 9 .str ((marks f_str a k).1)))]) := by
 refine FC.O_all fun O_ hO => FC.ren (FC.of Try.func81 rfl rfl fun A_ hn_ hk_ => ?_)
 obtain ⟨w0_, N0_, X_, n_, k0_, h0_, f0_⟩ := A_
 obtain rfl : n_ = 20 := hn_.trans Try.ntmps81
 obtain rfl : k0_ = 1 := hk_
 refine AC.fact (fact_int (x := .tmp 1) (Evl.tmp rfl)) fun hi1 => ?_
 refine AC.sr ?_
 refine AL.cons rfl (Does.assignC (Evl.int rfl) rfl) ?_
 refine AL.nilS ?_
 refine AC.seq ?_
 refine AC.sr ?_
 refine AL.cons rfl (Does.assignC (Evl.int rfl) rfl) ?_
 refine AL.nilS ?_
 refine AC.block ?_
 refine AC.loopW (fun m_ s_ => ∃ (i : Nat), i ≤ a.length ∧ m_ = a.length - i ∧ s_ = ⟨[(0, lf (.ref 0)), (1, lf (dI (mkC f_str a k i))), (4, lf (dI 0)), (5, lf (dI (i : Int)))], [(0, some (.arr 9 .str (mkA f_str a k i)))]⟩) ⟨0, Nat.zero_le _, rfl, rfl⟩ ?_ ?_
 · exact Wk.of [(0, 0)] rfl ⟨rfl, (show some (lf (dI k)) = some (lf (dI (mkC f_str a k 0))) from congrArg (fun z_ => some (lf (dI z_))) (by rw [mkC_0])), rfl, rfl, trivial⟩ ⟨(entE (mkA_0 f_str a k)), trivial⟩ rfl rfl
 rintro m_ s_ ⟨i, hk3, hm4, rfl⟩
 have hml := mkA_len f_str a k i
 have hmc := mk_f_str_le a k i
 refine AC.seq ?_
 refine AC.sr ?_
 refine AL.cons rfl (Does.move rfl rfl) ?_
 refine AL.cons rfl (Does.move rfl rfl) ?_
 refine AL.cons rfl (Does.lenO (Evl.tmp rfl) rfl rfl und_67) ?_
 refine AL.cons rfl (Does.lss (Evl.tmp rfl) (Evl.tmp rfl) rfl) ?_
 refine AL.nilS ?_
 cases hb5 : (decide ((i : Int) < ((mkA f_str a k i).length : Int)))
 ·have _h := hb5
  have hb5' : ¬ ((i : Int) < ((mkA f_str a k i).length : Int)) := of_decide_eq_false hb5
  refine AC.condF (Evl.tmp rfl) ?_
  refine AC.exit ?_
  refine (?_ : AC _ _ _ _ _)
  refine AC.sr ?_
  refine AL.cons rfl (Does.move rfl rfl) ?_
  refine AL.cons rfl (Does.assign rfl rfl) ?_
  refine AL.nilS ?_
  refine AC.ret ?_
  subst hO
  have e6 : (mkC f_str a k i : Int) = ((marks f_str a k).2) := by
   (rw [mkC_end _ (by omega)]; done)
  exact fin_is _ _ [(0, 0)] (Res.one rfl (Rs.tmp rfl)) ((congrArg (fun z_ => lf (dI z_)) e6)) ⟨(entE (by (rw [mkA_end _ (by omega)]; done))), trivial⟩ rfl rfl
 ·have _h := hb5
  have hb5' : ((i : Int) < ((mkA f_str a k i).length : Int)) := of_decide_eq_true hb5
  refine AC.condT (Evl.tmp rfl) ?_
  refine AC.skipS ?_
  refine AC.seq ?_
  refine AC.block ?_
  refine AC.sr ?_
  refine AL.cons rfl (Does.move rfl rfl) ?_
  refine AL.cons rfl (Does.move rfl rfl) ?_
  refine AL.cons rfl (Does.move rfl rfl) ?_
  refine AL.cons rfl (Does.call (fc_laws_markText (mkC f_str a k i)) enters_117 ⟨_, _, rfl, (Ev.tmp rfl), rfl⟩ rfl rfl) ?_
  refine AL.cons rfl (Does.indexI (e := .str) (Evl.tmp rfl) rfl (Evl.tmp rfl) und_67 tsh_9 rfl (by omega) (by first | omega | (simp only [List.length_set]; omega))) ?_
  obtain ⟨x7, hx8⟩ : ∃ z, (mkA f_str a k i)[i]? = some z := ⟨_, List.getElem?_eq_getElem (by omega)⟩
  refine AL.cons rfl (Does.storeI (e := .str) (z' := markT (mkC f_str a k i)) (Evl.tmp rfl) rfl hx8 rfl (Ev.tmp rfl) rfl tsh_9 rfl rfl) ?_
  refine AL.nilS ?_
  refine AC.region ?_
  refine AL.cons rfl (Does.move rfl rfl) ?_
  refine AL.cons rfl (Does.add (Evl.tmp rfl) (Evl.int rfl) rfl (by omega)) ?_
  refine AL.cons rfl (Does.assign rfl rfl) ?_
  refine AL.nil ?_
  refine (?_ : AC _ _ _ _ _)
  refine AC.region ?_
  refine AL.cons rfl (Does.move rfl rfl) ?_
  refine AL.cons rfl (Does.add (Evl.tmp rfl) (Evl.int rfl) rfl (by omega)) ?_
  refine AL.cons rfl (Does.assign rfl rfl) ?_
  refine AL.nil ?_
  refine lend ⟨i + 1, by omega, rfl, rfl⟩ (by omega) ?_
  exact Wk.of [(0, 0)] rfl ⟨rfl, (show some (lf (dI ((mkC f_str a k i) + 1))) = some (lf (dI (mkC f_str a k (i + 1)))) from congrArg (fun z_ => some (lf (dI z_))) (mk_f_str_succ (by omega))), rfl, rfl, trivial⟩ ⟨(entE (mkA_set (f := f_str) (mkA_back hx8))), trivial⟩ rfl rfl

set_option maxRecDepth 100000 in
set_option maxHeartbeats 4000000 in
theorem fc_laws_heldStringS (a : List ByteArray) (k : Int) (l : List (ByteArray)) (hm : a = (marks f_str l k).1) (hk : 0 ≤ k ∧ k + 1 * a.length ≤ 1000000000) : FC Try.prog 83 [(false, [.dat (.sl 9 .str) a]), (false, [dI k])] [] 0 (Pure (lf (dI ((marks f_str l k).2)))) := by
 have hla : a.length = l.length := by rw [hm, marks_len]
 refine FC.O_all fun O_ hO => FC.ren (FC.of Try.func83 rfl rfl fun A_ hn_ hk_ => ?_)
 obtain ⟨w0_, N0_, X_, n_, k0_, h0_, f0_⟩ := A_
 obtain rfl : n_ = 22 := hn_.trans Try.ntmps83
 obtain rfl : k0_ = 0 := hk_
 refine AC.fact (fact_int (x := .tmp 1) (Evl.tmp rfl)) fun hi1 => ?_
 refine AC.sr ?_
 refine AL.cons rfl (Does.assignC (Evl.int rfl) rfl) ?_
 refine AL.nilS ?_
 refine AC.seq ?_
 refine AC.sr ?_
 refine AL.cons rfl (Does.assignC (Evl.int rfl) rfl) ?_
 refine AL.nilS ?_
 refine AC.block ?_
 refine AC.loopW (fun m_ s_ => ∃ (i : Nat), i ≤ a.length ∧ m_ = a.length - i ∧ s_ = ⟨[(0, lf (.dat (.sl 9 .str) a)), (1, lf (dI (mkC f_str l k i))), (5, lf (dI (i : Int)))], []⟩) ⟨0, Nat.zero_le _, rfl, rfl⟩ ?_ ?_
 · exact Wk.of [] rfl ⟨rfl, (show some (lf (dI k)) = some (lf (dI (mkC f_str l k 0))) from congrArg (fun z_ => some (lf (dI z_))) (by rw [mkC_0])), rfl, trivial⟩ trivial rfl rfl
 rintro m_ s_ ⟨i, hk3, hm4, rfl⟩
 have hmc := mk_f_str_le l k i
 refine AC.seq ?_
 refine AC.sr ?_
 refine AL.cons rfl (Does.move rfl rfl) ?_
 refine AL.cons rfl (Does.move rfl rfl) ?_
 refine AL.fact (fact_len (x := .tmp 7) (Evl.tmp rfl)) fun hl5 => ?_
 refine AL.cons rfl (Does.len (Evl.tmp rfl) rfl und_67) ?_
 refine AL.cons rfl (Does.lss (Evl.tmp rfl) (Evl.tmp rfl) rfl) ?_
 refine AL.nilS ?_
 cases hb6 : (decide ((i : Int) < (a.length : Int)))
 ·have _h := hb6
  have hb6' : ¬ ((i : Int) < (a.length : Int)) := of_decide_eq_false hb6
  refine AC.condF (Evl.tmp rfl) ?_
  refine AC.exit ?_
  refine (?_ : AC _ _ _ _ _)
  refine AC.sr ?_
  refine AL.cons rfl (Does.move rfl rfl) ?_
  refine AL.cons rfl (Does.assign rfl rfl) ?_
  refine AL.nilS ?_
  refine AC.ret ?_
  subst hO
  have e7 : (mkC f_str l k i : Int) = ((marks f_str l k).2) := by
   (rw [mkC_end _ (by omega)]; done)
  exact fin_pure (Res.one rfl (Rs.tmp rfl)) ((congrArg (fun z_ => lf (dI z_)) e7)) rfl
 ·have _h := hb6
  have hb6' : ((i : Int) < (a.length : Int)) := of_decide_eq_true hb6
  refine AC.condT (Evl.tmp rfl) ?_
  refine AC.skipS ?_
  refine AC.seq ?_
  refine AC.block ?_
  refine AC.seq ?_
  refine AC.seq ?_
  obtain ⟨x8, hx9⟩ : ∃ z, a[i]? = some z := ⟨_, List.getElem?_eq_getElem (by omega)⟩
  have hv0x8 : x8 = markT (mkC f_str l k i) := by obtain ⟨_, _, h⟩ := held_at hm hx9; rw [h]
  refine AC.drawL [⟨some 12, lf (.dat (.sl 9 .str) a), []⟩, ⟨some 13, lf (dI (i : Int)), []⟩, ⟨some 14, lf (.elt .str x8 0), []⟩, ⟨some 15, lf (dS x8), []⟩, ⟨some 16, lf (dI (mkC f_str l k i)), []⟩, ⟨some 17, lf (dS (markT (mkC f_str l k i))), []⟩, ⟨some 18, lf (dB (!decide (x8 = (markT (mkC f_str l k i))))), []⟩] [[], [], [0, 1], [0, 1, 2], [], [4], [0, 1, 2, 3, 4, 5]] mixed rfl (by kernel_rfl) ?_ ?_
  · refine ⟨fun s_ hs => Acts.of1 rfl (Does.move (hs.tm 0 rfl) rfl) rfl, fun s_ hs => Acts.of1 rfl (Does.move (hs.tm 5 rfl) rfl) rfl, fun s_ hs => Acts.of1 rfl (Does.indexE (Evl.tmp (hs.tm 12 rfl)) (Evl.tmp (hs.tm 13 rfl)) und_67 tsh_9 rfl (by omega) hx9) rfl, fun s_ hs => Acts.of1 rfl (Does.loadE (Evl.tmp (hs.tm 14 rfl)) tsh_9 rfl rfl) rfl, fun s_ hs => Acts.of1 rfl (Does.move (hs.tm 1 rfl) rfl) rfl, fun s_ hs => Acts.of1 rfl (Does.call (fc_laws_markText (mkC f_str l k i)) enters_117 ⟨_, _, rfl, (Ev.tmp (hs.tm 16 rfl)), rfl⟩ rfl rfl) rfl, fun s_ hs => Acts.of1 rfl (Does.neqS (Evl.tmp (hs.tm 15 rfl)) (Evl.tmp (hs.tm 17 rfl)) rfl) rfl, trivial⟩
  refine (?_ : AC _ _ _ _ _)
  refine AC.wk (s' := _) (Wk.refl _ _) ?_
  cases hb10 : (!decide (x8 = (markT (mkC f_str l k i))))
  ·have _h := hb10
   have hb10' : (x8 = (markT (mkC f_str l k i))) := nd_false hb10
   refine AC.condF (Evl.tmp rfl) ?_
   refine AC.skipS ?_
   refine AC.region ?_
   refine AL.cons rfl (Does.move rfl rfl) ?_
   refine AL.cons rfl (Does.add (Evl.tmp rfl) (Evl.int rfl) rfl (by omega)) ?_
   refine AL.cons rfl (Does.assign rfl rfl) ?_
   refine AL.nil ?_
   refine (?_ : AC _ _ _ _ _)
   refine AC.region ?_
   refine AL.cons rfl (Does.move rfl rfl) ?_
   refine AL.cons rfl (Does.add (Evl.tmp rfl) (Evl.int rfl) rfl (by omega)) ?_
   refine AL.cons rfl (Does.assign rfl rfl) ?_
   refine AL.nil ?_
   refine lend ⟨i + 1, by omega, rfl, rfl⟩ (by omega) ?_
   exact Wk.of [] rfl ⟨rfl, (show some (lf (dI ((mkC f_str l k i) + 1))) = some (lf (dI (mkC f_str l k (i + 1)))) from congrArg (fun z_ => some (lf (dI z_))) (mk_f_str_succ (by omega))), rfl, trivial⟩ trivial rfl rfl
  ·have _h := hb10
   have hb10' : ¬ (x8 = (markT (mkC f_str l k i))) := nd_true hb10
   refine AC.condT (Evl.tmp rfl) ?_
   refine AC.sr ?_
   refine AL.cons rfl (Does.assignC (Evl.int rfl) rfl) ?_
   refine AL.nilS ?_
   refine AC.ret ?_
   subst hO
   have e12 : ((-1) : Int) = ((marks f_str l k).2) := by
    (exfalso; simp_all; done)
   exact fin_pure (Res.one rfl (Rs.tmp rfl)) ((congrArg (fun z_ => lf (dI z_)) e12)) rfl

@[reducible] def f_Arc : (DArc) → Int → (DArc) × Int := fun _ k => ((k, k + 1, decide ((k + 1 + 1) % 3 = 0), k + 1 + 1 + 1), k + 1 + 1 + 1 + 1)
theorem f_Arc_c : ∀ (x : (DArc)) (k : Int), (f_Arc x k).2 = k + ((fun _ => 4 : (DArc) → Nat) x : Nat) := fun _ k => by show k + 1 + 1 + 1 + 1 = k + ((4 : Nat) : Int); omega
theorem sum_f_Arc (a : List (DArc)) : (a.map fun _ => 4).sum = 4 * a.length := by
  induction a with
  | nil => rfl
  | cons x xs ih => simp [ih]; omega
theorem mk_f_Arc_le (a : List (DArc)) (k : Int) (i : Nat) : k ≤ mkC f_Arc a k i ∧ mkC f_Arc a k i ≤ k + 4 * a.length := by
  have := mkC_le _ f_Arc_c a k i
  rw [sum_f_Arc] at this
  omega
theorem mk_f_Arc_succ {l : List (DArc)} {k : Int} {i : Nat} (h : i < l.length) : mkC f_Arc l k i + 1 + 1 + 1 + 1 = mkC f_Arc l k (i + 1) := by rw [mkC_succ (List.getElem?_eq_getElem h)]
theorem mk_f_Arc_sum (l : List (DArc)) (k : Int) : (marks f_Arc l k).2 = k + 4 * l.length := by rw [mkC_sum _ f_Arc_c, sum_f_Arc]; omega

set_option maxRecDepth 100000 in
set_option maxHeartbeats 4000000 in
theorem fc_laws_markArcS (a : List (Int × Int × Bool × Int)) (k : Int) (hk : 0 ≤ k ∧ k + 4 * a.length ≤ 1000000000) : FC Try.prog 82 [(false, [.ref 0]), (false, [dI k])] [(0, some (.arr 170 (.pr .int (.pr .int (.pr .bool .int))) a))] 1 (Is (lf (dI ((marks f_Arc a k).2))) [(0, some (.arr 170 (.pr .int (.pr .int (.pr .bool .int))) ((marks f_Arc a k).1)))]) := by
 refine FC.O_all fun O_ hO => FC.ren (FC.of Try.func82 rfl rfl fun A_ hn_ hk_ => ?_)
 obtain ⟨w0_, N0_, X_, n_, k0_, h0_, f0_⟩ := A_
 obtain rfl : n_ = 43 := hn_.trans Try.ntmps82
 obtain rfl : k0_ = 1 := hk_
 refine AC.fact (fact_int (x := .tmp 1) (Evl.tmp rfl)) fun hi1 => ?_
 refine AC.sr ?_
 refine AL.cons rfl (Does.assignC (Evl.int rfl) rfl) ?_
 refine AL.nilS ?_
 refine AC.seq ?_
 refine AC.sr ?_
 refine AL.cons rfl (Does.assignC (Evl.int rfl) rfl) ?_
 refine AL.nilS ?_
 refine AC.block ?_
 refine AC.loopW (fun m_ s_ => ∃ (i : Nat), i ≤ a.length ∧ m_ = a.length - i ∧ s_ = ⟨[(0, lf (.ref 0)), (1, lf (dI (mkC f_Arc a k i))), (4, lf (dI 0)), (5, lf (dI (i : Int)))], [(0, some (.arr 170 (.pr .int (.pr .int (.pr .bool .int))) (mkA f_Arc a k i)))]⟩) ⟨0, Nat.zero_le _, rfl, rfl⟩ ?_ ?_
 · exact Wk.of [(0, 0)] rfl ⟨rfl, (show some (lf (dI k)) = some (lf (dI (mkC f_Arc a k 0))) from congrArg (fun z_ => some (lf (dI z_))) (by rw [mkC_0])), rfl, rfl, trivial⟩ ⟨(entE (mkA_0 f_Arc a k)), trivial⟩ rfl rfl
 rintro m_ s_ ⟨i, hk3, hm4, rfl⟩
 have hml := mkA_len f_Arc a k i
 have hmc := mk_f_Arc_le a k i
 refine AC.seq ?_
 refine AC.sr ?_
 refine AL.cons rfl (Does.move rfl rfl) ?_
 refine AL.cons rfl (Does.move rfl rfl) ?_
 refine AL.cons rfl (Does.lenO (Evl.tmp rfl) rfl rfl und_75) ?_
 refine AL.cons rfl (Does.lss (Evl.tmp rfl) (Evl.tmp rfl) rfl) ?_
 refine AL.nilS ?_
 cases hb5 : (decide ((i : Int) < ((mkA f_Arc a k i).length : Int)))
 ·have _h := hb5
  have hb5' : ¬ ((i : Int) < ((mkA f_Arc a k i).length : Int)) := of_decide_eq_false hb5
  refine AC.condF (Evl.tmp rfl) ?_
  refine AC.exit ?_
  refine (?_ : AC _ _ _ _ _)
  refine AC.sr ?_
  refine AL.cons rfl (Does.move rfl rfl) ?_
  refine AL.cons rfl (Does.assign rfl rfl) ?_
  refine AL.nilS ?_
  refine AC.ret ?_
  subst hO
  have e6 : (mkC f_Arc a k i : Int) = ((marks f_Arc a k).2) := by
   (rw [mkC_end _ (by omega)]; done)
  exact fin_is _ _ [(0, 0)] (Res.one rfl (Rs.tmp rfl)) ((congrArg (fun z_ => lf (dI z_)) e6)) ⟨(entE (by (rw [mkA_end _ (by omega)]; done))), trivial⟩ rfl rfl
 ·have _h := hb5
  have hb5' : ((i : Int) < ((mkA f_Arc a k i).length : Int)) := of_decide_eq_true hb5
  refine AC.condT (Evl.tmp rfl) ?_
  refine AC.skipS ?_
  refine AC.seq ?_
  refine AC.block ?_
  refine AC.sr ?_
  refine AL.cons rfl (Does.move rfl rfl) ?_
  refine AL.cons rfl (Does.move rfl rfl) ?_
  refine AL.cons rfl (Does.move rfl rfl) ?_
  refine AL.cons rfl (Does.indexI (e := (.pr .int (.pr .int (.pr .bool .int)))) (Evl.tmp rfl) rfl (Evl.tmp rfl) und_75 tsh_170 rfl (by omega) (by first | omega | (simp only [List.length_set]; omega))) ?_
  refine AL.cons rfl (Does.fieldI (Evl.tmp rfl) fld_170_0 rfl rfl) ?_
  obtain ⟨x7, hx8⟩ : ∃ z, (mkA f_Arc a k i)[i]? = some z := ⟨_, List.getElem?_eq_getElem (by omega)⟩
  refine AL.cons rfl (Does.storeI (e := (.pr .int (.pr .int (.pr .bool .int)))) (z' := (mkC f_Arc a k i, x7.2.1, x7.2.2.1, x7.2.2.2)) (Evl.tmp rfl) rfl hx8 rfl (Ev.tmp rfl) rfl tsh_3 rfl rfl) ?_
  refine AL.nilS ?_
  refine AC.sr ?_
  refine AL.cons rfl (Does.move rfl rfl) ?_
  refine AL.cons rfl (Does.add (Evl.tmp rfl) (Evl.int rfl) rfl (by omega)) ?_
  refine AL.cons rfl (Does.assign rfl rfl) ?_
  refine AL.nilS ?_
  refine AC.sr ?_
  refine AL.cons rfl (Does.move rfl rfl) ?_
  refine AL.cons rfl (Does.move rfl rfl) ?_
  refine AL.cons rfl (Does.move rfl rfl) ?_
  refine AL.cons rfl (Does.indexI (e := (.pr .int (.pr .int (.pr .bool .int)))) (Evl.tmp rfl) rfl (Evl.tmp rfl) und_75 tsh_170 rfl (by omega) (by first | omega | (simp only [List.length_set]; omega))) ?_
  refine AL.cons rfl (Does.fieldI (Evl.tmp rfl) fld_170_1 rfl rfl) ?_
  refine AL.cons rfl (Does.storeI (e := (.pr .int (.pr .int (.pr .bool .int)))) (z' := ((mkC f_Arc a k i, x7.2.1, x7.2.2.1, x7.2.2.2).1, (mkC f_Arc a k i) + 1, (mkC f_Arc a k i, x7.2.1, x7.2.2.1, x7.2.2.2).2.2.1, (mkC f_Arc a k i, x7.2.1, x7.2.2.1, x7.2.2.2).2.2.2)) (Evl.tmp rfl) rfl (List.getElem?_set_self (by first | omega | (simp only [List.length_set]; omega))) rfl (Ev.tmp rfl) rfl tsh_3 rfl rfl) ?_
  refine AL.nilS ?_
  refine AC.sr ?_
  refine AL.cons rfl (Does.move rfl rfl) ?_
  refine AL.cons rfl (Does.add (Evl.tmp rfl) (Evl.int rfl) rfl (by omega)) ?_
  refine AL.cons rfl (Does.assign rfl rfl) ?_
  refine AL.nilS ?_
  refine AC.sr ?_
  refine AL.cons rfl (Does.move rfl rfl) ?_
  refine AL.cons rfl (Does.move rfl rfl) ?_
  refine AL.cons rfl (Does.move rfl rfl) ?_
  refine AL.cons rfl (Does.rem (Evl.tmp rfl) (Evl.int rfl) rfl (by omega) (by omega)) ?_
  refine AL.cons rfl (Does.eql (Evl.tmp rfl) (Evl.int rfl) rfl) ?_
  refine AL.cons rfl (Does.indexI (e := (.pr .int (.pr .int (.pr .bool .int)))) (Evl.tmp rfl) rfl (Evl.tmp rfl) und_75 tsh_170 rfl (by omega) (by first | omega | (simp only [List.length_set]; omega))) ?_
  refine AL.cons rfl (Does.fieldI (Evl.tmp rfl) fld_170_2 rfl rfl) ?_
  refine AL.cons rfl (Does.storeI (e := (.pr .int (.pr .int (.pr .bool .int)))) (z' := (((mkC f_Arc a k i, x7.2.1, x7.2.2.1, x7.2.2.2).1, (mkC f_Arc a k i) + 1, (mkC f_Arc a k i, x7.2.1, x7.2.2.1, x7.2.2.2).2.2.1, (mkC f_Arc a k i, x7.2.1, x7.2.2.1, x7.2.2.2).2.2.2).1, ((mkC f_Arc a k i, x7.2.1, x7.2.2.1, x7.2.2.2).1, (mkC f_Arc a k i) + 1, (mkC f_Arc a k i, x7.2.1, x7.2.2.1, x7.2.2.2).2.2.1, (mkC f_Arc a k i, x7.2.1, x7.2.2.1, x7.2.2.2).2.2.2).2.1, decide (((((mkC f_Arc a k i) + 1) + 1) % 3) = 0), ((mkC f_Arc a k i, x7.2.1, x7.2.2.1, x7.2.2.2).1, (mkC f_Arc a k i) + 1, (mkC f_Arc a k i, x7.2.1, x7.2.2.1, x7.2.2.2).2.2.1, (mkC f_Arc a k i, x7.2.1, x7.2.2.1, x7.2.2.2).2.2.2).2.2.2)) (Evl.tmp rfl) rfl (List.getElem?_set_self (by first | omega | (simp only [List.length_set]; omega))) rfl (Ev.tmp rfl) rfl tsh_4 rfl rfl) ?_
  refine AL.nilS ?_
  refine AC.sr ?_
  refine AL.cons rfl (Does.move rfl rfl) ?_
  refine AL.cons rfl (Does.add (Evl.tmp rfl) (Evl.int rfl) rfl (by omega)) ?_
  refine AL.cons rfl (Does.assign rfl rfl) ?_
  refine AL.nilS ?_
  refine AC.sr ?_
  refine AL.cons rfl (Does.move rfl rfl) ?_
  refine AL.cons rfl (Does.move rfl rfl) ?_
  refine AL.cons rfl (Does.move rfl rfl) ?_
  refine AL.cons rfl (Does.indexI (e := (.pr .int (.pr .int (.pr .bool .int)))) (Evl.tmp rfl) rfl (Evl.tmp rfl) und_75 tsh_170 rfl (by omega) (by first | omega | (simp only [List.length_set]; omega))) ?_
  refine AL.cons rfl (Does.fieldI (Evl.tmp rfl) fld_170_3 rfl rfl) ?_
  refine AL.cons rfl (Does.storeI (e := (.pr .int (.pr .int (.pr .bool .int)))) (z' := ((((mkC f_Arc a k i, x7.2.1, x7.2.2.1, x7.2.2.2).1, (mkC f_Arc a k i) + 1, (mkC f_Arc a k i, x7.2.1, x7.2.2.1, x7.2.2.2).2.2.1, (mkC f_Arc a k i, x7.2.1, x7.2.2.1, x7.2.2.2).2.2.2).1, ((mkC f_Arc a k i, x7.2.1, x7.2.2.1, x7.2.2.2).1, (mkC f_Arc a k i) + 1, (mkC f_Arc a k i, x7.2.1, x7.2.2.1, x7.2.2.2).2.2.1, (mkC f_Arc a k i, x7.2.1, x7.2.2.1, x7.2.2.2).2.2.2).2.1, decide (((((mkC f_Arc a k i) + 1) + 1) % 3) = 0), ((mkC f_Arc a k i, x7.2.1, x7.2.2.1, x7.2.2.2).1, (mkC f_Arc a k i) + 1, (mkC f_Arc a k i, x7.2.1, x7.2.2.1, x7.2.2.2).2.2.1, (mkC f_Arc a k i, x7.2.1, x7.2.2.1, x7.2.2.2).2.2.2).2.2.2).1, (((mkC f_Arc a k i, x7.2.1, x7.2.2.1, x7.2.2.2).1, (mkC f_Arc a k i) + 1, (mkC f_Arc a k i, x7.2.1, x7.2.2.1, x7.2.2.2).2.2.1, (mkC f_Arc a k i, x7.2.1, x7.2.2.1, x7.2.2.2).2.2.2).1, ((mkC f_Arc a k i, x7.2.1, x7.2.2.1, x7.2.2.2).1, (mkC f_Arc a k i) + 1, (mkC f_Arc a k i, x7.2.1, x7.2.2.1, x7.2.2.2).2.2.1, (mkC f_Arc a k i, x7.2.1, x7.2.2.1, x7.2.2.2).2.2.2).2.1, decide (((((mkC f_Arc a k i) + 1) + 1) % 3) = 0), ((mkC f_Arc a k i, x7.2.1, x7.2.2.1, x7.2.2.2).1, (mkC f_Arc a k i) + 1, (mkC f_Arc a k i, x7.2.1, x7.2.2.1, x7.2.2.2).2.2.1, (mkC f_Arc a k i, x7.2.1, x7.2.2.1, x7.2.2.2).2.2.2).2.2.2).2.1, (((mkC f_Arc a k i, x7.2.1, x7.2.2.1, x7.2.2.2).1, (mkC f_Arc a k i) + 1, (mkC f_Arc a k i, x7.2.1, x7.2.2.1, x7.2.2.2).2.2.1, (mkC f_Arc a k i, x7.2.1, x7.2.2.1, x7.2.2.2).2.2.2).1, ((mkC f_Arc a k i, x7.2.1, x7.2.2.1, x7.2.2.2).1, (mkC f_Arc a k i) + 1, (mkC f_Arc a k i, x7.2.1, x7.2.2.1, x7.2.2.2).2.2.1, (mkC f_Arc a k i, x7.2.1, x7.2.2.1, x7.2.2.2).2.2.2).2.1, decide (((((mkC f_Arc a k i) + 1) + 1) % 3) = 0), ((mkC f_Arc a k i, x7.2.1, x7.2.2.1, x7.2.2.2).1, (mkC f_Arc a k i) + 1, (mkC f_Arc a k i, x7.2.1, x7.2.2.1, x7.2.2.2).2.2.1, (mkC f_Arc a k i, x7.2.1, x7.2.2.1, x7.2.2.2).2.2.2).2.2.2).2.2.1, (((mkC f_Arc a k i) + 1) + 1) + 1)) (Evl.tmp rfl) rfl (List.getElem?_set_self (by first | omega | (simp only [List.length_set]; omega))) rfl (Ev.tmp rfl) rfl tsh_3 rfl rfl) ?_
  refine AL.nilS ?_
  refine AC.region ?_
  refine AL.cons rfl (Does.move rfl rfl) ?_
  refine AL.cons rfl (Does.add (Evl.tmp rfl) (Evl.int rfl) rfl (by omega)) ?_
  refine AL.cons rfl (Does.assign rfl rfl) ?_
  refine AL.nil ?_
  refine (?_ : AC _ _ _ _ _)
  refine AC.region ?_
  refine AL.cons rfl (Does.move rfl rfl) ?_
  refine AL.cons rfl (Does.add (Evl.tmp rfl) (Evl.int rfl) rfl (by omega)) ?_
  refine AL.cons rfl (Does.assign rfl rfl) ?_
  refine AL.nil ?_
  refine lend ⟨i + 1, by omega, rfl, rfl⟩ (by omega) ?_
  exact Wk.of [(0, 0)] rfl ⟨rfl, (show some (lf (dI (((((mkC f_Arc a k i) + 1) + 1) + 1) + 1))) = some (lf (dI (mkC f_Arc a k (i + 1)))) from congrArg (fun z_ => some (lf (dI z_))) (mk_f_Arc_succ (by omega))), rfl, rfl, trivial⟩ ⟨(entE (by rw [List.set_set, List.set_set, List.set_set]; exact mkA_set (f := f_Arc) (mkA_back hx8))), trivial⟩ rfl rfl

set_option maxRecDepth 100000 in
set_option maxHeartbeats 4000000 in
theorem fc_laws_heldArcS (a : List (Int × Int × Bool × Int)) (k : Int) (l : List (DArc)) (hm : a = (marks f_Arc l k).1) (hk : 0 ≤ k ∧ k + 4 * a.length ≤ 1000000000) : FC Try.prog 84 [(false, [.dat (.sl 170 (.pr .int (.pr .int (.pr .bool .int)))) a]), (false, [dI k])] [] 0 (Pure (lf (dI ((marks f_Arc l k).2)))) := by
 have hla : a.length = l.length := by rw [hm, marks_len]
 refine FC.O_all fun O_ hO => FC.ren (FC.of Try.func84 rfl rfl fun A_ hn_ hk_ => ?_)
 obtain ⟨w0_, N0_, X_, n_, k0_, h0_, f0_⟩ := A_
 obtain rfl : n_ = 51 := hn_.trans Try.ntmps84
 obtain rfl : k0_ = 0 := hk_
 refine AC.fact (fact_int (x := .tmp 1) (Evl.tmp rfl)) fun hi1 => ?_
 refine AC.sr ?_
 refine AL.cons rfl (Does.assignC (Evl.int rfl) rfl) ?_
 refine AL.nilS ?_
 refine AC.seq ?_
 refine AC.sr ?_
 refine AL.cons rfl (Does.assignC (Evl.int rfl) rfl) ?_
 refine AL.nilS ?_
 refine AC.block ?_
 refine AC.loopW (fun m_ s_ => ∃ (i : Nat), i ≤ a.length ∧ m_ = a.length - i ∧ s_ = ⟨[(0, lf (.dat (.sl 170 (.pr .int (.pr .int (.pr .bool .int)))) a)), (1, lf (dI (mkC f_Arc l k i))), (5, lf (dI (i : Int)))], []⟩) ⟨0, Nat.zero_le _, rfl, rfl⟩ ?_ ?_
 · exact Wk.of [] rfl ⟨rfl, (show some (lf (dI k)) = some (lf (dI (mkC f_Arc l k 0))) from congrArg (fun z_ => some (lf (dI z_))) (by rw [mkC_0])), rfl, trivial⟩ trivial rfl rfl
 rintro m_ s_ ⟨i, hk3, hm4, rfl⟩
 have hmc := mk_f_Arc_le l k i
 refine AC.seq ?_
 refine AC.sr ?_
 refine AL.cons rfl (Does.move rfl rfl) ?_
 refine AL.cons rfl (Does.move rfl rfl) ?_
 refine AL.fact (fact_len (x := .tmp 7) (Evl.tmp rfl)) fun hl5 => ?_
 refine AL.cons rfl (Does.len (Evl.tmp rfl) rfl und_75) ?_
 refine AL.cons rfl (Does.lss (Evl.tmp rfl) (Evl.tmp rfl) rfl) ?_
 refine AL.nilS ?_
 cases hb6 : (decide ((i : Int) < (a.length : Int)))
 ·have _h := hb6
  have hb6' : ¬ ((i : Int) < (a.length : Int)) := of_decide_eq_false hb6
  refine AC.condF (Evl.tmp rfl) ?_
  refine AC.exit ?_
  refine (?_ : AC _ _ _ _ _)
  refine AC.sr ?_
  refine AL.cons rfl (Does.move rfl rfl) ?_
  refine AL.cons rfl (Does.assign rfl rfl) ?_
  refine AL.nilS ?_
  refine AC.ret ?_
  subst hO
  have e7 : (mkC f_Arc l k i : Int) = ((marks f_Arc l k).2) := by
   (rw [mkC_end _ (by omega)]; done)
  exact fin_pure (Res.one rfl (Rs.tmp rfl)) ((congrArg (fun z_ => lf (dI z_)) e7)) rfl
 ·have _h := hb6
  have hb6' : ((i : Int) < (a.length : Int)) := of_decide_eq_true hb6
  refine AC.condT (Evl.tmp rfl) ?_
  refine AC.skipS ?_
  refine AC.seq ?_
  refine AC.block ?_
  refine AC.seq ?_
  refine AC.sr ?_
  refine AL.cons rfl (Does.move rfl rfl) ?_
  refine AL.cons rfl (Does.move rfl rfl) ?_
  obtain ⟨x8, hx9⟩ : ∃ z, a[i]? = some z := ⟨_, List.getElem?_eq_getElem (by omega)⟩
  have hv0x8 : x8.1 = mkC f_Arc l k i := by obtain ⟨_, _, h⟩ := held_at hm hx9; rw [h]
  have hv1x8 : x8.2.1 = mkC f_Arc l k i + 1 := by obtain ⟨_, _, h⟩ := held_at hm hx9; rw [h]
  have hv2x8 : x8.2.2.1 = decide ((mkC f_Arc l k i + 1 + 1) % 3 = 0) := by obtain ⟨_, _, h⟩ := held_at hm hx9; rw [h]
  have hv3x8 : x8.2.2.2 = mkC f_Arc l k i + 1 + 1 + 1 := by obtain ⟨_, _, h⟩ := held_at hm hx9; rw [h]
  refine AL.cons rfl (Does.indexE (Evl.tmp rfl) (Evl.tmp rfl) und_75 tsh_170 rfl (by omega) hx9) ?_
  refine AL.cons rfl (Does.fieldE (Evl.tmp rfl) fld_170_0 rfl) ?_
  refine AL.cons rfl (Does.loadE (Evl.tmp rfl) tsh_3 rfl rfl) ?_
  refine AL.fact (fact_int (x := .tmp 16) (Evl.tmp rfl)) fun hi10 => ?_
  refine AL.cons rfl (Does.move rfl rfl) ?_
  refine AL.cons rfl (Does.neq (Evl.tmp rfl) (Evl.tmp rfl) rfl) ?_
  refine AL.nilS ?_
  cases hb11 : (!decide (x8.1 = (mkC f_Arc l k i)))
  ·have _h := hb11
   have hb11' : (x8.1 = (mkC f_Arc l k i)) := nd_false hb11
   refine AC.condF (Evl.tmp rfl) ?_
   refine AC.skipS ?_
   refine AC.sr ?_
   refine AL.cons rfl (Does.move rfl rfl) ?_
   refine AL.cons rfl (Does.add (Evl.tmp rfl) (Evl.int rfl) rfl (by omega)) ?_
   refine AL.cons rfl (Does.assign rfl rfl) ?_
   refine AL.nilS ?_
   refine AC.seq ?_
   refine AC.sr ?_
   refine AL.cons rfl (Does.move rfl rfl) ?_
   refine AL.cons rfl (Does.move rfl rfl) ?_
   refine AL.cons rfl (Does.indexE (Evl.tmp rfl) (Evl.tmp rfl) und_75 tsh_170 rfl (by omega) hx9) ?_
   refine AL.cons rfl (Does.fieldE (Evl.tmp rfl) fld_170_1 rfl) ?_
   refine AL.cons rfl (Does.loadE (Evl.tmp rfl) tsh_3 rfl rfl) ?_
   refine AL.fact (fact_int (x := .tmp 25) (Evl.tmp rfl)) fun hi12 => ?_
   refine AL.cons rfl (Does.move rfl rfl) ?_
   refine AL.cons rfl (Does.neq (Evl.tmp rfl) (Evl.tmp rfl) rfl) ?_
   refine AL.nilS ?_
   cases hb13 : (!decide (x8.2.1 = ((mkC f_Arc l k i) + 1)))
   ·have _h := hb13
    have hb13' : (x8.2.1 = ((mkC f_Arc l k i) + 1)) := nd_false hb13
    refine AC.condF (Evl.tmp rfl) ?_
    refine AC.skipS ?_
    refine AC.sr ?_
    refine AL.cons rfl (Does.move rfl rfl) ?_
    refine AL.cons rfl (Does.add (Evl.tmp rfl) (Evl.int rfl) rfl (by omega)) ?_
    refine AL.cons rfl (Does.assign rfl rfl) ?_
    refine AL.nilS ?_
    refine AC.seq ?_
    refine AC.sr ?_
    refine AL.cons rfl (Does.move rfl rfl) ?_
    refine AL.cons rfl (Does.move rfl rfl) ?_
    refine AL.cons rfl (Does.indexE (Evl.tmp rfl) (Evl.tmp rfl) und_75 tsh_170 rfl (by omega) hx9) ?_
    refine AL.cons rfl (Does.fieldE (Evl.tmp rfl) fld_170_2 rfl) ?_
    refine AL.cons rfl (Does.loadE (Evl.tmp rfl) tsh_4 rfl rfl) ?_
    refine AL.cons rfl (Does.move rfl rfl) ?_
    refine AL.cons rfl (Does.rem (Evl.tmp rfl) (Evl.int rfl) rfl (by omega) (by omega)) ?_
    refine AL.cons rfl (Does.eql (Evl.tmp rfl) (Evl.int rfl) rfl) ?_
    refine AL.cons rfl (Does.neqB (Evl.tmp rfl) (Evl.tmp rfl) rfl und_4) ?_
    refine AL.nilS ?_
    cases hb14 : (x8.2.2.1 == (decide (((((mkC f_Arc l k i) + 1) + 1) % 3) = 0)))
    ·have _h := hb14
     refine AC.condT (Evl.tmp rfl) ?_
     refine AC.sr ?_
     refine AL.cons rfl (Does.assignC (Evl.int rfl) rfl) ?_
     refine AL.nilS ?_
     refine AC.ret ?_
     subst hO
     have e15 : ((-1) : Int) = ((marks f_Arc l k).2) := by
      (exfalso; simp_all; done)
     exact fin_pure (Res.one rfl (Rs.tmp rfl)) ((congrArg (fun z_ => lf (dI z_)) e15)) rfl
    ·have _h := hb14
     refine AC.condF (Evl.tmp rfl) ?_
     refine AC.skipS ?_
     refine AC.sr ?_
     refine AL.cons rfl (Does.move rfl rfl) ?_
     refine AL.cons rfl (Does.add (Evl.tmp rfl) (Evl.int rfl) rfl (by omega)) ?_
     refine AL.cons rfl (Does.assign rfl rfl) ?_
     refine AL.nilS ?_
     refine AC.seq ?_
     refine AC.sr ?_
     refine AL.cons rfl (Does.move rfl rfl) ?_
     refine AL.cons rfl (Does.move rfl rfl) ?_
     refine AL.cons rfl (Does.indexE (Evl.tmp rfl) (Evl.tmp rfl) und_75 tsh_170 rfl (by omega) hx9) ?_
     refine AL.cons rfl (Does.fieldE (Evl.tmp rfl) fld_170_3 rfl) ?_
     refine AL.cons rfl (Does.loadE (Evl.tmp rfl) tsh_3 rfl rfl) ?_
     refine AL.fact (fact_int (x := .tmp 45) (Evl.tmp rfl)) fun hi16 => ?_
     refine AL.cons rfl (Does.move rfl rfl) ?_
     refine AL.cons rfl (Does.neq (Evl.tmp rfl) (Evl.tmp rfl) rfl) ?_
     refine AL.nilS ?_
     cases hb17 : (!decide (x8.2.2.2 = ((((mkC f_Arc l k i) + 1) + 1) + 1)))
     ·have _h := hb17
      have hb17' : (x8.2.2.2 = ((((mkC f_Arc l k i) + 1) + 1) + 1)) := nd_false hb17
      refine AC.condF (Evl.tmp rfl) ?_
      refine AC.skipS ?_
      refine AC.region ?_
      refine AL.cons rfl (Does.move rfl rfl) ?_
      refine AL.cons rfl (Does.add (Evl.tmp rfl) (Evl.int rfl) rfl (by omega)) ?_
      refine AL.cons rfl (Does.assign rfl rfl) ?_
      refine AL.nil ?_
      refine (?_ : AC _ _ _ _ _)
      refine AC.region ?_
      refine AL.cons rfl (Does.move rfl rfl) ?_
      refine AL.cons rfl (Does.add (Evl.tmp rfl) (Evl.int rfl) rfl (by omega)) ?_
      refine AL.cons rfl (Does.assign rfl rfl) ?_
      refine AL.nil ?_
      refine lend ⟨i + 1, by omega, rfl, rfl⟩ (by omega) ?_
      exact Wk.of [] rfl ⟨rfl, (show some (lf (dI (((((mkC f_Arc l k i) + 1) + 1) + 1) + 1))) = some (lf (dI (mkC f_Arc l k (i + 1)))) from congrArg (fun z_ => some (lf (dI z_))) (mk_f_Arc_succ (by omega))), rfl, trivial⟩ trivial rfl rfl
     ·have _h := hb17
      have hb17' : ¬ (x8.2.2.2 = ((((mkC f_Arc l k i) + 1) + 1) + 1)) := nd_true hb17
      refine AC.condT (Evl.tmp rfl) ?_
      refine AC.sr ?_
      refine AL.cons rfl (Does.assignC (Evl.int rfl) rfl) ?_
      refine AL.nilS ?_
      refine AC.ret ?_
      subst hO
      have e19 : ((-1) : Int) = ((marks f_Arc l k).2) := by
       (exfalso; omega)
      exact fin_pure (Res.one rfl (Rs.tmp rfl)) ((congrArg (fun z_ => lf (dI z_)) e19)) rfl
   ·have _h := hb13
    have hb13' : ¬ (x8.2.1 = ((mkC f_Arc l k i) + 1)) := nd_true hb13
    refine AC.condT (Evl.tmp rfl) ?_
    refine AC.sr ?_
    refine AL.cons rfl (Does.assignC (Evl.int rfl) rfl) ?_
    refine AL.nilS ?_
    refine AC.ret ?_
    subst hO
    have e20 : ((-1) : Int) = ((marks f_Arc l k).2) := by
     (exfalso; omega)
    exact fin_pure (Res.one rfl (Rs.tmp rfl)) ((congrArg (fun z_ => lf (dI z_)) e20)) rfl
  ·have _h := hb11
   have hb11' : ¬ (x8.1 = (mkC f_Arc l k i)) := nd_true hb11
   refine AC.condT (Evl.tmp rfl) ?_
   refine AC.sr ?_
   refine AL.cons rfl (Does.assignC (Evl.int rfl) rfl) ?_
   refine AL.nilS ?_
   refine AC.ret ?_
   subst hO
   have e21 : ((-1) : Int) = ((marks f_Arc l k).2) := by
    (exfalso; omega)
   exact fin_pure (Res.one rfl (Rs.tmp rfl)) ((congrArg (fun z_ => lf (dI z_)) e21)) rfl

/-- A state graph with marks in all that it holds, and the count behind. -/
def mSG (c : DSg) (k : Int) : DSg × Int := (((marks fS c.1 k).1, (marks f_str c.2.1 (marks fS c.1 k).2).1, (marks f_Arc c.2.2 (marks f_str c.2.1 (marks fS c.1 k).2).2).1), (marks f_Arc c.2.2 (marks f_str c.2.1 (marks fS c.1 k).2).2).2)
theorem mSG_cnt (c : DSg) (k : Int) : (mSG c k).2 = k + 2 * c.1.length + c.2.1.length + 4 * c.2.2.length := by
  simp only [mSG, mk_f_Arc_sum, mk_f_str_sum, mS_sum]
  omega
theorem sg_cnt (c : DSg) : c.1.length + c.2.1.length + c.2.2.length ≤ Ty.tot tStateGraph c := by
  have : Ty.tot tStateGraph c = (c.1.length + (c.1.map (Ty.tot tSignal)).sum) + ((c.2.1.length + (c.2.1.map (Ty.tot .str)).sum) + (c.2.2.length + (c.2.2.map (Ty.tot tArc)).sum)) := rfl
  omega
theorem runP_inv {c : DSg} {s : ByteArray} (hs : SignsOk c s) : ∀ (f k : Nat) (st : Ins), InsI c st → InsI c (runP c s f k st)
  | 0, _, _, h => h
  | f + 1, k, st, h => by
    rw [runP]
    split
    · exact runP_inv hs f (k + 1) _ (expP_inv hs h).1
    · exact h
section
variable [∀ c, Decidable (SgOk c)] [∀ s, Decidable (NameOk s)]
theorem insV_small (c : DSg) (name s : ByteArray) : ((insV c name s).1.1.1.length ≤ 8 ∧ (insV c name s).1.1.2.1.length ≤ 300 ∧ (insV c name s).1.1.2.2.length ≤ 4000) ∧ (insV c name s).1.2.length ≤ 600 := by
  unfold insV
  split
  · rename_i h
    refine ⟨⟨h.2.sigs.2.2, h.2.some_.2, h.2.few⟩, ?_⟩
    have h1 : okP c s = true := by
      have := h.1
      unfold insB at this
      simp only [Bool.and_eq_true] at this
      exact this.1.1.1
    have hs := (okP_iff.1 h1).1
    have hn := hs.2.2.some_
    have := (runP_inv hs 601 0 _ (start_inv (s := s) hn.1)).few hn.2
    rw [List.length_map]; exact this
  · exact ⟨⟨Nat.zero_le _, Nat.zero_le _, Nat.zero_le _⟩, Nat.zero_le _⟩
end

set_option maxRecDepth 100000 in
set_option maxHeartbeats 4000000 in
theorem fc_laws_markStateGraph (a : (List (ByteArray × Int)) × List ByteArray × (List (Int × Int × Bool × Int))) (k : Int) (hk : 0 ≤ k ∧ k + 2 * a.1.length + a.2.1.length + 4 * a.2.2.length ≤ 1000000000) : FC Try.prog 34 [(true, [.ref 0, .ref 1, .ref 2]), (false, [dI k])] [(0, some (.arr 129 (.pr .str .int) a.1)), (1, some (.arr 9 .str a.2.1)), (2, some (.arr 170 (.pr .int (.pr .int (.pr .bool .int))) a.2.2))] 3 (Is (lf (dI ((mSG a k).2))) [(0, some (.arr 129 (.pr .str .int) ((mSG a k).1.1))), (1, some (.arr 9 .str ((mSG a k).1.2.1))), (2, some (.arr 170 (.pr .int (.pr .int (.pr .bool .int))) ((mSG a k).1.2.2)))]) := by
 have hs1 := mS_sum a.1 k
 have hs2 := mk_f_str_sum a.2.1 (marks fS a.1 k).2
 refine FC.O_all fun O_ hO => FC.ren (FC.of Try.func34 rfl rfl fun A_ hn_ hk_ => ?_)
 obtain ⟨w0_, N0_, X_, n_, k0_, h0_, f0_⟩ := A_
 obtain rfl : n_ = 18 := hn_.trans Try.ntmps34
 obtain rfl : k0_ = 3 := hk_
 refine AC.fact (fact_int (x := .tmp 1) (Evl.tmp rfl)) fun hi1 => ?_
 refine AC.sr ?_
 refine AL.cons rfl (Does.box 3 (Ev.tmp rfl) rfl rfl (Fresh.of rfl) (nlr rfl)) ?_
 refine AL.cons rfl (Does.assignC (Evl.int rfl) rfl) ?_
 refine AL.nilS ?_
 refine AC.sr ?_
 refine AL.cons rfl (Does.fieldP (Evl.tmp rfl) fld_77_0 rfl rfl) ?_
 refine AL.cons rfl (Does.loadP (Evl.tmp rfl) rfl tsh_29 rfl rfl) ?_
 refine AL.cons rfl (Does.move rfl rfl) ?_
 refine AL.cons rfl (Does.callP 4 [(0, 0)] (fc_laws_markSignalS a.1 k (by omega)) enters_64 ⟨_, _, rfl, (Ev.tmp rfl), ⟨_, _, rfl, (Ev.tmp rfl), rfl⟩⟩ ⟨rfl, trivial⟩ rfl ⟨trivial, trivial⟩ (nlr rfl)) ?_
 refine AL.cons rfl (Does.assign rfl rfl) ?_
 refine AL.nilS ?_
 refine AC.sr ?_
 refine AL.cons rfl (Does.fieldP (Evl.tmp rfl) fld_77_1 rfl rfl) ?_
 refine AL.cons rfl (Does.loadP (Evl.tmp rfl) rfl tsh_67 rfl rfl) ?_
 refine AL.cons rfl (Does.move rfl rfl) ?_
 refine AL.cons rfl (Does.callP 5 [(0, 1)] (fc_laws_markStringS a.2.1 ((marks fS a.1 k).2) (by omega)) enters_81 ⟨_, _, rfl, (Ev.tmp rfl), ⟨_, _, rfl, (Ev.tmp rfl), rfl⟩⟩ ⟨rfl, trivial⟩ rfl ⟨trivial, trivial⟩ (nlr rfl)) ?_
 refine AL.cons rfl (Does.assign rfl rfl) ?_
 refine AL.nilS ?_
 refine AC.sr ?_
 refine AL.cons rfl (Does.fieldP (Evl.tmp rfl) fld_77_2 rfl rfl) ?_
 refine AL.cons rfl (Does.loadP (Evl.tmp rfl) rfl tsh_75 rfl rfl) ?_
 refine AL.cons rfl (Does.move rfl rfl) ?_
 refine AL.cons rfl (Does.callP 6 [(0, 2)] (fc_laws_markArcS a.2.2 ((marks f_str a.2.1 ((marks fS a.1 k).2)).2) (by omega)) enters_82 ⟨_, _, rfl, (Ev.tmp rfl), ⟨_, _, rfl, (Ev.tmp rfl), rfl⟩⟩ ⟨rfl, trivial⟩ rfl ⟨trivial, trivial⟩ (nlr rfl)) ?_
 refine AL.cons rfl (Does.assign rfl rfl) ?_
 refine AL.nilS ?_
 refine AC.sr ?_
 refine AL.cons rfl (Does.move rfl rfl) ?_
 refine AL.cons rfl (Does.assign rfl rfl) ?_
 refine AL.nilS ?_
 refine AC.ret ?_
 subst hO
 have e2 : ((marks f_Arc a.2.2 ((marks f_str a.2.1 ((marks fS a.1 k).2)).2)).2 : Int) = ((mSG a k).2) := by
  rfl
 exact fin_is _ _ [(0, 0), (1, 1), (2, 2)] (Res.one rfl (Rs.tmp rfl)) ((congrArg (fun z_ => lf (dI z_)) e2)) ⟨(entE (by rfl)), (entE (by rfl)), (entE (by rfl)), trivial⟩ rfl rfl

set_option maxRecDepth 100000 in
set_option maxHeartbeats 4000000 in
theorem fc_laws_heldStateGraph (a : (List (ByteArray × Int)) × List ByteArray × (List (Int × Int × Bool × Int))) (k : Int) (l : DSg) (hm : a = (mSG l k).1) (hk : 0 ≤ k ∧ k + 2 * l.1.length + l.2.1.length + 4 * l.2.2.length ≤ 1000000000) : FC Try.prog 39 [(true, [.dat (.sl 129 (.pr .str .int)) a.1, .dat (.sl 9 .str) a.2.1, .dat (.sl 170 (.pr .int (.pr .int (.pr .bool .int)))) a.2.2]), (false, [dI k])] [] 0 (Pure (lf (dI ((mSG l k).2)))) := by
 have hs1 := mS_sum l.1 k
 have hs2 := mk_f_str_sum l.2.1 (marks fS l.1 k).2
 have hs3 := mk_f_Arc_sum l.2.2 (marks f_str l.2.1 (marks fS l.1 k).2).2
 have hm1 : a.1 = (marks fS l.1 k).1 := by rw [hm]; rfl
 have hm2 : a.2.1 = (marks f_str l.2.1 (marks fS l.1 k).2).1 := by rw [hm]; rfl
 have hm3 : a.2.2 = (marks f_Arc l.2.2 (marks f_str l.2.1 (marks fS l.1 k).2).2).1 := by rw [hm]; rfl
 have hl1 : a.1.length = l.1.length := by rw [hm1, marks_len]
 have hl2 : a.2.1.length = l.2.1.length := by rw [hm2, marks_len]
 have hl3 : a.2.2.length = l.2.2.length := by rw [hm3, marks_len]
 refine FC.O_all fun O_ hO => FC.ren (FC.of Try.func39 rfl rfl fun A_ hn_ hk_ => ?_)
 obtain ⟨w0_, N0_, X_, n_, k0_, h0_, f0_⟩ := A_
 obtain rfl : n_ = 24 := hn_.trans Try.ntmps39
 obtain rfl : k0_ = 0 := hk_
 refine AC.fact (fact_int (x := .tmp 1) (Evl.tmp rfl)) fun hi1 => ?_
 refine AC.sr ?_
 refine AL.cons rfl (Does.box 0 (Ev.tmp rfl) rfl rfl (Fresh.of rfl) (nlr rfl)) ?_
 refine AL.cons rfl (Does.assignC (Evl.int rfl) rfl) ?_
 refine AL.nilS ?_
 refine AC.sr ?_
 refine AL.cons rfl (Does.fieldP (Evl.tmp rfl) fld_77_0 rfl rfl) ?_
 refine AL.cons rfl (Does.loadP (Evl.tmp rfl) rfl tsh_29 rfl rfl) ?_
 refine AL.cons rfl (Does.move rfl rfl) ?_
 refine AL.cons rfl (Does.call (fc_laws_heldSignalS a.1 k l.1 hm1 (by omega)) enters_67 ⟨_, _, rfl, (Ev.tmp rfl), ⟨_, _, rfl, (Ev.tmp rfl), rfl⟩⟩ rfl rfl) ?_
 refine AL.cons rfl (Does.assign rfl rfl) ?_
 refine AL.nilS ?_
 refine AC.seq ?_
 refine AC.sr ?_
 refine AL.cons rfl (Does.move rfl rfl) ?_
 refine AL.cons rfl (Does.lss (Evl.tmp rfl) (Evl.int rfl) rfl) ?_
 refine AL.nilS ?_
 cases hb2 : (decide (((marks fS l.1 k).2) < 0))
 ·have _h := hb2
  have hb2' : ¬ (((marks fS l.1 k).2) < 0) := of_decide_eq_false hb2
  refine AC.condF (Evl.tmp rfl) ?_
  refine AC.skipS ?_
  refine AC.sr ?_
  refine AL.cons rfl (Does.fieldP (Evl.tmp rfl) fld_77_1 rfl rfl) ?_
  refine AL.cons rfl (Does.loadP (Evl.tmp rfl) rfl tsh_67 rfl rfl) ?_
  refine AL.cons rfl (Does.move rfl rfl) ?_
  refine AL.cons rfl (Does.call (fc_laws_heldStringS a.2.1 ((marks fS l.1 k).2) l.2.1 hm2 (by omega)) enters_83 ⟨_, _, rfl, (Ev.tmp rfl), ⟨_, _, rfl, (Ev.tmp rfl), rfl⟩⟩ rfl rfl) ?_
  refine AL.cons rfl (Does.assign rfl rfl) ?_
  refine AL.nilS ?_
  refine AC.seq ?_
  refine AC.sr ?_
  refine AL.cons rfl (Does.move rfl rfl) ?_
  refine AL.cons rfl (Does.lss (Evl.tmp rfl) (Evl.int rfl) rfl) ?_
  refine AL.nilS ?_
  cases hb3 : (decide (((marks f_str l.2.1 ((marks fS l.1 k).2)).2) < 0))
  ·have _h := hb3
   have hb3' : ¬ (((marks f_str l.2.1 ((marks fS l.1 k).2)).2) < 0) := of_decide_eq_false hb3
   refine AC.condF (Evl.tmp rfl) ?_
   refine AC.skipS ?_
   refine AC.sr ?_
   refine AL.cons rfl (Does.fieldP (Evl.tmp rfl) fld_77_2 rfl rfl) ?_
   refine AL.cons rfl (Does.loadP (Evl.tmp rfl) rfl tsh_75 rfl rfl) ?_
   refine AL.cons rfl (Does.move rfl rfl) ?_
   refine AL.cons rfl (Does.call (fc_laws_heldArcS a.2.2 ((marks f_str l.2.1 ((marks fS l.1 k).2)).2) l.2.2 hm3 (by omega)) enters_84 ⟨_, _, rfl, (Ev.tmp rfl), ⟨_, _, rfl, (Ev.tmp rfl), rfl⟩⟩ rfl rfl) ?_
   refine AL.cons rfl (Does.assign rfl rfl) ?_
   refine AL.nilS ?_
   refine AC.seq ?_
   refine AC.sr ?_
   refine AL.cons rfl (Does.move rfl rfl) ?_
   refine AL.cons rfl (Does.lss (Evl.tmp rfl) (Evl.int rfl) rfl) ?_
   refine AL.nilS ?_
   cases hb4 : (decide (((marks f_Arc l.2.2 ((marks f_str l.2.1 ((marks fS l.1 k).2)).2)).2) < 0))
   ·have _h := hb4
    have hb4' : ¬ (((marks f_Arc l.2.2 ((marks f_str l.2.1 ((marks fS l.1 k).2)).2)).2) < 0) := of_decide_eq_false hb4
    refine AC.condF (Evl.tmp rfl) ?_
    refine AC.skipS ?_
    refine AC.sr ?_
    refine AL.cons rfl (Does.move rfl rfl) ?_
    refine AL.cons rfl (Does.assign rfl rfl) ?_
    refine AL.nilS ?_
    refine AC.ret ?_
    subst hO
    have e5 : ((marks f_Arc l.2.2 ((marks f_str l.2.1 ((marks fS l.1 k).2)).2)).2 : Int) = ((mSG l k).2) := by
     rfl
    exact fin_pure (Res.one rfl (Rs.tmp rfl)) ((congrArg (fun z_ => lf (dI z_)) e5)) rfl
   ·have _h := hb4
    have hb4' : (((marks f_Arc l.2.2 ((marks f_str l.2.1 ((marks fS l.1 k).2)).2)).2) < 0) := of_decide_eq_true hb4
    refine AC.condT (Evl.tmp rfl) ?_
    refine AC.sr ?_
    refine AL.cons rfl (Does.assignC (Evl.int rfl) rfl) ?_
    refine AL.nilS ?_
    refine AC.ret ?_
    subst hO
    have e6 : ((-1) : Int) = ((mSG l k).2) := by
     (exfalso; omega)
    exact fin_pure (Res.one rfl (Rs.tmp rfl)) ((congrArg (fun z_ => lf (dI z_)) e6)) rfl
  ·have _h := hb3
   have hb3' : (((marks f_str l.2.1 ((marks fS l.1 k).2)).2) < 0) := of_decide_eq_true hb3
   refine AC.condT (Evl.tmp rfl) ?_
   refine AC.sr ?_
   refine AL.cons rfl (Does.assignC (Evl.int rfl) rfl) ?_
   refine AL.nilS ?_
   refine AC.ret ?_
   subst hO
   have e7 : ((-1) : Int) = ((mSG l k).2) := by
    (exfalso; omega)
   exact fin_pure (Res.one rfl (Rs.tmp rfl)) ((congrArg (fun z_ => lf (dI z_)) e7)) rfl
 ·have _h := hb2
  have hb2' : (((marks fS l.1 k).2) < 0) := of_decide_eq_true hb2
  refine AC.condT (Evl.tmp rfl) ?_
  refine AC.sr ?_
  refine AL.cons rfl (Does.assignC (Evl.int rfl) rfl) ?_
  refine AL.nilS ?_
  refine AC.ret ?_
  subst hO
  have e8 : ((-1) : Int) = ((mSG l k).2) := by
   (exfalso; omega)
  exact fin_pure (Res.one rfl (Rs.tmp rfl)) ((congrArg (fun z_ => lf (dI z_)) e8)) rfl

set_option maxRecDepth 100000 in
set_option maxHeartbeats 4000000 in
theorem fc_laws_FnExactOriginalStates (aC : (List (ByteArray × Int)) × List ByteArray × (List (Int × Int × Bool × Int))) (aName : ByteArray) (aSigns : ByteArray)  : FC Try.prog 6 [(true, [.dat (.sl 133 (.pr .str .int)) aC.1, .dat (.sl 9 .str) aC.2.1, .dat (.sl 172 (.pr .int (.pr .int (.pr .bool .int)))) aC.2.2]), (false, [dS aName]), (false, [dS aSigns])] [] 0 (Pure (lf (dB true))) := by
 classical
 have hs := szv_spec 1048576 (Ty.tot lStateGraph aC)
 have ht : Ty.tot tStateGraph aC = Ty.tot lStateGraph aC := rfl
 have hq := sg_cnt aC
 have hc := mSG_cnt aC 1
 have hi := insV_small aC aName aSigns
 have hci : (marks fI (insV aC aName aSigns).1.2 1).2 = 1 + ((insV aC aName aSigns).1.2.length : Int) := by rw [mkC_sum _ fI_c, sum_one]
 refine FC.O_all fun O_ hO => FC.ren (FC.of Try.func6 rfl rfl fun A_ hn_ hk_ => ?_)
 obtain ⟨w0_, N0_, X_, n_, k0_, h0_, f0_⟩ := A_
 obtain rfl : n_ = 112 := hn_.trans Try.ntmps6
 obtain rfl : k0_ = 0 := hk_
 refine AC.sr ?_
 refine AL.cons rfl (Does.box 0 (Ev.tmp rfl) rfl rfl (Fresh.of rfl) (nlr rfl)) ?_
 refine AL.cons rfl (Does.assignC Evl.bool rfl) ?_
 refine AL.nilS ?_
 refine AC.seq ?_
 refine AC.sr ?_
 refine AL.cons rfl (Does.move rfl rfl) ?_
 refine AL.fact (fact_lenS (x := .tmp 18) (Evl.tmp rfl)) fun hl1 => ?_
 refine AL.cons rfl (Does.lenS (Evl.tmp rfl) rfl und_9) ?_
 refine AL.cons rfl (Does.gtr (Evl.tmp rfl) (Evl.int rfl) rfl) ?_
 refine AL.nilS ?_
 cases hb2 : (decide (1048576 < (aName.size : Int)))
 ·have _h := hb2
  have hb2' : ¬ (1048576 < (aName.size : Int)) := of_decide_eq_false hb2
  refine AC.condF (Evl.tmp rfl) ?_
  refine AC.skipS ?_
  refine AC.seq ?_
  refine AC.sr ?_
  refine AL.cons rfl (Does.move rfl rfl) ?_
  refine AL.fact (fact_lenS (x := .tmp 21) (Evl.tmp rfl)) fun hl3 => ?_
  refine AL.cons rfl (Does.lenS (Evl.tmp rfl) rfl und_9) ?_
  refine AL.cons rfl (Does.gtr (Evl.tmp rfl) (Evl.int rfl) rfl) ?_
  refine AL.nilS ?_
  cases hb4 : (decide (1048576 < (aSigns.size : Int)))
  ·have _h := hb4
   have hb4' : ¬ (1048576 < (aSigns.size : Int)) := of_decide_eq_false hb4
   refine AC.condF (Evl.tmp rfl) ?_
   refine AC.skipS ?_
   refine AC.sr ?_
   refine AL.cons rfl (Does.assignC (Evl.int rfl) rfl) ?_
   refine AL.nilS ?_
   refine AC.sr ?_
   refine AL.cons rfl (Does.loadPA (Evl.tmp rfl) rfl tsh_70 rfl rfl) ?_
   refine AL.cons rfl (Does.move rfl rfl) ?_
   refine AL.cons rfl (Does.call (fc_szStateGraph aC 1048576 (by omega) (by omega)) enters_28 ⟨_, _, rfl, (Ev.tmp rfl), ⟨_, _, rfl, (Ev.tmp rfl), rfl⟩⟩ rfl rfl) ?_
   refine AL.cons rfl (Does.assign rfl rfl) ?_
   refine AL.nilS ?_
   refine AC.seq ?_
   refine AC.sr ?_
   refine AL.cons rfl (Does.move rfl rfl) ?_
   refine AL.cons rfl (Does.lss (Evl.tmp rfl) (Evl.int rfl) rfl) ?_
   refine AL.nilS ?_
   cases hb5 : (decide ((szv 1048576 (Ty.tot lStateGraph aC)) < 0))
   ·have _h := hb5
    have hb5' : ¬ ((szv 1048576 (Ty.tot lStateGraph aC)) < 0) := of_decide_eq_false hb5
    refine AC.condF (Evl.tmp rfl) ?_
    refine AC.skipS ?_
    refine AC.sr ?_
    refine AL.cons rfl (Does.loadPA (Evl.tmp rfl) rfl tsh_70 rfl rfl) ?_
    refine AL.cons rfl (Does.callG 1 (fc_toStateGraph aC (by omega)) enters_30 ⟨_, _, rfl, (Ev.tmp rfl), rfl⟩ rfl rfl ⟨Fresh.of rfl, Fresh.of rfl, Fresh.of rfl, trivial⟩ (nlr rfl)) ?_
    refine AL.cons rfl (Does.move rfl rfl) ?_
    refine AL.cons rfl (Does.move rfl rfl) ?_
    refine AL.cons rfl (Does.callGB 4 (fc_spec_OriginalStates aC aName aSigns (by omega)) enters_29 ⟨_, _, rfl, (Ev.ob (Ev.tmp rfl) ⟨_, _, rfl, .inr ⟨_, _, _, _, rfl, rfl, rfl⟩, ⟨_, _, rfl, .inr ⟨_, _, _, _, rfl, rfl, rfl⟩, ⟨_, _, rfl, .inr ⟨_, _, _, _, rfl, rfl, rfl⟩, rfl⟩⟩⟩), ⟨_, _, rfl, (Ev.b (Ev.tmp rfl)), ⟨_, _, rfl, (Ev.b (Ev.tmp rfl)), rfl⟩⟩⟩ rfl rfl rfl ⟨Fresh.of rfl, trivial⟩ (nlr rfl)) ?_
    refine AL.cons rfl (Does.move rfl rfl) ?_
    refine AL.cons rfl (Does.extract rfl rfl rfl) ?_
    refine AL.cons rfl (Does.extract rfl rfl rfl) ?_
    refine AL.cons rfl (Does.assign rfl rfl) ?_
    refine AL.cons rfl (Does.assign rfl rfl) ?_
    refine AL.nilS ?_
    refine AC.sr ?_
    refine AL.cons rfl (Does.loadPA (Evl.tmp rfl) rfl tsh_70 rfl rfl) ?_
    refine AL.cons rfl (Does.callG 5 (fc_toStateGraph aC (by omega)) enters_30 ⟨_, _, rfl, (Ev.tmp rfl), rfl⟩ rfl rfl ⟨Fresh.of rfl, Fresh.of rfl, Fresh.of rfl, trivial⟩ (nlr rfl)) ?_
    refine AL.cons rfl (Does.alloc 8 (.pr (.sl 129 (.pr .str .int)) (.pr (.sl 9 .str) (.sl 170 (.pr .int (.pr .int (.pr .bool .int)))))) zer_77 rfl rfl (Fresh.of rfl) (nlr rfl)) ?_
    refine AL.cons rfl (Does.storeP (Evl.tmp rfl) rfl (Ev.tmp rfl) rfl tsh_77 rfl) ?_
    refine AL.nilS ?_
    refine AC.sr ?_
    refine AL.cons rfl (Does.loadPA (Evl.tmp rfl) rfl tsh_77 rfl rfl) ?_
    refine AL.cons rfl (Does.move rfl rfl) ?_
    refine AL.cons rfl (Does.move rfl rfl) ?_
    refine AL.cons rfl (Does.callGB 9 (fc_impl_OriginalStates aC aName aSigns (by omega)) enters_31 ⟨_, _, rfl, (Ev.ob (Ev.tmp rfl) ⟨_, _, rfl, .inr ⟨_, _, _, _, rfl, rfl, rfl⟩, ⟨_, _, rfl, .inr ⟨_, _, _, _, rfl, rfl, rfl⟩, ⟨_, _, rfl, .inr ⟨_, _, _, _, rfl, rfl, rfl⟩, rfl⟩⟩⟩), ⟨_, _, rfl, (Ev.b (Ev.tmp rfl)), ⟨_, _, rfl, (Ev.b (Ev.tmp rfl)), rfl⟩⟩⟩ rfl rfl rfl ⟨Fresh.of rfl, trivial⟩ (nlr rfl)) ?_
    refine AL.cons rfl (Does.move rfl rfl) ?_
    refine AL.cons rfl (Does.extract rfl rfl rfl) ?_
    refine AL.cons rfl (Does.extract rfl rfl rfl) ?_
    refine AL.cons rfl (Does.assign rfl rfl) ?_
    refine AL.cons rfl (Does.assign rfl rfl) ?_
    refine AL.nilS ?_
    refine AC.seq ?_
    refine AC.sr ?_
    refine AL.cons rfl (Does.move rfl rfl) ?_
    refine AL.cons rfl (Does.move rfl rfl) ?_
    refine AL.cons rfl (Does.callB (fc_eqIntS ((insV aC aName aSigns).1.2) ((insV aC aName aSigns).1.2) rfl) enters_32 ⟨_, _, rfl, (Evl.ob (Evl.tmp rfl) rfl), ⟨_, _, rfl, (Evl.ob (Evl.tmp rfl) rfl), rfl⟩⟩ rfl rfl rfl) ?_
    refine AL.cons rfl (Does.not (Evl.tmp rfl) rfl) ?_
    refine AL.cons rfl (Does.move rfl rfl) ?_
    refine AL.guard_yes rfl rfl rfl (Does.move rfl rfl) ?_
    refine AL.guard_yes rfl rfl rfl (Does.move rfl rfl) ?_
    refine AL.guard_yes rfl rfl rfl (Does.neqB (Evl.tmp rfl) (Evl.tmp rfl) rfl und_4) ?_
    refine AL.cons rfl (Does.pickF (Evl.tmp rfl) (Ev.tmp rfl) rfl) ?_
    refine AL.nilS ?_
    cases hb6 : (((insV aC aName aSigns).2) == ((insV aC aName aSigns).2))
    ·have _h := hb6
     refine AC.condT (Evl.tmp rfl) ?_
     refine AC.sr ?_
     refine AL.cons rfl (Does.assignC Evl.bool rfl) ?_
     refine AL.nilS ?_
     refine AC.ret ?_
     subst hO
     have e7 : (false : Bool) = true := by
      exfalso; first | omega | (revert _h; simp; done)
     exact fin_pure (Res.one rfl (Rs.tmp rfl)) ((congrArg (fun z_ => lf (dB z_)) e7)) rfl
    ·have _h := hb6
     refine AC.condF (Evl.tmp rfl) ?_
     refine AC.skipS ?_
     refine AC.seq ?_
     refine AC.seq ?_
     refine AC.drawL [⟨some 55, ag [.ref 5, .ref 6, .ref 7], []⟩, ⟨some 56, ag [.dat (.sl 133 (.pr .str .int)) aC.1, .dat (.sl 9 .str) aC.2.1, .dat (.sl 172 (.pr .int (.pr .int (.pr .bool .int)))) aC.2.2], []⟩, ⟨some 57, ag [.ref 10, .ref 11, .ref 12], [(10, some (.arr 129 (.pr .str .int) aC.1)), (11, some (.arr 9 .str aC.2.1)), (12, some (.arr 170 (.pr .int (.pr .int (.pr .bool .int))) aC.2.2))]⟩, ⟨some 58, lf (dB true), []⟩, ⟨some 59, lf (dB false), []⟩] [[], [], [1], [0, 1, 2], [0, 1, 2, 3]] mixed rfl (by kernel_rfl) ?_ ?_
     · refine ⟨fun s_ hs => Acts.of1 rfl (Does.loadPA (Evl.tmp (hs.tm 10 rfl)) (hs.en 8 rfl) tsh_77 rfl rfl) rfl, fun s_ hs => Acts.of1 rfl (Does.loadPA (Evl.tmp (hs.tm 3 rfl)) (hs.en 0 rfl) tsh_70 rfl rfl) rfl, fun s_ hs => Acts.of1 rfl (Does.callG 10 (fc_toStateGraph aC (by omega)) enters_30 ⟨_, _, rfl, (Ev.tmp (hs.tm 56 rfl)), rfl⟩ rfl rfl ⟨(hs.fr 10 rfl), (hs.fr 11 rfl), (hs.fr 12 rfl), trivial⟩ (nlr rfl)) rfl, fun s_ hs => Acts.of1 rfl (Does.callB (fc_eqStateGraph aC aC rfl) enters_33 ⟨_, _, rfl, (Ev.ob (Ev.tmp (hs.tm 55 rfl)) ⟨_, _, rfl, .inr ⟨_, _, _, _, rfl, (hs.en 5 rfl), rfl⟩, ⟨_, _, rfl, .inr ⟨_, _, _, _, rfl, (hs.en 6 rfl), rfl⟩, ⟨_, _, rfl, .inr ⟨_, _, _, _, rfl, (hs.en 7 rfl), rfl⟩, rfl⟩⟩⟩), ⟨_, _, rfl, (Ev.ob (Ev.tmp (hs.tm 57 rfl)) ⟨_, _, rfl, .inr ⟨_, _, _, _, rfl, (hs.en 10 rfl), rfl⟩, ⟨_, _, rfl, .inr ⟨_, _, _, _, rfl, (hs.en 11 rfl), rfl⟩, ⟨_, _, rfl, .inr ⟨_, _, _, _, rfl, (hs.en 12 rfl), rfl⟩, rfl⟩⟩⟩), rfl⟩⟩ rfl rfl rfl) rfl, fun s_ hs => Acts.of1 rfl (Does.not (Evl.tmp (hs.tm 58 rfl)) rfl) rfl, trivial⟩
     refine (?_ : AC _ _ _ _ _)
     refine AC.wk (s' := _) (Wk.refl _ _) ?_
     refine AC.condF (Evl.tmp rfl) ?_
     refine AC.skipS ?_
     refine AC.sr ?_
     refine AL.cons rfl (Does.assignC (Evl.int rfl) rfl) ?_
     refine AL.nilS ?_
     refine AC.sr ?_
     refine AL.cons rfl (Does.loadPA (Evl.tmp rfl) rfl tsh_77 rfl rfl) ?_
     refine AL.cons rfl (Does.move rfl rfl) ?_
     refine AL.cons rfl (Does.callP 13 [(0, 5), (1, 6), (2, 7)] (fc_laws_markStateGraph aC 1 (by omega)) enters_34 ⟨_, _, rfl, (Ev.tmp rfl), ⟨_, _, rfl, (Ev.tmp rfl), rfl⟩⟩ ⟨rfl, rfl, rfl, trivial⟩ rfl ⟨trivial, trivial, trivial, trivial⟩ (nlr rfl)) ?_
     refine AL.cons rfl (Does.assign rfl rfl) ?_
     refine AL.nilS ?_
     refine AC.seq ?_
     refine AC.sr ?_
     refine AL.cons rfl (Does.move rfl rfl) ?_
     refine AL.cons rfl (Does.lss (Evl.tmp rfl) (Evl.int rfl) rfl) ?_
     refine AL.cons rfl (Does.move rfl rfl) ?_
     cases hb8 : (decide (((mSG aC 1).2) < 0))
     ·have _h := hb8
      have hb8' : ¬ (((mSG aC 1).2) < 0) := of_decide_eq_false hb8
      refine AL.guard_yes rfl rfl rfl (Does.move rfl rfl) ?_
      refine AL.guard_yes rfl rfl rfl (Does.move rfl rfl) ?_
      refine AL.guard_yes rfl rfl rfl (Does.callB (fc_eqIntS ((insV aC aName aSigns).1.2) ((insV aC aName aSigns).1.2) rfl) enters_32 ⟨_, _, rfl, (Evl.ob (Evl.tmp rfl) rfl), ⟨_, _, rfl, (Evl.ob (Evl.tmp rfl) rfl), rfl⟩⟩ rfl rfl rfl) ?_
      refine AL.guard_yes rfl rfl rfl (Does.not (Evl.tmp rfl) rfl) ?_
      refine AL.cons rfl (Does.pickF (Evl.tmp rfl) (Ev.tmp rfl) rfl) ?_
      refine AL.cons rfl (Does.move rfl rfl) ?_
      refine AL.guard_yes rfl rfl rfl (Does.move rfl rfl) ?_
      refine AL.guard_yes rfl rfl rfl (Does.move rfl rfl) ?_
      refine AL.guard_yes rfl rfl rfl (Does.neqB (Evl.tmp rfl) (Evl.tmp rfl) rfl und_4) ?_
      refine AL.cons rfl (Does.pickF (Evl.tmp rfl) (Ev.tmp rfl) rfl) ?_
      refine AL.nilS ?_
      have hb9 : (((insV aC aName aSigns).2) == ((insV aC aName aSigns).2)) = true := hb6
      try rw [hb9]
      refine AC.condF (Evl.tmp rfl) ?_
      refine AC.skipS ?_
      refine AC.sr ?_
      refine AL.cons rfl (Does.assignC (Evl.int rfl) rfl) ?_
      refine AL.nilS ?_
      refine AC.sr ?_
      refine AL.cons rfl (Does.move rfl rfl) ?_
      refine AL.cons rfl (Does.move rfl rfl) ?_
      refine AL.cons rfl (Does.callP 16 [(0, 9)] (fc_laws_markIntS ((insV aC aName aSigns).1.2) 1 (by omega)) enters_35 ⟨_, _, rfl, (Ev.tmp rfl), ⟨_, _, rfl, (Ev.tmp rfl), rfl⟩⟩ ⟨rfl, trivial⟩ rfl ⟨trivial, trivial⟩ (nlr rfl)) ?_
      refine AL.cons rfl (Does.assign rfl rfl) ?_
      refine AL.nilS ?_
      refine AC.sr ?_
      refine AL.cons rfl (Does.assignC (Evl.int rfl) rfl) ?_
      refine AL.nilS ?_
      refine AC.sr ?_
      refine AL.cons rfl (Does.move rfl rfl) ?_
      refine AL.cons rfl (Does.move rfl rfl) ?_
      refine AL.cons rfl (Does.callB (fc_laws_heldIntS ((marks fI ((insV aC aName aSigns).1.2) 1).1) 1 (insV aC aName aSigns).1.2 rfl (by rw [marks_len]; omega)) enters_36 ⟨_, _, rfl, (Evl.ob (Evl.tmp rfl) rfl), ⟨_, _, rfl, (Ev.b (Ev.tmp rfl)), rfl⟩⟩ rfl rfl rfl) ?_
      refine AL.cons rfl (Does.assign rfl rfl) ?_
      refine AL.nilS ?_
      refine AC.seq ?_
      refine AC.sr ?_
      refine AL.cons rfl (Does.move rfl rfl) ?_
      refine AL.cons rfl (Does.lss (Evl.tmp rfl) (Evl.int rfl) rfl) ?_
      refine AL.nilS ?_
      cases hb10 : (decide (((marks fI ((insV aC aName aSigns).1.2) 1).2) < 0))
      ·have _h := hb10
       have hb10' : ¬ (((marks fI ((insV aC aName aSigns).1.2) 1).2) < 0) := of_decide_eq_false hb10
       refine AC.condF (Evl.tmp rfl) ?_
       refine AC.skipS ?_
       refine AC.seq ?_
       refine AC.sr ?_
       refine AL.cons rfl (Does.move rfl rfl) ?_
       refine AL.cons rfl (Does.move rfl rfl) ?_
       refine AL.cons rfl (Does.neq (Evl.tmp rfl) (Evl.tmp rfl) rfl) ?_
       refine AL.nilS ?_
       cases hb11 : (!decide (((marks fI ((insV aC aName aSigns).1.2) 1).2) = ((marks fI ((insV aC aName aSigns).1.2) 1).2)))
       ·have _h := hb11
        have hb11' : (((marks fI ((insV aC aName aSigns).1.2) 1).2) = ((marks fI ((insV aC aName aSigns).1.2) 1).2)) := nd_false hb11
        refine AC.condF (Evl.tmp rfl) ?_
        refine AC.skipS ?_
        refine AC.sr ?_
        refine AL.cons rfl (Does.loadPA (Evl.tmp rfl) rfl tsh_70 rfl rfl) ?_
        refine AL.cons rfl (Does.callG 17 (fc_toStateGraph aC (by omega)) enters_30 ⟨_, _, rfl, (Ev.tmp rfl), rfl⟩ rfl rfl ⟨Fresh.of rfl, Fresh.of rfl, Fresh.of rfl, trivial⟩ (nlr rfl)) ?_
        refine AL.cons rfl (Does.move rfl rfl) ?_
        refine AL.cons rfl (Does.move rfl rfl) ?_
        refine AL.cons rfl (Does.callGB 20 (fc_impl_OriginalStates aC aName aSigns (by omega)) enters_31 ⟨_, _, rfl, (Ev.ob (Ev.tmp rfl) ⟨_, _, rfl, .inr ⟨_, _, _, _, rfl, rfl, rfl⟩, ⟨_, _, rfl, .inr ⟨_, _, _, _, rfl, rfl, rfl⟩, ⟨_, _, rfl, .inr ⟨_, _, _, _, rfl, rfl, rfl⟩, rfl⟩⟩⟩), ⟨_, _, rfl, (Ev.b (Ev.tmp rfl)), ⟨_, _, rfl, (Ev.b (Ev.tmp rfl)), rfl⟩⟩⟩ rfl rfl rfl ⟨Fresh.of rfl, trivial⟩ (nlr rfl)) ?_
        refine AL.cons rfl (Does.move rfl rfl) ?_
        refine AL.cons rfl (Does.extract rfl rfl rfl) ?_
        refine AL.cons rfl (Does.extract rfl rfl rfl) ?_
        refine AL.cons rfl (Does.assign rfl rfl) ?_
        refine AL.cons rfl (Does.assign rfl rfl) ?_
        refine AL.nilS ?_
        refine AC.seq ?_
        refine AC.sr ?_
        refine AL.cons rfl (Does.move rfl rfl) ?_
        refine AL.cons rfl (Does.move rfl rfl) ?_
        refine AL.cons rfl (Does.callB (fc_eqIntS ((insV aC aName aSigns).1.2) ((insV aC aName aSigns).1.2) rfl) enters_32 ⟨_, _, rfl, (Evl.ob (Evl.tmp rfl) rfl), ⟨_, _, rfl, (Evl.ob (Evl.tmp rfl) rfl), rfl⟩⟩ rfl rfl rfl) ?_
        refine AL.cons rfl (Does.not (Evl.tmp rfl) rfl) ?_
        refine AL.cons rfl (Does.move rfl rfl) ?_
        refine AL.guard_yes rfl rfl rfl (Does.move rfl rfl) ?_
        refine AL.guard_yes rfl rfl rfl (Does.move rfl rfl) ?_
        refine AL.guard_yes rfl rfl rfl (Does.neqB (Evl.tmp rfl) (Evl.tmp rfl) rfl und_4) ?_
        refine AL.cons rfl (Does.pickF (Evl.tmp rfl) (Ev.tmp rfl) rfl) ?_
        refine AL.nilS ?_
        have hb12 : (((insV aC aName aSigns).2) == ((insV aC aName aSigns).2)) = true := hb6
        try rw [hb12]
        refine AC.condF (Evl.tmp rfl) ?_
        refine AC.skipS ?_
        refine AC.sr ?_
        refine AL.cons rfl (Does.assignC (Evl.int rfl) rfl) ?_
        refine AL.nilS ?_
        refine AC.sr ?_
        refine AL.cons rfl (Does.move rfl rfl) ?_
        refine AL.cons rfl (Does.move rfl rfl) ?_
        refine AL.cons rfl (Does.callB (fc_laws_heldIntS ((marks fI ((insV aC aName aSigns).1.2) 1).1) 1 (insV aC aName aSigns).1.2 rfl (by rw [marks_len]; omega)) enters_36 ⟨_, _, rfl, (Evl.ob (Evl.tmp rfl) rfl), ⟨_, _, rfl, (Ev.b (Ev.tmp rfl)), rfl⟩⟩ rfl rfl rfl) ?_
        refine AL.cons rfl (Does.assign rfl rfl) ?_
        refine AL.nilS ?_
        refine AC.seq ?_
        refine AC.sr ?_
        refine AL.cons rfl (Does.move rfl rfl) ?_
        refine AL.cons rfl (Does.lss (Evl.tmp rfl) (Evl.int rfl) rfl) ?_
        refine AL.nilS ?_
        have hb13 : (decide (((marks fI ((insV aC aName aSigns).1.2) 1).2) < 0)) = false := hb10
        try rw [hb13]
        refine AC.condF (Evl.tmp rfl) ?_
        refine AC.skipS ?_
        refine AC.seq ?_
        refine AC.sr ?_
        refine AL.cons rfl (Does.move rfl rfl) ?_
        refine AL.cons rfl (Does.move rfl rfl) ?_
        refine AL.cons rfl (Does.neq (Evl.tmp rfl) (Evl.tmp rfl) rfl) ?_
        refine AL.nilS ?_
        have hb14 : (!decide (((marks fI ((insV aC aName aSigns).1.2) 1).2) = ((marks fI ((insV aC aName aSigns).1.2) 1).2))) = false := nb_to (nb_of hb11)
        try rw [hb14]
        refine AC.condF (Evl.tmp rfl) ?_
        refine AC.skipS ?_
        refine AC.sr ?_
        refine AL.cons rfl (Does.assignC Evl.bool rfl) ?_
        refine AL.nilS ?_
        refine AC.ret ?_
        subst hO
        exact fin_pure (Res.one rfl (Rs.tmp rfl)) rfl rfl
       ·have _h := hb11
        have hb11' : ¬ (((marks fI ((insV aC aName aSigns).1.2) 1).2) = ((marks fI ((insV aC aName aSigns).1.2) 1).2)) := nd_true hb11
        refine AC.condT (Evl.tmp rfl) ?_
        refine AC.sr ?_
        refine AL.cons rfl (Does.assignC Evl.bool rfl) ?_
        refine AL.nilS ?_
        refine AC.ret ?_
        subst hO
        have e15 : (false : Bool) = true := by
         exfalso; first | omega | (revert _h; simp; done)
        exact fin_pure (Res.one rfl (Rs.tmp rfl)) ((congrArg (fun z_ => lf (dB z_)) e15)) rfl
      ·have _h := hb10
       have hb10' : (((marks fI ((insV aC aName aSigns).1.2) 1).2) < 0) := of_decide_eq_true hb10
       refine AC.condT (Evl.tmp rfl) ?_
       refine AC.sr ?_
       refine AL.cons rfl (Does.assignC Evl.bool rfl) ?_
       refine AL.nilS ?_
       refine AC.ret ?_
       subst hO
       have e16 : (false : Bool) = true := by
        exfalso; first | omega | (revert _h; simp; done)
       exact fin_pure (Res.one rfl (Rs.tmp rfl)) ((congrArg (fun z_ => lf (dB z_)) e16)) rfl
     ·have _h := hb8
      have hb8' : (((mSG aC 1).2) < 0) := of_decide_eq_true hb8
      refine AL.guard_no (b := false) rfl rfl rfl ?_ rfl
      refine AL.guard_no (b := false) rfl rfl rfl ?_ rfl
      refine AL.guard_no (b := false) rfl rfl rfl ?_ rfl
      refine AL.guard_no (b := false) rfl rfl rfl ?_ rfl
      refine AL.cons rfl (Does.pickT (Evl.tmp rfl) (Evl.ev Evl.bool) rfl) ?_
      refine AL.cons rfl (Does.move rfl rfl) ?_
      refine AL.guard_no (b := false) rfl rfl rfl ?_ rfl
      refine AL.guard_no (b := false) rfl rfl rfl ?_ rfl
      refine AL.guard_no (b := false) rfl rfl rfl ?_ rfl
      refine AL.cons rfl (Does.pickT (Evl.tmp rfl) (Evl.ev Evl.bool) rfl) ?_
      refine AL.nilS ?_
      refine AC.condT (Evl.tmp rfl) ?_
      refine AC.sr ?_
      refine AL.cons rfl (Does.assignC Evl.bool rfl) ?_
      refine AL.nilS ?_
      refine AC.ret ?_
      subst hO
      have e17 : (false : Bool) = true := by
       exfalso; first | omega | (revert _h; simp; done)
      exact fin_pure (Res.one rfl (Rs.tmp rfl)) ((congrArg (fun z_ => lf (dB z_)) e17)) rfl
   ·have _h := hb5
    have hb5' : ((szv 1048576 (Ty.tot lStateGraph aC)) < 0) := of_decide_eq_true hb5
    refine AC.condT (Evl.tmp rfl) ?_
    refine AC.sr ?_
    refine AL.cons rfl (Does.assignC Evl.bool rfl) ?_
    refine AL.nilS ?_
    refine AC.ret ?_
    subst hO
    exact fin_pure (Res.one rfl (Rs.tmp rfl)) rfl rfl
  ·have _h := hb4
   have hb4' : (1048576 < (aSigns.size : Int)) := of_decide_eq_true hb4
   refine AC.condT (Evl.tmp rfl) ?_
   refine AC.sr ?_
   refine AL.cons rfl (Does.assignC Evl.bool rfl) ?_
   refine AL.nilS ?_
   refine AC.ret ?_
   subst hO
   exact fin_pure (Res.one rfl (Rs.tmp rfl)) rfl rfl
 ·have _h := hb2
  have hb2' : (1048576 < (aName.size : Int)) := of_decide_eq_true hb2
  refine AC.condT (Evl.tmp rfl) ?_
  refine AC.sr ?_
  refine AL.cons rfl (Does.assignC Evl.bool rfl) ?_
  refine AL.nilS ?_
  refine AC.ret ?_
  subst hO
  exact fin_pure (Res.one rfl (Rs.tmp rfl)) rfl rfl

set_option maxRecDepth 100000 in
set_option maxHeartbeats 4000000 in
theorem fc_laws_FnExactInsertSignal (aC : (List (ByteArray × Int)) × List ByteArray × (List (Int × Int × Bool × Int))) (aName : ByteArray) (aSigns : ByteArray)  : FC Try.prog 7 [(true, [.dat (.sl 133 (.pr .str .int)) aC.1, .dat (.sl 9 .str) aC.2.1, .dat (.sl 172 (.pr .int (.pr .int (.pr .bool .int)))) aC.2.2]), (false, [dS aName]), (false, [dS aSigns])] [] 0 (Pure (lf (dB true))) := by
 classical
 have hs := szv_spec 1048576 (Ty.tot lStateGraph aC)
 have ht : Ty.tot tStateGraph aC = Ty.tot lStateGraph aC := rfl
 have hq := sg_cnt aC
 have hc := mSG_cnt aC 1
 have hi := insV_small aC aName aSigns
 have hc2 := mSG_cnt (insV aC aName aSigns).1.1 1
 refine FC.O_all fun O_ hO => FC.ren (FC.of Try.func7 rfl rfl fun A_ hn_ hk_ => ?_)
 obtain ⟨w0_, N0_, X_, n_, k0_, h0_, f0_⟩ := A_
 obtain rfl : n_ = 112 := hn_.trans Try.ntmps7
 obtain rfl : k0_ = 0 := hk_
 refine AC.sr ?_
 refine AL.cons rfl (Does.box 0 (Ev.tmp rfl) rfl rfl (Fresh.of rfl) (nlr rfl)) ?_
 refine AL.cons rfl (Does.assignC Evl.bool rfl) ?_
 refine AL.nilS ?_
 refine AC.seq ?_
 refine AC.sr ?_
 refine AL.cons rfl (Does.move rfl rfl) ?_
 refine AL.fact (fact_lenS (x := .tmp 18) (Evl.tmp rfl)) fun hl1 => ?_
 refine AL.cons rfl (Does.lenS (Evl.tmp rfl) rfl und_9) ?_
 refine AL.cons rfl (Does.gtr (Evl.tmp rfl) (Evl.int rfl) rfl) ?_
 refine AL.nilS ?_
 cases hb2 : (decide (1048576 < (aName.size : Int)))
 ·have _h := hb2
  have hb2' : ¬ (1048576 < (aName.size : Int)) := of_decide_eq_false hb2
  refine AC.condF (Evl.tmp rfl) ?_
  refine AC.skipS ?_
  refine AC.seq ?_
  refine AC.sr ?_
  refine AL.cons rfl (Does.move rfl rfl) ?_
  refine AL.fact (fact_lenS (x := .tmp 21) (Evl.tmp rfl)) fun hl3 => ?_
  refine AL.cons rfl (Does.lenS (Evl.tmp rfl) rfl und_9) ?_
  refine AL.cons rfl (Does.gtr (Evl.tmp rfl) (Evl.int rfl) rfl) ?_
  refine AL.nilS ?_
  cases hb4 : (decide (1048576 < (aSigns.size : Int)))
  ·have _h := hb4
   have hb4' : ¬ (1048576 < (aSigns.size : Int)) := of_decide_eq_false hb4
   refine AC.condF (Evl.tmp rfl) ?_
   refine AC.skipS ?_
   refine AC.sr ?_
   refine AL.cons rfl (Does.assignC (Evl.int rfl) rfl) ?_
   refine AL.nilS ?_
   refine AC.sr ?_
   refine AL.cons rfl (Does.loadPA (Evl.tmp rfl) rfl tsh_70 rfl rfl) ?_
   refine AL.cons rfl (Does.move rfl rfl) ?_
   refine AL.cons rfl (Does.call (fc_szStateGraph aC 1048576 (by omega) (by omega)) enters_28 ⟨_, _, rfl, (Ev.tmp rfl), ⟨_, _, rfl, (Ev.tmp rfl), rfl⟩⟩ rfl rfl) ?_
   refine AL.cons rfl (Does.assign rfl rfl) ?_
   refine AL.nilS ?_
   refine AC.seq ?_
   refine AC.sr ?_
   refine AL.cons rfl (Does.move rfl rfl) ?_
   refine AL.cons rfl (Does.lss (Evl.tmp rfl) (Evl.int rfl) rfl) ?_
   refine AL.nilS ?_
   cases hb5 : (decide ((szv 1048576 (Ty.tot lStateGraph aC)) < 0))
   ·have _h := hb5
    have hb5' : ¬ ((szv 1048576 (Ty.tot lStateGraph aC)) < 0) := of_decide_eq_false hb5
    refine AC.condF (Evl.tmp rfl) ?_
    refine AC.skipS ?_
    refine AC.sr ?_
    refine AL.cons rfl (Does.loadPA (Evl.tmp rfl) rfl tsh_70 rfl rfl) ?_
    refine AL.cons rfl (Does.callG 1 (fc_toStateGraph aC (by omega)) enters_30 ⟨_, _, rfl, (Ev.tmp rfl), rfl⟩ rfl rfl ⟨Fresh.of rfl, Fresh.of rfl, Fresh.of rfl, trivial⟩ (nlr rfl)) ?_
    refine AL.cons rfl (Does.move rfl rfl) ?_
    refine AL.cons rfl (Does.move rfl rfl) ?_
    refine AL.cons rfl (Does.callGB 4 (fc_spec_InsertSignal aC aName aSigns (by omega)) enters_37 ⟨_, _, rfl, (Ev.ob (Ev.tmp rfl) ⟨_, _, rfl, .inr ⟨_, _, _, _, rfl, rfl, rfl⟩, ⟨_, _, rfl, .inr ⟨_, _, _, _, rfl, rfl, rfl⟩, ⟨_, _, rfl, .inr ⟨_, _, _, _, rfl, rfl, rfl⟩, rfl⟩⟩⟩), ⟨_, _, rfl, (Ev.b (Ev.tmp rfl)), ⟨_, _, rfl, (Ev.b (Ev.tmp rfl)), rfl⟩⟩⟩ rfl rfl rfl ⟨Fresh.of rfl, Fresh.of rfl, Fresh.of rfl, trivial⟩ (nlr rfl)) ?_
    refine AL.cons rfl (Does.move rfl rfl) ?_
    refine AL.cons rfl (Does.extract rfl rfl rfl) ?_
    refine AL.cons rfl (Does.extract rfl rfl rfl) ?_
    refine AL.cons rfl (Does.alloc 7 (.pr (.sl 129 (.pr .str .int)) (.pr (.sl 9 .str) (.sl 170 (.pr .int (.pr .int (.pr .bool .int)))))) zer_77 rfl rfl (Fresh.of rfl) (nlr rfl)) ?_
    refine AL.cons rfl (Does.storeP (Evl.tmp rfl) rfl (Ev.tmp rfl) rfl tsh_77 rfl) ?_
    refine AL.cons rfl (Does.assign rfl rfl) ?_
    refine AL.nilS ?_
    refine AC.sr ?_
    refine AL.cons rfl (Does.loadPA (Evl.tmp rfl) rfl tsh_70 rfl rfl) ?_
    refine AL.cons rfl (Does.callG 8 (fc_toStateGraph aC (by omega)) enters_30 ⟨_, _, rfl, (Ev.tmp rfl), rfl⟩ rfl rfl ⟨Fresh.of rfl, Fresh.of rfl, Fresh.of rfl, trivial⟩ (nlr rfl)) ?_
    refine AL.cons rfl (Does.alloc 11 (.pr (.sl 129 (.pr .str .int)) (.pr (.sl 9 .str) (.sl 170 (.pr .int (.pr .int (.pr .bool .int)))))) zer_77 rfl rfl (Fresh.of rfl) (nlr rfl)) ?_
    refine AL.cons rfl (Does.storeP (Evl.tmp rfl) rfl (Ev.tmp rfl) rfl tsh_77 rfl) ?_
    refine AL.nilS ?_
    refine AC.sr ?_
    refine AL.cons rfl (Does.loadPA (Evl.tmp rfl) rfl tsh_77 rfl rfl) ?_
    refine AL.cons rfl (Does.move rfl rfl) ?_
    refine AL.cons rfl (Does.move rfl rfl) ?_
    refine AL.cons rfl (Does.callGB 12 (fc_impl_InsertSignal aC aName aSigns (by omega)) enters_38 ⟨_, _, rfl, (Ev.ob (Ev.tmp rfl) ⟨_, _, rfl, .inr ⟨_, _, _, _, rfl, rfl, rfl⟩, ⟨_, _, rfl, .inr ⟨_, _, _, _, rfl, rfl, rfl⟩, ⟨_, _, rfl, .inr ⟨_, _, _, _, rfl, rfl, rfl⟩, rfl⟩⟩⟩), ⟨_, _, rfl, (Ev.b (Ev.tmp rfl)), ⟨_, _, rfl, (Ev.b (Ev.tmp rfl)), rfl⟩⟩⟩ rfl rfl rfl ⟨Fresh.of rfl, Fresh.of rfl, Fresh.of rfl, trivial⟩ (nlr rfl)) ?_
    refine AL.cons rfl (Does.move rfl rfl) ?_
    refine AL.cons rfl (Does.extract rfl rfl rfl) ?_
    refine AL.cons rfl (Does.extract rfl rfl rfl) ?_
    refine AL.cons rfl (Does.alloc 15 (.pr (.sl 129 (.pr .str .int)) (.pr (.sl 9 .str) (.sl 170 (.pr .int (.pr .int (.pr .bool .int)))))) zer_77 rfl rfl (Fresh.of rfl) (nlr rfl)) ?_
    refine AL.cons rfl (Does.storeP (Evl.tmp rfl) rfl (Ev.tmp rfl) rfl tsh_77 rfl) ?_
    refine AL.cons rfl (Does.assign rfl rfl) ?_
    refine AL.nilS ?_
    refine AC.seq ?_
    refine AC.sr ?_
    refine AL.cons rfl (Does.loadPA (Evl.tmp rfl) rfl tsh_77 rfl rfl) ?_
    refine AL.cons rfl (Does.loadPA (Evl.tmp rfl) rfl tsh_77 rfl rfl) ?_
    refine AL.cons rfl (Does.callB (fc_eqStateGraph ((insV aC aName aSigns).1.1) ((insV aC aName aSigns).1.1) rfl) enters_33 ⟨_, _, rfl, (Ev.ob (Ev.tmp rfl) ⟨_, _, rfl, .inr ⟨_, _, _, _, rfl, rfl, rfl⟩, ⟨_, _, rfl, .inr ⟨_, _, _, _, rfl, rfl, rfl⟩, ⟨_, _, rfl, .inr ⟨_, _, _, _, rfl, rfl, rfl⟩, rfl⟩⟩⟩), ⟨_, _, rfl, (Ev.ob (Ev.tmp rfl) ⟨_, _, rfl, .inr ⟨_, _, _, _, rfl, rfl, rfl⟩, ⟨_, _, rfl, .inr ⟨_, _, _, _, rfl, rfl, rfl⟩, ⟨_, _, rfl, .inr ⟨_, _, _, _, rfl, rfl, rfl⟩, rfl⟩⟩⟩), rfl⟩⟩ rfl rfl rfl) ?_
    refine AL.cons rfl (Does.not (Evl.tmp rfl) rfl) ?_
    refine AL.cons rfl (Does.move rfl rfl) ?_
    refine AL.guard_yes rfl rfl rfl (Does.move rfl rfl) ?_
    refine AL.guard_yes rfl rfl rfl (Does.move rfl rfl) ?_
    refine AL.guard_yes rfl rfl rfl (Does.neqB (Evl.tmp rfl) (Evl.tmp rfl) rfl und_4) ?_
    refine AL.cons rfl (Does.pickF (Evl.tmp rfl) (Ev.tmp rfl) rfl) ?_
    refine AL.nilS ?_
    cases hb6 : (((insV aC aName aSigns).2) == ((insV aC aName aSigns).2))
    ·have _h := hb6
     refine AC.condT (Evl.tmp rfl) ?_
     refine AC.sr ?_
     refine AL.cons rfl (Does.assignC Evl.bool rfl) ?_
     refine AL.nilS ?_
     refine AC.ret ?_
     subst hO
     have e7 : (false : Bool) = true := by
      exfalso; first | omega | (revert _h; simp; done)
     exact fin_pure (Res.one rfl (Rs.tmp rfl)) ((congrArg (fun z_ => lf (dB z_)) e7)) rfl
    ·have _h := hb6
     refine AC.condF (Evl.tmp rfl) ?_
     refine AC.skipS ?_
     refine AC.seq ?_
     refine AC.seq ?_
     refine AC.drawL [⟨some 55, ag [.ref 8, .ref 9, .ref 10], []⟩, ⟨some 56, ag [.dat (.sl 133 (.pr .str .int)) aC.1, .dat (.sl 9 .str) aC.2.1, .dat (.sl 172 (.pr .int (.pr .int (.pr .bool .int)))) aC.2.2], []⟩, ⟨some 57, ag [.ref 16, .ref 17, .ref 18], [(16, some (.arr 129 (.pr .str .int) aC.1)), (17, some (.arr 9 .str aC.2.1)), (18, some (.arr 170 (.pr .int (.pr .int (.pr .bool .int))) aC.2.2))]⟩, ⟨some 58, lf (dB true), []⟩, ⟨some 59, lf (dB false), []⟩] [[], [], [1], [0, 1, 2], [0, 1, 2, 3]] mixed rfl (by kernel_rfl) ?_ ?_
     · refine ⟨fun s_ hs => Acts.of1 rfl (Does.loadPA (Evl.tmp (hs.tm 10 rfl)) (hs.en 11 rfl) tsh_77 rfl rfl) rfl, fun s_ hs => Acts.of1 rfl (Does.loadPA (Evl.tmp (hs.tm 3 rfl)) (hs.en 0 rfl) tsh_70 rfl rfl) rfl, fun s_ hs => Acts.of1 rfl (Does.callG 16 (fc_toStateGraph aC (by omega)) enters_30 ⟨_, _, rfl, (Ev.tmp (hs.tm 56 rfl)), rfl⟩ rfl rfl ⟨(hs.fr 16 rfl), (hs.fr 17 rfl), (hs.fr 18 rfl), trivial⟩ (nlr rfl)) rfl, fun s_ hs => Acts.of1 rfl (Does.callB (fc_eqStateGraph aC aC rfl) enters_33 ⟨_, _, rfl, (Ev.ob (Ev.tmp (hs.tm 55 rfl)) ⟨_, _, rfl, .inr ⟨_, _, _, _, rfl, (hs.en 8 rfl), rfl⟩, ⟨_, _, rfl, .inr ⟨_, _, _, _, rfl, (hs.en 9 rfl), rfl⟩, ⟨_, _, rfl, .inr ⟨_, _, _, _, rfl, (hs.en 10 rfl), rfl⟩, rfl⟩⟩⟩), ⟨_, _, rfl, (Ev.ob (Ev.tmp (hs.tm 57 rfl)) ⟨_, _, rfl, .inr ⟨_, _, _, _, rfl, (hs.en 16 rfl), rfl⟩, ⟨_, _, rfl, .inr ⟨_, _, _, _, rfl, (hs.en 17 rfl), rfl⟩, ⟨_, _, rfl, .inr ⟨_, _, _, _, rfl, (hs.en 18 rfl), rfl⟩, rfl⟩⟩⟩), rfl⟩⟩ rfl rfl rfl) rfl, fun s_ hs => Acts.of1 rfl (Does.not (Evl.tmp (hs.tm 58 rfl)) rfl) rfl, trivial⟩
     refine (?_ : AC _ _ _ _ _)
     refine AC.wk (s' := _) (Wk.refl _ _) ?_
     refine AC.condF (Evl.tmp rfl) ?_
     refine AC.skipS ?_
     refine AC.sr ?_
     refine AL.cons rfl (Does.assignC (Evl.int rfl) rfl) ?_
     refine AL.nilS ?_
     refine AC.sr ?_
     refine AL.cons rfl (Does.loadPA (Evl.tmp rfl) rfl tsh_77 rfl rfl) ?_
     refine AL.cons rfl (Does.move rfl rfl) ?_
     refine AL.cons rfl (Does.callP 19 [(0, 8), (1, 9), (2, 10)] (fc_laws_markStateGraph aC 1 (by omega)) enters_34 ⟨_, _, rfl, (Ev.tmp rfl), ⟨_, _, rfl, (Ev.tmp rfl), rfl⟩⟩ ⟨rfl, rfl, rfl, trivial⟩ rfl ⟨trivial, trivial, trivial, trivial⟩ (nlr rfl)) ?_
     refine AL.cons rfl (Does.assign rfl rfl) ?_
     refine AL.nilS ?_
     refine AC.seq ?_
     refine AC.sr ?_
     refine AL.cons rfl (Does.move rfl rfl) ?_
     refine AL.cons rfl (Does.lss (Evl.tmp rfl) (Evl.int rfl) rfl) ?_
     refine AL.cons rfl (Does.move rfl rfl) ?_
     cases hb8 : (decide (((mSG aC 1).2) < 0))
     ·have _h := hb8
      have hb8' : ¬ (((mSG aC 1).2) < 0) := of_decide_eq_false hb8
      refine AL.guard_yes rfl rfl rfl (Does.loadPA (Evl.tmp rfl) rfl tsh_77 rfl rfl) ?_
      refine AL.guard_yes rfl rfl rfl (Does.loadPA (Evl.tmp rfl) rfl tsh_77 rfl rfl) ?_
      refine AL.guard_yes rfl rfl rfl (Does.callB (fc_eqStateGraph ((insV aC aName aSigns).1.1) ((insV aC aName aSigns).1.1) rfl) enters_33 ⟨_, _, rfl, (Ev.ob (Ev.tmp rfl) ⟨_, _, rfl, .inr ⟨_, _, _, _, rfl, rfl, rfl⟩, ⟨_, _, rfl, .inr ⟨_, _, _, _, rfl, rfl, rfl⟩, ⟨_, _, rfl, .inr ⟨_, _, _, _, rfl, rfl, rfl⟩, rfl⟩⟩⟩), ⟨_, _, rfl, (Ev.ob (Ev.tmp rfl) ⟨_, _, rfl, .inr ⟨_, _, _, _, rfl, rfl, rfl⟩, ⟨_, _, rfl, .inr ⟨_, _, _, _, rfl, rfl, rfl⟩, ⟨_, _, rfl, .inr ⟨_, _, _, _, rfl, rfl, rfl⟩, rfl⟩⟩⟩), rfl⟩⟩ rfl rfl rfl) ?_
      refine AL.guard_yes rfl rfl rfl (Does.not (Evl.tmp rfl) rfl) ?_
      refine AL.cons rfl (Does.pickF (Evl.tmp rfl) (Ev.tmp rfl) rfl) ?_
      refine AL.cons rfl (Does.move rfl rfl) ?_
      refine AL.guard_yes rfl rfl rfl (Does.move rfl rfl) ?_
      refine AL.guard_yes rfl rfl rfl (Does.move rfl rfl) ?_
      refine AL.guard_yes rfl rfl rfl (Does.neqB (Evl.tmp rfl) (Evl.tmp rfl) rfl und_4) ?_
      refine AL.cons rfl (Does.pickF (Evl.tmp rfl) (Ev.tmp rfl) rfl) ?_
      refine AL.nilS ?_
      have hb9 : (((insV aC aName aSigns).2) == ((insV aC aName aSigns).2)) = true := hb6
      try rw [hb9]
      refine AC.condF (Evl.tmp rfl) ?_
      refine AC.skipS ?_
      refine AC.sr ?_
      refine AL.cons rfl (Does.assignC (Evl.int rfl) rfl) ?_
      refine AL.nilS ?_
      refine AC.sr ?_
      refine AL.cons rfl (Does.loadPA (Evl.tmp rfl) rfl tsh_77 rfl rfl) ?_
      refine AL.cons rfl (Does.move rfl rfl) ?_
      refine AL.cons rfl (Does.callP 22 [(0, 12), (1, 13), (2, 14)] (fc_laws_markStateGraph ((insV aC aName aSigns).1.1) 1 (by omega)) enters_34 ⟨_, _, rfl, (Ev.tmp rfl), ⟨_, _, rfl, (Ev.tmp rfl), rfl⟩⟩ ⟨rfl, rfl, rfl, trivial⟩ rfl ⟨trivial, trivial, trivial, trivial⟩ (nlr rfl)) ?_
      refine AL.cons rfl (Does.assign rfl rfl) ?_
      refine AL.nilS ?_
      refine AC.sr ?_
      refine AL.cons rfl (Does.assignC (Evl.int rfl) rfl) ?_
      refine AL.nilS ?_
      refine AC.sr ?_
      refine AL.cons rfl (Does.loadPA (Evl.tmp rfl) rfl tsh_77 rfl rfl) ?_
      refine AL.cons rfl (Does.move rfl rfl) ?_
      refine AL.cons rfl (Does.callB (fc_laws_heldStateGraph ((mSG ((insV aC aName aSigns).1.1) 1).1.1, (mSG ((insV aC aName aSigns).1.1) 1).1.2.1, (mSG ((insV aC aName aSigns).1.1) 1).1.2.2) 1 (insV aC aName aSigns).1.1 rfl (by omega)) enters_39 ⟨_, _, rfl, (Ev.ob (Ev.tmp rfl) ⟨_, _, rfl, .inr ⟨_, _, _, _, rfl, rfl, rfl⟩, ⟨_, _, rfl, .inr ⟨_, _, _, _, rfl, rfl, rfl⟩, ⟨_, _, rfl, .inr ⟨_, _, _, _, rfl, rfl, rfl⟩, rfl⟩⟩⟩), ⟨_, _, rfl, (Ev.b (Ev.tmp rfl)), rfl⟩⟩ rfl rfl rfl) ?_
      refine AL.cons rfl (Does.assign rfl rfl) ?_
      refine AL.nilS ?_
      refine AC.seq ?_
      refine AC.sr ?_
      refine AL.cons rfl (Does.move rfl rfl) ?_
      refine AL.cons rfl (Does.lss (Evl.tmp rfl) (Evl.int rfl) rfl) ?_
      refine AL.nilS ?_
      cases hb10 : (decide (((mSG ((insV aC aName aSigns).1.1) 1).2) < 0))
      ·have _h := hb10
       have hb10' : ¬ (((mSG ((insV aC aName aSigns).1.1) 1).2) < 0) := of_decide_eq_false hb10
       refine AC.condF (Evl.tmp rfl) ?_
       refine AC.skipS ?_
       refine AC.seq ?_
       refine AC.sr ?_
       refine AL.cons rfl (Does.move rfl rfl) ?_
       refine AL.cons rfl (Does.move rfl rfl) ?_
       refine AL.cons rfl (Does.neq (Evl.tmp rfl) (Evl.tmp rfl) rfl) ?_
       refine AL.nilS ?_
       cases hb11 : (!decide (((mSG ((insV aC aName aSigns).1.1) 1).2) = ((mSG ((insV aC aName aSigns).1.1) 1).2)))
       ·have _h := hb11
        have hb11' : (((mSG ((insV aC aName aSigns).1.1) 1).2) = ((mSG ((insV aC aName aSigns).1.1) 1).2)) := nd_false hb11
        refine AC.condF (Evl.tmp rfl) ?_
        refine AC.skipS ?_
        refine AC.sr ?_
        refine AL.cons rfl (Does.loadPA (Evl.tmp rfl) rfl tsh_70 rfl rfl) ?_
        refine AL.cons rfl (Does.callG 25 (fc_toStateGraph aC (by omega)) enters_30 ⟨_, _, rfl, (Ev.tmp rfl), rfl⟩ rfl rfl ⟨Fresh.of rfl, Fresh.of rfl, Fresh.of rfl, trivial⟩ (nlr rfl)) ?_
        refine AL.cons rfl (Does.move rfl rfl) ?_
        refine AL.cons rfl (Does.move rfl rfl) ?_
        refine AL.cons rfl (Does.callGB 28 (fc_impl_InsertSignal aC aName aSigns (by omega)) enters_38 ⟨_, _, rfl, (Ev.ob (Ev.tmp rfl) ⟨_, _, rfl, .inr ⟨_, _, _, _, rfl, rfl, rfl⟩, ⟨_, _, rfl, .inr ⟨_, _, _, _, rfl, rfl, rfl⟩, ⟨_, _, rfl, .inr ⟨_, _, _, _, rfl, rfl, rfl⟩, rfl⟩⟩⟩), ⟨_, _, rfl, (Ev.b (Ev.tmp rfl)), ⟨_, _, rfl, (Ev.b (Ev.tmp rfl)), rfl⟩⟩⟩ rfl rfl rfl ⟨Fresh.of rfl, Fresh.of rfl, Fresh.of rfl, trivial⟩ (nlr rfl)) ?_
        refine AL.cons rfl (Does.move rfl rfl) ?_
        refine AL.cons rfl (Does.extract rfl rfl rfl) ?_
        refine AL.cons rfl (Does.extract rfl rfl rfl) ?_
        refine AL.cons rfl (Does.alloc 31 (.pr (.sl 129 (.pr .str .int)) (.pr (.sl 9 .str) (.sl 170 (.pr .int (.pr .int (.pr .bool .int)))))) zer_77 rfl rfl (Fresh.of rfl) (nlr rfl)) ?_
        refine AL.cons rfl (Does.storeP (Evl.tmp rfl) rfl (Ev.tmp rfl) rfl tsh_77 rfl) ?_
        refine AL.cons rfl (Does.assign rfl rfl) ?_
        refine AL.nilS ?_
        refine AC.seq ?_
        refine AC.sr ?_
        refine AL.cons rfl (Does.loadPA (Evl.tmp rfl) rfl tsh_77 rfl rfl) ?_
        refine AL.cons rfl (Does.loadPA (Evl.tmp rfl) rfl tsh_77 rfl rfl) ?_
        refine AL.cons rfl (Does.callB (fc_eqStateGraph ((insV aC aName aSigns).1.1) ((insV aC aName aSigns).1.1) rfl) enters_33 ⟨_, _, rfl, (Ev.ob (Ev.tmp rfl) ⟨_, _, rfl, .inr ⟨_, _, _, _, rfl, rfl, rfl⟩, ⟨_, _, rfl, .inr ⟨_, _, _, _, rfl, rfl, rfl⟩, ⟨_, _, rfl, .inr ⟨_, _, _, _, rfl, rfl, rfl⟩, rfl⟩⟩⟩), ⟨_, _, rfl, (Ev.ob (Ev.tmp rfl) ⟨_, _, rfl, .inr ⟨_, _, _, _, rfl, rfl, rfl⟩, ⟨_, _, rfl, .inr ⟨_, _, _, _, rfl, rfl, rfl⟩, ⟨_, _, rfl, .inr ⟨_, _, _, _, rfl, rfl, rfl⟩, rfl⟩⟩⟩), rfl⟩⟩ rfl rfl rfl) ?_
        refine AL.cons rfl (Does.not (Evl.tmp rfl) rfl) ?_
        refine AL.cons rfl (Does.move rfl rfl) ?_
        refine AL.guard_yes rfl rfl rfl (Does.move rfl rfl) ?_
        refine AL.guard_yes rfl rfl rfl (Does.move rfl rfl) ?_
        refine AL.guard_yes rfl rfl rfl (Does.neqB (Evl.tmp rfl) (Evl.tmp rfl) rfl und_4) ?_
        refine AL.cons rfl (Does.pickF (Evl.tmp rfl) (Ev.tmp rfl) rfl) ?_
        refine AL.nilS ?_
        have hb12 : (((insV aC aName aSigns).2) == ((insV aC aName aSigns).2)) = true := hb6
        try rw [hb12]
        refine AC.condF (Evl.tmp rfl) ?_
        refine AC.skipS ?_
        refine AC.sr ?_
        refine AL.cons rfl (Does.assignC (Evl.int rfl) rfl) ?_
        refine AL.nilS ?_
        refine AC.sr ?_
        refine AL.cons rfl (Does.loadPA (Evl.tmp rfl) rfl tsh_77 rfl rfl) ?_
        refine AL.cons rfl (Does.move rfl rfl) ?_
        refine AL.cons rfl (Does.callB (fc_laws_heldStateGraph ((mSG ((insV aC aName aSigns).1.1) 1).1.1, (mSG ((insV aC aName aSigns).1.1) 1).1.2.1, (mSG ((insV aC aName aSigns).1.1) 1).1.2.2) 1 (insV aC aName aSigns).1.1 rfl (by omega)) enters_39 ⟨_, _, rfl, (Ev.ob (Ev.tmp rfl) ⟨_, _, rfl, .inr ⟨_, _, _, _, rfl, rfl, rfl⟩, ⟨_, _, rfl, .inr ⟨_, _, _, _, rfl, rfl, rfl⟩, ⟨_, _, rfl, .inr ⟨_, _, _, _, rfl, rfl, rfl⟩, rfl⟩⟩⟩), ⟨_, _, rfl, (Ev.b (Ev.tmp rfl)), rfl⟩⟩ rfl rfl rfl) ?_
        refine AL.cons rfl (Does.assign rfl rfl) ?_
        refine AL.nilS ?_
        refine AC.seq ?_
        refine AC.sr ?_
        refine AL.cons rfl (Does.move rfl rfl) ?_
        refine AL.cons rfl (Does.lss (Evl.tmp rfl) (Evl.int rfl) rfl) ?_
        refine AL.nilS ?_
        have hb13 : (decide (((mSG ((insV aC aName aSigns).1.1) 1).2) < 0)) = false := hb10
        try rw [hb13]
        refine AC.condF (Evl.tmp rfl) ?_
        refine AC.skipS ?_
        refine AC.seq ?_
        refine AC.sr ?_
        refine AL.cons rfl (Does.move rfl rfl) ?_
        refine AL.cons rfl (Does.move rfl rfl) ?_
        refine AL.cons rfl (Does.neq (Evl.tmp rfl) (Evl.tmp rfl) rfl) ?_
        refine AL.nilS ?_
        have hb14 : (!decide (((mSG ((insV aC aName aSigns).1.1) 1).2) = ((mSG ((insV aC aName aSigns).1.1) 1).2))) = false := nb_to (nb_of hb11)
        try rw [hb14]
        refine AC.condF (Evl.tmp rfl) ?_
        refine AC.skipS ?_
        refine AC.sr ?_
        refine AL.cons rfl (Does.assignC Evl.bool rfl) ?_
        refine AL.nilS ?_
        refine AC.ret ?_
        subst hO
        exact fin_pure (Res.one rfl (Rs.tmp rfl)) rfl rfl
       ·have _h := hb11
        have hb11' : ¬ (((mSG ((insV aC aName aSigns).1.1) 1).2) = ((mSG ((insV aC aName aSigns).1.1) 1).2)) := nd_true hb11
        refine AC.condT (Evl.tmp rfl) ?_
        refine AC.sr ?_
        refine AL.cons rfl (Does.assignC Evl.bool rfl) ?_
        refine AL.nilS ?_
        refine AC.ret ?_
        subst hO
        have e15 : (false : Bool) = true := by
         exfalso; first | omega | (revert _h; simp; done)
        exact fin_pure (Res.one rfl (Rs.tmp rfl)) ((congrArg (fun z_ => lf (dB z_)) e15)) rfl
      ·have _h := hb10
       have hb10' : (((mSG ((insV aC aName aSigns).1.1) 1).2) < 0) := of_decide_eq_true hb10
       refine AC.condT (Evl.tmp rfl) ?_
       refine AC.sr ?_
       refine AL.cons rfl (Does.assignC Evl.bool rfl) ?_
       refine AL.nilS ?_
       refine AC.ret ?_
       subst hO
       have e16 : (false : Bool) = true := by
        exfalso; first | omega | (revert _h; simp; done)
       exact fin_pure (Res.one rfl (Rs.tmp rfl)) ((congrArg (fun z_ => lf (dB z_)) e16)) rfl
     ·have _h := hb8
      have hb8' : (((mSG aC 1).2) < 0) := of_decide_eq_true hb8
      refine AL.guard_no (b := false) rfl rfl rfl ?_ rfl
      refine AL.guard_no (b := false) rfl rfl rfl ?_ rfl
      refine AL.guard_no (b := false) rfl rfl rfl ?_ rfl
      refine AL.guard_no (b := false) rfl rfl rfl ?_ rfl
      refine AL.cons rfl (Does.pickT (Evl.tmp rfl) (Evl.ev Evl.bool) rfl) ?_
      refine AL.cons rfl (Does.move rfl rfl) ?_
      refine AL.guard_no (b := false) rfl rfl rfl ?_ rfl
      refine AL.guard_no (b := false) rfl rfl rfl ?_ rfl
      refine AL.guard_no (b := false) rfl rfl rfl ?_ rfl
      refine AL.cons rfl (Does.pickT (Evl.tmp rfl) (Evl.ev Evl.bool) rfl) ?_
      refine AL.nilS ?_
      refine AC.condT (Evl.tmp rfl) ?_
      refine AC.sr ?_
      refine AL.cons rfl (Does.assignC Evl.bool rfl) ?_
      refine AL.nilS ?_
      refine AC.ret ?_
      subst hO
      have e17 : (false : Bool) = true := by
       exfalso; first | omega | (revert _h; simp; done)
      exact fin_pure (Res.one rfl (Rs.tmp rfl)) ((congrArg (fun z_ => lf (dB z_)) e17)) rfl
   ·have _h := hb5
    have hb5' : ((szv 1048576 (Ty.tot lStateGraph aC)) < 0) := of_decide_eq_true hb5
    refine AC.condT (Evl.tmp rfl) ?_
    refine AC.sr ?_
    refine AL.cons rfl (Does.assignC Evl.bool rfl) ?_
    refine AL.nilS ?_
    refine AC.ret ?_
    subst hO
    exact fin_pure (Res.one rfl (Rs.tmp rfl)) rfl rfl
  ·have _h := hb4
   have hb4' : (1048576 < (aSigns.size : Int)) := of_decide_eq_true hb4
   refine AC.condT (Evl.tmp rfl) ?_
   refine AC.sr ?_
   refine AL.cons rfl (Does.assignC Evl.bool rfl) ?_
   refine AL.nilS ?_
   refine AC.ret ?_
   subst hO
   exact fin_pure (Res.one rfl (Rs.tmp rfl)) rfl rfl
 ·have _h := hb2
  have hb2' : (1048576 < (aName.size : Int)) := of_decide_eq_true hb2
  refine AC.condT (Evl.tmp rfl) ?_
  refine AC.sr ?_
  refine AL.cons rfl (Does.assignC Evl.bool rfl) ?_
  refine AL.nilS ?_
  refine AC.ret ?_
  subst hO
  exact fin_pure (Res.one rfl (Rs.tmp rfl)) rfl rfl

end Go.Proofs.Ytbelopdphlllnaa
