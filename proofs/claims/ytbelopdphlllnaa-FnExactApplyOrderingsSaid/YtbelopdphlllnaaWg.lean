/- Walks over abstract states: marks in signals, nets and graphs. -/
import Derived.Test.YtbelopdphlllnaaWf
namespace Go.Proofs.Ytbelopdphlllnaa
open Go.RowKit

@[reducible] def fS : ByteArray × Int → Int → (ByteArray × Int) × Int := fun _ k => ((markT k, k + 1), k + 2)
theorem fS_c : ∀ (x : ByteArray × Int) (k : Int), (fS x k).2 = k + ((fun _ => 2 : ByteArray × Int → Nat) x : Nat) := fun _ _ => rfl
theorem mkS_le (a : List (ByteArray × Int)) (k : Int) (i : Nat) : k ≤ mkC fS a k i ∧ mkC fS a k i ≤ k + 2 * a.length := by
  have := mkC_le _ fS_c a k i
  rw [sum_two] at this
  omega
theorem mkS_succ {l : List (ByteArray × Int)} {k : Int} {i : Nat} (h : i < l.length) : mkC fS l k i + 1 + 1 = mkC fS l k (i + 1) := by rw [mkC_succ (List.getElem?_eq_getElem h)]; simp only [fS]; omega

set_option maxRecDepth 100000 in
set_option maxHeartbeats 4000000 in
theorem fc_laws_markSignalS (a : List (ByteArray × Int)) (k : Int) (hk : 0 ≤ k ∧ k + 2 * a.length ≤ 1000000000) : FC Try.prog 64 [(false, [.ref 0]), (false, [dI k])] [(0, some (.arr 129 (.pr .str .int) a))] 1 (Is (lf (dI ((marks fS a k).2))) [(0, some (.arr 129 (.pr .str .int) ((marks fS a k).1)))]) := by
  obtain ⟨O_, hO⟩ : ∃ x : PV → Tab → Prop, x = Is (lf (dI ((marks fS a k).2))) [(0, some (.arr 129 (.pr .str .int) ((marks fS a k).1)))] := ⟨_, rfl⟩
  refine FC.O_of hO (FC.ren (FC.of Try.func64 rfl rfl fun A_ hn_ hk_ => ?_))
  obtain ⟨w0_, N0_, X_, n_, k0_, h0_, f0_⟩ := A_
  obtain rfl : n_ = 28 := hn_.trans Try.ntmps64
  obtain rfl : k0_ = 1 := hk_
  refine AC.fact (fact_int (x := .tmp 1) (Evl.tmp rfl)) fun hi1 => ?_
  refine AC.seq ?_
  refine AC.region ?_
  refine AL.cons rfl (Does.assignC (Evl.int rfl) rfl) ?_
  refine AL.nil ?_
  refine (?_ : AC _ _ _ _ _)
  refine AC.seq ?_
  refine AC.seq ?_
  refine AC.region ?_
  refine AL.cons rfl (Does.assignC (Evl.int rfl) rfl) ?_
  refine AL.nil ?_
  refine (?_ : AC _ _ _ _ _)
  refine AC.block ?_
  refine AC.wk (s' := ⟨[(0, lf (.ref 0)), (1, lf (dI (mkC fS a k 0))), (4, lf (dI 0)), (5, lf (dI (0 : Int)))], [(0, some (.arr 129 (.pr .str .int) (mkA fS a k 0)))]⟩) (Wk.of [(0, 0)] rfl ⟨rfl, (show some (lf (dI k)) = some (lf (dI (mkC fS a k 0))) from congrArg (fun z_ => some (lf (dI z_))) (by rw [mkC_0])), rfl, rfl, trivial⟩ ⟨(show some (Ent.arr 129 (.pr .str .int) a) = some (Ent.arr 129 (.pr .str .int) (mkA fS a k 0)) from congrArg (fun z => some (Ent.arr 129 (.pr .str .int) z)) (mkA_0 fS a k)), trivial⟩ rfl rfl) ?_
  refine AC.loop (fun m_ s_ => ∃ (i : Nat), i ≤ a.length ∧ m_ = a.length - i ∧ s_ = ⟨[(0, lf (.ref 0)), (1, lf (dI (mkC fS a k i))), (4, lf (dI 0)), (5, lf (dI (i : Int)))], [(0, some (.arr 129 (.pr .str .int) (mkA fS a k i)))]⟩) (m := a.length - 0) ⟨0, Nat.zero_le _, rfl, rfl⟩ ?_
  rintro m_ s_ ⟨i, hk3, hm4, rfl⟩
  have hml := mkA_len fS a k i
  have hmc := mkS_le a k i
  refine AC.seq ?_
  refine AC.seq ?_
  refine AC.region ?_
  refine AL.cons rfl (Does.move rfl rfl) ?_
  refine AL.cons rfl (Does.move rfl rfl) ?_
  refine AL.cons rfl (Does.lenO (Evl.tmp rfl) rfl rfl und_29) ?_
  refine AL.cons rfl (Does.lss (Evl.tmp rfl) (Evl.tmp rfl) rfl) ?_
  refine AL.nil ?_
  refine (?_ : AC _ _ _ _ _)
  cases hb5 : (decide ((i : Int) < ((mkA fS a k i).length : Int)))
  · have _h := hb5
    have hb5' : ¬ ((i : Int) < ((mkA fS a k i).length : Int)) := of_decide_eq_false hb5
    refine AC.condF (Evl.tmp rfl) ?_
    refine AC.exit ?_
    refine (?_ : AC _ _ _ _ _)
    refine AC.seq ?_
    refine AC.region ?_
    refine AL.cons rfl (Does.move rfl rfl) ?_
    refine AL.cons rfl (Does.assign rfl rfl) ?_
    refine AL.nil ?_
    refine (?_ : AC _ _ _ _ _)
    refine AC.ret ?_
    subst hO
    have e6 : (mkC fS a k i : Int) = (marks fS a k).2 := by
      first | (rw [mkA_end _ (by omega)]; done) | (rw [mkC_end _ (by omega)]; done)
    exact fin_is (lf (dI ((marks fS a k).2))) [(0, some (.arr 129 (.pr .str .int) ((marks fS a k).1)))] [(0, 0)] (Res.one rfl (Rs.tmp rfl)) (show lf (dI (mkC fS a k i)) = lf (dI ((marks fS a k).2)) by exact (congrArg (fun z_ => lf (dI z_)) e6)) ⟨(show some (Ent.arr 129 (.pr .str .int) (mkA fS a k i)) = some (Ent.arr 129 (.pr .str .int) ((marks fS a k).1)) from congrArg (fun z => some (Ent.arr 129 (.pr .str .int) z)) (by first | (rw [mkA_end _ (by omega)]; done) | (rw [mkC_end _ (by omega)]; done))), trivial⟩ rfl rfl
  · have _h := hb5
    have hb5' : ((i : Int) < ((mkA fS a k i).length : Int)) := of_decide_eq_true hb5
    refine AC.condT (Evl.tmp rfl) ?_
    refine AC.skip ?_
    refine (?_ : AC _ _ _ _ _)
    refine AC.seq ?_
    refine AC.block ?_
    refine AC.seq ?_
    refine AC.region ?_
    refine AL.cons rfl (Does.move rfl rfl) ?_
    refine AL.cons rfl (Does.move rfl rfl) ?_
    refine AL.cons rfl (Does.move rfl rfl) ?_
    refine AL.cons rfl (Does.call (fc_laws_markText (mkC fS a k i)) enters_117 ⟨_, _, rfl, (Ev.tmp rfl), rfl⟩ rfl rfl) ?_
    refine AL.cons rfl (Does.indexI (e := (.pr .str .int)) (Evl.tmp rfl) rfl (Evl.tmp rfl) und_29 tsh_129 rfl (by omega) (by first | omega | (simp only [List.length_set]; omega))) ?_
    refine AL.cons rfl (Does.fieldI (Evl.tmp rfl) fld_129_0 rfl rfl) ?_
    obtain ⟨x7, hx8⟩ : ∃ z, (mkA fS a k i)[i]? = some z := ⟨_, List.getElem?_eq_getElem (by omega)⟩
    refine AL.cons rfl (Does.storeI (e := (.pr .str .int)) (z' := (markT (mkC fS a k i), x7.2)) (Evl.tmp rfl) rfl hx8 rfl (Ev.tmp rfl) rfl tsh_9 rfl rfl) ?_
    refine AL.nil ?_
    refine (?_ : AC _ _ _ _ _)
    refine AC.seq ?_
    refine AC.region ?_
    refine AL.cons rfl (Does.move rfl rfl) ?_
    refine AL.cons rfl (Does.add (Evl.tmp rfl) (Evl.int rfl) rfl (by omega)) ?_
    refine AL.cons rfl (Does.assign rfl rfl) ?_
    refine AL.nil ?_
    refine (?_ : AC _ _ _ _ _)
    refine AC.seq ?_
    refine AC.region ?_
    refine AL.cons rfl (Does.move rfl rfl) ?_
    refine AL.cons rfl (Does.move rfl rfl) ?_
    refine AL.cons rfl (Does.move rfl rfl) ?_
    refine AL.cons rfl (Does.indexI (e := (.pr .str .int)) (Evl.tmp rfl) rfl (Evl.tmp rfl) und_29 tsh_129 rfl (by omega) (by first | omega | (simp only [List.length_set]; omega))) ?_
    refine AL.cons rfl (Does.fieldI (Evl.tmp rfl) fld_129_1 rfl rfl) ?_
    refine AL.cons rfl (Does.storeI (e := (.pr .str .int)) (z' := ((markT (mkC fS a k i), x7.2).1, (mkC fS a k i) + 1)) (Evl.tmp rfl) rfl (List.getElem?_set_self (by first | omega | (simp only [List.length_set]; omega))) rfl (Ev.tmp rfl) rfl tsh_3 rfl rfl) ?_
    refine AL.nil ?_
    refine (?_ : AC _ _ _ _ _)
    refine AC.region ?_
    refine AL.cons rfl (Does.move rfl rfl) ?_
    refine AL.cons rfl (Does.add (Evl.tmp rfl) (Evl.int rfl) rfl (by omega)) ?_
    refine AL.cons rfl (Does.assign rfl rfl) ?_
    refine AL.nil ?_
    refine (?_ : AC _ _ _ _ _)
    refine AC.region ?_
    refine AL.cons rfl (Does.move rfl rfl) ?_
    refine AL.cons rfl (Does.add (Evl.tmp rfl) (Evl.int rfl) rfl (by omega)) ?_
    refine AL.cons rfl (Does.assign rfl rfl) ?_
    refine AL.nil ?_
    exact loop_end (a.length - (i + 1)) ⟨[(0, lf (.ref 0)), (1, lf (dI (mkC fS a k (i + 1)))), (4, lf (dI 0)), (5, lf (dI ((i + 1) : Int)))], [(0, some (.arr 129 (.pr .str .int) (mkA fS a k (i + 1))))]⟩ (by omega) (Wk.of [(0, 0)] rfl ⟨rfl, (show some (lf (dI (((mkC fS a k i) + 1) + 1))) = some (lf (dI (mkC fS a k (i + 1)))) from congrArg (fun z_ => some (lf (dI z_))) (mkS_succ (by omega))), rfl, rfl, trivial⟩ ⟨(show some (Ent.arr 129 (.pr .str .int) (((mkA fS a k i).set i (markT (mkC fS a k i), x7.2)).set i ((markT (mkC fS a k i), x7.2).1, (mkC fS a k i) + 1))) = some (Ent.arr 129 (.pr .str .int) (mkA fS a k (i + 1))) from congrArg (fun z => some (Ent.arr 129 (.pr .str .int) z)) (by rw [List.set_set]; exact mkA_set (f := fS) (mkA_back hx8))), trivial⟩ rfl rfl) ⟨i + 1, by omega, rfl, rfl⟩

set_option maxRecDepth 100000 in
set_option maxHeartbeats 4000000 in
theorem fc_laws_heldSignalS (a : List (ByteArray × Int)) (k : Int) (l : List (ByteArray × Int)) (hm : a = (marks fS l k).1) (hk : 0 ≤ k ∧ k + 2 * a.length ≤ 1000000000) : FC Try.prog 67 [(false, [.dat (.sl 129 (.pr .str .int)) a]), (false, [dI k])] [] 0 (Pure (lf (dI ((marks fS l k).2)))) := by
  have hla : a.length = l.length := by rw [hm, marks_len]
  obtain ⟨O_, hO⟩ : ∃ x : PV → Tab → Prop, x = Pure (lf (dI ((marks fS l k).2))) := ⟨_, rfl⟩
  refine FC.O_of hO (FC.ren (FC.of Try.func67 rfl rfl fun A_ hn_ hk_ => ?_))
  obtain ⟨w0_, N0_, X_, n_, k0_, h0_, f0_⟩ := A_
  obtain rfl : n_ = 32 := hn_.trans Try.ntmps67
  obtain rfl : k0_ = 0 := hk_
  refine AC.fact (fact_int (x := .tmp 1) (Evl.tmp rfl)) fun hi1 => ?_
  refine AC.seq ?_
  refine AC.region ?_
  refine AL.cons rfl (Does.assignC (Evl.int rfl) rfl) ?_
  refine AL.nil ?_
  refine (?_ : AC _ _ _ _ _)
  refine AC.seq ?_
  refine AC.seq ?_
  refine AC.region ?_
  refine AL.cons rfl (Does.assignC (Evl.int rfl) rfl) ?_
  refine AL.nil ?_
  refine (?_ : AC _ _ _ _ _)
  refine AC.block ?_
  refine AC.wk (s' := ⟨[(0, lf (.dat (.sl 129 (.pr .str .int)) a)), (1, lf (dI (mkC fS l k 0))), (5, lf (dI (0 : Int)))], []⟩) (Wk.of [] rfl ⟨rfl, (show some (lf (dI k)) = some (lf (dI (mkC fS l k 0))) from congrArg (fun z_ => some (lf (dI z_))) (by rw [mkC_0])), rfl, trivial⟩ trivial rfl rfl) ?_
  refine AC.loop (fun m_ s_ => ∃ (i : Nat), i ≤ a.length ∧ m_ = a.length - i ∧ s_ = ⟨[(0, lf (.dat (.sl 129 (.pr .str .int)) a)), (1, lf (dI (mkC fS l k i))), (5, lf (dI (i : Int)))], []⟩) (m := a.length - 0) ⟨0, Nat.zero_le _, rfl, rfl⟩ ?_
  rintro m_ s_ ⟨i, hk3, hm4, rfl⟩
  have hmc := mkS_le l k i
  refine AC.seq ?_
  refine AC.seq ?_
  refine AC.region ?_
  refine AL.cons rfl (Does.move rfl rfl) ?_
  refine AL.cons rfl (Does.move rfl rfl) ?_
  refine AL.fact (fact_len (x := .tmp 7) (Evl.tmp rfl)) fun hl5 => ?_
  refine AL.cons rfl (Does.len (Evl.tmp rfl) rfl und_29) ?_
  refine AL.cons rfl (Does.lss (Evl.tmp rfl) (Evl.tmp rfl) rfl) ?_
  refine AL.nil ?_
  refine (?_ : AC _ _ _ _ _)
  cases hb6 : (decide ((i : Int) < (a.length : Int)))
  · have _h := hb6
    have hb6' : ¬ ((i : Int) < (a.length : Int)) := of_decide_eq_false hb6
    refine AC.condF (Evl.tmp rfl) ?_
    refine AC.exit ?_
    refine (?_ : AC _ _ _ _ _)
    refine AC.seq ?_
    refine AC.region ?_
    refine AL.cons rfl (Does.move rfl rfl) ?_
    refine AL.cons rfl (Does.assign rfl rfl) ?_
    refine AL.nil ?_
    refine (?_ : AC _ _ _ _ _)
    refine AC.ret ?_
    subst hO
    have e7 : (mkC fS l k i : Int) = (marks fS l k).2 := by
      first | (exfalso; omega) | (exfalso; simp_all; done) | (rw [mkC_end _ (by omega)]; done)
    exact fin_pure (Res.one rfl (Rs.tmp rfl)) ((congrArg (fun z_ => lf (dI z_)) e7)) rfl
  · have _h := hb6
    have hb6' : ((i : Int) < (a.length : Int)) := of_decide_eq_true hb6
    refine AC.condT (Evl.tmp rfl) ?_
    refine AC.skip ?_
    refine (?_ : AC _ _ _ _ _)
    refine AC.seq ?_
    refine AC.block ?_
    refine AC.seq ?_
    refine AC.seq ?_
    obtain ⟨x8, hx9⟩ : ∃ z, a[i]? = some z := ⟨_, List.getElem?_eq_getElem (by omega)⟩
    have hvx8 : x8.1 = markT (mkC fS l k i) := by obtain ⟨_, _, h⟩ := held_at hm hx9; rw [h]
    have hwx8 : x8.2 = mkC fS l k i + 1 := by obtain ⟨_, _, h⟩ := held_at hm hx9; rw [h]
    refine AC.drawL [⟨some 12, lf (.dat (.sl 129 (.pr .str .int)) a), []⟩, ⟨some 13, lf (dI (i : Int)), []⟩, ⟨some 14, lf (.elt (.pr .str .int) x8 0), []⟩, ⟨some 15, lf (.elt (.pr .str .int) x8 0), []⟩, ⟨some 16, lf (dS x8.1), []⟩, ⟨some 17, lf (dI (mkC fS l k i)), []⟩, ⟨some 18, lf (dS (markT (mkC fS l k i))), []⟩, ⟨some 19, lf (dB (!decide (x8.1 = (markT (mkC fS l k i))))), []⟩] [[], [], [0, 1], [0, 1, 2], [0, 1, 2, 3], [], [5], [0, 1, 2, 3, 4, 5, 6]] mixed rfl (by kernel_rfl) ?_ ?_
    · refine ⟨fun s_ hs => Acts.of1 rfl (Does.move (hs.tm 0 rfl) rfl) rfl, fun s_ hs => Acts.of1 rfl (Does.move (hs.tm 5 rfl) rfl) rfl, fun s_ hs => Acts.of1 rfl (Does.indexE (Evl.tmp (hs.tm 12 rfl)) (Evl.tmp (hs.tm 13 rfl)) und_29 tsh_129 rfl (by omega) hx9) rfl, fun s_ hs => Acts.of1 rfl (Does.fieldE (Evl.tmp (hs.tm 14 rfl)) fld_129_0 rfl) rfl, fun s_ hs => Acts.of1 rfl (Does.loadE (Evl.tmp (hs.tm 15 rfl)) tsh_9 rfl rfl) rfl, fun s_ hs => Acts.of1 rfl (Does.move (hs.tm 1 rfl) rfl) rfl, fun s_ hs => Acts.of1 rfl (Does.call (fc_laws_markText (mkC fS l k i)) enters_117 ⟨_, _, rfl, (Ev.tmp (hs.tm 17 rfl)), rfl⟩ rfl rfl) rfl, fun s_ hs => Acts.of1 rfl (Does.neqS (Evl.tmp (hs.tm 16 rfl)) (Evl.tmp (hs.tm 18 rfl)) rfl) rfl, trivial⟩
    refine (?_ : AC _ _ _ _ _)
    refine AC.wk (s' := _) (Wk.refl _ _) ?_
    cases hb10 : (!decide (x8.1 = (markT (mkC fS l k i))))
    · have _h := hb10
      have hb10' : (x8.1 = (markT (mkC fS l k i))) := nd_false hb10
      refine AC.condF (Evl.tmp rfl) ?_
      refine AC.skip ?_
      refine (?_ : AC _ _ _ _ _)
      refine AC.seq ?_
      refine AC.region ?_
      refine AL.cons rfl (Does.move rfl rfl) ?_
      refine AL.cons rfl (Does.add (Evl.tmp rfl) (Evl.int rfl) rfl (by omega)) ?_
      refine AL.cons rfl (Does.assign rfl rfl) ?_
      refine AL.nil ?_
      refine (?_ : AC _ _ _ _ _)
      refine AC.seq ?_
      refine AC.seq ?_
      refine AC.region ?_
      refine AL.cons rfl (Does.move rfl rfl) ?_
      refine AL.cons rfl (Does.move rfl rfl) ?_
      refine AL.cons rfl (Does.indexE (Evl.tmp rfl) (Evl.tmp rfl) und_29 tsh_129 rfl (by omega) hx9) ?_
      refine AL.cons rfl (Does.fieldE (Evl.tmp rfl) fld_129_1 rfl) ?_
      refine AL.cons rfl (Does.loadE (Evl.tmp rfl) tsh_3 rfl rfl) ?_
      refine AL.fact (fact_int (x := .tmp 26) (Evl.tmp rfl)) fun hi11 => ?_
      refine AL.cons rfl (Does.move rfl rfl) ?_
      refine AL.cons rfl (Does.neq (Evl.tmp rfl) (Evl.tmp rfl) rfl) ?_
      refine AL.nil ?_
      refine (?_ : AC _ _ _ _ _)
      cases hb12 : (!decide (x8.2 = ((mkC fS l k i) + 1)))
      · have _h := hb12
        have hb12' : (x8.2 = ((mkC fS l k i) + 1)) := nd_false hb12
        refine AC.condF (Evl.tmp rfl) ?_
        refine AC.skip ?_
        refine (?_ : AC _ _ _ _ _)
        refine AC.region ?_
        refine AL.cons rfl (Does.move rfl rfl) ?_
        refine AL.cons rfl (Does.add (Evl.tmp rfl) (Evl.int rfl) rfl (by omega)) ?_
        refine AL.cons rfl (Does.assign rfl rfl) ?_
        refine AL.nil ?_
        refine (?_ : AC _ _ _ _ _)
        refine AC.region ?_
        refine AL.cons rfl (Does.move rfl rfl) ?_
        refine AL.cons rfl (Does.add (Evl.tmp rfl) (Evl.int rfl) rfl (by omega)) ?_
        refine AL.cons rfl (Does.assign rfl rfl) ?_
        refine AL.nil ?_
        exact loop_end (a.length - (i + 1)) ⟨[(0, lf (.dat (.sl 129 (.pr .str .int)) a)), (1, lf (dI (mkC fS l k (i + 1)))), (5, lf (dI ((i + 1) : Int)))], []⟩ (by omega) (Wk.of [] rfl ⟨rfl, (show some (lf (dI (((mkC fS l k i) + 1) + 1))) = some (lf (dI (mkC fS l k (i + 1)))) from congrArg (fun z_ => some (lf (dI z_))) (mkS_succ (by omega))), rfl, trivial⟩ trivial rfl rfl) ⟨i + 1, by omega, rfl, rfl⟩
      · have _h := hb12
        have hb12' : ¬ (x8.2 = ((mkC fS l k i) + 1)) := nd_true hb12
        refine AC.condT (Evl.tmp rfl) ?_
        refine AC.seq ?_
        refine AC.region ?_
        refine AL.cons rfl (Does.assignC (Evl.int rfl) rfl) ?_
        refine AL.nil ?_
        refine (?_ : AC _ _ _ _ _)
        refine AC.ret ?_
        subst hO
        have e14 : ((-1) : Int) = (marks fS l k).2 := by
          first | (exfalso; omega) | (exfalso; simp_all; done) | (rw [mkC_end _ (by omega)]; done)
        exact fin_pure (Res.one rfl (Rs.tmp rfl)) ((congrArg (fun z_ => lf (dI z_)) e14)) rfl
    · have _h := hb10
      have hb10' : ¬ (x8.1 = (markT (mkC fS l k i))) := nd_true hb10
      refine AC.condT (Evl.tmp rfl) ?_
      refine AC.seq ?_
      refine AC.region ?_
      refine AL.cons rfl (Does.assignC (Evl.int rfl) rfl) ?_
      refine AL.nil ?_
      refine (?_ : AC _ _ _ _ _)
      refine AC.ret ?_
      subst hO
      have e15 : ((-1) : Int) = (marks fS l k).2 := by
        first | (exfalso; omega) | (exfalso; simp_all; done) | (rw [mkC_end _ (by omega)]; done)
      exact fin_pure (Res.one rfl (Rs.tmp rfl)) ((congrArg (fun z_ => lf (dI z_)) e15)) rfl

set_option maxRecDepth 100000 in
set_option maxHeartbeats 4000000 in
theorem fc_laws_markNet (a : Int × (List (List Int × List Int))) (k : Int) (hk : (0 ≤ k ∧ k + tsum a.2 ≤ 1000000000) ∧ a.2.length ≤ 1000000000) : FC Try.prog 63 [(true, [dI a.1, .ref 0]), (false, [dI k])] [(0, some (.arr 146 (.pr (.sl 3 .int) (.sl 3 .int)) a.2))] 1 (Is (lf (dI ((marks fT a.2 k).2))) [(0, some (.arr 146 (.pr (.sl 3 .int) (.sl 3 .int)) ((marks fT a.2 k).1)))]) := by
  obtain ⟨O_, hO⟩ : ∃ x : PV → Tab → Prop, x = Is (lf (dI ((marks fT a.2 k).2))) [(0, some (.arr 146 (.pr (.sl 3 .int) (.sl 3 .int)) ((marks fT a.2 k).1)))] := ⟨_, rfl⟩
  refine FC.O_of hO (FC.ren (FC.of Try.func63 rfl rfl fun A_ hn_ hk_ => ?_))
  obtain ⟨w0_, N0_, X_, n_, k0_, h0_, f0_⟩ := A_
  obtain rfl : n_ = 10 := hn_.trans Try.ntmps63
  obtain rfl : k0_ = 1 := hk_
  refine AC.fact (fact_ag (x := .tmp 0) (i := 0) (Ev.tmp rfl) rfl) fun hi1 => ?_
  refine AC.fact (fact_int (x := .tmp 1) (Evl.tmp rfl)) fun hi2 => ?_
  refine AC.seq ?_
  refine AC.region ?_
  refine AL.cons rfl (Does.box 1 (Ev.tmp rfl) rfl rfl (Fresh.of rfl) (Nat.le_of_ble_eq_true rfl)) ?_
  refine AL.cons rfl (Does.assignC (Evl.int rfl) rfl) ?_
  refine AL.nil ?_
  refine (?_ : AC _ _ _ _ _)
  refine AC.seq ?_
  refine AC.region ?_
  refine AL.cons rfl (Does.fieldP (Evl.tmp rfl) fld_47_1 rfl rfl) ?_
  refine AL.cons rfl (Does.loadP (Evl.tmp rfl) rfl tsh_45 rfl rfl) ?_
  refine AL.cons rfl (Does.move rfl rfl) ?_
  refine AL.cons rfl (Does.callP 2 [(0, 0)] (fc_laws_markTransitionS a.2 k hk) enters_116 ⟨_, _, rfl, (Ev.tmp rfl), ⟨_, _, rfl, (Ev.tmp rfl), rfl⟩⟩ ⟨rfl, trivial⟩ rfl ⟨trivial, trivial⟩ (Nat.le_of_ble_eq_true rfl)) ?_
  refine AL.cons rfl (Does.assign rfl rfl) ?_
  refine AL.nil ?_
  refine (?_ : AC _ _ _ _ _)
  refine AC.seq ?_
  refine AC.region ?_
  refine AL.cons rfl (Does.move rfl rfl) ?_
  refine AL.cons rfl (Does.assign rfl rfl) ?_
  refine AL.nil ?_
  refine (?_ : AC _ _ _ _ _)
  refine AC.ret ?_
  subst hO
  exact fin_is (lf (dI ((marks fT a.2 k).2))) [(0, some (.arr 146 (.pr (.sl 3 .int) (.sl 3 .int)) ((marks fT a.2 k).1)))] [(0, 0)] (Res.one rfl (Rs.tmp rfl)) (show lf (dI ((marks fT a.2 k).2)) = lf (dI ((marks fT a.2 k).2)) by rfl) ⟨rfl, trivial⟩ rfl rfl

theorem mT_sum (l : List (List Int × List Int)) (k : Int) : (marks fT l k).2 = k + tsum l := mkC_sum _ fT_c l k
theorem mS_sum (l : List (ByteArray × Int)) (k : Int) : (marks fS l k).2 = k + 2 * l.length := by rw [mkC_sum _ fS_c, sum_two]; omega
theorem mL_sum (l : List (Int × Bool)) (k : Int) : (marks fL l k).2 = k + 2 * l.length := by rw [mkC_sum _ fL_c, sum_two]; omega

set_option maxRecDepth 100000 in
set_option maxHeartbeats 4000000 in
theorem fc_laws_heldNet (a : Int × (List (List Int × List Int))) (k : Int) (l : List (List Int × List Int)) (hm : a.2 = (marks fT l k).1) (hk : (0 ≤ k ∧ k + tsum l ≤ 1000000000) ∧ a.2.length ≤ 1000000000) : FC Try.prog 66 [(true, [dI a.1, .dat (.sl 146 (.pr (.sl 3 .int) (.sl 3 .int))) a.2]), (false, [dI k])] [] 0 (Pure (lf (dI ((marks fT l k).2)))) := by
  have hs := mT_sum l k
  obtain ⟨O_, hO⟩ : ∃ x : PV → Tab → Prop, x = Pure (lf (dI ((marks fT l k).2))) := ⟨_, rfl⟩
  refine FC.O_of hO (FC.ren (FC.of Try.func66 rfl rfl fun A_ hn_ hk_ => ?_))
  obtain ⟨w0_, N0_, X_, n_, k0_, h0_, f0_⟩ := A_
  obtain rfl : n_ = 12 := hn_.trans Try.ntmps66
  obtain rfl : k0_ = 0 := hk_
  refine AC.fact (fact_ag (x := .tmp 0) (i := 0) (Ev.tmp rfl) rfl) fun hi1 => ?_
  refine AC.fact (fact_int (x := .tmp 1) (Evl.tmp rfl)) fun hi2 => ?_
  refine AC.seq ?_
  refine AC.region ?_
  refine AL.cons rfl (Does.box 0 (Ev.tmp rfl) rfl rfl (Fresh.of rfl) (Nat.le_of_ble_eq_true rfl)) ?_
  refine AL.cons rfl (Does.assignC (Evl.int rfl) rfl) ?_
  refine AL.nil ?_
  refine (?_ : AC _ _ _ _ _)
  refine AC.seq ?_
  refine AC.region ?_
  refine AL.cons rfl (Does.fieldP (Evl.tmp rfl) fld_47_1 rfl rfl) ?_
  refine AL.cons rfl (Does.loadP (Evl.tmp rfl) rfl tsh_45 rfl rfl) ?_
  refine AL.cons rfl (Does.move rfl rfl) ?_
  refine AL.cons rfl (Does.call (fc_laws_heldTransitionS a.2 k l hm hk) enters_118 ⟨_, _, rfl, (Ev.tmp rfl), ⟨_, _, rfl, (Ev.tmp rfl), rfl⟩⟩ rfl rfl) ?_
  refine AL.cons rfl (Does.assign rfl rfl) ?_
  refine AL.nil ?_
  refine (?_ : AC _ _ _ _ _)
  refine AC.seq ?_
  refine AC.seq ?_
  refine AC.region ?_
  refine AL.cons rfl (Does.move rfl rfl) ?_
  refine AL.cons rfl (Does.lss (Evl.tmp rfl) (Evl.int rfl) rfl) ?_
  refine AL.nil ?_
  refine (?_ : AC _ _ _ _ _)
  cases hb3 : (decide (((marks fT l k).2) < 0))
  · have _h := hb3
    have hb3' : ¬ (((marks fT l k).2) < 0) := of_decide_eq_false hb3
    refine AC.condF (Evl.tmp rfl) ?_
    refine AC.skip ?_
    refine (?_ : AC _ _ _ _ _)
    refine AC.seq ?_
    refine AC.region ?_
    refine AL.cons rfl (Does.move rfl rfl) ?_
    refine AL.cons rfl (Does.assign rfl rfl) ?_
    refine AL.nil ?_
    refine (?_ : AC _ _ _ _ _)
    refine AC.ret ?_
    subst hO
    exact fin_pure (Res.one rfl (Rs.tmp rfl)) rfl rfl
  · have _h := hb3
    have hb3' : (((marks fT l k).2) < 0) := of_decide_eq_true hb3
    refine AC.condT (Evl.tmp rfl) ?_
    refine AC.seq ?_
    refine AC.region ?_
    refine AL.cons rfl (Does.assignC (Evl.int rfl) rfl) ?_
    refine AL.nil ?_
    refine (?_ : AC _ _ _ _ _)
    refine AC.ret ?_
    subst hO
    have e4 : ((-1) : Int) = (marks fT l k).2 := by
      first | rfl | (exfalso; omega)
    exact fin_pure (Res.one rfl (Rs.tmp rfl)) ((congrArg (fun z_ => lf (dI z_)) e4)) rfl

/-- A graph with marks in all that it holds, and the count behind. -/
def mSTG (s : DSTG) (k : Int) : DSTG × Int := (((s.1.1, (marks fT s.1.2 k).1), (marks fS s.2.1 (marks fT s.1.2 k).2).1, (marks fL s.2.2.1 (marks fS s.2.1 (marks fT s.1.2 k).2).2).1, s.2.2.2), (marks fL s.2.2.1 (marks fS s.2.1 (marks fT s.1.2 k).2).2).2)

set_option maxRecDepth 100000 in
set_option maxHeartbeats 4000000 in
theorem fc_laws_markSTG (a : (Int × (List (List Int × List Int))) × (List (ByteArray × Int)) × (List (Int × Bool)) × ByteArray) (k : Int) (hk : (0 ≤ k ∧ k + tsum a.1.2 + 2 * a.2.1.length + 2 * a.2.2.1.length ≤ 1000000000) ∧ a.1.2.length ≤ 1000000000) : FC Try.prog 20 [(true, [dI a.1.1, .ref 0, .ref 1, .ref 2, dS a.2.2.2]), (false, [dI k])] [(0, some (.arr 146 (.pr (.sl 3 .int) (.sl 3 .int)) a.1.2)), (1, some (.arr 129 (.pr .str .int) a.2.1)), (2, some (.arr 131 (.pr .int .bool) a.2.2.1))] 3 (Is (lf (dI ((mSTG a k).2))) [(0, some (.arr 146 (.pr (.sl 3 .int) (.sl 3 .int)) ((mSTG a k).1.1.2))), (1, some (.arr 129 (.pr .str .int) ((mSTG a k).1.2.1))), (2, some (.arr 131 (.pr .int .bool) ((mSTG a k).1.2.2.1)))]) := by
  have hs1 := mT_sum a.1.2 k
  have hs2 := mS_sum a.2.1 (marks fT a.1.2 k).2
  obtain ⟨O_, hO⟩ : ∃ x : PV → Tab → Prop, x = Is (lf (dI ((mSTG a k).2))) [(0, some (.arr 146 (.pr (.sl 3 .int) (.sl 3 .int)) ((mSTG a k).1.1.2))), (1, some (.arr 129 (.pr .str .int) ((mSTG a k).1.2.1))), (2, some (.arr 131 (.pr .int .bool) ((mSTG a k).1.2.2.1)))] := ⟨_, rfl⟩
  refine FC.O_of hO (FC.ren (FC.of Try.func20 rfl rfl fun A_ hn_ hk_ => ?_))
  obtain ⟨w0_, N0_, X_, n_, k0_, h0_, f0_⟩ := A_
  obtain rfl : n_ = 18 := hn_.trans Try.ntmps20
  obtain rfl : k0_ = 3 := hk_
  refine AC.fact (fact_ag (x := .tmp 0) (i := 0) (Ev.tmp rfl) rfl) fun hi1 => ?_
  refine AC.fact (fact_int (x := .tmp 1) (Evl.tmp rfl)) fun hi2 => ?_
  refine AC.seq ?_
  refine AC.region ?_
  refine AL.cons rfl (Does.box 3 (Ev.tmp rfl) rfl rfl (Fresh.of rfl) (Nat.le_of_ble_eq_true rfl)) ?_
  refine AL.cons rfl (Does.assignC (Evl.int rfl) rfl) ?_
  refine AL.nil ?_
  refine (?_ : AC _ _ _ _ _)
  refine AC.seq ?_
  refine AC.region ?_
  refine AL.cons rfl (Does.fieldP (Evl.tmp rfl) fld_50_0 rfl rfl) ?_
  refine AL.cons rfl (Does.loadPA (Evl.tmp rfl) rfl tsh_47 rfl rfl) ?_
  refine AL.cons rfl (Does.move rfl rfl) ?_
  refine AL.cons rfl (Does.callP 4 [(0, 0)] (fc_laws_markNet a.1 k (by omega)) enters_63 ⟨_, _, rfl, (Ev.tmp rfl), ⟨_, _, rfl, (Ev.tmp rfl), rfl⟩⟩ ⟨rfl, trivial⟩ rfl ⟨trivial, trivial⟩ (Nat.le_of_ble_eq_true rfl)) ?_
  refine AL.cons rfl (Does.assign rfl rfl) ?_
  refine AL.nil ?_
  refine (?_ : AC _ _ _ _ _)
  refine AC.seq ?_
  refine AC.region ?_
  refine AL.cons rfl (Does.fieldP (Evl.tmp rfl) fld_50_1 rfl rfl) ?_
  refine AL.cons rfl (Does.loadP (Evl.tmp rfl) rfl tsh_29 rfl rfl) ?_
  refine AL.cons rfl (Does.move rfl rfl) ?_
  refine AL.cons rfl (Does.callP 5 [(0, 1)] (fc_laws_markSignalS a.2.1 ((marks fT a.1.2 k).2) (by omega)) enters_64 ⟨_, _, rfl, (Ev.tmp rfl), ⟨_, _, rfl, (Ev.tmp rfl), rfl⟩⟩ ⟨rfl, trivial⟩ rfl ⟨trivial, trivial⟩ (Nat.le_of_ble_eq_true rfl)) ?_
  refine AL.cons rfl (Does.assign rfl rfl) ?_
  refine AL.nil ?_
  refine (?_ : AC _ _ _ _ _)
  refine AC.seq ?_
  refine AC.region ?_
  refine AL.cons rfl (Does.fieldP (Evl.tmp rfl) fld_50_2 rfl rfl) ?_
  refine AL.cons rfl (Does.loadP (Evl.tmp rfl) rfl tsh_48 rfl rfl) ?_
  refine AL.cons rfl (Does.move rfl rfl) ?_
  refine AL.cons rfl (Does.callP 6 [(0, 2)] (fc_laws_markLabelS a.2.2.1 ((marks fS a.2.1 ((marks fT a.1.2 k).2)).2) (by omega)) enters_65 ⟨_, _, rfl, (Ev.tmp rfl), ⟨_, _, rfl, (Ev.tmp rfl), rfl⟩⟩ ⟨rfl, trivial⟩ rfl ⟨trivial, trivial⟩ (Nat.le_of_ble_eq_true rfl)) ?_
  refine AL.cons rfl (Does.assign rfl rfl) ?_
  refine AL.nil ?_
  refine (?_ : AC _ _ _ _ _)
  refine AC.seq ?_
  refine AC.region ?_
  refine AL.cons rfl (Does.move rfl rfl) ?_
  refine AL.cons rfl (Does.assign rfl rfl) ?_
  refine AL.nil ?_
  refine (?_ : AC _ _ _ _ _)
  refine AC.ret ?_
  subst hO
  have e3 : ((marks fL a.2.2.1 ((marks fS a.2.1 ((marks fT a.1.2 k).2)).2)).2 : Int) = (mSTG a k).2 := by
    rfl
  exact fin_is (lf (dI ((mSTG a k).2))) [(0, some (.arr 146 (.pr (.sl 3 .int) (.sl 3 .int)) ((mSTG a k).1.1.2))), (1, some (.arr 129 (.pr .str .int) ((mSTG a k).1.2.1))), (2, some (.arr 131 (.pr .int .bool) ((mSTG a k).1.2.2.1)))] [(0, 0), (1, 1), (2, 2)] (Res.one rfl (Rs.tmp rfl)) (show lf (dI ((marks fL a.2.2.1 ((marks fS a.2.1 ((marks fT a.1.2 k).2)).2)).2)) = lf (dI ((mSTG a k).2)) by exact (congrArg (fun z_ => lf (dI z_)) e3)) ⟨(show some (Ent.arr 146 (.pr (.sl 3 .int) (.sl 3 .int)) ((marks fT a.1.2 k).1)) = some (Ent.arr 146 (.pr (.sl 3 .int) (.sl 3 .int)) ((mSTG a k).1.1.2)) from congrArg (fun z => some (Ent.arr 146 (.pr (.sl 3 .int) (.sl 3 .int)) z)) (by rfl)), (show some (Ent.arr 129 (.pr .str .int) ((marks fS a.2.1 ((marks fT a.1.2 k).2)).1)) = some (Ent.arr 129 (.pr .str .int) ((mSTG a k).1.2.1)) from congrArg (fun z => some (Ent.arr 129 (.pr .str .int) z)) (by rfl)), (show some (Ent.arr 131 (.pr .int .bool) ((marks fL a.2.2.1 ((marks fS a.2.1 ((marks fT a.1.2 k).2)).2)).1)) = some (Ent.arr 131 (.pr .int .bool) ((mSTG a k).1.2.2.1)) from congrArg (fun z => some (Ent.arr 131 (.pr .int .bool) z)) (by rfl)), trivial⟩ rfl rfl

set_option maxRecDepth 100000 in
set_option maxHeartbeats 4000000 in
theorem fc_laws_heldSTG (a : (Int × (List (List Int × List Int))) × (List (ByteArray × Int)) × (List (Int × Bool)) × ByteArray) (k : Int) (l : DSTG) (hm : a = (mSTG l k).1) (hk : (0 ≤ k ∧ k + tsum l.1.2 + 2 * l.2.1.length + 2 * l.2.2.1.length ≤ 1000000000) ∧ l.1.2.length ≤ 1000000000) : FC Try.prog 21 [(true, [dI a.1.1, .dat (.sl 146 (.pr (.sl 3 .int) (.sl 3 .int))) a.1.2, .dat (.sl 129 (.pr .str .int)) a.2.1, .dat (.sl 131 (.pr .int .bool)) a.2.2.1, dS a.2.2.2]), (false, [dI k])] [] 0 (Pure (lf (dI ((mSTG l k).2)))) := by
  have hs1 := mT_sum l.1.2 k
  have hs2 := mS_sum l.2.1 (marks fT l.1.2 k).2
  have hs3 := mL_sum l.2.2.1 (marks fS l.2.1 (marks fT l.1.2 k).2).2
  have hm1 : a.1.2 = (marks fT l.1.2 k).1 := by rw [hm]; rfl
  have hm2 : a.2.1 = (marks fS l.2.1 (marks fT l.1.2 k).2).1 := by rw [hm]; rfl
  have hm3 : a.2.2.1 = (marks fL l.2.2.1 (marks fS l.2.1 (marks fT l.1.2 k).2).2).1 := by rw [hm]; rfl
  have hl1 : a.1.2.length = l.1.2.length := by rw [hm1, marks_len]
  have hl2 : a.2.1.length = l.2.1.length := by rw [hm2, marks_len]
  have hl3 : a.2.2.1.length = l.2.2.1.length := by rw [hm3, marks_len]
  obtain ⟨O_, hO⟩ : ∃ x : PV → Tab → Prop, x = Pure (lf (dI ((mSTG l k).2))) := ⟨_, rfl⟩
  refine FC.O_of hO (FC.ren (FC.of Try.func21 rfl rfl fun A_ hn_ hk_ => ?_))
  obtain ⟨w0_, N0_, X_, n_, k0_, h0_, f0_⟩ := A_
  obtain rfl : n_ = 24 := hn_.trans Try.ntmps21
  obtain rfl : k0_ = 0 := hk_
  refine AC.fact (fact_ag (x := .tmp 0) (i := 0) (Ev.tmp rfl) rfl) fun hi1 => ?_
  refine AC.fact (fact_int (x := .tmp 1) (Evl.tmp rfl)) fun hi2 => ?_
  refine AC.seq ?_
  refine AC.region ?_
  refine AL.cons rfl (Does.box 0 (Ev.tmp rfl) rfl rfl (Fresh.of rfl) (Nat.le_of_ble_eq_true rfl)) ?_
  refine AL.cons rfl (Does.assignC (Evl.int rfl) rfl) ?_
  refine AL.nil ?_
  refine (?_ : AC _ _ _ _ _)
  refine AC.seq ?_
  refine AC.region ?_
  refine AL.cons rfl (Does.fieldP (Evl.tmp rfl) fld_50_0 rfl rfl) ?_
  refine AL.cons rfl (Does.loadPA (Evl.tmp rfl) rfl tsh_47 rfl rfl) ?_
  refine AL.cons rfl (Does.move rfl rfl) ?_
  refine AL.cons rfl (Does.call (fc_laws_heldNet a.1 k l.1.2 hm1 (by omega)) enters_66 ⟨_, _, rfl, (Ev.tmp rfl), ⟨_, _, rfl, (Ev.tmp rfl), rfl⟩⟩ rfl rfl) ?_
  refine AL.cons rfl (Does.assign rfl rfl) ?_
  refine AL.nil ?_
  refine (?_ : AC _ _ _ _ _)
  refine AC.seq ?_
  refine AC.seq ?_
  refine AC.region ?_
  refine AL.cons rfl (Does.move rfl rfl) ?_
  refine AL.cons rfl (Does.lss (Evl.tmp rfl) (Evl.int rfl) rfl) ?_
  refine AL.nil ?_
  refine (?_ : AC _ _ _ _ _)
  cases hb3 : (decide (((marks fT l.1.2 k).2) < 0))
  · have _h := hb3
    have hb3' : ¬ (((marks fT l.1.2 k).2) < 0) := of_decide_eq_false hb3
    refine AC.condF (Evl.tmp rfl) ?_
    refine AC.skip ?_
    refine (?_ : AC _ _ _ _ _)
    refine AC.seq ?_
    refine AC.region ?_
    refine AL.cons rfl (Does.fieldP (Evl.tmp rfl) fld_50_1 rfl rfl) ?_
    refine AL.cons rfl (Does.loadP (Evl.tmp rfl) rfl tsh_29 rfl rfl) ?_
    refine AL.cons rfl (Does.move rfl rfl) ?_
    refine AL.cons rfl (Does.call (fc_laws_heldSignalS a.2.1 ((marks fT l.1.2 k).2) l.2.1 hm2 (by omega)) enters_67 ⟨_, _, rfl, (Ev.tmp rfl), ⟨_, _, rfl, (Ev.tmp rfl), rfl⟩⟩ rfl rfl) ?_
    refine AL.cons rfl (Does.assign rfl rfl) ?_
    refine AL.nil ?_
    refine (?_ : AC _ _ _ _ _)
    refine AC.seq ?_
    refine AC.seq ?_
    refine AC.region ?_
    refine AL.cons rfl (Does.move rfl rfl) ?_
    refine AL.cons rfl (Does.lss (Evl.tmp rfl) (Evl.int rfl) rfl) ?_
    refine AL.nil ?_
    refine (?_ : AC _ _ _ _ _)
    cases hb4 : (decide (((marks fS l.2.1 ((marks fT l.1.2 k).2)).2) < 0))
    · have _h := hb4
      have hb4' : ¬ (((marks fS l.2.1 ((marks fT l.1.2 k).2)).2) < 0) := of_decide_eq_false hb4
      refine AC.condF (Evl.tmp rfl) ?_
      refine AC.skip ?_
      refine (?_ : AC _ _ _ _ _)
      refine AC.seq ?_
      refine AC.region ?_
      refine AL.cons rfl (Does.fieldP (Evl.tmp rfl) fld_50_2 rfl rfl) ?_
      refine AL.cons rfl (Does.loadP (Evl.tmp rfl) rfl tsh_48 rfl rfl) ?_
      refine AL.cons rfl (Does.move rfl rfl) ?_
      refine AL.cons rfl (Does.call (fc_laws_heldLabelS a.2.2.1 ((marks fS l.2.1 ((marks fT l.1.2 k).2)).2) l.2.2.1 hm3 (by omega)) enters_68 ⟨_, _, rfl, (Ev.tmp rfl), ⟨_, _, rfl, (Ev.tmp rfl), rfl⟩⟩ rfl rfl) ?_
      refine AL.cons rfl (Does.assign rfl rfl) ?_
      refine AL.nil ?_
      refine (?_ : AC _ _ _ _ _)
      refine AC.seq ?_
      refine AC.seq ?_
      refine AC.region ?_
      refine AL.cons rfl (Does.move rfl rfl) ?_
      refine AL.cons rfl (Does.lss (Evl.tmp rfl) (Evl.int rfl) rfl) ?_
      refine AL.nil ?_
      refine (?_ : AC _ _ _ _ _)
      cases hb5 : (decide (((marks fL l.2.2.1 ((marks fS l.2.1 ((marks fT l.1.2 k).2)).2)).2) < 0))
      · have _h := hb5
        have hb5' : ¬ (((marks fL l.2.2.1 ((marks fS l.2.1 ((marks fT l.1.2 k).2)).2)).2) < 0) := of_decide_eq_false hb5
        refine AC.condF (Evl.tmp rfl) ?_
        refine AC.skip ?_
        refine (?_ : AC _ _ _ _ _)
        refine AC.seq ?_
        refine AC.region ?_
        refine AL.cons rfl (Does.move rfl rfl) ?_
        refine AL.cons rfl (Does.assign rfl rfl) ?_
        refine AL.nil ?_
        refine (?_ : AC _ _ _ _ _)
        refine AC.ret ?_
        subst hO
        have e6 : ((marks fL l.2.2.1 ((marks fS l.2.1 ((marks fT l.1.2 k).2)).2)).2 : Int) = (mSTG l k).2 := by
          first | rfl | (exfalso; omega)
        exact fin_pure (Res.one rfl (Rs.tmp rfl)) ((congrArg (fun z_ => lf (dI z_)) e6)) rfl
      · have _h := hb5
        have hb5' : (((marks fL l.2.2.1 ((marks fS l.2.1 ((marks fT l.1.2 k).2)).2)).2) < 0) := of_decide_eq_true hb5
        refine AC.condT (Evl.tmp rfl) ?_
        refine AC.seq ?_
        refine AC.region ?_
        refine AL.cons rfl (Does.assignC (Evl.int rfl) rfl) ?_
        refine AL.nil ?_
        refine (?_ : AC _ _ _ _ _)
        refine AC.ret ?_
        subst hO
        have e7 : ((-1) : Int) = (mSTG l k).2 := by
          first | rfl | (exfalso; omega)
        exact fin_pure (Res.one rfl (Rs.tmp rfl)) ((congrArg (fun z_ => lf (dI z_)) e7)) rfl
    · have _h := hb4
      have hb4' : (((marks fS l.2.1 ((marks fT l.1.2 k).2)).2) < 0) := of_decide_eq_true hb4
      refine AC.condT (Evl.tmp rfl) ?_
      refine AC.seq ?_
      refine AC.region ?_
      refine AL.cons rfl (Does.assignC (Evl.int rfl) rfl) ?_
      refine AL.nil ?_
      refine (?_ : AC _ _ _ _ _)
      refine AC.ret ?_
      subst hO
      have e8 : ((-1) : Int) = (mSTG l k).2 := by
        first | rfl | (exfalso; omega)
      exact fin_pure (Res.one rfl (Rs.tmp rfl)) ((congrArg (fun z_ => lf (dI z_)) e8)) rfl
  · have _h := hb3
    have hb3' : (((marks fT l.1.2 k).2) < 0) := of_decide_eq_true hb3
    refine AC.condT (Evl.tmp rfl) ?_
    refine AC.seq ?_
    refine AC.region ?_
    refine AL.cons rfl (Does.assignC (Evl.int rfl) rfl) ?_
    refine AL.nil ?_
    refine (?_ : AC _ _ _ _ _)
    refine AC.ret ?_
    subst hO
    have e9 : ((-1) : Int) = (mSTG l k).2 := by
      first | rfl | (exfalso; omega)
    exact fin_pure (Res.one rfl (Rs.tmp rfl)) ((congrArg (fun z_ => lf (dI z_)) e9)) rfl

end Go.Proofs.Ytbelopdphlllnaa
