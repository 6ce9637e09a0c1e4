/- laws.FnExactAdmissibleOrderings walked. -/
import Derived.Test.YtnakmhfjafecpaaGreatCj
import Derived.Test.YtnakmhfjafecpaaGreatWj
set_option linter.unusedSimpArgs false
set_option linter.unusedVariables false
set_option linter.unusedSectionVars false
namespace Go.Proofs.YtnakmhfjafecpaaGreat
open Go.RowKit
set_option maxRecDepth 100000
set_option maxHeartbeats 4000000

theorem admV_few [∀ s, Decidable (StgOk s)] (s : DSTG) : (admV s).length ≤ 5000 := by
  unfold admV
  split
  · rename_i h
    have hn := exploreV_net (sgV_exp h)
    have h1 := allO_len (s := s) (P := concV s) hn s.1.2.length
    show (allO s (concV s) s.1.2.length s.1.2.length).length ≤ _
    omega
  · exact Nat.zero_le _

theorem fc_laws_FnExactAdmissibleOrderings (aS : (Int × (List (List Int × List Int))) × (List (ByteArray × Int)) × (List (Int × Bool)) × ByteArray)  : FC Tryz.prog 7 [(true, [dI aS.1.1, .dat (.sl 222 (.pr (.sl 3 .int) (.sl 3 .int))) aS.1.2, .dat (.sl 153 (.pr .str .int)) aS.2.1, .dat (.sl 51 (.pr .int .bool)) aS.2.2.1, dS aS.2.2.2])] [] 0 (Pure (lB true)) := by
 classical
 have hs := szv_spec 1048576 (Ty.tot lSTG aS)
 have ht : Ty.tot tSTG aS = Ty.tot lSTG aS := rfl
 have hc := mSTG_cnt aS 1
 have hvl := admV_few aS
 have hms := mk_f_Ordering_sum (admV aS) 1
 refine FC.go Tryz.func7 rfl rfl Tryz.ntmps7 fun O_ hO w0_ N0_ X_ h0_ f0_ => ?_
 refine AC.fact (fact_ag (x := .tmp 0) (i := 0) (Ev.tmp rfl) rfl) fun hi1 => ?_
 refine w_ ?_
 refine lc (Does.box 0 (Ev.tmp rfl) rfl rfl (Fresh.of rfl) (nlr rfl)) ?_
 iterate 8 refine w_ ?_
 refine lc (Does.call (fc_szSTG aS 1048576 (by omega) (by omega)) enters_11 ⟨_, _, rfl, (Ev.tmp rfl), ⟨_, _, rfl, (Ev.tmp rfl), rfl⟩⟩ rfl rfl) ?_
 iterate 7 refine w_ ?_
 cases hb2 : (decide ((szv 1048576 (Ty.tot lSTG aS)) < 0))
 ·have hb2' := of_decide_eq_false hb2
  iterate 4 refine w_ ?_
  refine lc (Does.callG 1 (fc_toSTG aS (by omega)) enters_13 ⟨_, _, rfl, (Ev.tmp rfl), rfl⟩ rfl rfl ⟨Fresh.of rfl, Fresh.of rfl, Fresh.of rfl, trivial⟩ (nlr rfl)) <| lc (Does.callGB 4 (fc_spec_AdmissibleOrderings aS (by omega)) enters_35 ⟨_, _, rfl, (Ev.ob (Ev.tmp rfl) ⟨_, _, rfl, .inl rfl, ⟨_, _, rfl, .inr ⟨_, _, _, _, rfl, rfl, rfl⟩, ⟨_, _, rfl, .inr ⟨_, _, _, _, rfl, rfl, rfl⟩, ⟨_, _, rfl, .inr ⟨_, _, _, _, rfl, rfl, rfl⟩, ⟨_, _, rfl, .inl rfl, rfl⟩⟩⟩⟩⟩), rfl⟩ rfl rfl rfl ⟨Fresh.of rfl, trivial⟩ (nlr rfl)) ?_
  iterate 8 refine w_ ?_
  refine lc (Does.callG 5 (fc_toSTG aS (by omega)) enters_13 ⟨_, _, rfl, (Ev.tmp rfl), rfl⟩ rfl rfl ⟨Fresh.of rfl, Fresh.of rfl, Fresh.of rfl, trivial⟩ (nlr rfl)) <| lc (Does.alloc 8 (.pr (.pr .int (.sl 159 (.pr (.sl 3 .int) (.sl 3 .int)))) (.pr (.sl 145 (.pr .str .int)) (.pr (.sl 61 (.pr .int .bool)) .str))) zer_39 rfl rfl (Fresh.of rfl) (nlr rfl)) <| lc (Does.storeP (Evl.tmp rfl) rfl (Ev.tmp rfl) rfl tsh_39 rfl) ?_
  iterate 3 refine w_ ?_
  refine lc (Does.callGB 9 (fc_impl_AdmissibleOrderings aS (by omega)) enters_36 ⟨_, _, rfl, (Ev.ob (Ev.tmp rfl) ⟨_, _, rfl, .inl rfl, ⟨_, _, rfl, .inr ⟨_, _, _, _, rfl, rfl, rfl⟩, ⟨_, _, rfl, .inr ⟨_, _, _, _, rfl, rfl, rfl⟩, ⟨_, _, rfl, .inr ⟨_, _, _, _, rfl, rfl, rfl⟩, ⟨_, _, rfl, .inl rfl, rfl⟩⟩⟩⟩⟩), rfl⟩ rfl rfl rfl ⟨Fresh.of rfl, trivial⟩ (nlr rfl)) ?_
  iterate 10 refine w_ ?_
  refine lc (Does.callB (fc_eqOrderingS (admV aS) (admV aS) rfl) enters_37 ⟨_, _, rfl, (Evl.ob (Evl.tmp rfl) rfl), ⟨_, _, rfl, (Evl.ob (Evl.tmp rfl) rfl), rfl⟩⟩ rfl rfl rfl) ?_
  iterate 4 refine w_ ?_
  refine lgy rfl rfl (Does.neqB (Evl.tmp rfl) (Evl.tmp rfl) rfl und_4) ?_
  iterate 2 refine w_ ?_
  cases hb3 : (((sgV aS).2) == ((sgV aS).2))
  ·iterate 4 refine w_ ?_
   refine AC.ret ?_
   subst hO
   have e4 : (false : Bool) = true := by
    exfalso; first | omega | (simp at hb3; done)
   exact fin_pure (Res.one rfl (Rs.tmp rfl)) ((congrArg (fun z_ => lB z_) e4)) rfl
  ·iterate 3 refine w_ ?_
   refine dw [io 41 (ag [dI aS.1.1, .ref 5, .ref 6, .ref 7, dS aS.2.2.2]), io 42 (ag [dI aS.1.1, .dat (.sl 222 (.pr (.sl 3 .int) (.sl 3 .int))) aS.1.2, .dat (.sl 153 (.pr .str .int)) aS.2.1, .dat (.sl 51 (.pr .int .bool)) aS.2.2.1, dS aS.2.2.2]), ⟨some 43, ag [dI aS.1.1, .ref 10, .ref 11, .ref 12, dS aS.2.2.2], [(10, some (.arr 159 (.pr (.sl 3 .int) (.sl 3 .int)) aS.1.2)), (11, some (.arr 145 (.pr .str .int) aS.2.1)), (12, some (.arr 61 (.pr .int .bool) aS.2.2.1))]⟩, io 44 (lB true), io 45 (lB false)] [0, 0, 2, 7, 15] mixed rfl (by kernel_rfl) ⟨dxa tsh_39 rfl rfl rfl rfl, dxa tsh_28 rfl rfl rfl rfl, fun _ h_ => ac (Does.callG 10 (fc_toSTG aS (by omega)) enters_13 ⟨_, _, rfl, (h_.w rfl), rfl⟩ rfl rfl ⟨(h_.fr 10 rfl), (h_.fr 11 rfl), (h_.fr 12 rfl), trivial⟩ (nlr rfl)) rfl, fun _ h_ => ac (Does.callB (fc_eqSTG aS aS rfl) enters_16 ⟨_, _, rfl, (Ev.ob (h_.w rfl) ⟨_, _, rfl, .inl rfl, ⟨_, _, rfl, .inr ⟨_, _, _, _, rfl, (h_.n 5 rfl), rfl⟩, ⟨_, _, rfl, .inr ⟨_, _, _, _, rfl, (h_.n 6 rfl), rfl⟩, ⟨_, _, rfl, .inr ⟨_, _, _, _, rfl, (h_.n 7 rfl), rfl⟩, ⟨_, _, rfl, .inl rfl, rfl⟩⟩⟩⟩⟩), ⟨_, _, rfl, (Ev.ob (h_.w rfl) ⟨_, _, rfl, .inl rfl, ⟨_, _, rfl, .inr ⟨_, _, _, _, rfl, (h_.n 10 rfl), rfl⟩, ⟨_, _, rfl, .inr ⟨_, _, _, _, rfl, (h_.n 11 rfl), rfl⟩, ⟨_, _, rfl, .inr ⟨_, _, _, _, rfl, (h_.n 12 rfl), rfl⟩, ⟨_, _, rfl, .inl rfl, rfl⟩⟩⟩⟩⟩), rfl⟩⟩ rfl rfl rfl) rfl, fun _ h_ => ac (Does.not (h_.v rfl) rfl) rfl, ⟨⟩⟩ ?_
   iterate 8 refine w_ ?_
   refine lc (Does.callP 13 [(0, 5), (1, 6), (2, 7)] (fc_laws_markSTG aS 1 (mark_ok (by omega))) enters_17 ⟨_, _, rfl, (Ev.tmp rfl), ⟨_, _, rfl, (Ev.tmp rfl), rfl⟩⟩ ⟨rfl, rfl, rfl, trivial⟩ rfl ⟨trivial, trivial, trivial, trivial⟩ (nlr rfl)) ?_
   iterate 7 refine w_ ?_
   cases hb5 : (decide (((mSTG aS 1).2) < 0))
   ·have hb5' := of_decide_eq_false hb5
    iterate 2 refine w_ ?_
    refine lgy rfl rfl (Does.callB (fc_eqOrderingS (admV aS) (admV aS) rfl) enters_37 ⟨_, _, rfl, (Evl.ob (Evl.tmp rfl) rfl), ⟨_, _, rfl, (Evl.ob (Evl.tmp rfl) rfl), rfl⟩⟩ rfl rfl rfl) ?_
    iterate 5 refine w_ ?_
    refine lgy rfl rfl (Does.neqB (Evl.tmp rfl) (Evl.tmp rfl) rfl und_4) ?_
    iterate 2 refine w_ ?_
    have hb6 : (((sgV aS).2) == ((sgV aS).2)) = true := hb3
    try rw [hb6]
    iterate 8 refine w_ ?_
    refine lc (Does.callP 16 [(0, 9)] (fc_laws_markOrderingS (admV aS) 1 (by omega)) enters_38 ⟨_, _, rfl, (Ev.tmp rfl), ⟨_, _, rfl, (Ev.tmp rfl), rfl⟩⟩ ⟨rfl, trivial⟩ rfl ⟨trivial, trivial⟩ (nlr rfl)) ?_
    iterate 8 refine w_ ?_
    refine lc (Does.callB (fc_laws_heldOrderingS ((marks f_Ordering (admV aS) 1).1) 1 (admV aS) rfl (by rw [marks_len]; omega)) enters_39 ⟨_, _, rfl, (Evl.ob (Evl.tmp rfl) rfl), ⟨_, _, rfl, (Ev.b (Ev.tmp rfl)), rfl⟩⟩ rfl rfl rfl) ?_
    iterate 7 refine w_ ?_
    cases hb7 : (decide (((marks f_Ordering (admV aS) 1).2) < 0))
    ·have hb7' := of_decide_eq_false hb7
     iterate 8 refine w_ ?_
     cases hb8 : (!decide (((marks f_Ordering (admV aS) 1).2) = ((marks f_Ordering (admV aS) 1).2)))
     ·have hb8' : (((marks f_Ordering (admV aS) 1).2) = ((marks f_Ordering (admV aS) 1).2)) := nd_false hb8
      iterate 4 refine w_ ?_
      refine lc (Does.callG 17 (fc_toSTG aS (by omega)) enters_13 ⟨_, _, rfl, (Ev.tmp rfl), rfl⟩ rfl rfl ⟨Fresh.of rfl, Fresh.of rfl, Fresh.of rfl, trivial⟩ (nlr rfl)) <| lc (Does.callGB 20 (fc_impl_AdmissibleOrderings aS (by omega)) enters_36 ⟨_, _, rfl, (Ev.ob (Ev.tmp rfl) ⟨_, _, rfl, .inl rfl, ⟨_, _, rfl, .inr ⟨_, _, _, _, rfl, rfl, rfl⟩, ⟨_, _, rfl, .inr ⟨_, _, _, _, rfl, rfl, rfl⟩, ⟨_, _, rfl, .inr ⟨_, _, _, _, rfl, rfl, rfl⟩, ⟨_, _, rfl, .inl rfl, rfl⟩⟩⟩⟩⟩), rfl⟩ rfl rfl rfl ⟨Fresh.of rfl, trivial⟩ (nlr rfl)) ?_
      iterate 10 refine w_ ?_
      refine lc (Does.callB (fc_eqOrderingS (admV aS) (admV aS) rfl) enters_37 ⟨_, _, rfl, (Evl.ob (Evl.tmp rfl) rfl), ⟨_, _, rfl, (Evl.ob (Evl.tmp rfl) rfl), rfl⟩⟩ rfl rfl rfl) ?_
      iterate 4 refine w_ ?_
      refine lgy rfl rfl (Does.neqB (Evl.tmp rfl) (Evl.tmp rfl) rfl und_4) ?_
      iterate 2 refine w_ ?_
      have hb9 : (((sgV aS).2) == ((sgV aS).2)) = true := hb3
      try rw [hb9]
      iterate 8 refine w_ ?_
      refine lc (Does.callB (fc_laws_heldOrderingS ((marks f_Ordering (admV aS) 1).1) 1 (admV aS) rfl (by rw [marks_len]; omega)) enters_39 ⟨_, _, rfl, (Evl.ob (Evl.tmp rfl) rfl), ⟨_, _, rfl, (Ev.b (Ev.tmp rfl)), rfl⟩⟩ rfl rfl rfl) ?_
      iterate 7 refine w_ ?_
      have hb10 : (decide (((marks f_Ordering (admV aS) 1).2) < 0)) = false := hb7
      try rw [hb10]
      iterate 8 refine w_ ?_
      have hb11 : (!decide (((marks f_Ordering (admV aS) 1).2) = ((marks f_Ordering (admV aS) 1).2))) = false := nb_to (nb_of hb8)
      try rw [hb11]
      iterate 5 refine w_ ?_
      refine AC.ret ?_
      subst hO
      exact fin_pure (Res.one rfl (Rs.tmp rfl)) rfl rfl
     ·have hb8' : ¬ (((marks f_Ordering (admV aS) 1).2) = ((marks f_Ordering (admV aS) 1).2)) := nd_true hb8
      iterate 4 refine w_ ?_
      refine AC.ret ?_
      subst hO
      have e12 : (false : Bool) = true := by
       exfalso; first | omega | (simp at hb11; done)
      exact fin_pure (Res.one rfl (Rs.tmp rfl)) ((congrArg (fun z_ => lB z_) e12)) rfl
    ·have hb7' := of_decide_eq_true hb7
     iterate 4 refine w_ ?_
     refine AC.ret ?_
     subst hO
     have e13 : (false : Bool) = true := by
      exfalso; first | omega | (simp at hb11; done)
     exact fin_pure (Res.one rfl (Rs.tmp rfl)) ((congrArg (fun z_ => lB z_) e13)) rfl
   ·have hb5' := of_decide_eq_true hb5
    iterate 15 refine w_ ?_
    refine AC.ret ?_
    subst hO
    have e14 : (false : Bool) = true := by
     exfalso; first | omega | (simp at hb11; done)
    exact fin_pure (Res.one rfl (Rs.tmp rfl)) ((congrArg (fun z_ => lB z_) e14)) rfl
 ·have hb2' := of_decide_eq_true hb2
  iterate 4 refine w_ ?_
  refine AC.ret ?_
  subst hO
  exact fin_pure (Res.one rfl (Rs.tmp rfl)) rfl rfl

end Go.Proofs.YtnakmhfjafecpaaGreat
