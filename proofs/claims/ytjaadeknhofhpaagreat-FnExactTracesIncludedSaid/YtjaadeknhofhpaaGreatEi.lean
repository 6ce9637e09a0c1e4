/- laws.FnExactTracesIncluded walked. -/
import Derived.Test.YtjaadeknhofhpaaGreatEh
import Derived.Test.YtjaadeknhofhpaaGreatWh
set_option linter.unusedSimpArgs false
set_option linter.unusedVariables false
set_option linter.unusedSectionVars false
namespace Go.Proofs.YtjaadeknhofhpaaGreat
open Go.RowKit
set_option maxRecDepth 100000
set_option maxHeartbeats 4000000

theorem fc_laws_FnExactTracesIncluded (aA : (Int × (List (List Int × List Int))) × (List (ByteArray × Int)) × (List (Int × Bool)) × ByteArray) (aB : (Int × (List (List Int × List Int))) × (List (ByteArray × Int)) × (List (Int × Bool)) × ByteArray) (aMost : Int)  : FC Tryz.prog 5 [(true, [dI aA.1.1, .dat (.sl 303 (.pr (.sl 3 .int) (.sl 3 .int))) aA.1.2, .dat (.sl 225 (.pr .str .int)) aA.2.1, .dat (.sl 239 (.pr .int .bool)) aA.2.2.1, dS aA.2.2.2]), (true, [dI aB.1.1, .dat (.sl 303 (.pr (.sl 3 .int) (.sl 3 .int))) aB.1.2, .dat (.sl 225 (.pr .str .int)) aB.2.1, .dat (.sl 239 (.pr .int .bool)) aB.2.2.1, dS aB.2.2.2]), (false, [dI aMost])] [] 0 (Pure (lB true)) := by
 classical
 have hs := szv_spec 1048576 (Ty.tot lSTG aA)
 have hs2 := szv_spec (szv 1048576 (Ty.tot lSTG aA)) (Ty.tot lSTG aB)
 refine FC.go Tryz.func5 rfl rfl Tryz.ntmps5 fun O_ hO w0_ N0_ X_ h0_ f0_ => ?_
 refine AC.fact (fact_ag (x := .tmp 0) (i := 0) (Ev.tmp rfl) rfl) fun hi1 => AC.fact (fact_ag (x := .tmp 1) (i := 0) (Ev.tmp rfl) rfl) fun hi2 => AC.fact (fact_int (x := .tmp 2) (Evl.tmp rfl)) fun hi3 => ?_
 refine w_ ?_
 refine xbx 0 ?_
 refine xbx 1 ?_
 iterate 8 refine w_ ?_
 refine lc (dK (fc_szSTG aA 1048576 (by omega) (by omega)) enters_30) ?_
 iterate 7 refine w_ ?_
 cases hb4 : (decide ((szv 1048576 (Ty.tot lSTG aA)) < 0))
 ·have hb4' := of_decide_eq_false hb4
  iterate 5 refine w_ ?_
  refine lc (dK (fc_szSTG aB (szv 1048576 (Ty.tot lSTG aA)) (by omega) (by omega)) enters_30) ?_
  iterate 7 refine w_ ?_
  cases hb5 : (decide ((szv (szv 1048576 (Ty.tot lSTG aA)) (Ty.tot lSTG aB)) < 0))
  ·have hb5' := of_decide_eq_false hb5
   iterate 2 refine w_ ?_
   apply dW [io 25 _, ⟨some 26, ag [dI aA.1.1, .ref 2, .ref 3, .ref 4, dS aA.2.2.2], [(2, some (.arr 198 (.pr (.sl 3 .int) (.sl 3 .int)) aA.1.2)), (3, some (.arr 90 (.pr .str .int) aA.2.1)), (4, some (.arr 55 (.pr .int .bool) aA.2.2.1))]⟩, io 27 (ag [dI aB.1.1, .dat (.sl 303 (.pr (.sl 3 .int) (.sl 3 .int))) aB.1.2, .dat (.sl 225 (.pr .str .int)) aB.2.1, .dat (.sl 239 (.pr .int .bool)) aB.2.2.1, dS aB.2.2.2]), ⟨some 28, ag [dI aB.1.1, .ref 5, .ref 6, .ref 7, dS aB.2.2.2], [(5, some (.arr 198 (.pr (.sl 3 .int) (.sl 3 .int)) aB.1.2)), (6, some (.arr 90 (.pr .str .int) aB.2.1)), (7, some (.arr 55 (.pr .int .bool) aB.2.2.1))]⟩, io 29 (lI aMost), io 30 (PV.tup [(false, [dB ((tiV aA aB aMost).1)]), (false, [dB ((tiV aA aB aMost).2)])]), io 24 _, io 31 _, io 32 _, io 8 _, io 9 _] [0, 0, 3, 0, 15, 0, 0, 0, 128, 256, 0]
   refine z_ ?_
   refine zz (fun _ h_ => ac (dG 2 (fc_toSTG aA (by omega)) enters_32) rfl) ?_
   refine z_ ?_
   refine zz (fun _ h_ => ac (dG 5 (fc_toSTG aB (by omega)) enters_32) rfl) ?_
   refine z_ ?_
   refine zz (fun _ h_ => ac (Does.callB (fc_spec_TracesIncluded aA aB aMost) enters_31 ⟨_, _, rfl, (Ev.ob (h_.w rfl) ⟨_, _, rfl, .inl rfl, ⟨_, _, rfl, .inr ⟨_, _, _, _, rfl, (h_.n 2 rfl), rfl⟩, ⟨_, _, rfl, .inr ⟨_, _, _, _, rfl, (h_.n 3 rfl), rfl⟩, ⟨_, _, rfl, .inr ⟨_, _, _, _, rfl, (h_.n 4 rfl), rfl⟩, ⟨_, _, rfl, .inl rfl, rfl⟩⟩⟩⟩⟩), ⟨_, _, rfl, (Ev.ob (h_.w rfl) ⟨_, _, rfl, .inl rfl, ⟨_, _, rfl, .inr ⟨_, _, _, _, rfl, (h_.n 5 rfl), rfl⟩, ⟨_, _, rfl, .inr ⟨_, _, _, _, rfl, (h_.n 6 rfl), rfl⟩, ⟨_, _, rfl, .inr ⟨_, _, _, _, rfl, (h_.n 7 rfl), rfl⟩, ⟨_, _, rfl, .inl rfl, rfl⟩⟩⟩⟩⟩), ⟨_, _, rfl, (Ev.b (h_.w rfl)), rfl⟩⟩⟩ rfl rfl rfl) rfl) ?_
   iterate 5 refine z_ ?_
   exact zN
   iterate 2 refine w_ ?_
   refine lc (dG 8 (fc_toSTG aA (by omega)) enters_32) ?_
   refine lc (xal 11 (.pr (.pr .int (.sl 198 (.pr (.sl 3 .int) (.sl 3 .int)))) (.pr (.sl 90 (.pr .str .int)) (.pr (.sl 55 (.pr .int .bool)) .str))) zer_29) ?_
   iterate 4 refine w_ ?_
   refine lc (dG 12 (fc_toSTG aB (by omega)) enters_32) ?_
   refine lc (xal 15 (.pr (.pr .int (.sl 198 (.pr (.sl 3 .int) (.sl 3 .int)))) (.pr (.sl 90 (.pr .str .int)) (.pr (.sl 55 (.pr .int .bool)) .str))) zer_29) ?_
   iterate 6 refine w_ ?_
   refine lc (Does.callB (fc_impl_TracesIncluded aA aB aMost) enters_33 ⟨_, _, rfl, (Ev.ob (Ev.tmp rfl) ⟨_, _, rfl, .inl rfl, ⟨_, _, rfl, .inr ⟨_, _, _, _, rfl, rfl, rfl⟩, ⟨_, _, rfl, .inr ⟨_, _, _, _, rfl, rfl, rfl⟩, ⟨_, _, rfl, .inr ⟨_, _, _, _, rfl, rfl, rfl⟩, ⟨_, _, rfl, .inl rfl, rfl⟩⟩⟩⟩⟩), ⟨_, _, rfl, (Ev.ob (Ev.tmp rfl) ⟨_, _, rfl, .inl rfl, ⟨_, _, rfl, .inr ⟨_, _, _, _, rfl, rfl, rfl⟩, ⟨_, _, rfl, .inr ⟨_, _, _, _, rfl, rfl, rfl⟩, ⟨_, _, rfl, .inr ⟨_, _, _, _, rfl, rfl, rfl⟩, ⟨_, _, rfl, .inl rfl, rfl⟩⟩⟩⟩⟩), ⟨_, _, rfl, (Ev.b (Ev.tmp rfl)), rfl⟩⟩⟩ rfl rfl rfl) ?_
   iterate 10 refine w_ ?_
   refine lc (Does.neqB (Evl.tmp rfl) (Evl.tmp rfl) rfl und_4) ?_
   refine w_ ?_
   cases hb6 : (((tiV aA aB aMost).1) == ((tiV aA aB aMost).1))
   ·iterate 9 refine w_ ?_
    refine AC.ret ?_
    subst hO
    have e7 : (false : Bool) = true := by
     exfalso; first | omega | (simp at hb6; done)
    exact fin_pure (Res.one rfl (Rs.tmp rfl)) ((congrArg (fun z_ => lB z_) e7)) rfl
   ·iterate 2 refine w_ ?_
    refine lgy rfl rfl (Does.neqB (Evl.tmp rfl) (Evl.tmp rfl) rfl und_4) ?_
    iterate 2 refine w_ ?_
    cases hb8 : (((tiV aA aB aMost).2) == ((tiV aA aB aMost).2))
    ·iterate 4 refine w_ ?_
     refine AC.ret ?_
     subst hO
     have e9 : (false : Bool) = true := by
      exfalso; first | omega | (simp at hb8; done)
     exact fin_pure (Res.one rfl (Rs.tmp rfl)) ((congrArg (fun z_ => lB z_) e9)) rfl
    ·iterate 3 refine w_ ?_
     apply dW [io 52 _, io 53 _, ⟨some 54, ag [dI aA.1.1, .ref 16, .ref 17, .ref 18, dS aA.2.2.2], [(16, some (.arr 198 (.pr (.sl 3 .int) (.sl 3 .int)) aA.1.2)), (17, some (.arr 90 (.pr .str .int) aA.2.1)), (18, some (.arr 55 (.pr .int .bool) aA.2.2.1))]⟩, io 55 (lB true), io 56 _] [0, 1, 1, 0, 0]
     iterate 2 refine z_ ?_
     refine zz (fun _ h_ => ac (dG 16 (fc_toSTG aA (by omega)) enters_32) rfl) ?_
     refine zz (fun _ h_ => ac (Does.callB (fc_eqSTG aA aA rfl) enters_34 ⟨_, _, rfl, (Ev.ob (h_.w rfl) ⟨_, _, rfl, .inl rfl, ⟨_, _, rfl, .inr ⟨_, _, _, _, rfl, (h_.n 8 rfl), rfl⟩, ⟨_, _, rfl, .inr ⟨_, _, _, _, rfl, (h_.n 9 rfl), rfl⟩, ⟨_, _, rfl, .inr ⟨_, _, _, _, rfl, (h_.n 10 rfl), rfl⟩, ⟨_, _, rfl, .inl rfl, rfl⟩⟩⟩⟩⟩), ⟨_, _, rfl, (Ev.ob (h_.w rfl) ⟨_, _, rfl, .inl rfl, ⟨_, _, rfl, .inr ⟨_, _, _, _, rfl, (h_.n 16 rfl), rfl⟩, ⟨_, _, rfl, .inr ⟨_, _, _, _, rfl, (h_.n 17 rfl), rfl⟩, ⟨_, _, rfl, .inr ⟨_, _, _, _, rfl, (h_.n 18 rfl), rfl⟩, ⟨_, _, rfl, .inl rfl, rfl⟩⟩⟩⟩⟩), rfl⟩⟩ rfl rfl rfl) rfl) ?_
     refine z_ ?_
     exact zN
     iterate 3 refine w_ ?_
     apply dW [io 57 _, io 58 _, ⟨some 59, ag [dI aB.1.1, .ref 19, .ref 20, .ref 21, dS aB.2.2.2], [(19, some (.arr 198 (.pr (.sl 3 .int) (.sl 3 .int)) aB.1.2)), (20, some (.arr 90 (.pr .str .int) aB.2.1)), (21, some (.arr 55 (.pr .int .bool) aB.2.2.1))]⟩, io 60 (lB true), io 61 _] [0, 1, 1, 0, 0]
     iterate 2 refine z_ ?_
     refine zz (fun _ h_ => ac (dG 19 (fc_toSTG aB (by omega)) enters_32) rfl) ?_
     refine zz (fun _ h_ => ac (Does.callB (fc_eqSTG aB aB rfl) enters_34 ⟨_, _, rfl, (Ev.ob (h_.w rfl) ⟨_, _, rfl, .inl rfl, ⟨_, _, rfl, .inr ⟨_, _, _, _, rfl, (h_.n 12 rfl), rfl⟩, ⟨_, _, rfl, .inr ⟨_, _, _, _, rfl, (h_.n 13 rfl), rfl⟩, ⟨_, _, rfl, .inr ⟨_, _, _, _, rfl, (h_.n 14 rfl), rfl⟩, ⟨_, _, rfl, .inl rfl, rfl⟩⟩⟩⟩⟩), ⟨_, _, rfl, (Ev.ob (h_.w rfl) ⟨_, _, rfl, .inl rfl, ⟨_, _, rfl, .inr ⟨_, _, _, _, rfl, (h_.n 19 rfl), rfl⟩, ⟨_, _, rfl, .inr ⟨_, _, _, _, rfl, (h_.n 20 rfl), rfl⟩, ⟨_, _, rfl, .inr ⟨_, _, _, _, rfl, (h_.n 21 rfl), rfl⟩, ⟨_, _, rfl, .inl rfl, rfl⟩⟩⟩⟩⟩), rfl⟩⟩ rfl rfl rfl) rfl) ?_
     refine z_ ?_
     exact zN
     iterate 5 refine w_ ?_
     refine AC.ret ?_
     subst hO
     exact fin_pure (Res.one rfl (Rs.tmp rfl)) rfl rfl
  ·have hb5' := of_decide_eq_true hb5
   iterate 4 refine w_ ?_
   refine AC.ret ?_
   subst hO
   exact fin_pure (Res.one rfl (Rs.tmp rfl)) rfl rfl
 ·have hb4' := of_decide_eq_true hb4
  iterate 4 refine w_ ?_
  refine AC.ret ?_
  subst hO
  exact fin_pure (Res.one rfl (Rs.tmp rfl)) rfl rfl

end Go.Proofs.YtjaadeknhofhpaaGreat
