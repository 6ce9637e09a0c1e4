/- Walks over abstract states: traces, the program. -/
import Derived.Test.YtjaadeknhofhpaaGreatEe
import Derived.Test.YtjaadeknhofhpaaGreatEf
import Derived.Test.YtjaadeknhofhpaaGreatBn
import Derived.Test.YtjaadeknhofhpaaGreatWh
import Derived.Test.YtjaadeknhofhpaaGreatWq
import Derived.Test.YtjaadeknhofhpaaGreatEb
import Derived.Test.YtjaadeknhofhpaaGreatVh
set_option linter.unusedSimpArgs false
set_option linter.unusedVariables false
set_option linter.unusedSectionVars false
namespace Go.Proofs.YtjaadeknhofhpaaGreat
open Go.RowKit
set_option maxRecDepth 100000
set_option maxHeartbeats 4000000

section
variable {ss : List DSignal} {l : Int × Bool} {g : DSignal}
theorem ed_1 (h : l.1 < 0) : (⟨#[126]⟩ : ByteArray) = edT ss l := (if_pos h).symm
theorem ed_2 (h : ¬ l.1 < 0) (hg : ss[l.1.toNat]? = some g) (hu : l.2 = true) : g.1 ++ (⟨#[43]⟩ : ByteArray) = edT ss l := by unfold edT sgB; rw [if_neg h, hg, if_pos hu]; rfl
theorem ed_3 (h : ¬ l.1 < 0) (hg : ss[l.1.toNat]? = some g) (hu : l.2 = false) : g.1 ++ (⟨#[45]⟩ : ByteArray) = edT ss l := by unfold edT sgB; rw [if_neg h, hg, hu]; rfl
end

theorem fc_impl_edgeText (signals : List (ByteArray × Int)) (l : Int × Bool) (hn : ∀ g ∈ signals, g.1.size ≤ 6) (hl : l.1 < (signals.length : Int)) : FC Tryz.prog 253 [(false, [.dat (.sl 90 (.pr .str .int)) signals]), (true, [dI l.1, dB l.2])] [] 0 (Pure (lf (dS (edT signals l)))) := by
 refine FC.go Tryz.func253 rfl rfl Tryz.ntmps253 fun O_ hO w0_ N0_ X_ h0_ f0_ => ?_
 refine AC.fact (fact_ag (x := .tmp 1) (i := 0) (Ev.tmp rfl) rfl) fun hi1 => ?_
 refine w_ ?_
 refine xbx 0 ?_
 iterate 10 refine w_ ?_
 cases hb2 : (decide (l.1 < 0))
 ·have hb2' := of_decide_eq_false hb2
  iterate 6 refine w_ ?_
  cases hb3 : (l.2)
  ·refine w_ ?_
   refine AC.skip ?_
   refine (?_ : AC _ _ _ _ _)
   iterate 4 refine w_ ?_
   obtain ⟨x4, hx5⟩ : ∃ z, signals[(l.1).toNat]? = some z := ⟨_, List.getElem?_eq_getElem (by omega)⟩
   have hnm := hn _ (List.mem_of_getElem? hx5)
   iterate 3 refine w_ ?_
   refine lc (Does.addS (Evl.tmp rfl) (Evl.str rfl) rfl (by (simp only [bsize1]; omega))) ?_
   iterate 2 refine w_ ?_
   refine AC.ret ?_
   subst hO
   have e6 : (x4.1 ++ (⟨#[45]⟩ : ByteArray) : ByteArray) = (edT signals l) := by
    exact ed_3 (by assumption) hx5 (by assumption)
   exact fin_pure (Res.one rfl (Rs.tmp rfl)) ((congrArg (fun z_ => lf (dS z_)) e6)) rfl
  ·iterate 5 refine w_ ?_
   obtain ⟨x7, hx8⟩ : ∃ z, signals[(l.1).toNat]? = some z := ⟨_, List.getElem?_eq_getElem (by omega)⟩
   have hnm := hn _ (List.mem_of_getElem? hx8)
   iterate 3 refine w_ ?_
   refine lc (Does.addS (Evl.tmp rfl) (Evl.str rfl) rfl (by (simp only [bsize1]; omega))) ?_
   iterate 2 refine w_ ?_
   refine AC.ret ?_
   subst hO
   have e9 : (x7.1 ++ (⟨#[43]⟩ : ByteArray) : ByteArray) = (edT signals l) := by
    exact ed_2 (by assumption) hx8 (by assumption)
   exact fin_pure (Res.one rfl (Rs.tmp rfl)) ((congrArg (fun z_ => lf (dS z_)) e9)) rfl
 ·have hb2' := of_decide_eq_true hb2
  iterate 4 refine w_ ?_
  refine AC.ret ?_
  subst hO
  have e10 : ((⟨#[126]⟩ : ByteArray) : ByteArray) = (edT signals l) := by
   first | exact ed_1 (by assumption)
  exact fin_pure (Res.one rfl (Rs.tmp rfl)) ((congrArg (fun z_ => lf (dS z_)) e10)) rfl

theorem fc_slices_Clone_int_int (s : List Int) (hl : s.length ≤ 100000000) : FC Tryz.prog 252 [(false, [.dat (.sl 3 .int) s])] [] 0 (Own1 3 .int s) := by
 refine FC.go Tryz.func252 rfl rfl Tryz.ntmps252 fun O_ hO w0_ N0_ X_ h0_ f0_ => ?_
 iterate 6 refine w_ ?_
 refine AL.eqNil (Evl.tmp rfl) Evl.val und_95 rfl fun b1 hnil => ?_
 refine w_ ?_
 cases hb2 : (b1)
 ·iterate 3 refine w_ ?_
  refine lc (dBs 0 (e := .int) zer_3) ?_
  refine w_ ?_
  refine lc (Does.appendF 1 (Evl.tmp rfl) rfl (Evl.rep (Evl.tmp rfl)) rfl und_95 elb_3 (by first | omega | (simp only [List.length_append, List.length_map, List.length_take, List.length_cons, List.length_nil]; omega) | (simp only [List.length_append, List.length_drop, List.length_take, List.length_cons, List.length_nil]; omega)) rfl (Fresh.of rfl) (nlr rfl)) ?_
  iterate 2 refine w_ ?_
  refine AC.ret ?_
  subst hO
  refine fin_own (e := .int) (xs := (([]) ++ s)) (Res.one rfl (Rs.tmp rfl)) rfl ?_
  rfl
 ·iterate 4 refine w_ ?_
  refine AC.wk (Wk.nilS 2 2 3 .int rfl (Fresh.of rfl) (nlr rfl)) <| AC.ret ?_
  subst hO
  refine fin_own (e := .int) (xs := ([])) (Res.one rfl (Rs.tmp rfl)) rfl ?_
  exact (hnil (by assumption)).symm

theorem fc_impl_closed (c : (List (ByteArray × Int)) × List ByteArray × (List (Int × Int × Bool × Int))) (set : List Int) (hidden : Int) (hs : SgOk c) (hS : Rng c set) : FC Tryz.prog 151 [(true, [.dat (.sl 90 (.pr .str .int)) c.1, .dat (.sl 9 .str) c.2.1, .dat (.sl 106 (.pr .int (.pr .int (.pr .bool .int)))) c.2.2]), (false, [.dat (.sl 3 .int) set]), (false, [dI hidden])] [] 0 (Own1 3 .int (clV c hidden set)) := by
 have hfw := hs.few
 have hn3 := hs.some_
 have hsl := nd_few hS.1 hS.2
 refine FC.go Tryz.func151 rfl rfl Tryz.ntmps151 fun O_ hO w0_ N0_ X_ h0_ f0_ => ?_
 refine AC.fact (fact_int (x := .tmp 2) (Evl.tmp rfl)) fun hi1 => ?_
 refine w_ ?_
 refine xbx 0 ?_
 iterate 4 refine w_ ?_
 refine lc (dO 1 (fc_slices_Clone_int_int set (by omega)) enters_252) ?_
 iterate 7 refine w_ ?_
 refine AC.loopW (fun m_ s_ => ∃ (k : Nat) (out : List Int), k ≤ 301 ∧ m_ = 301 - k ∧ (clL c.2.2 hidden (301 - k) k out = clV c hidden set) ∧ (ClI c.2.2 hidden (fun v => v ∈ set) k out) ∧ s_ = ⟨[(2, lI hidden), (3, lP 0 0), (6, lf (.val (.slice none 0 0))), (7, lR 2), (8, lI (k : Int))], [(0, some (.box 52 [.dat (.sl 90 (.pr .str .int)) c.1, .dat (.sl 9 .str) c.2.1, .dat (.sl 106 (.pr .int (.pr .int (.pr .bool .int)))) c.2.2])), (2, some (.arr 3 .int out))]⟩) ⟨0, set, Nat.zero_le _, rfl, rfl, (ClI.zero hS.1 fun _ => Iff.rfl), rfl⟩ ?_ ?_
 · exact Wk.of [(2, 1)] rfl ⟨rfl, rfl, rfl, rfl, rfl, trivial⟩ ⟨rfl, rfl, trivial⟩ rfl rfl
 rintro m_ s_ ⟨k, out, hk2, hm3, hE, hC, rfl⟩
 have hol := clI_few hs hS hC
 iterate 7 refine w_ ?_
 cases hb4 : (decide ((k : Int) < (out.length : Int)))
 ·have hb4' := of_decide_eq_false hb4
  refine w_ ?_
  refine AC.exit ?_
  refine (?_ : AC _ _ _ _ _)
  iterate 4 refine w_ ?_
  refine AC.ret ?_
  subst hO
  refine fin_own (e := .int) (xs := out) (Res.one rfl (Rs.tmp rfl)) rfl ?_
  exact cl_end hE (by omega)
 ·have hb4' := of_decide_eq_true hb4
  iterate 7 refine w_ ?_
  refine AL.fact (fact_len (x := .tmp 20) (Evl.tmp rfl)) fun hl5 => ?_
  iterate 4 refine w_ ?_
  obtain ⟨u, hu⟩ : ∃ z, out[k]? = some z := ⟨_, List.getElem?_eq_getElem (by omega)⟩
  refine AC.loopW (fun m_ s_ => ∃ (i : Nat), i ≤ c.2.2.length ∧ m_ = c.2.2.length - i ∧ s_ = ⟨[(2, lI hidden), (3, lP 0 0), (6, lf (.val (.slice none 0 0))), (7, lR 3), (8, lI (k : Int)), (13, lI (k : Int)), (15, lI (out.length : Int)), (16, lB true), (19, lP 0 2), (20, lf (.dat (.sl 106 (.pr .int (.pr .int (.pr .bool .int)))) c.2.2)), (21, lI (c.2.2.length : Int)), (22, lI (i : Int))], [(0, some (.box 52 [.dat (.sl 90 (.pr .str .int)) c.1, .dat (.sl 9 .str) c.2.1, .dat (.sl 106 (.pr .int (.pr .int (.pr .bool .int)))) c.2.2])), (3, some (.arr 3 .int (clA (c.2.2.take i) hidden u out)))]⟩) ⟨0, Nat.zero_le _, rfl, rfl⟩ ?_ ?_
  · exact Wk.of [(3, 2)] rfl ⟨rfl, rfl, rfl, rfl, rfl, rfl, rfl, rfl, rfl, rfl, rfl, rfl, trivial⟩ ⟨rfl, (entE (rfl)), trivial⟩ rfl rfl
  rintro m_ s_ ⟨i, hk6, hm7, rfl⟩
  have hcl := ca_len (as_ := c.2.2.take i) (h := hidden) (u := u) (out := out)
  have hcg := ca_le (as_ := c.2.2.take i) (h := hidden) (u := u) (out := out)
  have hti : (c.2.2.take i).length ≤ c.2.2.length := by simp only [List.length_take]; omega
  iterate 4 refine w_ ?_
  cases hb8 : (decide ((i : Int) < (c.2.2.length : Int)))
  ·have hb8' := of_decide_eq_false hb8
   refine w_ ?_
   refine AC.exit ?_
   refine (?_ : AC _ _ _ _ _)
   iterate 4 refine w_ ?_
   refine AL.nil <| lend ⟨k + 1, (clA (c.2.2.take i) hidden u out), by omega, rfl, (by rw [List.take_of_length_le (by omega)]; exact cl_step hE hu (by omega)), (by rw [List.take_of_length_le (by omega)]; exact hC.step hu), rfl⟩ (by omega) ?_
   exact Wk.of [(2, 3)] rfl ⟨rfl, rfl, rfl, rfl, rfl, trivial⟩ ⟨rfl, (entE (by first | rfl | simp)), trivial⟩ rfl rfl
  ·have hb8' := of_decide_eq_true hb8
   iterate 5 refine w_ ?_
   obtain ⟨a, hx10⟩ : ∃ z, c.2.2[i]? = some z := ⟨_, List.getElem?_eq_getElem (by omega)⟩
   iterate 2 refine w_ ?_
   refine lc (xal 4 (.pr .int (.pr .int (.pr .bool .int))) zer_106) ?_
   iterate 2 refine w_ ?_
   obtain ⟨x11, hx12⟩ : ∃ z, (clA (c.2.2.take i) hidden u out)[k]? = some z := ⟨_, List.getElem?_eq_getElem (by omega)⟩
   have hzu := ca_at hu hx12
   cases hb13 : (decide (a.1 = x11))
   ·have hb13' := of_decide_eq_false hb13
    apply dW [io 26 _, io 27 _, io 28 _, io 29 _, io 30 (lf (.ept 3 1 k 0)), io 31 (lI x11), io 32 (lB false), io 33 _, io 34 _, io 35 _, io 36 _, io 37 _, io 38 _, io 39 _, io 40 _, io 41 _, io 42 _, io 43 _, io 44 _, io 45 _, io 46 _, io 47 _, io 48 _, io 49 _, io 50 _] [0, 0, 3, 7, 3, 3, 0, 0, 0, 0, 0, 0, 0, 0, 12288, 0, 0, 0, 0, 0, 524288, 524288, 0, 0, 0]
    iterate 4 refine z_ ?_
    refine zz (fun _ h_ => ac (Does.indexI (e := .int) (h_.v rfl) (h_.en 3 rfl) (h_.v rfl) und_95 tsh_3 rfl (by omega) (by first | omega | (simp only [List.length_set]; omega))) rfl) <| zz (fun _ h_ => ac (Does.loadI (e := .int) (h_.v rfl) (h_.n 3 rfl) hx12 rfl tsh_3 rfl rfl) rfl) <| zz (fun _ h_ => ac (Does.asB (hb13) (Does.eql (h_.v rfl) (h_.v rfl) rfl)) rfl) ?_
    iterate 18 refine z_ ?_
    exact zN
    refine w_ ?_
    refine AC.skip ?_
    refine (?_ : AC _ _ _ _ _)
    iterate 3 refine w_ ?_
    refine AL.nil <| lend ⟨i + 1, by omega, rfl, rfl⟩ (by omega) ?_
    exact Wk.of [] rfl ⟨rfl, rfl, rfl, rfl, rfl, rfl, rfl, rfl, rfl, rfl, rfl, rfl, trivial⟩ ⟨rfl, (entE (by first | exact ca_y1 hx10 (by omega) (by assumption) (by assumption) | exact ca_y2 hx10 (by omega) (by assumption) (by assumption) | exact ca_n1 hx10 (by omega) | exact ca_n2 hx10 (by assumption) (by assumption) | exact ca_n3 hx10 (by assumption))), trivial⟩ rfl rfl
   ·have hb13' := of_decide_eq_true hb13
    cases hb14 : (decide (a.2.1 = (-1)))
    ·have hb14' := of_decide_eq_false hb14
     cases hb15 : (decide (a.2.1 = hidden))
     ·have hb15' := of_decide_eq_false hb15
      apply dW [io 26 _, io 27 _, io 28 _, io 29 _, io 30 (lf (.ept 3 1 k 0)), io 31 (lI x11), io 32 (lB true), io 33 _, io 34 _, io 35 _, io 36 (lB false), io 37 _, io 38 _, io 39 _, io 40 _, io 41 (lB false), io 42 _, io 43 _, io 44 _, io 45 _, io 46 _, io 47 _, io 48 _, io 49 _, io 50 _] [0, 0, 3, 7, 3, 3, 0, 0, 0, 0, 0, 0, 0, 0, 12288, 0, 0, 0, 0, 0, 524288, 524288, 0, 0, 0]
      iterate 4 refine z_ ?_
      refine zz (fun _ h_ => ac (Does.indexI (e := .int) (h_.v rfl) (h_.en 3 rfl) (h_.v rfl) und_95 tsh_3 rfl (by omega) (by first | omega | (simp only [List.length_set]; omega))) rfl) <| zz (fun _ h_ => ac (Does.loadI (e := .int) (h_.v rfl) (h_.n 3 rfl) hx12 rfl tsh_3 rfl rfl) rfl) <| zz (fun _ h_ => ac (Does.asB (hb13) (Does.eql (h_.v rfl) (h_.v rfl) rfl)) rfl) ?_
      iterate 3 refine z_ ?_
      refine zz (fun _ h_ => day rfl (h_.k rfl) (Does.asB (hb14) (Does.eql (h_.v rfl) (Evl.int rfl) rfl)) rfl) ?_
      iterate 4 refine z_ ?_
      refine zz (fun _ h_ => day rfl (h_.k rfl) (Does.asB (hb15) (Does.eql (h_.v rfl) (h_.v rfl) rfl)) rfl) ?_
      iterate 9 refine z_ ?_
      exact zN
      refine w_ ?_
      refine AC.skip ?_
      refine (?_ : AC _ _ _ _ _)
      iterate 3 refine w_ ?_
      refine AL.nil <| lend ⟨i + 1, by omega, rfl, rfl⟩ (by omega) ?_
      exact Wk.of [] rfl ⟨rfl, rfl, rfl, rfl, rfl, rfl, rfl, rfl, rfl, rfl, rfl, rfl, trivial⟩ ⟨rfl, (entE (by first | exact ca_y1 hx10 (by omega) (by assumption) (by assumption) | exact ca_y2 hx10 (by omega) (by assumption) (by assumption) | exact ca_n1 hx10 (by omega) | exact ca_n2 hx10 (by assumption) (by assumption) | exact ca_n3 hx10 (by assumption))), trivial⟩ rfl rfl
     ·have hb15' := of_decide_eq_true hb15
      apply dW [io 26 _, io 27 _, io 28 _, io 29 _, io 30 (lf (.ept 3 1 k 0)), io 31 (lI x11), io 32 (lB true), io 33 _, io 34 _, io 35 _, io 36 (lB false), io 37 _, io 38 _, io 39 _, io 40 _, io 41 (lB true), io 42 _, io 43 _, io 44 _, io 45 _, io 46 _, io 47 _, io 48 (lB ((clA (c.2.2.take i) hidden u out).any (fun y => decide (a.2.2.2 = y)))), io 49 _, io 50 _] [0, 0, 3, 7, 3, 3, 0, 0, 0, 0, 0, 0, 0, 0, 12288, 0, 0, 0, 0, 0, 524288, 524288, 0, 0, 0]
      iterate 4 refine z_ ?_
      refine zz (fun _ h_ => ac (Does.indexI (e := .int) (h_.v rfl) (h_.en 3 rfl) (h_.v rfl) und_95 tsh_3 rfl (by omega) (by first | omega | (simp only [List.length_set]; omega))) rfl) <| zz (fun _ h_ => ac (Does.loadI (e := .int) (h_.v rfl) (h_.n 3 rfl) hx12 rfl tsh_3 rfl rfl) rfl) <| zz (fun _ h_ => ac (Does.asB (hb13) (Does.eql (h_.v rfl) (h_.v rfl) rfl)) rfl) ?_
      iterate 3 refine z_ ?_
      refine zz (fun _ h_ => day rfl (h_.k rfl) (Does.asB (hb14) (Does.eql (h_.v rfl) (Evl.int rfl) rfl)) rfl) ?_
      iterate 4 refine z_ ?_
      refine zz (fun _ h_ => day rfl (h_.k rfl) (Does.asB (hb15) (Does.eql (h_.v rfl) (h_.v rfl) rfl)) rfl) ?_
      iterate 6 refine z_ ?_
      refine zz (fun _ h_ => day rfl (h_.k rfl) (dB_ (fc_slices_Contains_int_int (clA (c.2.2.take i) hidden u out) a.2.2.2) enters_178) rfl) ?_
      iterate 2 refine z_ ?_
      exact zN
      cases hb16 : ((clA (c.2.2.take i) hidden u out).any (fun y => decide (a.2.2.2 = y)))
      ·iterate 5 refine w_ ?_
       refine AL.fact (fact_int (x := .tmp 53) (Evl.tmp rfl)) fun hi17 => ?_
       refine lc (dBs 5 (e := .int) zer_3) ?_
       refine lc (dA 6 elb_3) ?_
       refine w_ ?_
       refine AL.nil ?_
       refine (?_ : AC _ _ _ _ _)
       iterate 3 refine w_ ?_
       refine AL.nil <| lend ⟨i + 1, by omega, rfl, rfl⟩ (by omega) ?_
       exact Wk.of [(3, 6)] rfl ⟨rfl, rfl, rfl, rfl, rfl, rfl, rfl, rfl, rfl, rfl, rfl, rfl, trivial⟩ ⟨rfl, (entE (by first | exact ca_y1 hx10 (by omega) (by assumption) (by assumption) | exact ca_y2 hx10 (by omega) (by assumption) (by assumption) | exact ca_n1 hx10 (by omega) | exact ca_n2 hx10 (by assumption) (by assumption) | exact ca_n3 hx10 (by assumption))), trivial⟩ rfl rfl
      ·refine w_ ?_
       refine AC.skip ?_
       refine (?_ : AC _ _ _ _ _)
       iterate 3 refine w_ ?_
       refine AL.nil <| lend ⟨i + 1, by omega, rfl, rfl⟩ (by omega) ?_
       exact Wk.of [] rfl ⟨rfl, rfl, rfl, rfl, rfl, rfl, rfl, rfl, rfl, rfl, rfl, rfl, trivial⟩ ⟨rfl, (entE (by first | exact ca_y1 hx10 (by omega) (by assumption) (by assumption) | exact ca_y2 hx10 (by omega) (by assumption) (by assumption) | exact ca_n1 hx10 (by omega) | exact ca_n2 hx10 (by assumption) (by assumption) | exact ca_n3 hx10 (by assumption))), trivial⟩ rfl rfl
    ·have hb14' := of_decide_eq_true hb14
     apply dW [io 26 _, io 27 _, io 28 _, io 29 _, io 30 (lf (.ept 3 1 k 0)), io 31 (lI x11), io 32 (lB true), io 33 _, io 34 _, io 35 _, io 36 (lB true), io 37 _, io 38 _, io 39 _, io 40 _, io 41 _, io 42 _, io 43 _, io 44 _, io 45 _, io 46 _, io 47 _, io 48 (lB ((clA (c.2.2.take i) hidden u out).any (fun y => decide (a.2.2.2 = y)))), io 49 _, io 50 _] [0, 0, 3, 7, 3, 3, 0, 0, 0, 0, 0, 0, 0, 0, 12288, 0, 0, 0, 0, 0, 524288, 524288, 0, 0, 0]
     iterate 4 refine z_ ?_
     refine zz (fun _ h_ => ac (Does.indexI (e := .int) (h_.v rfl) (h_.en 3 rfl) (h_.v rfl) und_95 tsh_3 rfl (by omega) (by first | omega | (simp only [List.length_set]; omega))) rfl) <| zz (fun _ h_ => ac (Does.loadI (e := .int) (h_.v rfl) (h_.n 3 rfl) hx12 rfl tsh_3 rfl rfl) rfl) <| zz (fun _ h_ => ac (Does.asB (hb13) (Does.eql (h_.v rfl) (h_.v rfl) rfl)) rfl) ?_
     iterate 3 refine z_ ?_
     refine zz (fun _ h_ => day rfl (h_.k rfl) (Does.asB (hb14) (Does.eql (h_.v rfl) (Evl.int rfl) rfl)) rfl) ?_
     iterate 11 refine z_ ?_
     refine zz (fun _ h_ => day rfl (h_.k rfl) (dB_ (fc_slices_Contains_int_int (clA (c.2.2.take i) hidden u out) a.2.2.2) enters_178) rfl) ?_
     iterate 2 refine z_ ?_
     exact zN
     cases hb18 : ((clA (c.2.2.take i) hidden u out).any (fun y => decide (a.2.2.2 = y)))
     ·iterate 5 refine w_ ?_
      refine AL.fact (fact_int (x := .tmp 53) (Evl.tmp rfl)) fun hi19 => ?_
      refine lc (dBs 7 (e := .int) zer_3) ?_
      refine lc (dA 8 elb_3) ?_
      refine w_ ?_
      refine AL.nil ?_
      refine (?_ : AC _ _ _ _ _)
      iterate 3 refine w_ ?_
      refine AL.nil <| lend ⟨i + 1, by omega, rfl, rfl⟩ (by omega) ?_
      exact Wk.of [(3, 8)] rfl ⟨rfl, rfl, rfl, rfl, rfl, rfl, rfl, rfl, rfl, rfl, rfl, rfl, trivial⟩ ⟨rfl, (entE (by first | exact ca_y1 hx10 (by omega) (by assumption) (by assumption) | exact ca_y2 hx10 (by omega) (by assumption) (by assumption) | exact ca_n1 hx10 (by omega) | exact ca_n2 hx10 (by assumption) (by assumption) | exact ca_n3 hx10 (by assumption))), trivial⟩ rfl rfl
     ·refine w_ ?_
      refine AC.skip ?_
      refine (?_ : AC _ _ _ _ _)
      iterate 3 refine w_ ?_
      refine AL.nil <| lend ⟨i + 1, by omega, rfl, rfl⟩ (by omega) ?_
      exact Wk.of [] rfl ⟨rfl, rfl, rfl, rfl, rfl, rfl, rfl, rfl, rfl, rfl, rfl, rfl, trivial⟩ ⟨rfl, (entE (by first | exact ca_y1 hx10 (by omega) (by assumption) (by assumption) | exact ca_y2 hx10 (by omega) (by assumption) (by assumption) | exact ca_n1 hx10 (by omega) | exact ca_n2 hx10 (by assumption) (by assumption) | exact ca_n3 hx10 (by assumption))), trivial⟩ rfl rfl

theorem fc_impl_after (c : (List (ByteArray × Int)) × List ByteArray × (List (Int × Int × Bool × Int))) (set : List Int) (hidden : Int) (hs : SgOk c) : FC Tryz.prog 152 [(true, [.dat (.sl 90 (.pr .str .int)) c.1, .dat (.sl 9 .str) c.2.1, .dat (.sl 106 (.pr .int (.pr .int (.pr .bool .int)))) c.2.2]), (false, [.dat (.sl 3 .int) set]), (false, [dI hidden])] [] 0 (Is (lR 0) [(0, some (.res (moR (vOw 3 .int) .str (afV c set hidden) none)))]) := by
 have hfw := hs.few
 refine FC.go Tryz.func152 rfl rfl Tryz.ntmps152 fun O_ hO w0_ N0_ X_ h0_ f0_ => ?_
 refine AC.fact (fact_int (x := .tmp 2) (Evl.tmp rfl)) fun hi1 => ?_
 refine w_ ?_
 refine xbx 0 ?_
 iterate 3 refine w_ ?_
 refine lc (Does.makeT (k := .str) (vOw 3 .int) 1 rfl (Fresh.of rfl) (nlr rfl)) ?_
 iterate 6 refine w_ ?_
 refine AL.fact (fact_len (x := .tmp 13) (Evl.tmp rfl)) fun hl2 => ?_
 iterate 4 refine w_ ?_
 refine AC.loopW (fun m_ s_ => ∃ (k : Nat), k ≤ c.2.2.length ∧ m_ = c.2.2.length - k ∧ s_ = ⟨[(1, lf (.dat (.sl 3 .int) set)), (2, lI hidden), (3, lP 0 0), (6, lf (.val (.map none))), (7, lR 1), (13, lf (.dat (.sl 106 (.pr .int (.pr .int (.pr .bool .int)))) c.2.2)), (14, lI (c.2.2.length : Int)), (15, lI (k : Int))], [(0, some (.box 52 [.dat (.sl 90 (.pr .str .int)) c.1, .dat (.sl 9 .str) c.2.1, .dat (.sl 106 (.pr .int (.pr .int (.pr .bool .int)))) c.2.2])), (1, some (.res (moR (vOw 3 .int) .str (afT c set hidden k) none)))]⟩) ⟨0, Nat.zero_le _, rfl, rfl⟩ ?_ ?_
 · exact Wk.of [] rfl ⟨rfl, rfl, rfl, rfl, rfl, rfl, rfl, rfl, trivial⟩ ⟨rfl, (entM (rfl)), trivial⟩ rfl rfl
 rintro m_ s_ ⟨k, hk3, hm4, rfl⟩
 iterate 4 refine w_ ?_
 cases hb5 : (decide ((k : Int) < (c.2.2.length : Int)))
 ·have hb5' := of_decide_eq_false hb5
  refine w_ ?_
  refine AC.exit ?_
  refine (?_ : AC _ _ _ _ _)
  iterate 4 refine w_ ?_
  refine AC.ret ?_
  subst hO
  exact fin_is _ _ [(0, 1)] (Res.one rfl (Rs.tmp rfl)) (rfl) ⟨(entM (by exact afT_end (by omega))), trivial⟩ rfl rfl
 ·have hb5' := of_decide_eq_true hb5
  iterate 5 refine w_ ?_
  obtain ⟨a, hx7⟩ : ∃ z, c.2.2[k]? = some z := ⟨_, List.getElem?_eq_getElem (by omega)⟩
  have am := List.mem_of_getElem? hx7
  iterate 2 refine w_ ?_
  refine lc (xal 2 (.pr .int (.pr .int (.pr .bool .int))) zer_106) ?_
  iterate 6 refine w_ ?_
  refine AL.fact (fact_int (x := .tmp 21) (Evl.tmp rfl)) fun hi8 => ?_
  refine lc (dK (fc_slices_Contains_int_int set a.1) enters_178) ?_
  refine w_ ?_
  cases hb9 : (set.any (fun y => decide (a.1 = y)))
  ·iterate 12 refine w_ ?_
   refine AC.skip ?_
   refine (?_ : AC _ _ _ _ _)
   iterate 3 refine w_ ?_
   refine AL.nil <| lend ⟨k + 1, by omega, rfl, rfl⟩ (by omega) ?_
   exact Wk.of [] rfl ⟨rfl, rfl, rfl, rfl, rfl, rfl, rfl, rfl, trivial⟩ ⟨rfl, (entM (by first | exact af_y hx7 (by assumption) (by assumption) (by assumption) (by have := arc_sig hs am (by assumption); omega) | exact af_n1 hx7 (by assumption) | exact af_n2 hx7 (by assumption) | exact af_n3 hx7 (by assumption))), trivial⟩ rfl rfl
  ·iterate 5 refine w_ ?_
   cases hb10 : (!decide (a.2.1 = (-1)))
   ·have hb10' : (a.2.1 = (-1)) := nd_false hb10
    iterate 7 refine w_ ?_
    refine AC.skip ?_
    refine (?_ : AC _ _ _ _ _)
    iterate 3 refine w_ ?_
    refine AL.nil <| lend ⟨k + 1, by omega, rfl, rfl⟩ (by omega) ?_
    exact Wk.of [] rfl ⟨rfl, rfl, rfl, rfl, rfl, rfl, rfl, rfl, trivial⟩ ⟨rfl, (entM (by first | exact af_y hx7 (by assumption) (by assumption) (by assumption) (by have := arc_sig hs am (by assumption); omega) | exact af_n1 hx7 (by assumption) | exact af_n2 hx7 (by assumption) | exact af_n3 hx7 (by assumption))), trivial⟩ rfl rfl
   ·have hb10' : ¬ (a.2.1 = (-1)) := nd_true hb10
    iterate 6 refine w_ ?_
    cases hb11 : (!decide (a.2.1 = hidden))
    ·have hb11' : (a.2.1 = hidden) := nd_false hb11
     refine w_ ?_
     refine AC.skip ?_
     refine (?_ : AC _ _ _ _ _)
     iterate 3 refine w_ ?_
     refine AL.nil <| lend ⟨k + 1, by omega, rfl, rfl⟩ (by omega) ?_
     exact Wk.of [] rfl ⟨rfl, rfl, rfl, rfl, rfl, rfl, rfl, rfl, trivial⟩ ⟨rfl, (entM (by first | exact af_y hx7 (by assumption) (by assumption) (by assumption) (by have := arc_sig hs am (by assumption); omega) | exact af_n1 hx7 (by assumption) | exact af_n2 hx7 (by assumption) | exact af_n3 hx7 (by assumption))), trivial⟩ rfl rfl
    ·have hb11' : ¬ (a.2.1 = hidden) := nd_true hb11
     refine w_ ?_
     apply dW [io 34 _, io 35 _, io 36 _, io 37 (ag [dI a.2.1, dB a.2.2.1]), io 38 (lf (dS (edT c.1 (a.2.1, a.2.2.1)))), io 10 _] [0, 0, 3, 3, 0, 0]
     iterate 3 refine z_ ?_
     refine zz (fun _ h_ => ac (dK (fc_impl_labelOfArc a) enters_254) rfl) ?_
     refine zz (fun _ h_ => ac (dK (fc_impl_edgeText c.1 (a.2.1, a.2.2.1) (fun g hg => by obtain ⟨j, hj⟩ := List.mem_iff_getElem?.1 hg; exact sg_name hs hj) (by have := arc_sig hs am (by assumption); omega)) enters_253) rfl) ?_
     refine z_ ?_
     exact zN
     iterate 5 refine w_ ?_
     refine lc (Does.lookT (p := edT c.1 (a.2.1, a.2.2.1)) 3 key_9 und_182 zer_95 (Evl.tmp rfl) rfl (Ev.tmp rfl) rfl rfl (Fresh.of rfl) (nlr rfl)) ?_
     iterate 2 refine w_ ?_
     refine AL.fact (fact_int (x := .tmp 45) (Evl.tmp rfl)) fun hi12 => ?_
     refine lc (dBs 4 (e := .int) zer_3) ?_
     refine lc (dA 5 elb_3 (hb := by (have hal := af_len (c := c) (S := set) (h := hidden) (i := k) (edT c.1 (a.2.1, a.2.2.1)); simp only [List.length_cons, List.length_nil]; omega))) ?_
     refine lc (Does.updT (p := edT c.1 (a.2.1, a.2.2.1)) key_9 und_182 (Evl.tmp rfl) rfl (Ev.tmp rfl) rfl (Evl.tmp rfl) rfl) <| AL.nil ?_
     refine (?_ : AC _ _ _ _ _)
     iterate 3 refine w_ ?_
     refine AL.nil <| lend ⟨k + 1, by omega, rfl, rfl⟩ (by omega) ?_
     exact Wk.of [] rfl ⟨rfl, rfl, rfl, rfl, rfl, rfl, rfl, rfl, trivial⟩ ⟨rfl, (entM (by first | exact af_y hx7 (by assumption) (by assumption) (by assumption) (by have := arc_sig hs am (by assumption); omega) | exact af_n1 hx7 (by assumption) | exact af_n2 hx7 (by assumption) | exact af_n3 hx7 (by assumption))), trivial⟩ rfl rfl

end Go.Proofs.YtjaadeknhofhpaaGreat

/- Walks over abstract states: traces, the program; texts of one graph within those of another. -/
namespace Go.Proofs.YtjaadeknhofhpaaGreat
open Go.RowKit
set_option maxRecDepth 100000
set_option maxHeartbeats 4000000

/-- The keys of a map. -/
def kyL (B : DLv) : List ByteArray := B.map fun p => p.1
section
variable {c : DSg} [Decidable (SgOk c)] {h m : Int} {n k : Nat} {M B Z : DLv} {out : List ByteArray} {z : ByteArray × List Int}
theorem ky_0 : out = out ++ kyL [] := (List.append_nil _).symm
theorem ky_s : (out ++ kyL B) ++ [z.1] = out ++ kyL (B ++ [z]) := by unfold kyL; rw [List.map_append, List.append_assoc]; rfl
theorem ky_len : (kyL B).length = B.length := by unfold kyL; rw [List.length_map]
theorem nx_few (hs : SgOk c) (g : Lev c h (n + 1) M) (h4 : (txL c h n).length ≤ 400) : M.length ≤ 1600000 := by
  have h1 := lev_len (h := h) (n := n) hs
  have h2 := lev_few (h := h) (n := n) hs
  have h3 : (kyL M).Nodup := by
    unfold kyL List.Nodup
    rw [List.pairwise_map]; exact g.nod
  have h4 := nd_sub h3 (m := (levT c h (n + 1)).map fun x => x.1) fun t ht => by
    obtain ⟨p, hp, rfl⟩ := List.mem_map.1 ht
    obtain ⟨u, hu⟩ := (g.mem p hp).1
    exact List.mem_map.2 ((lev_tx (levT_ok hs (n + 1)).1.1).2 ⟨u, ((g.mem p hp).2 u).1 hu⟩)
  rw [ky_len, List.length_map] at h4
  omega
theorem pm_len (g : (B ++ Z).Perm M) : B.length ≤ M.length := by have := g.length_eq; rw [List.length_append] at this; omega
theorem tw_0 (hs : SgOk c) (hO : OuI c h n out) (k : (400 : Int) < (out.length : Int)) (hn : n ≤ m.toNat) : ([], false) = trV c h m := by
  have := hO.len hs ltB_to
  exact (trV_many ltB_to (n := n) (by omega) hn).symm
theorem tw_1 (g : TcOk c h m) (hO : OuI c h n out) (h4 : out.length ≤ 400) (hn : n = m.toNat) : (ssort out, true) = trV c h m := by
  subst hn
  have := hO.len g.1 ltB_to
  rw [ou_end g.1 hO]
  exact (trV_yes g (by omega)).symm
end

theorem fc_impl_Traces (c : (List (ByteArray × Int)) × List ByteArray × (List (Int × Int × Bool × Int))) (hidden : Int) (most : Int) [∀ c, Decidable (SgOk c)]  : FC Tryz.prog 62 [(true, [.dat (.sl 90 (.pr .str .int)) c.1, .dat (.sl 9 .str) c.2.1, .dat (.sl 106 (.pr .int (.pr .int (.pr .bool .int)))) c.2.2]), (false, [dI hidden]), (false, [dI most])] [] 0 (Is (PV.tup [(false, [.ref 0]), (false, [dB ((trV c hidden most).2)])]) [(0, some (.arr 9 .str ((trV c hidden most).1)))]) := by
 classical
 refine FC.go Tryz.func62 rfl rfl Tryz.ntmps62 fun O_ hO w0_ N0_ X_ h0_ f0_ => ?_
 refine AC.fact (fact_int (x := .tmp 1) (Evl.tmp rfl)) fun hi1 => AC.fact (fact_int (x := .tmp 2) (Evl.tmp rfl)) fun hi2 => ?_
 refine w_ ?_
 refine xbx 0 ?_
 iterate 6 refine w_ ?_
 refine lc (dK (fc_impl_IsValidStateGraph c) enters_88) ?_
 iterate 2 refine w_ ?_
 cases hb3 : (decide (SgOk c))
 ·have hb3' := of_decide_eq_false hb3
  iterate 19 refine w_ ?_
  refine AC.wk (Wk.nilS 1 6 9 .str rfl (Fresh.of rfl) (nlr rfl)) <| AC.ret ?_
  subst hO
  have e4 : (false : Bool) = ((trV c hidden most).2) := by
   exact congrArg Prod.snd (tv_no (fun g => by first | exact absurd g.1 (by assumption) | exact absurd g.2.1 (by assumption) | exact absurd g.2.2 (by assumption)))
  exact fin_is _ _ [(0, 1)] (Res.two rfl (Rs.tmp rfl) (Rs.tmp rfl)) ((congrArg (fun z_ => PV.tup [(false, [.ref 1]), (false, [dB z_])]) e4)) ⟨(entE (by exact congrArg Prod.fst (tv_no (fun g => by first | exact absurd g.1 (by assumption) | exact absurd g.2.1 (by assumption) | exact absurd g.2.2 (by assumption))))), trivial⟩ rfl rfl
 ·have hb3' := of_decide_eq_true hb3
  iterate 3 refine w_ ?_
  refine AL.fact (fact_len (x := .tmp 22) (Evl.tmp rfl)) fun hl5 => ?_
  iterate 2 refine w_ ?_
  refine lgy rfl rfl (dK (fc_impl_within hidden (-1) ((c.1.length : Int) - 1)) enters_84) ?_
  iterate 3 refine w_ ?_
  cases hb6 : (decide ((-1) ≤ hidden ∧ hidden ≤ ((c.1.length : Int) - 1)))
  ·have hb6' := of_decide_eq_false hb6
   iterate 10 refine w_ ?_
   refine AC.wk (Wk.nilS 2 6 9 .str rfl (Fresh.of rfl) (nlr rfl)) <| AC.ret ?_
   subst hO
   have e7 : (false : Bool) = ((trV c hidden most).2) := by
    exact congrArg Prod.snd (tv_no (fun g => by first | exact absurd g.1 (by assumption) | exact absurd g.2.1 (by assumption) | exact absurd g.2.2 (by assumption)))
   exact fin_is _ _ [(0, 2)] (Res.two rfl (Rs.tmp rfl) (Rs.tmp rfl)) ((congrArg (fun z_ => PV.tup [(false, [.ref 2]), (false, [dB z_])]) e7)) ⟨(entE (by exact congrArg Prod.fst (tv_no (fun g => by first | exact absurd g.1 (by assumption) | exact absurd g.2.1 (by assumption) | exact absurd g.2.2 (by assumption))))), trivial⟩ rfl rfl
  ·have hb6' := of_decide_eq_true hb6
   refine w_ ?_
   refine lgy rfl rfl (dK (fc_impl_within most 0 6) enters_84) ?_
   iterate 3 refine w_ ?_
   cases hb8 : (decide (0 ≤ most ∧ most ≤ 6))
   ·have hb8' := of_decide_eq_false hb8
    iterate 5 refine w_ ?_
    refine AC.wk (Wk.nilS 3 6 9 .str rfl (Fresh.of rfl) (nlr rfl)) <| AC.ret ?_
    subst hO
    have e9 : (false : Bool) = ((trV c hidden most).2) := by
     exact congrArg Prod.snd (tv_no (fun g => by first | exact absurd g.1 (by assumption) | exact absurd g.2.1 (by assumption) | exact absurd g.2.2 (by assumption)))
    exact fin_is _ _ [(0, 3)] (Res.two rfl (Rs.tmp rfl) (Rs.tmp rfl)) ((congrArg (fun z_ => PV.tup [(false, [.ref 3]), (false, [dB z_])]) e9)) ⟨(entE (by exact congrArg Prod.fst (tv_no (fun g => by first | exact absurd g.1 (by assumption) | exact absurd g.2.1 (by assumption) | exact absurd g.2.2 (by assumption))))), trivial⟩ rfl rfl
   ·have hb8' := of_decide_eq_true hb8
    iterate 3 refine w_ ?_
    refine lc (dBs 4 (e := .str) zer_9) ?_
    refine lc (Does.makeMap (kt := 9) (et := 95) (kb := false) (k := .str) (vb := false) (v := (.sl 3 .int)) 5 rfl (Fresh.of rfl) (nlr rfl)) ?_
    refine w_ ?_
    refine lc (dBs 6 (e := .int) zer_3) ?_
    refine w_ ?_
    refine lc (Does.callBF 7 (fc_impl_closed c ([0]) hidden (by assumption) (rng_zero ‹SgOk c›)) enters_151 ⟨_, _, rfl, (Ev.b (Ev.tmp rfl)), ⟨_, _, rfl, (Evl.ob (Evl.tmp rfl) rfl), ⟨_, _, rfl, (Ev.b (Ev.tmp rfl)), rfl⟩⟩⟩ rfl (Fresh.of rfl) (nlr rfl)) <| lc (Does.insert key_9 und_182 (Evl.tmp rfl) rfl (Evl.ev (Evl.str rfl)) (p := (⟨#[]⟩ : ByteArray)) rfl (Ev.tmp rfl) (u := clV c hidden ([0])) rfl) ?_
    iterate 10 refine w_ ?_
    refine AC.loopW (fun m_ s_ => ∃ (k : Nat) (out : List ByteArray) (lev : List (ByteArray × List Int)), k ≤ most.toNat ∧ m_ = most.toNat - k ∧ (OuI c hidden k out) ∧ (Lev c hidden k lev) ∧ (out.length ≤ 400) ∧ s_ = ⟨[(1, lI hidden), (3, lP 0 0), (8, lR 8), (9, lR 9), (40, lI most), (41, lI (k : Int))], [(0, some (.box 52 [.dat (.sl 90 (.pr .str .int)) c.1, .dat (.sl 9 .str) c.2.1, .dat (.sl 106 (.pr .int (.pr .int (.pr .bool .int)))) c.2.2])), (8, some (.arr 9 .str out)), (9, some (.mp false .str false (.sl 3 .int) lev))]⟩) ⟨0, [(⟨#[]⟩ : ByteArray)], mset .str ([]) (⟨#[]⟩ : ByteArray) (clV c hidden ([0])), Nat.zero_le _, rfl, OuI.zero, (lev_zero ‹SgOk c›), (by simp), rfl⟩ ?_ ?_
    · exact Wk.of [(8, 4), (9, 5)] rfl ⟨rfl, rfl, rfl, rfl, rfl, rfl, trivial⟩ ⟨rfl, (entE (by first | rfl | simp)), (entP (by first | rfl | simp)), trivial⟩ rfl rfl
    rintro m_ s_ ⟨k, out, lev, hk10, hm11, hOu, hL, h4, rfl⟩
    iterate 4 refine w_ ?_
    cases hb12 : (decide ((k : Int) < most))
    ·have hb12' := of_decide_eq_false hb12
     refine w_ ?_
     refine AC.exit ?_
     refine (?_ : AC _ _ _ _ _)
     iterate 2 refine w_ ?_
     refine lc (dP 10 [(0, 8)] (fc_sortS out (by omega)) enters_154) ?_
     iterate 6 refine w_ ?_
     refine AC.ret ?_
     subst hO
     have e13 : (true : Bool) = ((trV c hidden most).2) := by
      exact congrArg Prod.snd (tw_1 ⟨by assumption, by omega, by omega⟩ hOu h4 (by omega))
     exact fin_is _ _ [(0, 8)] (Res.two rfl (Rs.tmp rfl) (Rs.tmp rfl)) ((congrArg (fun z_ => PV.tup [(false, [.ref 8]), (false, [dB z_])]) e13)) ⟨(entE (by exact congrArg Prod.fst (tw_1 ⟨by assumption, by omega, by omega⟩ hOu h4 (by omega)))), trivial⟩ rfl rfl
    ·have hb12' := of_decide_eq_true hb12
     iterate 5 refine w_ ?_
     refine lc (Does.makeMap (kt := 9) (et := 95) (kb := false) (k := .str) (vb := false) (v := (.sl 3 .int)) 11 rfl (Fresh.of rfl) (nlr rfl)) ?_
     iterate 5 refine w_ ?_
     refine AL.wk (Wk.toMo (q := 9) rfl rfl) <| AL.range false (q := 9) und_182 (Evl.tmp rfl) rfl rfl fun p14 => ?_
     iterate 2 refine w_ ?_
     refine AC.loopW (fun m_ s_ => ∃  (L : DLv) (nxt : List (ByteArray × List Int)) (D : DLv), m_ = L.length ∧ ((D ++ L).Perm lev) ∧ (NxI c hidden (Vs c hidden D) nxt) ∧ s_ = ⟨[(1, lI hidden), (3, lP 0 0), (8, lR 8), (9, lR 9), (10, lR 12), (40, lI most), (41, lI (k : Int)), (42, lB true), (44, lR 9), (45, lf (.val p14))], [(0, some (.box 52 [.dat (.sl 90 (.pr .str .int)) c.1, .dat (.sl 9 .str) c.2.1, .dat (.sl 106 (.pr .int (.pr .int (.pr .bool .int)))) c.2.2])), (8, some (.arr 9 .str out)), (9, some (.res (itR (vFz (.sl 3 .int)) .str false lev L none p14))), (12, some (.mp false .str false (.sl 3 .int) nxt))]⟩) ⟨lev, [], [], rfl, (List.Perm.refl _), nx_zero, rfl⟩ ?_ ?_
     · exact Wk.of [(12, 11)] rfl ⟨rfl, rfl, rfl, rfl, rfl, rfl, rfl, rfl, rfl, rfl, trivial⟩ ⟨rfl, rfl, rfl, (entP (by first | rfl | simp)), trivial⟩ rfl rfl
     rintro m_ s_ ⟨L, nxt, D, hm16, hD, hN, rfl⟩
     refine w_ ?_
     refine AL.next (q := 9) (Evl.tmp rfl) rfl (.inl rfl) rfl (fun hq => ?_) (fun ky17 vl18 q1 q q2 hq => ?_)
     ·refine AL.wk (Wk.endI (q := 9) rfl) <| AL.wk (Wk.ofMo (q := 9) rfl rfl) ?_
      iterate 4 refine w_ ?_
      refine AC.exit ?_
      refine (?_ : AC _ _ _ _ _)
      refine w_ ?_
      refine AC.seq ?_
      have hK := nx_lev hL hN hD hq
      have hfw := nx_few ‹SgOk c› hK (by have := hOu.len ‹SgOk c› ltB_to; omega)
      iterate 2 refine w_ ?_
      refine AL.wk (Wk.toMo (q := 12) rfl rfl) <| AL.range false (q := 12) und_182 (Evl.tmp rfl) rfl rfl fun p19 => ?_
      iterate 2 refine w_ ?_
      refine AC.loopW (fun m_ s_ => ∃  (Z : DLv) (B : DLv), m_ = Z.length ∧ ((B ++ Z).Perm nxt) ∧ s_ = ⟨[(1, lI hidden), (3, lP 0 0), (8, lR 13), (9, lR 9), (10, lR 12), (40, lI most), (41, lI (k : Int)), (42, lB true), (44, lR 9), (45, lf (.val p14)), (46, PV.tup [(false, [dB false])]), (47, lB false), (70, lR 12), (71, lf (.val p19))], [(0, some (.box 52 [.dat (.sl 90 (.pr .str .int)) c.1, .dat (.sl 9 .str) c.2.1, .dat (.sl 106 (.pr .int (.pr .int (.pr .bool .int)))) c.2.2])), (9, some (.mp false .str false (.sl 3 .int) lev)), (12, some (.res (itR (vFz (.sl 3 .int)) .str false nxt Z none p19))), (13, some (.arr 9 .str (out ++ kyL B)))]⟩) ⟨nxt, [], rfl, (List.Perm.refl _), rfl⟩ ?_ ?_
      · exact Wk.of [(13, 8)] rfl ⟨rfl, rfl, rfl, rfl, rfl, rfl, rfl, rfl, rfl, rfl, rfl, rfl, rfl, rfl, trivial⟩ ⟨rfl, rfl, rfl, (entE (ky_0)), trivial⟩ rfl rfl
      rintro m_ s_ ⟨Z, B, hm21, hB, rfl⟩
      refine w_ ?_
      refine AL.next (q := 12) (Evl.tmp rfl) rfl (.inl rfl) rfl (fun hz => ?_) (fun ky22 vl23 z1 z z2 hz => ?_)
      ·refine AL.wk (Wk.endI (q := 12) rfl) <| AL.wk (Wk.ofMo (q := 12) rfl rfl) ?_
       iterate 4 refine w_ ?_
       refine AC.exit ?_
       refine (?_ : AC _ _ _ _ _)
       refine w_ ?_
       refine AC.seq ?_
       have hO2 : OuI c hidden (k + 1) (out ++ kyL B) := OuI.next ‹SgOk c› hOu hK (perm_all hB hz)
       iterate 5 refine w_ ?_
       cases hb24 : (decide (400 < ((out ++ kyL B).length : Int)))
       ·have hb24' := of_decide_eq_false hb24
        iterate 5 refine w_ ?_
        refine AL.nil ?_
        refine (?_ : AC _ _ _ _ _)
        iterate 3 refine w_ ?_
        refine AL.nil <| lend ⟨k + 1, (out ++ kyL B), nxt, by omega, rfl, hO2, hK, (by omega), rfl⟩ (by omega) ?_
        exact Wk.of [(8, 13), (9, 12)] rfl ⟨rfl, rfl, rfl, rfl, rfl, rfl, trivial⟩ ⟨rfl, (entE (by first | rfl | simp)), rfl, trivial⟩ rfl rfl
       ·have hb24' := of_decide_eq_true hb24
        iterate 5 refine w_ ?_
        refine AC.wk (Wk.nilS 14 6 9 .str rfl (Fresh.of rfl) (nlr rfl)) <| AC.ret ?_
        subst hO
        have e25 : (false : Bool) = ((trV c hidden most).2) := by
         exact congrArg Prod.snd (tw_0 ‹SgOk c› hO2 (by assumption) (by omega))
        exact fin_is _ _ [(0, 14)] (Res.two rfl (Rs.tmp rfl) (Rs.tmp rfl)) ((congrArg (fun z_ => PV.tup [(false, [.ref 14]), (false, [dB z_])]) e25)) ⟨(entE (by exact congrArg Prod.fst (tw_0 ‹SgOk c› hO2 (by assumption) (by omega)))), trivial⟩ rfl rfl
      ·iterate 7 refine w_ ?_
       refine lc (Does.entryF (q := 12) rfl (Evl.tmp rfl) rfl rfl rfl rfl) <| AL.wk (Wk.curN (q := 12) rfl rfl) ?_
       iterate 6 refine w_ ?_
       refine lc (dBs 15 (e := .str) zer_9) ?_
       refine lc (dA 16 elb_9 (hb := by (have h1 := pm_len hB; have h2 := ky_len (B := B); simp only [List.length_append, List.length_cons, List.length_nil]; omega))) ?_
       refine w_ ?_
       refine AL.nil <| lend ⟨(z1 ++ z2), (B ++ [z]), rfl, (perm_next hB hz), rfl⟩ (by rw [hm21]; simp only [List.length_append]; have h9 := congrArg List.length hz; simp only [List.length_append, List.length_cons] at h9; omega) ?_
       exact Wk.of [(13, 16)] rfl ⟨rfl, rfl, rfl, rfl, rfl, rfl, rfl, rfl, rfl, rfl, rfl, rfl, rfl, rfl, trivial⟩ ⟨rfl, rfl, (entI (by first | rfl | simp)), (entE (ky_s)), trivial⟩ rfl rfl
     ·iterate 7 refine w_ ?_
      refine lc (Does.entryF (q := 9) rfl (Evl.tmp rfl) rfl rfl rfl rfl) <| AL.wk (Wk.curN (q := 9) rfl rfl) ?_
      iterate 9 refine w_ ?_
      refine lc (dG 17 (fc_impl_after c q.2 hidden (by assumption)) enters_152) ?_
      refine AL.range true (q := 17) und_182 (Evl.tmp rfl) rfl rfl fun p26 => ?_
      iterate 2 refine w_ ?_
      refine AC.loopW (fun m_ s_ => ∃  (R : DLv) (nxt2 : List (ByteArray × List Int)) (E : DLv), m_ = R.length ∧ ((E ++ R).Perm (afV c q.2 hidden)) ∧ (NxI c hidden (Vm c hidden D q E) nxt2) ∧ s_ = ⟨[(1, lI hidden), (3, lP 0 0), (8, lR 8), (9, lR 9), (10, lR 18), (11, lf (dS q.1)), (12, lf (.dat (.sl 3 .int) q.2)), (40, lI most), (41, lI (k : Int)), (42, lB true), (44, lR 9), (45, lf (.val p14)), (46, PV.tup [(false, [dB true]), (false, [.val ky17]), (false, [.val vl18])]), (47, lB true), (48, PV.tup [(false, [dS q.1]), (false, [.dat (.sl 3 .int) q.2])]), (49, lf (dS q.1)), (50, lf (.dat (.sl 3 .int) q.2)), (51, ag [.dat (.sl 90 (.pr .str .int)) c.1, .dat (.sl 9 .str) c.2.1, .dat (.sl 106 (.pr .int (.pr .int (.pr .bool .int)))) c.2.2]), (52, lf (.dat (.sl 3 .int) q.2)), (53, lI hidden), (54, lR 17), (55, lf (.val p26))], [(0, some (.box 52 [.dat (.sl 90 (.pr .str .int)) c.1, .dat (.sl 9 .str) c.2.1, .dat (.sl 106 (.pr .int (.pr .int (.pr .bool .int)))) c.2.2])), (8, some (.arr 9 .str out)), (9, some (.res (itR (vFz (.sl 3 .int)) .str false lev (q1 ++ q2) none p14))), (17, some (.res (itR (vOw 3 .int) .str true (afV c q.2 hidden) R none p26))), (18, some (.mp false .str false (.sl 3 .int) nxt2))]⟩) ⟨afV c q.2 hidden, nxt, [], rfl, (List.Perm.refl _), (nx_in hN), rfl⟩ ?_ ?_
      · exact Wk.of [(18, 12)] rfl ⟨rfl, rfl, rfl, rfl, rfl, rfl, rfl, rfl, rfl, rfl, rfl, rfl, rfl, rfl, rfl, rfl, rfl, rfl, rfl, rfl, rfl, rfl, trivial⟩ ⟨rfl, rfl, rfl, (entI (by first | rfl | simp)), rfl, trivial⟩ rfl rfl
      rintro m_ s_ ⟨R, nxt2, E, hm28, hE, hM, rfl⟩
      refine w_ ?_
      refine AL.next (q := 17) (Evl.tmp rfl) rfl (.inr rfl) rfl (fun hp => ?_) (fun ky29 vl30 p1 p p2 hp => ?_)
      ·iterate 4 refine w_ ?_
       refine AC.exit <| lend ⟨(q1 ++ q2), nxt2, (D ++ [q]), rfl, (perm_next hD hq), (nx_out hM hE hp), rfl⟩ (by rw [hm16]; simp only [List.length_append]; have h9 := congrArg List.length hq; simp only [List.length_append, List.length_cons] at h9; omega) ?_
       exact Wk.of [(12, 18)] rfl ⟨rfl, rfl, rfl, rfl, rfl, rfl, rfl, rfl, rfl, rfl, trivial⟩ ⟨rfl, rfl, (entI (by first | rfl | simp)), rfl, trivial⟩ rfl rfl
      ·iterate 7 refine w_ ?_
       refine lc (Does.entryT (q := 17) 19 rfl (Evl.tmp rfl) rfl rfl rfl (Fresh.of rfl) (nlr rfl)) ?_
       iterate 5 refine w_ ?_
       apply dV [io 61 _, io 62 _, io 63 _, io 64 (lf (dS (q.1 ++ p.1))), io 65 _, io 66 _, ⟨some 67, lR 20, [(20, some (.arr 3 .int (ofG ltI p.2))), (19, none)]⟩, io 68 (lI hidden), io 69 (lf (.dat (.sl 3 .int) (clV c hidden (ofG ltI p.2)))), ⟨none, lf (.val undef), [(18, some (.mp false .str false (.sl 3 .int) (mset .str nxt2 (q.1 ++ p.1) (clV c hidden (ofG ltI p.2)))))]⟩] [0, 1, 3, 1, 15, 31, 31, 127, 15, 0]
       iterate 3 refine z_ ?_
       refine zz (fun _ h_ => ac (Does.addS (h_.v rfl) (h_.v rfl) rfl (by (have h1 := lev_key ‹SgOk c› hL (perm_at hD hq); have h2 := af_size ‹SgOk c› (perm_at hE hp); omega))) rfl) ?_
       iterate 2 refine z_ ?_
       refine zz (fun _ h_ => ac (dP 20 [(0, 19)] (fc_impl_tidy p.2 (by have := af_few ‹SgOk c› (perm_at hE hp); omega)) enters_153) rfl) ?_
       refine z_ ?_
       refine zz (fun _ h_ => ac (Does.callBF 21 (fc_impl_closed c (ofG ltI p.2) hidden (by assumption) (af_rng ‹SgOk c› (perm_at hE hp))) enters_151 ⟨_, _, rfl, (Ev.b (h_.w rfl)), ⟨_, _, rfl, (Evl.ob (h_.v rfl) (h_.en 20 rfl)), ⟨_, _, rfl, (Ev.b (h_.w rfl)), rfl⟩⟩⟩ rfl (h_.fr 21 rfl) (nlr rfl)) rfl) <| zz (fun _ h_ => ac (Does.mapUpdate key_9 und_182 (h_.v rfl) (h_.n 18 rfl) (h_.w rfl) (p := q.1 ++ p.1) rfl (h_.w rfl) (u := clV c hidden (ofG ltI p.2)) rfl) rfl) ?_
       exact zN
       refine lend ⟨(p1 ++ p2), (mset .str nxt2 (q.1 ++ p.1) (clV c hidden (ofG ltI p.2))), (E ++ [p]), rfl, (perm_next hE hp), (nx_step ‹SgOk c› hL hM hD hq hE hp), rfl⟩ (by rw [hm28]; simp only [List.length_append]; have h9 := congrArg List.length hp; simp only [List.length_append, List.length_cons] at h9; omega) ?_
       exact Wk.of [] rfl ⟨rfl, rfl, rfl, rfl, rfl, rfl, rfl, rfl, rfl, rfl, rfl, rfl, rfl, rfl, rfl, rfl, rfl, rfl, rfl, rfl, rfl, rfl, trivial⟩ ⟨rfl, rfl, rfl, (entI (by first | rfl | simp)), (entP (by first | rfl | simp)), trivial⟩ rfl rfl

theorem fc_slices_Index_string_string (s : List ByteArray) (v : ByteArray)  : FC Tryz.prog 220 [(false, [.dat (.sl 9 .str) s]), (false, [dS v])] [] 0 (Pure (lI (idxF (fun y => decide (v = y)) s))) := by
 refine FC.go Tryz.func220 rfl rfl Tryz.ntmps220 fun O_ hO w0_ N0_ X_ h0_ f0_ => ?_
 iterate 6 refine w_ ?_
 refine AL.fact (fact_len (x := .tmp 6) (Evl.tmp rfl)) fun hl1 => ?_
 iterate 4 refine w_ ?_
 refine AC.loopW (fun m_ s_ => ∃ (k : Nat), k ≤ s.length ∧ m_ = s.length - k ∧ (NoneTo (fun y => decide (v = y)) s k) ∧ s_ = ⟨[(0, lf (.dat (.sl 9 .str) s)), (1, lf (dS v)), (7, lI (s.length : Int)), (8, lI (k : Int))], []⟩) ⟨0, Nat.zero_le _, rfl, NoneTo.zero, rfl⟩ ?_ ?_
 · exact Wk.of [] rfl ⟨rfl, rfl, rfl, rfl, trivial⟩ trivial rfl rfl
 rintro m_ s_ ⟨k, hk2, hm3, hno, rfl⟩
 iterate 4 refine w_ ?_
 cases hb4 : (decide ((k : Int) < (s.length : Int)))
 ·have hb4' := of_decide_eq_false hb4
  refine w_ ?_
  refine AC.exit ?_
  refine (?_ : AC _ _ _ _ _)
  iterate 3 refine w_ ?_
  refine AC.ret ?_
  subst hO
  have e5 : ((-1) : Int) = (idxF (fun y => decide (v = y)) s) := by
   first | exact (hno.no (by omega)).symm
  exact fin_pure (Res.one rfl (Rs.tmp rfl)) ((congrArg (fun z_ => lI z_) e5)) rfl
 ·have hb4' := of_decide_eq_true hb4
  iterate 12 refine w_ ?_
  obtain ⟨x6, hx7⟩ : ∃ z, s[k]? = some z := ⟨_, List.getElem?_eq_getElem (by omega)⟩
  iterate 4 refine w_ ?_
  cases hb8 : (decide (v = x6))
  ·have hb8' := of_decide_eq_false hb8
   refine w_ ?_
   refine AC.skip ?_
   refine (?_ : AC _ _ _ _ _)
   iterate 3 refine w_ ?_
   refine AL.nil <| lend ⟨k + 1, by omega, rfl, hno.step hx7 (by assumption), rfl⟩ (by omega) ?_
   exact Wk.of [] rfl ⟨rfl, rfl, rfl, rfl, trivial⟩ trivial rfl rfl
  ·have hb8' := of_decide_eq_true hb8
   iterate 5 refine w_ ?_
   refine AC.ret ?_
   subst hO
   have e9 : ((k : Int) : Int) = (idxF (fun y => decide (v = y)) s) := by
    exact (hno.at hx7 (by assumption)).symm
   exact fin_pure (Res.one rfl (Rs.tmp rfl)) ((congrArg (fun z_ => lI z_) e9)) rfl

theorem fc_slices_Contains_string_string (s : List ByteArray) (v : ByteArray)  : FC Tryz.prog 115 [(false, [.dat (.sl 9 .str) s]), (false, [dS v])] [] 0 (Pure (lB (s.any (fun y => decide (v = y))))) := by
 refine FC.go Tryz.func115 rfl rfl Tryz.ntmps115 fun O_ hO w0_ N0_ X_ h0_ f0_ => ?_
 iterate 6 refine w_ ?_
 refine lc (dK (fc_slices_Index_string_string s v) enters_220) ?_
 iterate 3 refine w_ ?_
 refine AC.ret ?_
 subst hO
 have e1 : (decide (0 ≤ (idxF (fun y => decide (v = y)) s)) : Bool) = (s.any (fun y => decide (v = y))) := by
  exact idxF_any _ _
 exact fin_pure (Res.one rfl (Rs.tmp rfl)) ((congrArg (fun z_ => lB z_) e1)) rfl

theorem nt_t {b : Bool} (h : b = false) : (!b) = true := by rw [h]; rfl
theorem nt_f {b : Bool} (h : b = true) : (!b) = false := by rw [h]; rfl

theorem fc_impl_TracesIncluded_1 (p : ByteArray) (many : List ByteArray)  : FC Tryz.prog 114 [(false, [dS p]), (false, [.ptr 0 0])] [(0, some (.box 49 [.dat (.sl 9 .str) many]))] 1 (Is (lB (!(many.any (fun y => decide (p = y))))) [(0, some (.box 49 [.dat (.sl 9 .str) many]))]) := by
 refine FC.go Tryz.func114 rfl rfl Tryz.ntmps114 fun O_ hO w0_ N0_ X_ h0_ f0_ => ?_
 iterate 6 refine w_ ?_
 refine lc (dK (fc_slices_Contains_string_string many p) enters_115) ?_
 iterate 3 refine w_ ?_
 refine AC.ret ?_
 subst hO
 exact fin_is _ _ [] (Res.one rfl (Rs.tmp rfl)) (rfl) ⟨rfl, trivial⟩ rfl rfl

theorem fc_IndexFunc_string_ti (s : List ByteArray) (many : List ByteArray)  : FC Tryz.prog 219 [(false, [.dat (.sl 9 .str) s]), (false, [.clo 114 [0]])] [(0, some (.box 49 [.dat (.sl 9 .str) many]))] 1 (Is (lI (idxF (fun p => !(many.any (fun y => decide (p = y)))) s)) [(0, some (.box 49 [.dat (.sl 9 .str) many]))]) := by
 refine FC.go Tryz.func219 rfl rfl Tryz.ntmps219 fun O_ hO w0_ N0_ X_ h0_ f0_ => ?_
 iterate 6 refine w_ ?_
 refine AL.fact (fact_len (x := .tmp 6) (Evl.tmp rfl)) fun hl1 => ?_
 iterate 4 refine w_ ?_
 refine AC.loopW (fun m_ s_ => ∃ (k : Nat), k ≤ s.length ∧ m_ = s.length - k ∧ (NoneTo (fun p => !(many.any (fun y => decide (p = y)))) s k) ∧ s_ = ⟨[(0, lf (.dat (.sl 9 .str) s)), (1, lf (.clo 114 [0])), (7, lI (s.length : Int)), (8, lI (k : Int))], [(0, some (.box 49 [.dat (.sl 9 .str) many]))]⟩) ⟨0, Nat.zero_le _, rfl, NoneTo.zero, rfl⟩ ?_ ?_
 · exact Wk.of [] rfl ⟨rfl, rfl, rfl, rfl, trivial⟩ ⟨rfl, trivial⟩ rfl rfl
 rintro m_ s_ ⟨k, hk2, hm3, hno, rfl⟩
 iterate 4 refine w_ ?_
 cases hb4 : (decide ((k : Int) < (s.length : Int)))
 ·have hb4' := of_decide_eq_false hb4
  refine w_ ?_
  refine AC.exit ?_
  refine (?_ : AC _ _ _ _ _)
  iterate 3 refine w_ ?_
  refine AC.ret ?_
  subst hO
  have e5 : ((-1) : Int) = (idxF (fun p => !(many.any (fun y => decide (p = y)))) s) := by
   first | exact (hno.no (by omega)).symm
  exact fin_is _ _ [] (Res.one rfl (Rs.tmp rfl)) ((congrArg (fun z_ => lI z_) e5)) ⟨rfl, trivial⟩ rfl rfl
 ·have hb4' := of_decide_eq_true hb4
  iterate 12 refine w_ ?_
  obtain ⟨x6, hx7⟩ : ∃ z, s[k]? = some z := ⟨_, List.getElem?_eq_getElem (by omega)⟩
  iterate 2 refine w_ ?_
  refine lc (Does.callF (args0 := [(false, [dS x6])]) (caps := [0]) 1 [(0, 0)] (fc_impl_TracesIncluded_1 x6 many) enters_114 rfl (Evl.tmp rfl) rfl rfl ⟨_, _, rfl, (Ev.tmp rfl), rfl⟩ ⟨rfl, trivial⟩ rfl ⟨trivial, trivial⟩ (nlr rfl)) ?_
  refine w_ ?_
  cases hb8 : (many.any (fun y => decide (x6 = y)))
  ·iterate 5 refine w_ ?_
   refine AC.ret ?_
   subst hO
   have e9 : ((k : Int) : Int) = (idxF (fun p => !(many.any (fun y => decide (p = y)))) s) := by
    exact (hno.at hx7 (nt_t (by assumption))).symm
   exact fin_is _ _ [] (Res.one rfl (Rs.tmp rfl)) ((congrArg (fun z_ => lI z_) e9)) ⟨rfl, trivial⟩ rfl rfl
  ·refine w_ ?_
   refine AC.skip ?_
   refine (?_ : AC _ _ _ _ _)
   iterate 3 refine w_ ?_
   refine AL.nil <| lend ⟨k + 1, by omega, rfl, hno.step hx7 (nt_f (by assumption)), rfl⟩ (by omega) ?_
   exact Wk.of [] rfl ⟨rfl, rfl, rfl, rfl, trivial⟩ ⟨rfl, trivial⟩ rfl rfl

theorem fc_ContainsFunc_string_ti (s : List ByteArray) (many : List ByteArray)  : FC Tryz.prog 113 [(false, [.dat (.sl 9 .str) s]), (false, [.clo 114 [0]])] [(0, some (.box 49 [.dat (.sl 9 .str) many]))] 1 (Is (lB (s.any (fun p => !(many.any (fun y => decide (p = y)))))) [(0, some (.box 49 [.dat (.sl 9 .str) many]))]) := by
 refine FC.go Tryz.func113 rfl rfl Tryz.ntmps113 fun O_ hO w0_ N0_ X_ h0_ f0_ => ?_
 iterate 6 refine w_ ?_
 refine lc (dP 1 [] (fc_IndexFunc_string_ti s many) enters_219) ?_
 iterate 3 refine w_ ?_
 refine AC.ret ?_
 subst hO
 have e1 : (decide (0 ≤ (idxF (fun p => !(many.any (fun y => decide (p = y)))) s)) : Bool) = (s.any (fun p => !(many.any (fun y => decide (p = y))))) := by
  exact idxF_any _ _
 exact fin_is _ _ [] (Res.one rfl (Rs.tmp rfl)) ((congrArg (fun z_ => lB z_) e1)) ⟨rfl, trivial⟩ rfl rfl

section
variable {a b : DSTG} [∀ s, Decidable (StgOk s)] [∀ c, Decidable (SgOk c)] {m : Int}
theorem ti_w (l w : List ByteArray) : (!(l.any fun p => !(w.any fun y => decide (p = y)))) = l.all fun s => hasB w s := by
  rw [List.not_any_eq_all_not]
  congr 1
  funext p
  rw [Bool.not_not]; rfl
theorem ti_fin (h1 : (sgV a).2 = true) (h2 : (sgV b).2 = true) (h3 : (trV (sgV a).1 (-1) m).2 = true) (h4 : (trV (sgV b).1 (-1) m).2 = true) : (!((trV (sgV a).1 (-1) m).1.any fun p => !((trV (sgV b).1 (-1) m).1.any fun y => decide (p = y))), true) = tiV a b m := by rw [ti_yes h1 h2 h3 h4, ti_w]
end

theorem fc_impl_TracesIncluded (a : (Int × (List (List Int × List Int))) × (List (ByteArray × Int)) × (List (Int × Bool)) × ByteArray) (b : (Int × (List (List Int × List Int))) × (List (ByteArray × Int)) × (List (Int × Bool)) × ByteArray) (most : Int) [∀ s, Decidable (StgOk s)] [∀ c, Decidable (SgOk c)]  : FC Tryz.prog 33 [(true, [dI a.1.1, .dat (.sl 198 (.pr (.sl 3 .int) (.sl 3 .int))) a.1.2, .dat (.sl 90 (.pr .str .int)) a.2.1, .dat (.sl 55 (.pr .int .bool)) a.2.2.1, dS a.2.2.2]), (true, [dI b.1.1, .dat (.sl 198 (.pr (.sl 3 .int) (.sl 3 .int))) b.1.2, .dat (.sl 90 (.pr .str .int)) b.2.1, .dat (.sl 55 (.pr .int .bool)) b.2.2.1, dS b.2.2.2]), (false, [dI most])] [] 0 (Pure (PV.tup [(false, [dB ((tiV a b most).1)]), (false, [dB ((tiV a b most).2)])])) := by
 refine FC.go Tryz.func33 rfl rfl Tryz.ntmps33 fun O_ hO w0_ N0_ X_ h0_ f0_ => ?_
 refine AC.fact (fact_ag (x := .tmp 0) (i := 0) (Ev.tmp rfl) rfl) fun hi1 => AC.fact (fact_ag (x := .tmp 1) (i := 0) (Ev.tmp rfl) rfl) fun hi2 => AC.fact (fact_int (x := .tmp 2) (Evl.tmp rfl)) fun hi3 => ?_
 refine w_ ?_
 refine xbx 0 ?_
 refine xbx 1 ?_
 iterate 5 refine w_ ?_
 refine lc (dK (fc_impl_BuildStateGraph a).frozenG enters_112) ?_
 iterate 3 refine w_ ?_
 refine lc (xal 2 (.pr (.sl 90 (.pr .str .int)) (.pr (.sl 9 .str) (.sl 106 (.pr .int (.pr .int (.pr .bool .int)))))) zer_52) ?_
 iterate 5 refine w_ ?_
 refine lc (dK (fc_impl_BuildStateGraph b).frozenG enters_112) ?_
 iterate 3 refine w_ ?_
 refine lc (xal 3 (.pr (.sl 90 (.pr .str .int)) (.pr (.sl 9 .str) (.sl 106 (.pr .int (.pr .int (.pr .bool .int)))))) zer_52) ?_
 iterate 8 refine w_ ?_
 cases hb4 : ((sgV a).2)
 ·iterate 9 refine w_ ?_
  refine AC.ret ?_
  subst hO
  have e5 : (false : Bool) = ((tiV a b most).1) := by
   exact congrArg Prod.fst (ti_n1 (by assumption))
  have e6 : (false : Bool) = ((tiV a b most).2) := by
   exact congrArg Prod.snd (ti_n1 (by assumption))
  exact fin_pure (Res.two rfl (Rs.tmp rfl) (Rs.tmp rfl)) (((congrArg (fun z_ => PV.tup [(false, [dB z_]), (false, [dB false])]) e5)).trans (congrArg (fun z_ => PV.tup [(false, [dB ((tiV a b most).1)]), (false, [dB z_])]) e6)) rfl
 ·iterate 4 refine w_ ?_
  cases hb7 : ((sgV b).2)
  ·iterate 5 refine w_ ?_
   refine AC.ret ?_
   subst hO
   have e8 : (false : Bool) = ((tiV a b most).1) := by
    exact congrArg Prod.fst (ti_n2 (by assumption))
   have e9 : (false : Bool) = ((tiV a b most).2) := by
    exact congrArg Prod.snd (ti_n2 (by assumption))
   exact fin_pure (Res.two rfl (Rs.tmp rfl) (Rs.tmp rfl)) (((congrArg (fun z_ => PV.tup [(false, [dB z_]), (false, [dB false])]) e8)).trans (congrArg (fun z_ => PV.tup [(false, [dB ((tiV a b most).1)]), (false, [dB z_])]) e9)) rfl
  ·iterate 5 refine w_ ?_
   refine lc (dK (fc_impl_Traces ((sgV a).1) (-1) most).frozenG enters_62) ?_
   iterate 9 refine w_ ?_
   refine lc (dK (fc_impl_Traces ((sgV b).1) (-1) most).frozenG enters_62) ?_
   iterate 3 refine w_ ?_
   refine lc (xal 4 (.sl 9 .str) zer_49) ?_
   iterate 8 refine w_ ?_
   cases hb10 : ((trV ((sgV a).1) (-1) most).2)
   ·iterate 9 refine w_ ?_
    refine AC.ret ?_
    subst hO
    have e11 : (false : Bool) = ((tiV a b most).1) := by
     exact congrArg Prod.fst (ti_n3 (by assumption))
    have e12 : (false : Bool) = ((tiV a b most).2) := by
     exact congrArg Prod.snd (ti_n3 (by assumption))
    exact fin_pure (Res.two rfl (Rs.tmp rfl) (Rs.tmp rfl)) (((congrArg (fun z_ => PV.tup [(false, [dB z_]), (false, [dB false])]) e11)).trans (congrArg (fun z_ => PV.tup [(false, [dB ((tiV a b most).1)]), (false, [dB z_])]) e12)) rfl
   ·iterate 4 refine w_ ?_
    cases hb13 : ((trV ((sgV b).1) (-1) most).2)
    ·iterate 5 refine w_ ?_
     refine AC.ret ?_
     subst hO
     have e14 : (false : Bool) = ((tiV a b most).1) := by
      exact congrArg Prod.fst (ti_n4 (by assumption))
     have e15 : (false : Bool) = ((tiV a b most).2) := by
      exact congrArg Prod.snd (ti_n4 (by assumption))
     exact fin_pure (Res.two rfl (Rs.tmp rfl) (Rs.tmp rfl)) (((congrArg (fun z_ => PV.tup [(false, [dB z_]), (false, [dB false])]) e14)).trans (congrArg (fun z_ => PV.tup [(false, [dB ((tiV a b most).1)]), (false, [dB z_])]) e15)) rfl
    ·iterate 4 refine w_ ?_
     refine lc (Does.makeFunc ⟨_, _, rfl, (Evl.tmp rfl), rfl, rfl⟩ rfl) ?_
     refine lc (dP 5 [(0, 4)] (fc_ContainsFunc_string_ti ((trV ((sgV a).1) (-1) most).1) ((trV ((sgV b).1) (-1) most).1)) enters_113) ?_
     iterate 4 refine w_ ?_
     refine AC.ret ?_
     subst hO
     have e16 : (!(((trV ((sgV a).1) (-1) most).1).any (fun p => !(((trV ((sgV b).1) (-1) most).1).any (fun y => decide (p = y))))) : Bool) = ((tiV a b most).1) := by
      exact congrArg Prod.fst (ti_fin (by assumption) (by assumption) (by assumption) (by assumption))
     have e17 : (true : Bool) = ((tiV a b most).2) := by
      exact congrArg Prod.snd (ti_fin (by assumption) (by assumption) (by assumption) (by assumption))
     exact fin_pure (Res.two rfl (Rs.tmp rfl) (Rs.tmp rfl)) (((congrArg (fun z_ => PV.tup [(false, [dB z_]), (false, [dB true])]) e16)).trans (congrArg (fun z_ => PV.tup [(false, [dB ((tiV a b most).1)]), (false, [dB z_])]) e17)) rfl

end Go.Proofs.YtjaadeknhofhpaaGreat
