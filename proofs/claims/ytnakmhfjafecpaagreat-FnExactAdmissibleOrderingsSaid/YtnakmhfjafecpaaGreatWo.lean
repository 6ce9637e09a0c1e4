/- Walks over abstract states: the values of a signal, the reference. -/
import Derived.Test.YtnakmhfjafecpaaGreatWn
set_option linter.unusedSimpArgs false
set_option linter.unusedVariables false
set_option linter.unusedSectionVars false
namespace Go.Proofs.YtnakmhfjafecpaaGreat
open Go.RowKit
set_option maxRecDepth 100000
set_option maxHeartbeats 4000000

section
variable {sig : Int} {us us' : List UInt8} {arcs : List DAr} {f k n : Nat} {cf ct b1 b2 : UInt8} {mv : DMv} {lb : DLabel} {ls : List DLabel} {ms : List DMv}
theorem arcs_len (ls : List DLabel) (ms : List DMv) : (arcsOf ls ms).length = ms.length := by simp [arcsOf]
theorem arcs_get (hx : ms[k]? = some mv) (hla : labAt ls mv.2.1 = lb) : (arcsOf ls ms)[k]? = some (mv.1, lb.1, lb.2, mv.2.2) := by
  unfold arcsOf
  rw [List.getElem?_map, hx]
  simp [arcOf, hla]
def ar4 (mv : DMv) (lb : DLabel) : DAr := (mv.1, lb.1, lb.2, mv.2.2)
theorem stepS_un1 (hl : ¬ lb.1 = sig) (hf : us[mv.1.toNat]? = some cf) (hq : decide (cf = 63) = true) (ht : us[mv.2.2.toNat]? = some ct) : stepS sig (mv.1, lb.1, lb.2, mv.2.2) us = some ((us.set mv.1.toNat ct).set mv.2.2.toNat ct) := by
  unfold stepS
  simp only
  rw [if_neg hl, bv_get hf, bv_get ht, if_pos (of_decide_eq_true hq)]
theorem stepS_un2 (hl : ¬ lb.1 = sig) (hf : us[mv.1.toNat]? = some cf) (hq : decide (cf = 63) = false) (ht : us[mv.2.2.toNat]? = some ct) (h2 : ct = 63 ∨ ct = cf) : stepS sig (mv.1, lb.1, lb.2, mv.2.2) us = some ((us.set mv.1.toNat cf).set mv.2.2.toNat cf) := by
  unfold stepS
  simp only
  rw [if_neg hl, bv_get hf, bv_get ht, if_neg (of_decide_eq_false hq), if_neg]
  rintro ⟨h3, h4⟩
  rcases h2 with h | h
  · exact h3 h
  · exact h4 h
theorem stepS_un3 (hl : ¬ lb.1 = sig) (hf : us[mv.1.toNat]? = some cf) (hq : decide (cf = 63) = false) (ht : us[mv.2.2.toNat]? = some ct) (h1 : ¬ ct = 63) (h2 : ¬ ct = cf) : stepS sig (mv.1, lb.1, lb.2, mv.2.2) us = none := by
  unfold stepS
  simp only
  rw [if_neg hl, bv_get hf, bv_get ht, if_neg (of_decide_eq_false hq), if_pos ⟨h1, h2⟩]
theorem bitS_at {b : Bool} {c : UInt8} (h : (bitS b)[((0 : Int)).toNat]? = some c) : (if b = true then 49 else 48) = c := by
  have : (bitS b)[((0 : Int)).toNat]? = some (if b = true then 49 else 48) := by cases b <;> rfl
  rw [this] at h
  exact Option.some.inj h
theorem stepS_lab (hl : lb.1 = sig) (h1 : (bitS (!lb.2))[((0 : Int)).toNat]? = some b1) (h2 : (bitS lb.2)[((0 : Int)).toNat]? = some b2) (hf : cf = 63 ∨ cf = b1) (ht : ct = 63 ∨ ct = b2) (hcf : us[mv.1.toNat]? = some cf) (hct : us[mv.2.2.toNat]? = some ct) :
    stepS sig (mv.1, lb.1, lb.2, mv.2.2) us = some ((us.set mv.1.toNat b1).set mv.2.2.toNat b2) := by
  unfold stepS
  simp only
  rw [if_pos hl, bitS_at h1, bitS_at h2, bv_get hcf, bv_get hct, if_neg]
  rintro (⟨h3, h4⟩ | ⟨h3, h4⟩)
  · rcases hf with h | h
    · exact h3 h
    · exact h4 h
  · rcases ht with h | h
    · exact h3 h
    · exact h4 h
theorem stepS_lab1 (hl : lb.1 = sig) (h1 : (bitS (!lb.2))[((0 : Int)).toNat]? = some b1) (hcf : us[mv.1.toNat]? = some cf) (h3 : ¬ cf = 63) (h4 : ¬ cf = b1) : stepS sig (mv.1, lb.1, lb.2, mv.2.2) us = none := by
  unfold stepS
  simp only
  rw [if_pos hl, bitS_at h1, bv_get hcf, if_pos (.inl ⟨h3, h4⟩)]
theorem stepS_lab2 (hl : lb.1 = sig) (h1 : (bitS lb.2)[((0 : Int)).toNat]? = some b2) (hct : us[mv.2.2.toNat]? = some ct) (h3 : ¬ ct = 63) (h4 : ¬ ct = b2) : stepS sig (mv.1, lb.1, lb.2, mv.2.2) us = none := by
  unfold stepS
  simp only
  rw [if_pos hl, bitS_at h1, bv_get hct, if_pos (.inr ⟨h3, h4⟩)]
/-- The places below k filled with '?'. -/
def fillQ (n k : Nat) : List UInt8 := List.replicate k 63 ++ List.replicate (n - k) 0
theorem fillQ_len (n k : Nat) (h : k ≤ n) : (fillQ n k).length = n := by simp [fillQ]; omega
theorem fillQ_end (h : n ≤ k) (h2 : k ≤ n) : fillQ n k = List.replicate n 63 := by
  obtain rfl : k = n := by omega
  simp [fillQ]
theorem fillQ_set (h : k < n) : (fillQ n k).set k 63 = fillQ n (k + 1) := by
  unfold fillQ
  rw [List.set_append_right _ _ (by simp), List.length_replicate, Nat.sub_self, show n - k = (n - (k + 1)) + 1 by omega, List.replicate_succ, List.set_cons_zero, List.replicate_succ']
  simp
def clash (n : Nat) (arcs : List DAr) : Nat → List Int
  | 0 => []
  | k + 1 => clash n arcs k ++ (if (l5V n arcs (k : Int)).2 = true then [] else [(k : Int)])
theorem clash_len (n : Nat) (arcs : List DAr) (k : Nat) : (clash n arcs k).length ≤ k := by
  induction k with
  | zero => simp [clash]
  | succ k ih => simp only [clash, List.length_append]; split <;> simp <;> omega
theorem clash_yes (h : (l5V n arcs (k : Int)).2 = true) : clash n arcs k = clash n arcs (k + 1) := by simp [clash, h]
theorem clash_no (h : (l5V n arcs (k : Int)).2 = false) : clash n arcs k ++ [(k : Int)] = clash n arcs (k + 1) := by simp [clash, h]
end
def MvOk (n m : Nat) (v : DMv) : Prop := (0 ≤ v.1 ∧ v.1 < (n : Int)) ∧ (0 ≤ v.2.1 ∧ v.2.1 < (m : Int)) ∧ 0 ≤ v.2.2 ∧ v.2.2 < (n : Int)

theorem fc_spec_l5Bit (up : Bool)  : FC Tryz.prog 220 [(false, [dB up])] [] 0 (Pure (lf (dS (bitS up)))) := by
 refine FC.go Tryz.func220 rfl rfl Tryz.ntmps220 fun O_ hO w0_ N0_ X_ h0_ f0_ => ?_
 iterate 7 refine w_ ?_
 cases hb1 : (up)
 ·iterate 5 refine w_ ?_
  refine AC.ret ?_
  subst hO
  have e2 : ((⟨#[48]⟩ : ByteArray) : ByteArray) = (bitS up) := by
   simp [bitS, *]
  exact fin_pure (Res.one rfl (Rs.tmp rfl)) ((congrArg (fun z_ => lf (dS z_)) e2)) rfl
 ·iterate 4 refine w_ ?_
  refine AC.ret ?_
  subst hO
  have e3 : ((⟨#[49]⟩ : ByteArray) : ByteArray) = (bitS up) := by
   simp [bitS, *]
  exact fin_pure (Res.one rfl (Rs.tmp rfl)) ((congrArg (fun z_ => lf (dS z_)) e3)) rfl

theorem fc_spec_l5Values (s : (Int × (List (List Int × List Int))) × (List (ByteArray × Int)) × (List (Int × Bool)) × ByteArray) (r : List ByteArray × (List (Int × Int × Int))) (sig : Int) (hm : ∀ m ∈ r.2, MvOk r.1.length s.2.2.1.length m) (hl1 : r.1.length ≤ 1000000) : FC Tryz.prog 227 [(true, [dI s.1.1, .dat (.sl 159 (.pr (.sl 3 .int) (.sl 3 .int))) s.1.2, .dat (.sl 145 (.pr .str .int)) s.2.1, .dat (.sl 61 (.pr .int .bool)) s.2.2.1, dS s.2.2.2]), (true, [.dat (.sl 9 .str) r.1, .dat (.sl 226 (.pr .int (.pr .int .int))) r.2]), (false, [dI sig])] [] 0 (Pure (PV.tup [(false, [dS ((l5V r.1.length (arcsOf s.2.2.1 r.2) sig).1)]), (false, [dB ((l5V r.1.length (arcsOf s.2.2.1 r.2) sig).2)])])) := by
 have hrl : (List.replicate r.1.length (Ty.zero .u8)).length = r.1.length := List.length_replicate ..
 refine FC.go Tryz.func227 rfl rfl Tryz.ntmps227 fun O_ hO w0_ N0_ X_ h0_ f0_ => ?_
 refine AC.fact (fact_ag (x := .tmp 0) (i := 0) (Ev.tmp rfl) rfl) fun hi1 => AC.fact (fact_int (x := .tmp 2) (Evl.tmp rfl)) fun hi2 => ?_
 refine w_ ?_
 refine lc (Does.box 0 (Ev.tmp rfl) rfl rfl (Fresh.of rfl) (nlr rfl)) <| lc (Does.box 1 (Ev.tmp rfl) rfl rfl (Fresh.of rfl) (nlr rfl)) ?_
 iterate 6 refine w_ ?_
 refine AL.fact (fact_len (x := .tmp 18) (Evl.tmp rfl)) fun hl3 => ?_
 refine w_ ?_
 refine lc (Does.make 2 (e := .u8) (n := r.1.length) (Evl.tmp rfl) (Evl.tmp rfl) und_209 mki_5 rfl (by omega) (by omega) rfl (Fresh.of rfl) (nlr rfl)) ?_
 iterate 9 refine w_ ?_
 refine AC.loopW (fun m_ s_ => ∃ (k : Nat), k ≤ r.1.length ∧ m_ = r.1.length - k ∧ s_ = ⟨[(2, lI sig), (3, lP 0 0), (4, lP 1 0), (6, lf (dS (⟨#[]⟩ : ByteArray))), (7, lB false), (8, lR 3), (22, lI ((List.replicate r.1.length (Ty.zero .u8)).length : Int)), (23, lI (k : Int))], [(0, some (.box 39 [dI s.1.1, .dat (.sl 159 (.pr (.sl 3 .int) (.sl 3 .int))) s.1.2, .dat (.sl 145 (.pr .str .int)) s.2.1, .dat (.sl 61 (.pr .int .bool)) s.2.2.1, dS s.2.2.2])), (1, some (.box 98 [.dat (.sl 9 .str) r.1, .dat (.sl 226 (.pr .int (.pr .int .int))) r.2])), (3, some (.arr 5 .u8 (fillQ r.1.length k)))]⟩) ⟨0, Nat.zero_le _, rfl, rfl⟩ ?_ ?_
 · exact Wk.of [(0, 0), (1, 1), (3, 2)] rfl ⟨rfl, rfl, rfl, rfl, rfl, rfl, rfl, rfl, trivial⟩ ⟨rfl, rfl, (entE (rfl)), trivial⟩ rfl rfl
 rintro m_ s_ ⟨k, hk4, hm5, rfl⟩
 have hfq := fillQ_len r.1.length k (by omega)
 iterate 4 refine w_ ?_
 cases hb6 : (decide ((k : Int) < ((List.replicate r.1.length (Ty.zero .u8)).length : Int)))
 ·have hb6' := of_decide_eq_false hb6
  refine w_ ?_
  refine AC.exit ?_
  refine (?_ : AC _ _ _ _ _)
  iterate 5 refine w_ ?_
  refine AC.loopW (fun m_ s_ => ∃ (p : Nat) (us : List UInt8), p ≤ (r.1.length + 1) ∧ m_ = (r.1.length + 1) - p ∧ (iterS sig (arcsOf s.2.2.1 r.2) (r.1.length + 1) (List.replicate r.1.length 63) = iterS sig (arcsOf s.2.2.1 r.2) (r.1.length + 1 - p) us) ∧ (us.length = r.1.length) ∧ s_ = ⟨[(2, lI sig), (3, lP 0 0), (4, lP 1 0), (8, lR 4), (10, lI (p : Int))], [(0, some (.box 39 [dI s.1.1, .dat (.sl 159 (.pr (.sl 3 .int) (.sl 3 .int))) s.1.2, .dat (.sl 145 (.pr .str .int)) s.2.1, .dat (.sl 61 (.pr .int .bool)) s.2.2.1, dS s.2.2.2])), (1, some (.box 98 [.dat (.sl 9 .str) r.1, .dat (.sl 226 (.pr .int (.pr .int .int))) r.2])), (4, some (.arr 5 .u8 us))]⟩) ⟨0, fillQ r.1.length k, Nat.zero_le _, rfl, (by rw [fillQ_end (by omega) (by omega)]; rfl), (fillQ_len _ _ (by omega)), rfl⟩ ?_ ?_
  · exact Wk.of [(0, 0), (1, 1), (4, 3)] rfl ⟨rfl, rfl, rfl, rfl, rfl, trivial⟩ ⟨rfl, rfl, (entE (by first | rfl | simp)), trivial⟩ rfl rfl
  rintro m_ s_ ⟨p, us, hk7, hm8, hA, hL, rfl⟩
  iterate 5 refine w_ ?_
  refine AL.fact (fact_len (x := .tmp 32) (Evl.tmp rfl)) fun hl9 => ?_
  iterate 3 refine w_ ?_
  cases hb10 : (decide ((p : Int) ≤ (r.1.length : Int)))
  ·have hb10' := of_decide_eq_false hb10
   refine w_ ?_
   refine AC.exit ?_
   refine (?_ : AC _ _ _ _ _)
   iterate 2 refine w_ ?_
   refine lc (Does.ofBytes (ys := us) (Evl.repO (Evl.tmp rfl) rfl) und_209 und_5 und_9 rfl) ?_
   iterate 3 refine w_ ?_
   refine AC.ret ?_
   subst hO
   have e11 : ((⟨(us).toArray⟩ : ByteArray) : ByteArray) = ((l5V r.1.length (arcsOf s.2.2.1 r.2) sig).1) := by
    first | (rw [l5V_yes (us := us) (by rw [hA, show r.1.length + 1 - p = 0 by omega]; rfl)]; done)
   have e12 : (true : Bool) = ((l5V r.1.length (arcsOf s.2.2.1 r.2) sig).2) := by
    first | (rw [l5V_yes (us := us) (by rw [hA, show r.1.length + 1 - p = 0 by omega]; rfl)]; done)
   exact fin_pure (Res.two rfl (Rs.tmp rfl) (Rs.tmp rfl)) (((congrArg (fun z_ => PV.tup [(false, [dS z_]), (false, [dB true])]) e11)).trans (congrArg (fun z_ => PV.tup [(false, [dS ((l5V r.1.length (arcsOf s.2.2.1 r.2) sig).1)]), (false, [dB z_])]) e12)) rfl
  ·have hb10' := of_decide_eq_true hb10
   iterate 7 refine w_ ?_
   refine AL.fact (fact_len (x := .tmp 38) (Evl.tmp rfl)) fun hl13 => ?_
   iterate 4 refine w_ ?_
   refine AC.loopW (fun m_ s_ => ∃ (i : Nat) (us2 : List UInt8), i ≤ r.2.length ∧ m_ = r.2.length - i ∧ (iterS sig (arcsOf s.2.2.1 r.2) (r.1.length + 1) (List.replicate r.1.length 63) = contS sig (arcsOf s.2.2.1 r.2) (r.1.length - p) (passS sig ((arcsOf s.2.2.1 r.2).drop i) us2)) ∧ (us2.length = r.1.length) ∧ s_ = ⟨[(2, lI sig), (3, lP 0 0), (4, lP 1 0), (8, lR 5), (10, lI (p : Int)), (30, lI (p : Int)), (31, lP 1 0), (32, lf (.dat (.sl 9 .str) r.1)), (33, lI (r.1.length : Int)), (34, lB true), (37, lP 1 1), (38, lf (.dat (.sl 226 (.pr .int (.pr .int .int))) r.2)), (39, lI (r.2.length : Int)), (40, lI (i : Int))], [(0, some (.box 39 [dI s.1.1, .dat (.sl 159 (.pr (.sl 3 .int) (.sl 3 .int))) s.1.2, .dat (.sl 145 (.pr .str .int)) s.2.1, .dat (.sl 61 (.pr .int .bool)) s.2.2.1, dS s.2.2.2])), (1, some (.box 98 [.dat (.sl 9 .str) r.1, .dat (.sl 226 (.pr .int (.pr .int .int))) r.2])), (5, some (.arr 5 .u8 us2))]⟩) ⟨0, us, Nat.zero_le _, rfl, (by rw [hA, show r.1.length + 1 - p = (r.1.length - p) + 1 by omega]; exact iterS_in _ _), hL, rfl⟩ ?_ ?_
   · exact Wk.of [(0, 0), (1, 1), (5, 4)] rfl ⟨rfl, rfl, rfl, rfl, rfl, rfl, rfl, rfl, rfl, rfl, rfl, rfl, rfl, rfl, trivial⟩ ⟨rfl, rfl, rfl, trivial⟩ rfl rfl
   rintro m_ s_ ⟨i, us2, hk14, hm15, hA2, hL2, rfl⟩
   iterate 4 refine w_ ?_
   cases hb16 : (decide ((i : Int) < (r.2.length : Int)))
   ·have hb16' := of_decide_eq_false hb16
    refine w_ ?_
    refine AC.exit ?_
    refine (?_ : AC _ _ _ _ _)
    iterate 4 refine w_ ?_
    refine AL.nil <| lend ⟨p + 1, us2, by omega, rfl, (by rw [hA2, passS_end (by rw [arcs_len]; omega), show r.1.length + 1 - (p + 1) = r.1.length - p by omega]; rfl), hL2, rfl⟩ (by omega) ?_
    exact Wk.of [(0, 0), (1, 1), (4, 5)] rfl ⟨rfl, rfl, rfl, rfl, rfl, trivial⟩ ⟨rfl, rfl, rfl, trivial⟩ rfl rfl
   ·have hb16' := of_decide_eq_true hb16
    iterate 5 refine w_ ?_
    obtain ⟨mv, hx18⟩ : ∃ z, r.2[i]? = some z := ⟨_, List.getElem?_eq_getElem (by omega)⟩
    obtain ⟨⟨hm1, hm2⟩, ⟨hm3, hm4⟩, hm5, hm6⟩ := hm _ (List.mem_of_getElem? hx18)
    refine lc (Does.indexE (Evl.tmp rfl) (Evl.tmp rfl) und_96 tsh_226 rfl (by omega) hx18) ?_
    refine w_ ?_
    refine lc (Does.alloc 6 (.pr .int (.pr .int .int)) zer_226 rfl rfl (Fresh.of rfl) (nlr rfl)) <| lc (Does.storeP (Evl.tmp rfl) rfl (Ev.tmp rfl) rfl tsh_226 rfl) ?_
    iterate 6 refine w_ ?_
    refine AL.fact (fact_int (x := .tmp 47) (Evl.tmp rfl)) fun hi19 => ?_
    obtain ⟨lb, hx21⟩ : ∃ z, s.2.2.1[(mv.2.1).toNat]? = some z := ⟨_, List.getElem?_eq_getElem (by omega)⟩
    have hla := lab_get hx21
    refine lc (Does.indexE (Evl.tmp rfl) (Evl.tmp rfl) und_37 tsh_61 rfl (by omega) hx21) ?_
    refine w_ ?_
    refine lc (Does.alloc 7 (.pr .int .bool) zer_61 rfl rfl (Fresh.of rfl) (nlr rfl)) <| lc (Does.storeP (Evl.tmp rfl) rfl (Ev.tmp rfl) rfl tsh_61 rfl) ?_
    iterate 5 refine w_ ?_
    refine AL.fact (fact_int (x := .tmp 51) (Evl.tmp rfl)) fun hi22 => ?_
    iterate 3 refine w_ ?_
    cases hb23 : (!decide (lb.1 = sig))
    ·have hb23' : (lb.1 = sig) := nd_false hb23
     iterate 2 refine w_ ?_
     obtain ⟨c24, hc25⟩ : ∃ z, (bitS (!lb.2))[(0 : Int).toNat]? = some z := by first | exact ⟨_, getElem?_pos _ _ (by omega)⟩ | exact ⟨_, rfl⟩
     obtain ⟨c26, hc27⟩ : ∃ z, (bitS lb.2)[(0 : Int).toNat]? = some z := by first | exact ⟨_, getElem?_pos _ _ (by omega)⟩ | exact ⟨_, rfl⟩
     refine dw [io 95 (lP 7 1), io 96 (lB lb.2), io 97 (lB (!lb.2)), io 98 (lf (dS (bitS (!lb.2)))), io 99 (lf (.dat .u8 c24)), io 100 (lP 7 1), io 101 (lB lb.2), io 102 (lf (dS (bitS lb.2))), io 103 (lf (.dat .u8 c26)), io 15 (lf (.dat .u8 c24)), io 16 (lf (.dat .u8 c26))] [0, 1, 3, 7, 15, 0, 32, 111, 239, 255, 1023] mixed rfl (by kernel_rfl) ⟨dxf fld_61_1 rfl rfl rfl, dxl tsh_4 rfl rfl rfl rfl rfl, fun _ h_ => ac (Does.not (h_.v rfl) rfl) rfl, fun _ h_ => ac (Does.call (fc_spec_l5Bit (!lb.2)) enters_220 ⟨_, _, rfl, (h_.w rfl), rfl⟩ rfl rfl) rfl, fun _ h_ => ac (Does.indexS (h_.v rfl) (Evl.int rfl) rfl und_9 (by omega) hc25) rfl, dxf fld_61_1 rfl rfl rfl, dxl tsh_4 rfl rfl rfl rfl rfl, fun _ h_ => ac (Does.call (fc_spec_l5Bit lb.2) enters_220 ⟨_, _, rfl, (h_.w rfl), rfl⟩ rfl rfl) rfl, fun _ h_ => ac (Does.indexS (h_.v rfl) (Evl.int rfl) rfl und_9 (by omega) hc27) rfl, dxt rfl rfl, dxt rfl rfl, ⟨⟩⟩ ?_
     iterate 5 refine w_ ?_
     refine AL.fact (fact_int (x := .tmp 106) (Evl.tmp rfl)) fun hi28 => lc (Does.indexI (e := .u8) (Evl.tmp rfl) rfl (Evl.tmp rfl) und_209 tsh_5 rfl (by omega) (by first | omega | (simp only [List.length_set]; omega))) ?_
     obtain ⟨cf, hx30⟩ : ∃ z, us2[(mv.1).toNat]? = some z := ⟨_, List.getElem?_eq_getElem (by omega)⟩
     refine lc (Does.loadI (e := .u8) (Evl.tmp rfl) rfl hx30 rfl tsh_5 rfl rfl) <| lc (Does.neqU (Evl.tmp rfl) (Evl.u8 63 rfl) rfl) ?_
     refine w_ ?_
     cases hb31 : (!decide (cf = 63))
     ·have hb31' : (cf = 63) := nd_false hb31
      iterate 12 refine w_ ?_
      refine lgy rfl rfl (Does.indexI (e := .u8) (Evl.tmp rfl) rfl (Evl.tmp rfl) und_209 tsh_5 rfl (by omega) (by first | omega | (simp only [List.length_set]; omega))) ?_
      obtain ⟨ct, hx33⟩ : ∃ z, us2[(mv.2.2).toNat]? = some z := ⟨_, List.getElem?_eq_getElem (by omega)⟩
      refine lgy rfl rfl (Does.loadI (e := .u8) (Evl.tmp rfl) rfl hx33 rfl tsh_5 rfl rfl) <| lgy rfl rfl (Does.neqU (Evl.tmp rfl) (Evl.u8 63 rfl) rfl) ?_
      refine w_ ?_
      cases hb34 : (!decide (ct = 63))
      ·have hb34' : (ct = 63) := nd_false hb34
       iterate 17 refine w_ ?_
       refine lc (Does.indexI (e := .u8) (Evl.tmp rfl) rfl (Evl.tmp rfl) und_209 tsh_5 rfl (by omega) (by first | omega | (simp only [List.length_set]; omega))) <| lc (Does.storeI (e := .u8) (z' := c24) (Evl.tmp rfl) rfl hx30 rfl (Ev.tmp rfl) rfl tsh_5 rfl rfl) ?_
       iterate 5 refine w_ ?_
       refine AL.fact (fact_int (x := .tmp 143) (Evl.tmp rfl)) fun hi35 => ?_
       refine w_ ?_
       refine lc (Does.indexI (e := .u8) (Evl.tmp rfl) rfl (Evl.tmp rfl) und_209 tsh_5 rfl (by omega) (by first | omega | (simp only [List.length_set]; omega))) ?_
       obtain ⟨x36, hx37⟩ : ∃ z, (us2.set ((mv.1).toNat) c24)[(mv.2.2).toNat]? = some z := ⟨_, List.getElem?_eq_getElem (by first | omega | (simp only [List.length_set]; omega))⟩
       refine lc (Does.storeI (e := .u8) (z' := c26) (Evl.tmp rfl) rfl hx37 rfl (Ev.tmp rfl) rfl tsh_5 rfl rfl) <| AL.nil ?_
       refine (?_ : AC _ _ _ _ _)
       iterate 3 refine w_ ?_
       refine AL.nil <| lend ⟨i + 1, ((us2.set ((mv.1).toNat) c24).set ((mv.2.2).toNat) c26), by omega, rfl, hA2.trans (congrArg (contS sig (arcsOf s.2.2.1 r.2) (r.1.length - p)) (passS_ok (arcs_get hx18 hla) (by first | exact stepS_un1 (cf := cf) (ct := ct) (by assumption) (by assumption) (by assumption) (by assumption) | exact stepS_un2 (cf := cf) (ct := ct) (by assumption) (by assumption) (by assumption) (by assumption) (by first | exact .inl (by assumption) | exact .inr (by assumption)) | exact stepS_lab (cf := cf) (ct := ct) (by assumption) (by assumption) (by assumption) (by first | exact .inl (by assumption) | exact .inr (by assumption)) (by first | exact .inl (by assumption) | exact .inr (by assumption)) (by assumption) (by assumption)))), (by simp only [List.length_set]; exact hL2), rfl⟩ (by omega) ?_
       exact Wk.of [(0, 0), (1, 1), (5, 5)] rfl ⟨rfl, rfl, rfl, rfl, rfl, rfl, rfl, rfl, rfl, rfl, rfl, rfl, rfl, rfl, trivial⟩ ⟨rfl, rfl, (entE (by first | rfl | simp)), trivial⟩ rfl rfl
      ·have hb34' : ¬ (ct = 63) := nd_true hb34
       iterate 3 refine w_ ?_
       refine lgy rfl rfl (Does.indexI (e := .u8) (Evl.tmp rfl) rfl (Evl.tmp rfl) und_209 tsh_5 rfl (by omega) (by first | omega | (simp only [List.length_set]; omega))) <| lgy rfl rfl (Does.loadI (e := .u8) (Evl.tmp rfl) rfl hx33 rfl tsh_5 rfl rfl) ?_
       iterate 5 refine w_ ?_
       cases hb38 : (!decide (ct = c26))
       ·have hb38' : (ct = c26) := nd_false hb38
        iterate 7 refine w_ ?_
        refine lc (Does.indexI (e := .u8) (Evl.tmp rfl) rfl (Evl.tmp rfl) und_209 tsh_5 rfl (by omega) (by first | omega | (simp only [List.length_set]; omega))) <| lc (Does.storeI (e := .u8) (z' := c24) (Evl.tmp rfl) rfl hx30 rfl (Ev.tmp rfl) rfl tsh_5 rfl rfl) ?_
        iterate 5 refine w_ ?_
        refine AL.fact (fact_int (x := .tmp 143) (Evl.tmp rfl)) fun hi39 => ?_
        refine w_ ?_
        refine lc (Does.indexI (e := .u8) (Evl.tmp rfl) rfl (Evl.tmp rfl) und_209 tsh_5 rfl (by omega) (by first | omega | (simp only [List.length_set]; omega))) ?_
        obtain ⟨x40, hx41⟩ : ∃ z, (us2.set ((mv.1).toNat) c24)[(mv.2.2).toNat]? = some z := ⟨_, List.getElem?_eq_getElem (by first | omega | (simp only [List.length_set]; omega))⟩
        refine lc (Does.storeI (e := .u8) (z' := c26) (Evl.tmp rfl) rfl hx41 rfl (Ev.tmp rfl) rfl tsh_5 rfl rfl) <| AL.nil ?_
        refine (?_ : AC _ _ _ _ _)
        iterate 3 refine w_ ?_
        refine AL.nil <| lend ⟨i + 1, ((us2.set ((mv.1).toNat) c24).set ((mv.2.2).toNat) c26), by omega, rfl, hA2.trans (congrArg (contS sig (arcsOf s.2.2.1 r.2) (r.1.length - p)) (passS_ok (arcs_get hx18 hla) (by first | exact stepS_un1 (cf := cf) (ct := ct) (by assumption) (by assumption) (by assumption) (by assumption) | exact stepS_un2 (cf := cf) (ct := ct) (by assumption) (by assumption) (by assumption) (by assumption) (by first | exact .inl (by assumption) | exact .inr (by assumption)) | exact stepS_lab (cf := cf) (ct := ct) (by assumption) (by assumption) (by assumption) (by first | exact .inl (by assumption) | exact .inr (by assumption)) (by first | exact .inl (by assumption) | exact .inr (by assumption)) (by assumption) (by assumption)))), (by simp only [List.length_set]; exact hL2), rfl⟩ (by omega) ?_
        exact Wk.of [(0, 0), (1, 1), (5, 5)] rfl ⟨rfl, rfl, rfl, rfl, rfl, rfl, rfl, rfl, rfl, rfl, rfl, rfl, rfl, rfl, trivial⟩ ⟨rfl, rfl, (entE (by first | rfl | simp)), trivial⟩ rfl rfl
       ·have hb38' : ¬ (ct = c26) := nd_true hb38
        iterate 5 refine w_ ?_
        refine AC.ret ?_
        subst hO
        have e42 : ((⟨#[]⟩ : ByteArray) : ByteArray) = ((l5V r.1.length (arcsOf s.2.2.1 r.2) sig).1) := by
         (rw [l5V_no (by rw [hA2, passS_bad (arcs_get hx18 hla) (by first | exact stepS_un3 (cf := cf) (ct := ct) (by assumption) (by assumption) (by assumption) (by assumption) (by assumption) (by assumption) | exact stepS_lab1 (cf := cf) (by assumption) (by assumption) (by assumption) (by assumption) (by assumption) | exact stepS_lab2 (ct := ct) (by assumption) (by assumption) (by assumption) (by assumption) (by assumption))]; rfl)]; done)
        have e43 : (false : Bool) = ((l5V r.1.length (arcsOf s.2.2.1 r.2) sig).2) := by
         (rw [l5V_no (by rw [hA2, passS_bad (arcs_get hx18 hla) (by first | exact stepS_un3 (cf := cf) (ct := ct) (by assumption) (by assumption) (by assumption) (by assumption) (by assumption) (by assumption) | exact stepS_lab1 (cf := cf) (by assumption) (by assumption) (by assumption) (by assumption) (by assumption) | exact stepS_lab2 (ct := ct) (by assumption) (by assumption) (by assumption) (by assumption) (by assumption))]; rfl)]; done)
        exact fin_pure (Res.two rfl (Rs.tmp rfl) (Rs.tmp rfl)) (((congrArg (fun z_ => PV.tup [(false, [dS z_]), (false, [dB false])]) e42)).trans (congrArg (fun z_ => PV.tup [(false, [dS ((l5V r.1.length (arcsOf s.2.2.1 r.2) sig).1)]), (false, [dB z_])]) e43)) rfl
     ·have hb31' : ¬ (cf = 63) := nd_true hb31
      iterate 3 refine w_ ?_
      refine lgy rfl rfl (Does.indexI (e := .u8) (Evl.tmp rfl) rfl (Evl.tmp rfl) und_209 tsh_5 rfl (by omega) (by first | omega | (simp only [List.length_set]; omega))) <| lgy rfl rfl (Does.loadI (e := .u8) (Evl.tmp rfl) rfl hx30 rfl tsh_5 rfl rfl) ?_
      iterate 4 refine w_ ?_
      cases hb44 : (!decide (cf = c24))
      ·have hb44' : (cf = c24) := nd_false hb44
       iterate 3 refine w_ ?_
       refine lgy rfl rfl (Does.indexI (e := .u8) (Evl.tmp rfl) rfl (Evl.tmp rfl) und_209 tsh_5 rfl (by omega) (by first | omega | (simp only [List.length_set]; omega))) ?_
       obtain ⟨ct, hx46⟩ : ∃ z, us2[(mv.2.2).toNat]? = some z := ⟨_, List.getElem?_eq_getElem (by omega)⟩
       refine lgy rfl rfl (Does.loadI (e := .u8) (Evl.tmp rfl) rfl hx46 rfl tsh_5 rfl rfl) <| lgy rfl rfl (Does.neqU (Evl.tmp rfl) (Evl.u8 63 rfl) rfl) ?_
       refine w_ ?_
       cases hb47 : (!decide (ct = 63))
       ·have hb47' : (ct = 63) := nd_false hb47
        iterate 17 refine w_ ?_
        refine lc (Does.indexI (e := .u8) (Evl.tmp rfl) rfl (Evl.tmp rfl) und_209 tsh_5 rfl (by omega) (by first | omega | (simp only [List.length_set]; omega))) <| lc (Does.storeI (e := .u8) (z' := c24) (Evl.tmp rfl) rfl hx30 rfl (Ev.tmp rfl) rfl tsh_5 rfl rfl) ?_
        iterate 5 refine w_ ?_
        refine AL.fact (fact_int (x := .tmp 143) (Evl.tmp rfl)) fun hi48 => ?_
        refine w_ ?_
        refine lc (Does.indexI (e := .u8) (Evl.tmp rfl) rfl (Evl.tmp rfl) und_209 tsh_5 rfl (by omega) (by first | omega | (simp only [List.length_set]; omega))) ?_
        obtain ⟨x49, hx50⟩ : ∃ z, (us2.set ((mv.1).toNat) c24)[(mv.2.2).toNat]? = some z := ⟨_, List.getElem?_eq_getElem (by first | omega | (simp only [List.length_set]; omega))⟩
        refine lc (Does.storeI (e := .u8) (z' := c26) (Evl.tmp rfl) rfl hx50 rfl (Ev.tmp rfl) rfl tsh_5 rfl rfl) <| AL.nil ?_
        refine (?_ : AC _ _ _ _ _)
        iterate 3 refine w_ ?_
        refine AL.nil <| lend ⟨i + 1, ((us2.set ((mv.1).toNat) c24).set ((mv.2.2).toNat) c26), by omega, rfl, hA2.trans (congrArg (contS sig (arcsOf s.2.2.1 r.2) (r.1.length - p)) (passS_ok (arcs_get hx18 hla) (by first | exact stepS_un1 (cf := cf) (ct := ct) (by assumption) (by assumption) (by assumption) (by assumption) | exact stepS_un2 (cf := cf) (ct := ct) (by assumption) (by assumption) (by assumption) (by assumption) (by first | exact .inl (by assumption) | exact .inr (by assumption)) | exact stepS_lab (cf := cf) (ct := ct) (by assumption) (by assumption) (by assumption) (by first | exact .inl (by assumption) | exact .inr (by assumption)) (by first | exact .inl (by assumption) | exact .inr (by assumption)) (by assumption) (by assumption)))), (by simp only [List.length_set]; exact hL2), rfl⟩ (by omega) ?_
        exact Wk.of [(0, 0), (1, 1), (5, 5)] rfl ⟨rfl, rfl, rfl, rfl, rfl, rfl, rfl, rfl, rfl, rfl, rfl, rfl, rfl, rfl, trivial⟩ ⟨rfl, rfl, (entE (by first | rfl | simp)), trivial⟩ rfl rfl
       ·have hb47' : ¬ (ct = 63) := nd_true hb47
        iterate 3 refine w_ ?_
        refine lgy rfl rfl (Does.indexI (e := .u8) (Evl.tmp rfl) rfl (Evl.tmp rfl) und_209 tsh_5 rfl (by omega) (by first | omega | (simp only [List.length_set]; omega))) <| lgy rfl rfl (Does.loadI (e := .u8) (Evl.tmp rfl) rfl hx46 rfl tsh_5 rfl rfl) ?_
        iterate 5 refine w_ ?_
        cases hb51 : (!decide (ct = c26))
        ·have hb51' : (ct = c26) := nd_false hb51
         iterate 7 refine w_ ?_
         refine lc (Does.indexI (e := .u8) (Evl.tmp rfl) rfl (Evl.tmp rfl) und_209 tsh_5 rfl (by omega) (by first | omega | (simp only [List.length_set]; omega))) <| lc (Does.storeI (e := .u8) (z' := c24) (Evl.tmp rfl) rfl hx30 rfl (Ev.tmp rfl) rfl tsh_5 rfl rfl) ?_
         iterate 5 refine w_ ?_
         refine AL.fact (fact_int (x := .tmp 143) (Evl.tmp rfl)) fun hi52 => ?_
         refine w_ ?_
         refine lc (Does.indexI (e := .u8) (Evl.tmp rfl) rfl (Evl.tmp rfl) und_209 tsh_5 rfl (by omega) (by first | omega | (simp only [List.length_set]; omega))) ?_
         obtain ⟨x53, hx54⟩ : ∃ z, (us2.set ((mv.1).toNat) c24)[(mv.2.2).toNat]? = some z := ⟨_, List.getElem?_eq_getElem (by first | omega | (simp only [List.length_set]; omega))⟩
         refine lc (Does.storeI (e := .u8) (z' := c26) (Evl.tmp rfl) rfl hx54 rfl (Ev.tmp rfl) rfl tsh_5 rfl rfl) <| AL.nil ?_
         refine (?_ : AC _ _ _ _ _)
         iterate 3 refine w_ ?_
         refine AL.nil <| lend ⟨i + 1, ((us2.set ((mv.1).toNat) c24).set ((mv.2.2).toNat) c26), by omega, rfl, hA2.trans (congrArg (contS sig (arcsOf s.2.2.1 r.2) (r.1.length - p)) (passS_ok (arcs_get hx18 hla) (by first | exact stepS_un1 (cf := cf) (ct := ct) (by assumption) (by assumption) (by assumption) (by assumption) | exact stepS_un2 (cf := cf) (ct := ct) (by assumption) (by assumption) (by assumption) (by assumption) (by first | exact .inl (by assumption) | exact .inr (by assumption)) | exact stepS_lab (cf := cf) (ct := ct) (by assumption) (by assumption) (by assumption) (by first | exact .inl (by assumption) | exact .inr (by assumption)) (by first | exact .inl (by assumption) | exact .inr (by assumption)) (by assumption) (by assumption)))), (by simp only [List.length_set]; exact hL2), rfl⟩ (by omega) ?_
         exact Wk.of [(0, 0), (1, 1), (5, 5)] rfl ⟨rfl, rfl, rfl, rfl, rfl, rfl, rfl, rfl, rfl, rfl, rfl, rfl, rfl, rfl, trivial⟩ ⟨rfl, rfl, (entE (by first | rfl | simp)), trivial⟩ rfl rfl
        ·have hb51' : ¬ (ct = c26) := nd_true hb51
         iterate 5 refine w_ ?_
         refine AC.ret ?_
         subst hO
         have e55 : ((⟨#[]⟩ : ByteArray) : ByteArray) = ((l5V r.1.length (arcsOf s.2.2.1 r.2) sig).1) := by
          (rw [l5V_no (by rw [hA2, passS_bad (arcs_get hx18 hla) (by first | exact stepS_un3 (cf := cf) (ct := ct) (by assumption) (by assumption) (by assumption) (by assumption) (by assumption) (by assumption) | exact stepS_lab1 (cf := cf) (by assumption) (by assumption) (by assumption) (by assumption) (by assumption) | exact stepS_lab2 (ct := ct) (by assumption) (by assumption) (by assumption) (by assumption) (by assumption))]; rfl)]; done)
         have e56 : (false : Bool) = ((l5V r.1.length (arcsOf s.2.2.1 r.2) sig).2) := by
          (rw [l5V_no (by rw [hA2, passS_bad (arcs_get hx18 hla) (by first | exact stepS_un3 (cf := cf) (ct := ct) (by assumption) (by assumption) (by assumption) (by assumption) (by assumption) (by assumption) | exact stepS_lab1 (cf := cf) (by assumption) (by assumption) (by assumption) (by assumption) (by assumption) | exact stepS_lab2 (ct := ct) (by assumption) (by assumption) (by assumption) (by assumption) (by assumption))]; rfl)]; done)
         exact fin_pure (Res.two rfl (Rs.tmp rfl) (Rs.tmp rfl)) (((congrArg (fun z_ => PV.tup [(false, [dS z_]), (false, [dB false])]) e55)).trans (congrArg (fun z_ => PV.tup [(false, [dS ((l5V r.1.length (arcsOf s.2.2.1 r.2) sig).1)]), (false, [dB z_])]) e56)) rfl
      ·have hb44' : ¬ (cf = c24) := nd_true hb44
       iterate 7 refine w_ ?_
       refine AL.guard_un rfl rfl rfl ?_ rfl
       refine AL.guard_un rfl rfl rfl ?_ rfl
       refine AL.guard_un rfl rfl rfl ?_ rfl
       refine AL.guard_un rfl rfl rfl ?_ rfl
       refine AL.guard_un rfl rfl rfl ?_ rfl
       refine AL.guard_un rfl rfl rfl ?_ rfl
       refine AL.guard_un rfl rfl rfl ?_ rfl
       iterate 8 refine w_ ?_
       refine AC.ret ?_
       subst hO
       have e57 : ((⟨#[]⟩ : ByteArray) : ByteArray) = ((l5V r.1.length (arcsOf s.2.2.1 r.2) sig).1) := by
        (rw [l5V_no (by rw [hA2, passS_bad (arcs_get hx18 hla) (by first | exact stepS_un3 (cf := cf) (ct := ct) (by assumption) (by assumption) (by assumption) (by assumption) (by assumption) (by assumption) | exact stepS_lab1 (cf := cf) (by assumption) (by assumption) (by assumption) (by assumption) (by assumption) | exact stepS_lab2 (ct := ct) (by assumption) (by assumption) (by assumption) (by assumption) (by assumption))]; rfl)]; done)
       have e58 : (false : Bool) = ((l5V r.1.length (arcsOf s.2.2.1 r.2) sig).2) := by
        (rw [l5V_no (by rw [hA2, passS_bad (arcs_get hx18 hla) (by first | exact stepS_un3 (cf := cf) (ct := ct) (by assumption) (by assumption) (by assumption) (by assumption) (by assumption) (by assumption) | exact stepS_lab1 (cf := cf) (by assumption) (by assumption) (by assumption) (by assumption) (by assumption) | exact stepS_lab2 (ct := ct) (by assumption) (by assumption) (by assumption) (by assumption) (by assumption))]; rfl)]; done)
       exact fin_pure (Res.two rfl (Rs.tmp rfl) (Rs.tmp rfl)) (((congrArg (fun z_ => PV.tup [(false, [dS z_]), (false, [dB false])]) e57)).trans (congrArg (fun z_ => PV.tup [(false, [dS ((l5V r.1.length (arcsOf s.2.2.1 r.2) sig).1)]), (false, [dB z_])]) e58)) rfl
    ·have hb23' : ¬ (lb.1 = sig) := nd_true hb23
     iterate 5 refine w_ ?_
     refine AL.fact (fact_int (x := .tmp 56) (Evl.tmp rfl)) fun hi59 => lc (Does.indexI (e := .u8) (Evl.tmp rfl) rfl (Evl.tmp rfl) und_209 tsh_5 rfl (by omega) (by first | omega | (simp only [List.length_set]; omega))) ?_
     obtain ⟨cf, hx61⟩ : ∃ z, us2[(mv.1).toNat]? = some z := ⟨_, List.getElem?_eq_getElem (by omega)⟩
     refine lc (Does.loadI (e := .u8) (Evl.tmp rfl) rfl hx61 rfl tsh_5 rfl rfl) ?_
     iterate 5 refine w_ ?_
     refine lc (Does.eqlU (Evl.tmp rfl) (Evl.u8 63 rfl) rfl) ?_
     refine w_ ?_
     cases hb62 : (decide (cf = 63))
     ·have hb62' := of_decide_eq_false hb62
      iterate 5 refine w_ ?_
      refine lc (Does.neqU (Evl.tmp rfl) (Evl.u8 63 rfl) rfl) ?_
      refine w_ ?_
      have hb63 : (!decide (cf = 63)) = true := nb_to (hb62)
      try rw [hb63]
      iterate 3 refine w_ ?_
      refine lgy rfl rfl (Does.indexI (e := .u8) (Evl.tmp rfl) rfl (Evl.tmp rfl) und_209 tsh_5 rfl (by omega) (by first | omega | (simp only [List.length_set]; omega))) ?_
      obtain ⟨ct, hx65⟩ : ∃ z, us2[(mv.2.2).toNat]? = some z := ⟨_, List.getElem?_eq_getElem (by omega)⟩
      refine lgy rfl rfl (Does.loadI (e := .u8) (Evl.tmp rfl) rfl hx65 rfl tsh_5 rfl rfl) <| lgy rfl rfl (Does.neqU (Evl.tmp rfl) (Evl.u8 63 rfl) rfl) ?_
      iterate 2 refine w_ ?_
      cases hb66 : (!decide (ct = 63))
      ·have hb66' : (ct = 63) := nd_false hb66
       iterate 16 refine w_ ?_
       refine lc (Does.indexI (e := .u8) (Evl.tmp rfl) rfl (Evl.tmp rfl) und_209 tsh_5 rfl (by omega) (by first | omega | (simp only [List.length_set]; omega))) <| lc (Does.storeI (e := .u8) (z' := cf) (Evl.tmp rfl) rfl hx61 rfl (Ev.tmp rfl) rfl tsh_5 rfl rfl) ?_
       iterate 5 refine w_ ?_
       refine AL.fact (fact_int (x := .tmp 92) (Evl.tmp rfl)) fun hi67 => ?_
       refine w_ ?_
       refine lc (Does.indexI (e := .u8) (Evl.tmp rfl) rfl (Evl.tmp rfl) und_209 tsh_5 rfl (by omega) (by first | omega | (simp only [List.length_set]; omega))) ?_
       obtain ⟨x68, hx69⟩ : ∃ z, (us2.set ((mv.1).toNat) cf)[(mv.2.2).toNat]? = some z := ⟨_, List.getElem?_eq_getElem (by first | omega | (simp only [List.length_set]; omega))⟩
       refine lc (Does.storeI (e := .u8) (z' := cf) (Evl.tmp rfl) rfl hx69 rfl (Ev.tmp rfl) rfl tsh_5 rfl rfl) ?_
       refine w_ ?_
       refine AC.exit ?_
       refine (?_ : AC _ _ _ _ _)
       iterate 3 refine w_ ?_
       refine AL.nil <| lend ⟨i + 1, ((us2.set ((mv.1).toNat) cf).set ((mv.2.2).toNat) cf), by omega, rfl, hA2.trans (congrArg (contS sig (arcsOf s.2.2.1 r.2) (r.1.length - p)) (passS_ok (arcs_get hx18 hla) (by first | exact stepS_un1 (cf := cf) (ct := ct) (by assumption) (by assumption) (by assumption) (by assumption) | exact stepS_un2 (cf := cf) (ct := ct) (by assumption) (by assumption) (by assumption) (by assumption) (by first | exact .inl (by assumption) | exact .inr (by assumption)) | exact stepS_lab (cf := cf) (ct := ct) (by assumption) (by assumption) (by assumption) (by first | exact .inl (by assumption) | exact .inr (by assumption)) (by first | exact .inl (by assumption) | exact .inr (by assumption)) (by assumption) (by assumption)))), (by simp only [List.length_set]; exact hL2), rfl⟩ (by omega) ?_
       exact Wk.of [(0, 0), (1, 1), (5, 5)] rfl ⟨rfl, rfl, rfl, rfl, rfl, rfl, rfl, rfl, rfl, rfl, rfl, rfl, rfl, rfl, trivial⟩ ⟨rfl, rfl, (entE (by first | rfl | simp)), trivial⟩ rfl rfl
      ·have hb66' : ¬ (ct = 63) := nd_true hb66
       iterate 3 refine w_ ?_
       refine lgy rfl rfl (Does.indexI (e := .u8) (Evl.tmp rfl) rfl (Evl.tmp rfl) und_209 tsh_5 rfl (by omega) (by first | omega | (simp only [List.length_set]; omega))) <| lgy rfl rfl (Does.loadI (e := .u8) (Evl.tmp rfl) rfl hx65 rfl tsh_5 rfl rfl) ?_
       iterate 4 refine w_ ?_
       cases hb70 : (!decide (ct = cf))
       ·have hb70' : (ct = cf) := nd_false hb70
        iterate 7 refine w_ ?_
        refine lc (Does.indexI (e := .u8) (Evl.tmp rfl) rfl (Evl.tmp rfl) und_209 tsh_5 rfl (by omega) (by first | omega | (simp only [List.length_set]; omega))) <| lc (Does.storeI (e := .u8) (z' := cf) (Evl.tmp rfl) rfl hx61 rfl (Ev.tmp rfl) rfl tsh_5 rfl rfl) ?_
        iterate 5 refine w_ ?_
        refine AL.fact (fact_int (x := .tmp 92) (Evl.tmp rfl)) fun hi71 => ?_
        refine w_ ?_
        refine lc (Does.indexI (e := .u8) (Evl.tmp rfl) rfl (Evl.tmp rfl) und_209 tsh_5 rfl (by omega) (by first | omega | (simp only [List.length_set]; omega))) ?_
        obtain ⟨x72, hx73⟩ : ∃ z, (us2.set ((mv.1).toNat) cf)[(mv.2.2).toNat]? = some z := ⟨_, List.getElem?_eq_getElem (by first | omega | (simp only [List.length_set]; omega))⟩
        refine lc (Does.storeI (e := .u8) (z' := cf) (Evl.tmp rfl) rfl hx73 rfl (Ev.tmp rfl) rfl tsh_5 rfl rfl) ?_
        refine w_ ?_
        refine AC.exit ?_
        refine (?_ : AC _ _ _ _ _)
        iterate 3 refine w_ ?_
        refine AL.nil <| lend ⟨i + 1, ((us2.set ((mv.1).toNat) cf).set ((mv.2.2).toNat) cf), by omega, rfl, hA2.trans (congrArg (contS sig (arcsOf s.2.2.1 r.2) (r.1.length - p)) (passS_ok (arcs_get hx18 hla) (by first | exact stepS_un1 (cf := cf) (ct := ct) (by assumption) (by assumption) (by assumption) (by assumption) | exact stepS_un2 (cf := cf) (ct := ct) (by assumption) (by assumption) (by assumption) (by assumption) (by first | exact .inl (by assumption) | exact .inr (by assumption)) | exact stepS_lab (cf := cf) (ct := ct) (by assumption) (by assumption) (by assumption) (by first | exact .inl (by assumption) | exact .inr (by assumption)) (by first | exact .inl (by assumption) | exact .inr (by assumption)) (by assumption) (by assumption)))), (by simp only [List.length_set]; exact hL2), rfl⟩ (by omega) ?_
        exact Wk.of [(0, 0), (1, 1), (5, 5)] rfl ⟨rfl, rfl, rfl, rfl, rfl, rfl, rfl, rfl, rfl, rfl, rfl, rfl, rfl, rfl, trivial⟩ ⟨rfl, rfl, (entE (by first | rfl | simp)), trivial⟩ rfl rfl
       ·have hb70' : ¬ (ct = cf) := nd_true hb70
        iterate 5 refine w_ ?_
        refine AC.ret ?_
        subst hO
        have e74 : ((⟨#[]⟩ : ByteArray) : ByteArray) = ((l5V r.1.length (arcsOf s.2.2.1 r.2) sig).1) := by
         (rw [l5V_no (by rw [hA2, passS_bad (arcs_get hx18 hla) (by first | exact stepS_un3 (cf := cf) (ct := ct) (by assumption) (by assumption) (by assumption) (by assumption) (by assumption) (by assumption) | exact stepS_lab1 (cf := cf) (by assumption) (by assumption) (by assumption) (by assumption) (by assumption) | exact stepS_lab2 (ct := ct) (by assumption) (by assumption) (by assumption) (by assumption) (by assumption))]; rfl)]; done)
        have e75 : (false : Bool) = ((l5V r.1.length (arcsOf s.2.2.1 r.2) sig).2) := by
         (rw [l5V_no (by rw [hA2, passS_bad (arcs_get hx18 hla) (by first | exact stepS_un3 (cf := cf) (ct := ct) (by assumption) (by assumption) (by assumption) (by assumption) (by assumption) (by assumption) | exact stepS_lab1 (cf := cf) (by assumption) (by assumption) (by assumption) (by assumption) (by assumption) | exact stepS_lab2 (ct := ct) (by assumption) (by assumption) (by assumption) (by assumption) (by assumption))]; rfl)]; done)
        exact fin_pure (Res.two rfl (Rs.tmp rfl) (Rs.tmp rfl)) (((congrArg (fun z_ => PV.tup [(false, [dS z_]), (false, [dB false])]) e74)).trans (congrArg (fun z_ => PV.tup [(false, [dS ((l5V r.1.length (arcsOf s.2.2.1 r.2) sig).1)]), (false, [dB z_])]) e75)) rfl
     ·have hb62' := of_decide_eq_true hb62
      iterate 5 refine w_ ?_
      refine AL.fact (fact_int (x := .tmp 63) (Evl.tmp rfl)) fun hi76 => lc (Does.indexI (e := .u8) (Evl.tmp rfl) rfl (Evl.tmp rfl) und_209 tsh_5 rfl (by omega) (by first | omega | (simp only [List.length_set]; omega))) ?_
      obtain ⟨ct, hx78⟩ : ∃ z, us2[(mv.2.2).toNat]? = some z := ⟨_, List.getElem?_eq_getElem (by omega)⟩
      refine lc (Does.loadI (e := .u8) (Evl.tmp rfl) rfl hx78 rfl tsh_5 rfl rfl) ?_
      iterate 5 refine w_ ?_
      refine lc (Does.neqU (Evl.tmp rfl) (Evl.u8 63 rfl) rfl) ?_
      refine w_ ?_
      cases hb79 : (!decide (ct = 63))
      ·have hb79' : (ct = 63) := nd_false hb79
       iterate 24 refine w_ ?_
       refine lc (Does.indexI (e := .u8) (Evl.tmp rfl) rfl (Evl.tmp rfl) und_209 tsh_5 rfl (by omega) (by first | omega | (simp only [List.length_set]; omega))) <| lc (Does.storeI (e := .u8) (z' := ct) (Evl.tmp rfl) rfl hx61 rfl (Ev.tmp rfl) rfl tsh_5 rfl rfl) ?_
       iterate 6 refine w_ ?_
       refine lc (Does.indexI (e := .u8) (Evl.tmp rfl) rfl (Evl.tmp rfl) und_209 tsh_5 rfl (by omega) (by first | omega | (simp only [List.length_set]; omega))) ?_
       obtain ⟨x80, hx81⟩ : ∃ z, (us2.set ((mv.1).toNat) ct)[(mv.2.2).toNat]? = some z := ⟨_, List.getElem?_eq_getElem (by first | omega | (simp only [List.length_set]; omega))⟩
       refine lc (Does.storeI (e := .u8) (z' := ct) (Evl.tmp rfl) rfl hx81 rfl (Ev.tmp rfl) rfl tsh_5 rfl rfl) ?_
       refine w_ ?_
       refine AC.exit ?_
       refine (?_ : AC _ _ _ _ _)
       iterate 3 refine w_ ?_
       refine AL.nil <| lend ⟨i + 1, ((us2.set ((mv.1).toNat) ct).set ((mv.2.2).toNat) ct), by omega, rfl, hA2.trans (congrArg (contS sig (arcsOf s.2.2.1 r.2) (r.1.length - p)) (passS_ok (arcs_get hx18 hla) (by first | exact stepS_un1 (cf := cf) (ct := ct) (by assumption) (by assumption) (by assumption) (by assumption) | exact stepS_un2 (cf := cf) (ct := ct) (by assumption) (by assumption) (by assumption) (by assumption) (by first | exact .inl (by assumption) | exact .inr (by assumption)) | exact stepS_lab (cf := cf) (ct := ct) (by assumption) (by assumption) (by assumption) (by first | exact .inl (by assumption) | exact .inr (by assumption)) (by first | exact .inl (by assumption) | exact .inr (by assumption)) (by assumption) (by assumption)))), (by simp only [List.length_set]; exact hL2), rfl⟩ (by omega) ?_
       exact Wk.of [(0, 0), (1, 1), (5, 5)] rfl ⟨rfl, rfl, rfl, rfl, rfl, rfl, rfl, rfl, rfl, rfl, rfl, rfl, rfl, rfl, trivial⟩ ⟨rfl, rfl, (entE (by first | rfl | simp)), trivial⟩ rfl rfl
      ·have hb79' : ¬ (ct = 63) := nd_true hb79
       iterate 3 refine w_ ?_
       refine lgy rfl rfl (Does.indexI (e := .u8) (Evl.tmp rfl) rfl (Evl.tmp rfl) und_209 tsh_5 rfl (by omega) (by first | omega | (simp only [List.length_set]; omega))) <| lgy rfl rfl (Does.loadI (e := .u8) (Evl.tmp rfl) rfl hx78 rfl tsh_5 rfl rfl) <| lgy rfl rfl (Does.neqU (Evl.tmp rfl) (Evl.u8 63 rfl) rfl) ?_
       iterate 2 refine w_ ?_
       have hb82 : (!decide (ct = 63)) = true := nb_to (nb_of hb79)
       try rw [hb82]
       iterate 3 refine w_ ?_
       refine lgy rfl rfl (Does.indexI (e := .u8) (Evl.tmp rfl) rfl (Evl.tmp rfl) und_209 tsh_5 rfl (by omega) (by first | omega | (simp only [List.length_set]; omega))) <| lgy rfl rfl (Does.loadI (e := .u8) (Evl.tmp rfl) rfl hx78 rfl tsh_5 rfl rfl) ?_
       iterate 4 refine w_ ?_
       have hb83 : (!decide (ct = ct)) = false := nb_to (decide_eq_true rfl)
       have hb83' : (ct = ct) := nd_false hb83
       try rw [hb83]
       iterate 7 refine w_ ?_
       refine lc (Does.indexI (e := .u8) (Evl.tmp rfl) rfl (Evl.tmp rfl) und_209 tsh_5 rfl (by omega) (by first | omega | (simp only [List.length_set]; omega))) <| lc (Does.storeI (e := .u8) (z' := ct) (Evl.tmp rfl) rfl hx61 rfl (Ev.tmp rfl) rfl tsh_5 rfl rfl) ?_
       iterate 6 refine w_ ?_
       refine lc (Does.indexI (e := .u8) (Evl.tmp rfl) rfl (Evl.tmp rfl) und_209 tsh_5 rfl (by omega) (by first | omega | (simp only [List.length_set]; omega))) ?_
       obtain ⟨x84, hx85⟩ : ∃ z, (us2.set ((mv.1).toNat) ct)[(mv.2.2).toNat]? = some z := ⟨_, List.getElem?_eq_getElem (by first | omega | (simp only [List.length_set]; omega))⟩
       refine lc (Does.storeI (e := .u8) (z' := ct) (Evl.tmp rfl) rfl hx85 rfl (Ev.tmp rfl) rfl tsh_5 rfl rfl) ?_
       refine w_ ?_
       refine AC.exit ?_
       refine (?_ : AC _ _ _ _ _)
       iterate 3 refine w_ ?_
       refine AL.nil <| lend ⟨i + 1, ((us2.set ((mv.1).toNat) ct).set ((mv.2.2).toNat) ct), by omega, rfl, hA2.trans (congrArg (contS sig (arcsOf s.2.2.1 r.2) (r.1.length - p)) (passS_ok (arcs_get hx18 hla) (by first | exact stepS_un1 (cf := cf) (ct := ct) (by assumption) (by assumption) (by assumption) (by assumption) | exact stepS_un2 (cf := cf) (ct := ct) (by assumption) (by assumption) (by assumption) (by assumption) (by first | exact .inl (by assumption) | exact .inr (by assumption)) | exact stepS_lab (cf := cf) (ct := ct) (by assumption) (by assumption) (by assumption) (by first | exact .inl (by assumption) | exact .inr (by assumption)) (by first | exact .inl (by assumption) | exact .inr (by assumption)) (by assumption) (by assumption)))), (by simp only [List.length_set]; exact hL2), rfl⟩ (by omega) ?_
       exact Wk.of [(0, 0), (1, 1), (5, 5)] rfl ⟨rfl, rfl, rfl, rfl, rfl, rfl, rfl, rfl, rfl, rfl, rfl, rfl, rfl, rfl, trivial⟩ ⟨rfl, rfl, (entE (by first | rfl | simp)), trivial⟩ rfl rfl
 ·have hb6' := of_decide_eq_true hb6
  iterate 11 refine w_ ?_
  refine lc (Does.indexI (e := .u8) (Evl.tmp rfl) rfl (Evl.tmp rfl) und_209 tsh_5 rfl (by omega) (by first | omega | (simp only [List.length_set]; omega))) ?_
  obtain ⟨x86, hx87⟩ : ∃ z, (fillQ r.1.length k)[k]? = some z := ⟨_, List.getElem?_eq_getElem (by omega)⟩
  refine lc (Does.storeI (e := .u8) (z' := 63) (Evl.tmp rfl) rfl hx87 rfl (Evl.ev (Evl.u8 63 rfl)) rfl tsh_5 rfl rfl) <| AL.nil ?_
  refine (?_ : AC _ _ _ _ _)
  iterate 3 refine w_ ?_
  refine AL.nil <| lend ⟨k + 1, by omega, rfl, rfl⟩ (by omega) ?_
  exact Wk.of [(0, 0), (1, 1), (3, 3)] rfl ⟨rfl, rfl, rfl, rfl, rfl, rfl, rfl, rfl, trivial⟩ ⟨rfl, rfl, (entE (fillQ_set (by omega))), trivial⟩ rfl rfl

theorem fc_spec_l5Clash (s : (Int × (List (List Int × List Int))) × (List (ByteArray × Int)) × (List (Int × Bool)) × ByteArray) (r : List ByteArray × (List (Int × Int × Int))) (hm : ∀ m ∈ r.2, MvOk r.1.length s.2.2.1.length m) (hl1 : r.1.length ≤ 1000000) (hl2 : s.2.1.length ≤ 1000000) : FC Tryz.prog 226 [(true, [dI s.1.1, .dat (.sl 159 (.pr (.sl 3 .int) (.sl 3 .int))) s.1.2, .dat (.sl 145 (.pr .str .int)) s.2.1, .dat (.sl 61 (.pr .int .bool)) s.2.2.1, dS s.2.2.2]), (true, [.dat (.sl 9 .str) r.1, .dat (.sl 226 (.pr .int (.pr .int .int))) r.2])] [] 0 (Own1 3 .int (clash r.1.length (arcsOf s.2.2.1 r.2) s.2.1.length)) := by
 refine FC.go Tryz.func226 rfl rfl Tryz.ntmps226 fun O_ hO w0_ N0_ X_ h0_ f0_ => ?_
 refine AC.fact (fact_ag (x := .tmp 0) (i := 0) (Ev.tmp rfl) rfl) fun hi1 => ?_
 refine w_ ?_
 refine lc (Does.box 0 (Ev.tmp rfl) rfl rfl (Fresh.of rfl) (nlr rfl)) <| lc (Does.box 1 (Ev.tmp rfl) rfl rfl (Fresh.of rfl) (nlr rfl)) ?_
 iterate 9 refine w_ ?_
 refine AL.fact (fact_len (x := .tmp 10) (Evl.tmp rfl)) fun hl2 => ?_
 iterate 4 refine w_ ?_
 refine AC.wk (Wk.nilS 2 5 3 .int rfl (Fresh.of rfl) (nlr rfl)) ?_
 refine AC.loopW (fun m_ s_ => ∃ (k : Nat), k ≤ s.2.1.length ∧ m_ = s.2.1.length - k ∧ s_ = ⟨[(2, lP 0 0), (3, lP 1 0), (4, lf (.val (.slice none 0 0))), (5, lR 3), (11, lI (s.2.1.length : Int)), (12, lI (k : Int))], [(0, some (.box 39 [dI s.1.1, .dat (.sl 159 (.pr (.sl 3 .int) (.sl 3 .int))) s.1.2, .dat (.sl 145 (.pr .str .int)) s.2.1, .dat (.sl 61 (.pr .int .bool)) s.2.2.1, dS s.2.2.2])), (1, some (.box 98 [.dat (.sl 9 .str) r.1, .dat (.sl 226 (.pr .int (.pr .int .int))) r.2])), (3, some (.arr 3 .int (clash r.1.length (arcsOf s.2.2.1 r.2) k)))]⟩) ⟨0, Nat.zero_le _, rfl, rfl⟩ ?_ ?_
 · exact Wk.of [(0, 0), (1, 1), (3, 2)] rfl ⟨rfl, rfl, rfl, rfl, rfl, rfl, trivial⟩ ⟨rfl, rfl, (entE (by first | rfl | simp)), trivial⟩ rfl rfl
 rintro m_ s_ ⟨k, hk3, hm4, rfl⟩
 have hcl := clash_len r.1.length (arcsOf s.2.2.1 r.2) k
 iterate 4 refine w_ ?_
 cases hb5 : (decide ((k : Int) < (s.2.1.length : Int)))
 ·have hb5' := of_decide_eq_false hb5
  refine w_ ?_
  refine AC.exit ?_
  refine (?_ : AC _ _ _ _ _)
  iterate 4 refine w_ ?_
  refine AC.ret ?_
  subst hO
  refine fin_own (e := .int) (xs := (clash r.1.length (arcsOf s.2.2.1 r.2) k)) (Res.one rfl (Rs.tmp rfl)) rfl ?_
  rw [show k = s.2.1.length by omega]
 ·have hb5' := of_decide_eq_true hb5
  iterate 12 refine w_ ?_
  refine lc (Does.call (fc_spec_l5Values s r (k : Int) hm hl1) enters_227 ⟨_, _, rfl, (Ev.tmp rfl), ⟨_, _, rfl, (Ev.tmp rfl), ⟨_, _, rfl, (Ev.tmp rfl), rfl⟩⟩⟩ rfl rfl) ?_
  iterate 10 refine w_ ?_
  cases hb6 : ((l5V r.1.length (arcsOf s.2.2.1 r.2) (k : Int)).2)
  ·iterate 4 refine w_ ?_
   refine lc (Does.buildSlice 4 (e := .int) und_106 tsh_3 zer_3 rfl ⟨_, _, rfl, (Ev.tmp rfl), rfl⟩ (List.all_eq_true.1 rfl) ⟨_, _, _, _, rfl, ⟨rfl, rfl⟩, ⟨rfl, rfl⟩, rfl⟩ (by decide) rfl rfl (Fresh.of rfl) (nlr rfl)) <| lc (Does.append 5 (Evl.tmp rfl) rfl (Evl.tmp rfl) rfl rfl und_106 elb_3 (by first | omega | (simp only [List.length_append, List.length_map, List.length_take, List.length_cons, List.length_nil]; omega) | (simp only [List.length_append, List.length_drop, List.length_take, List.length_cons, List.length_nil]; omega)) rfl (Fresh.of rfl) (nlr rfl)) ?_
   refine w_ ?_
   refine AL.nil ?_
   refine (?_ : AC _ _ _ _ _)
   iterate 3 refine w_ ?_
   refine AL.nil <| lend ⟨k + 1, by omega, rfl, rfl⟩ (by omega) ?_
   exact Wk.of [(0, 0), (1, 1), (3, 5)] rfl ⟨rfl, rfl, rfl, rfl, rfl, rfl, trivial⟩ ⟨rfl, rfl, (entE (by first | exact clash_yes (by assumption) | exact clash_no (by assumption))), trivial⟩ rfl rfl
  ·refine w_ ?_
   refine AC.skip ?_
   refine (?_ : AC _ _ _ _ _)
   iterate 3 refine w_ ?_
   refine AL.nil <| lend ⟨k + 1, by omega, rfl, rfl⟩ (by omega) ?_
   exact Wk.of [(0, 0), (1, 1), (3, 3)] rfl ⟨rfl, rfl, rfl, rfl, rfl, rfl, trivial⟩ ⟨rfl, rfl, (entE (by first | exact clash_yes (by assumption) | exact clash_no (by assumption))), trivial⟩ rfl rfl

end Go.Proofs.YtnakmhfjafecpaaGreat
