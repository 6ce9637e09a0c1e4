/- Walks over abstract states: the values of a signal, the reference. -/
import Derived.Test.YtbelopdphlllnaaWn
namespace Go.Proofs.Ytbelopdphlllnaa
open Go.RowKit

section
variable {sig : Int} {us us' : List UInt8} {arcs : List DAr} {f k n : Nat} {cf ct b1 b2 : UInt8} {mv : DMv} {lb : DLabel} {ls : List DLabel} {ms : List DMv}
theorem arcs_len (ls : List DLabel) (ms : List DMv) : (arcsOf ls ms).length = ms.length := by simp [arcsOf]
theorem arcs_get (hx : ms[k]? = some mv) (hla : labAt ls mv.2.1 = lb) : (arcsOf ls ms)[k]? = some (mv.1, lb.1, lb.2, mv.2.2) := by
  unfold arcsOf
  rw [List.getElem?_map, hx]
  simp [arcOf, hla]
def ar4 (mv : DMv) (lb : DLabel) : DAr := (mv.1, lb.1, lb.2, mv.2.2)
theorem stepS_un1 (hl : ¬ lb.1 = sig) (hf : us[mv.1.toNat]? = some cf) (hq : decide (cf = 63) = true) (ht : us[mv.2.2.toNat]? = some ct) : stepS sig (mv.1, lb.1, lb.2, mv.2.2) us = some ((us.set mv.1.toNat ct).set mv.2.2.toNat ct) := by
  unfold stepS
  simp only
  rw [if_neg hl, bv_get hf, bv_get ht, if_pos (of_decide_eq_true hq)]
theorem stepS_un2 (hl : ¬ lb.1 = sig) (hf : us[mv.1.toNat]? = some cf) (hq : decide (cf = 63) = false) (ht : us[mv.2.2.toNat]? = some ct) (h2 : ct = 63 ∨ ct = cf) : stepS sig (mv.1, lb.1, lb.2, mv.2.2) us = some ((us.set mv.1.toNat cf).set mv.2.2.toNat cf) := by
  unfold stepS
  simp only
  rw [if_neg hl, bv_get hf, bv_get ht, if_neg (of_decide_eq_false hq), if_neg]
  rintro ⟨h3, h4⟩
  rcases h2 with h | h
  · exact h3 h
  · exact h4 h
theorem stepS_un3 (hl : ¬ lb.1 = sig) (hf : us[mv.1.toNat]? = some cf) (hq : decide (cf = 63) = false) (ht : us[mv.2.2.toNat]? = some ct) (h1 : ¬ ct = 63) (h2 : ¬ ct = cf) : stepS sig (mv.1, lb.1, lb.2, mv.2.2) us = none := by
  unfold stepS
  simp only
  rw [if_neg hl, bv_get hf, bv_get ht, if_neg (of_decide_eq_false hq), if_pos ⟨h1, h2⟩]
theorem bitS_at {b : Bool} {c : UInt8} (h : (bitS b)[((0 : Int)).toNat]? = some c) : (if b = true then 49 else 48) = c := by
  have : (bitS b)[((0 : Int)).toNat]? = some (if b = true then 49 else 48) := by cases b <;> rfl
  rw [this] at h
  exact Option.some.inj h
theorem stepS_lab (hl : lb.1 = sig) (h1 : (bitS (!lb.2))[((0 : Int)).toNat]? = some b1) (h2 : (bitS lb.2)[((0 : Int)).toNat]? = some b2) (hf : cf = 63 ∨ cf = b1) (ht : ct = 63 ∨ ct = b2) (hcf : us[mv.1.toNat]? = some cf) (hct : us[mv.2.2.toNat]? = some ct) :
    stepS sig (mv.1, lb.1, lb.2, mv.2.2) us = some ((us.set mv.1.toNat b1).set mv.2.2.toNat b2) := by
  unfold stepS
  simp only
  rw [if_pos hl, bitS_at h1, bitS_at h2, bv_get hcf, bv_get hct, if_neg]
  rintro (⟨h3, h4⟩ | ⟨h3, h4⟩)
  · rcases hf with h | h
    · exact h3 h
    · exact h4 h
  · rcases ht with h | h
    · exact h3 h
    · exact h4 h
theorem stepS_lab1 (hl : lb.1 = sig) (h1 : (bitS (!lb.2))[((0 : Int)).toNat]? = some b1) (hcf : us[mv.1.toNat]? = some cf) (h3 : ¬ cf = 63) (h4 : ¬ cf = b1) : stepS sig (mv.1, lb.1, lb.2, mv.2.2) us = none := by
  unfold stepS
  simp only
  rw [if_pos hl, bitS_at h1, bv_get hcf, if_pos (.inl ⟨h3, h4⟩)]
theorem stepS_lab2 (hl : lb.1 = sig) (h1 : (bitS lb.2)[((0 : Int)).toNat]? = some b2) (hct : us[mv.2.2.toNat]? = some ct) (h3 : ¬ ct = 63) (h4 : ¬ ct = b2) : stepS sig (mv.1, lb.1, lb.2, mv.2.2) us = none := by
  unfold stepS
  simp only
  rw [if_pos hl, bitS_at h1, bv_get hct, if_pos (.inr ⟨h3, h4⟩)]
/-- The places below k filled with '?'. -/
def fillQ (n k : Nat) : List UInt8 := List.replicate k 63 ++ List.replicate (n - k) 0
theorem fillQ_len (n k : Nat) (h : k ≤ n) : (fillQ n k).length = n := by simp [fillQ]; omega
theorem fillQ_end (h : n ≤ k) (h2 : k ≤ n) : fillQ n k = List.replicate n 63 := by
  obtain rfl : k = n := by omega
  simp [fillQ]
theorem fillQ_set (h : k < n) : (fillQ n k).set k 63 = fillQ n (k + 1) := by
  unfold fillQ
  rw [List.set_append_right _ _ (by simp), List.length_replicate, Nat.sub_self, show n - k = (n - (k + 1)) + 1 by omega, List.replicate_succ, List.set_cons_zero, List.replicate_succ']
  simp
def clash (n : Nat) (arcs : List DAr) : Nat → List Int
  | 0 => []
  | k + 1 => clash n arcs k ++ (if (l5V n arcs (k : Int)).2 = true then [] else [(k : Int)])
theorem clash_len (n : Nat) (arcs : List DAr) (k : Nat) : (clash n arcs k).length ≤ k := by
  induction k with
  | zero => simp [clash]
  | succ k ih => simp only [clash, List.length_append]; split <;> simp <;> omega
theorem clash_yes (h : (l5V n arcs (k : Int)).2 = true) : clash n arcs k = clash n arcs (k + 1) := by simp [clash, h]
theorem clash_no (h : (l5V n arcs (k : Int)).2 = false) : clash n arcs k ++ [(k : Int)] = clash n arcs (k + 1) := by simp [clash, h]
end
def MvOk (n m : Nat) (v : DMv) : Prop := (0 ≤ v.1 ∧ v.1 < (n : Int)) ∧ (0 ≤ v.2.1 ∧ v.2.1 < (m : Int)) ∧ 0 ≤ v.2.2 ∧ v.2.2 < (n : Int)

set_option maxRecDepth 100000 in
set_option maxHeartbeats 4000000 in
theorem fc_spec_l5Bit (up : Bool)  : FC Try.prog 217 [(false, [dB up])] [] 0 (Pure (lf (dS (bitS up)))) := by
  obtain ⟨O_, hO⟩ : ∃ x : PV → Tab → Prop, x = Pure (lf (dS (bitS up))) := ⟨_, rfl⟩
  refine FC.O_of hO (FC.ren (FC.of Try.func217 rfl rfl fun A_ hn_ hk_ => ?_))
  obtain ⟨w0_, N0_, X_, n_, k0_, h0_, f0_⟩ := A_
  obtain rfl : n_ = 4 := hn_.trans Try.ntmps217
  obtain rfl : k0_ = 0 := hk_
  refine AC.seq ?_
  refine AC.region ?_
  refine AL.cons rfl (Does.assignC (Evl.str rfl) rfl) ?_
  refine AL.nil ?_
  refine (?_ : AC _ _ _ _ _)
  refine AC.seq ?_
  refine AC.seq ?_
  refine AC.region ?_
  refine AL.cons rfl (Does.move rfl rfl) ?_
  refine AL.nil ?_
  refine (?_ : AC _ _ _ _ _)
  cases hb1 : (up)
  · have _h := hb1
    refine AC.condF (Evl.tmp rfl) ?_
    refine AC.skip ?_
    refine (?_ : AC _ _ _ _ _)
    refine AC.seq ?_
    refine AC.region ?_
    refine AL.cons rfl (Does.assignC (Evl.str rfl) rfl) ?_
    refine AL.nil ?_
    refine (?_ : AC _ _ _ _ _)
    refine AC.ret ?_
    subst hO
    have e2 : ((⟨#[48]⟩ : ByteArray) : ByteArray) = bitS up := by
      simp [bitS, *]
    exact fin_pure (Res.one rfl (Rs.tmp rfl)) ((congrArg (fun z_ => lf (dS z_)) e2)) rfl
  · have _h := hb1
    refine AC.condT (Evl.tmp rfl) ?_
    refine AC.seq ?_
    refine AC.region ?_
    refine AL.cons rfl (Does.assignC (Evl.str rfl) rfl) ?_
    refine AL.nil ?_
    refine (?_ : AC _ _ _ _ _)
    refine AC.ret ?_
    subst hO
    have e3 : ((⟨#[49]⟩ : ByteArray) : ByteArray) = bitS up := by
      simp [bitS, *]
    exact fin_pure (Res.one rfl (Rs.tmp rfl)) ((congrArg (fun z_ => lf (dS z_)) e3)) rfl

set_option maxRecDepth 100000 in
set_option maxHeartbeats 4000000 in
theorem fc_spec_l5Values (s : (Int × (List (List Int × List Int))) × (List (ByteArray × Int)) × (List (Int × Bool)) × ByteArray) (r : List ByteArray × (List (Int × Int × Int))) (sig : Int) (hm : ∀ m ∈ r.2, MvOk r.1.length s.2.2.1.length m) (hl1 : r.1.length ≤ 1000000) : FC Try.prog 185 [(true, [dI s.1.1, .dat (.sl 146 (.pr (.sl 3 .int) (.sl 3 .int))) s.1.2, .dat (.sl 129 (.pr .str .int)) s.2.1, .dat (.sl 131 (.pr .int .bool)) s.2.2.1, dS s.2.2.2]), (true, [.dat (.sl 9 .str) r.1, .dat (.sl 229 (.pr .int (.pr .int .int))) r.2]), (false, [dI sig])] [] 0 (Pure (PV.tup [(false, [dS ((l5V r.1.length (arcsOf s.2.2.1 r.2) sig).1)]), (false, [dB ((l5V r.1.length (arcsOf s.2.2.1 r.2) sig).2)])])) := by
  have hrl : (List.replicate r.1.length (Ty.zero .u8)).length = r.1.length := List.length_replicate ..
  obtain ⟨O_, hO⟩ : ∃ x : PV → Tab → Prop, x = Pure (PV.tup [(false, [dS ((l5V r.1.length (arcsOf s.2.2.1 r.2) sig).1)]), (false, [dB ((l5V r.1.length (arcsOf s.2.2.1 r.2) sig).2)])]) := ⟨_, rfl⟩
  refine FC.O_of hO (FC.ren (FC.of Try.func185 rfl rfl fun A_ hn_ hk_ => ?_))
  obtain ⟨w0_, N0_, X_, n_, k0_, h0_, f0_⟩ := A_
  obtain rfl : n_ = 149 := hn_.trans Try.ntmps185
  obtain rfl : k0_ = 0 := hk_
  refine AC.fact (fact_ag (x := .tmp 0) (i := 0) (Ev.tmp rfl) rfl) fun hi1 => ?_
  refine AC.fact (fact_int (x := .tmp 2) (Evl.tmp rfl)) fun hi2 => ?_
  refine AC.seq ?_
  refine AC.region ?_
  refine AL.cons rfl (Does.box 0 (Ev.tmp rfl) rfl rfl (Fresh.of rfl) (Nat.le_of_ble_eq_true rfl)) ?_
  refine AL.cons rfl (Does.box 1 (Ev.tmp rfl) rfl rfl (Fresh.of rfl) (Nat.le_of_ble_eq_true rfl)) ?_
  refine AL.cons rfl (Does.assignC (Evl.str rfl) rfl) ?_
  refine AL.cons rfl (Does.assignC Evl.bool rfl) ?_
  refine AL.nil ?_
  refine (?_ : AC _ _ _ _ _)
  refine AC.seq ?_
  refine AC.region ?_
  refine AL.cons rfl (Does.fieldP (Evl.tmp rfl) fld_188_0 rfl rfl) ?_
  refine AL.cons rfl (Does.loadP (Evl.tmp rfl) rfl tsh_67 rfl rfl) ?_
  refine AL.fact (fact_len (x := .tmp 18) (Evl.tmp rfl)) fun hl3 => ?_
  refine AL.cons rfl (Does.len (Evl.tmp rfl) rfl und_67) ?_
  refine AL.cons rfl (Does.make 2 (e := .u8) (n := r.1.length) (Evl.tmp rfl) (Evl.tmp rfl) und_156 mki_5 rfl (by omega) (by omega) rfl (Fresh.of rfl) (Nat.le_of_ble_eq_true rfl)) ?_
  refine AL.cons rfl (Does.assign rfl rfl) ?_
  refine AL.nil ?_
  refine (?_ : AC _ _ _ _ _)
  refine AC.seq ?_
  refine AC.seq ?_
  refine AC.region ?_
  refine AL.cons rfl (Does.move rfl rfl) ?_
  refine AL.cons rfl (Does.lenO (Evl.tmp rfl) rfl rfl und_156) ?_
  refine AL.cons rfl (Does.moveC (Evl.int rfl) rfl) ?_
  refine AL.nil ?_
  refine (?_ : AC _ _ _ _ _)
  refine AC.block ?_
  refine AC.wk (s' := ⟨[(2, lf (dI sig)), (3, lf (.ptr 0 0)), (4, lf (.ptr 1 0)), (6, lf (dS (⟨#[]⟩ : ByteArray))), (7, lf (dB false)), (8, lf (.ref 3)), (22, lf (dI ((List.replicate r.1.length (Ty.zero .u8)).length : Int))), (23, lf (dI (0 : Int)))], [(0, some (.box 50 [dI s.1.1, .dat (.sl 146 (.pr (.sl 3 .int) (.sl 3 .int))) s.1.2, .dat (.sl 129 (.pr .str .int)) s.2.1, .dat (.sl 131 (.pr .int .bool)) s.2.2.1, dS s.2.2.2])), (1, some (.box 188 [.dat (.sl 9 .str) r.1, .dat (.sl 229 (.pr .int (.pr .int .int))) r.2])), (3, some (.arr 5 .u8 (fillQ r.1.length 0)))]⟩) (Wk.of [(0, 0), (1, 1), (3, 2)] rfl ⟨rfl, rfl, rfl, rfl, rfl, rfl, rfl, rfl, trivial⟩ ⟨rfl, rfl, (show some (Ent.arr 5 .u8 (List.replicate r.1.length (Ty.zero .u8))) = some (Ent.arr 5 .u8 (fillQ r.1.length 0)) from congrArg (fun z => some (Ent.arr 5 .u8 z)) (rfl)), trivial⟩ rfl rfl) ?_
  refine AC.loop (fun m_ s_ => ∃ (k : Nat), k ≤ r.1.length ∧ m_ = r.1.length - k ∧ s_ = ⟨[(2, lf (dI sig)), (3, lf (.ptr 0 0)), (4, lf (.ptr 1 0)), (6, lf (dS (⟨#[]⟩ : ByteArray))), (7, lf (dB false)), (8, lf (.ref 3)), (22, lf (dI ((List.replicate r.1.length (Ty.zero .u8)).length : Int))), (23, lf (dI (k : Int)))], [(0, some (.box 50 [dI s.1.1, .dat (.sl 146 (.pr (.sl 3 .int) (.sl 3 .int))) s.1.2, .dat (.sl 129 (.pr .str .int)) s.2.1, .dat (.sl 131 (.pr .int .bool)) s.2.2.1, dS s.2.2.2])), (1, some (.box 188 [.dat (.sl 9 .str) r.1, .dat (.sl 229 (.pr .int (.pr .int .int))) r.2])), (3, some (.arr 5 .u8 (fillQ r.1.length k)))]⟩) (m := r.1.length - 0) ⟨0, Nat.zero_le _, rfl, rfl⟩ ?_
  rintro m_ s_ ⟨k, hk4, hm5, rfl⟩
  have hfq := fillQ_len r.1.length k (by omega)
  refine AC.seq ?_
  refine AC.region ?_
  refine AL.cons rfl (Does.lss (Evl.tmp rfl) (Evl.tmp rfl) rfl) ?_
  refine AL.nil ?_
  refine (?_ : AC _ _ _ _ _)
  refine AC.seq ?_
  cases hb6 : (decide ((k : Int) < ((List.replicate r.1.length (Ty.zero .u8)).length : Int)))
  · have _h := hb6
    have hb6' : ¬ ((k : Int) < ((List.replicate r.1.length (Ty.zero .u8)).length : Int)) := of_decide_eq_false hb6
    refine AC.condF (Evl.tmp rfl) ?_
    refine AC.exit ?_
    refine (?_ : AC _ _ _ _ _)
    refine AC.seq ?_
    refine AC.seq ?_
    refine AC.region ?_
    refine AL.cons rfl (Does.assignC (Evl.int rfl) rfl) ?_
    refine AL.nil ?_
    refine (?_ : AC _ _ _ _ _)
    refine AC.block ?_
    refine AC.wk (s' := ⟨[(2, lf (dI sig)), (3, lf (.ptr 0 0)), (4, lf (.ptr 1 0)), (8, lf (.ref 4)), (10, lf (dI (0 : Int)))], [(0, some (.box 50 [dI s.1.1, .dat (.sl 146 (.pr (.sl 3 .int) (.sl 3 .int))) s.1.2, .dat (.sl 129 (.pr .str .int)) s.2.1, .dat (.sl 131 (.pr .int .bool)) s.2.2.1, dS s.2.2.2])), (1, some (.box 188 [.dat (.sl 9 .str) r.1, .dat (.sl 229 (.pr .int (.pr .int .int))) r.2])), (4, some (.arr 5 .u8 (fillQ r.1.length k)))]⟩) (Wk.of [(0, 0), (1, 1), (4, 3)] rfl ⟨rfl, rfl, rfl, rfl, rfl, trivial⟩ ⟨rfl, rfl, (show some (Ent.arr 5 .u8 (fillQ r.1.length k)) = some (Ent.arr 5 .u8 (fillQ r.1.length k)) from congrArg (fun z => some (Ent.arr 5 .u8 z)) (by first | rfl | simp)), trivial⟩ rfl rfl) ?_
    refine AC.loop (fun m_ s_ => ∃ (p : Nat) (us : List UInt8), p ≤ (r.1.length + 1) ∧ m_ = (r.1.length + 1) - p ∧ (iterS sig (arcsOf s.2.2.1 r.2) (r.1.length + 1) (List.replicate r.1.length 63) = iterS sig (arcsOf s.2.2.1 r.2) (r.1.length + 1 - p) us) ∧ (us.length = r.1.length) ∧ s_ = ⟨[(2, lf (dI sig)), (3, lf (.ptr 0 0)), (4, lf (.ptr 1 0)), (8, lf (.ref 4)), (10, lf (dI (p : Int)))], [(0, some (.box 50 [dI s.1.1, .dat (.sl 146 (.pr (.sl 3 .int) (.sl 3 .int))) s.1.2, .dat (.sl 129 (.pr .str .int)) s.2.1, .dat (.sl 131 (.pr .int .bool)) s.2.2.1, dS s.2.2.2])), (1, some (.box 188 [.dat (.sl 9 .str) r.1, .dat (.sl 229 (.pr .int (.pr .int .int))) r.2])), (4, some (.arr 5 .u8 us))]⟩) (m := (r.1.length + 1) - 0) ⟨0, fillQ r.1.length k, Nat.zero_le _, rfl, (by rw [fillQ_end (by omega) (by omega)]; rfl), (fillQ_len _ _ (by omega)), rfl⟩ ?_
    rintro m_ s_ ⟨p, us, hk7, hm8, hA, hL, rfl⟩
    refine AC.seq ?_
    refine AC.seq ?_
    refine AC.region ?_
    refine AL.cons rfl (Does.move rfl rfl) ?_
    refine AL.cons rfl (Does.fieldP (Evl.tmp rfl) fld_188_0 rfl rfl) ?_
    refine AL.cons rfl (Does.loadP (Evl.tmp rfl) rfl tsh_67 rfl rfl) ?_
    refine AL.fact (fact_len (x := .tmp 32) (Evl.tmp rfl)) fun hl9 => ?_
    refine AL.cons rfl (Does.len (Evl.tmp rfl) rfl und_67) ?_
    refine AL.cons rfl (Does.leq (Evl.tmp rfl) (Evl.tmp rfl) rfl) ?_
    refine AL.nil ?_
    refine (?_ : AC _ _ _ _ _)
    cases hb10 : (decide ((p : Int) ≤ (r.1.length : Int)))
    · have _h := hb10
      have hb10' : ¬ ((p : Int) ≤ (r.1.length : Int)) := of_decide_eq_false hb10
      refine AC.condF (Evl.tmp rfl) ?_
      refine AC.exit ?_
      refine (?_ : AC _ _ _ _ _)
      refine AC.seq ?_
      refine AC.region ?_
      refine AL.cons rfl (Does.move rfl rfl) ?_
      refine AL.cons rfl (Does.ofBytes (ys := us) (Evl.repO (Evl.tmp rfl) rfl) und_156 und_5 und_9 rfl) ?_
      refine AL.cons rfl (Does.assign rfl rfl) ?_
      refine AL.cons rfl (Does.assignC Evl.bool rfl) ?_
      refine AL.nil ?_
      refine (?_ : AC _ _ _ _ _)
      refine AC.ret ?_
      subst hO
      have e11 : ((⟨(us).toArray⟩ : ByteArray) : ByteArray) = (l5V r.1.length (arcsOf s.2.2.1 r.2) sig).1 := by
        first | (rw [l5V_yes (us := us) (by rw [hA, show r.1.length + 1 - p = 0 by omega]; rfl)]; done)
      have e12 : (true : Bool) = (l5V r.1.length (arcsOf s.2.2.1 r.2) sig).2 := by
        first | (rw [l5V_yes (us := us) (by rw [hA, show r.1.length + 1 - p = 0 by omega]; rfl)]; done)
      exact fin_pure (Res.two rfl (Rs.tmp rfl) (Rs.tmp rfl)) (((congrArg (fun z_ => PV.tup [(false, [dS z_]), (false, [dB true])]) e11)).trans (congrArg (fun z_ => PV.tup [(false, [dS ((l5V r.1.length (arcsOf s.2.2.1 r.2) sig).1)]), (false, [dB z_])]) e12)) rfl
    · have _h := hb10
      have hb10' : ((p : Int) ≤ (r.1.length : Int)) := of_decide_eq_true hb10
      refine AC.condT (Evl.tmp rfl) ?_
      refine AC.skip ?_
      refine (?_ : AC _ _ _ _ _)
      refine AC.seq ?_
      refine AC.block ?_
      refine AC.seq ?_
      refine AC.region ?_
      refine AL.cons rfl (Does.fieldP (Evl.tmp rfl) fld_188_1 rfl rfl) ?_
      refine AL.cons rfl (Does.loadP (Evl.tmp rfl) rfl tsh_186 rfl rfl) ?_
      refine AL.fact (fact_len (x := .tmp 38) (Evl.tmp rfl)) fun hl13 => ?_
      refine AL.cons rfl (Does.len (Evl.tmp rfl) rfl und_186) ?_
      refine AL.cons rfl (Does.moveC (Evl.int rfl) rfl) ?_
      refine AL.nil ?_
      refine (?_ : AC _ _ _ _ _)
      refine AC.block ?_
      refine AC.wk (s' := ⟨[(2, lf (dI sig)), (3, lf (.ptr 0 0)), (4, lf (.ptr 1 0)), (8, lf (.ref 5)), (10, lf (dI (p : Int))), (30, lf (dI (p : Int))), (31, lf (.ptr 1 0)), (32, lf (.dat (.sl 9 .str) r.1)), (33, lf (dI (r.1.length : Int))), (34, lf (dB true)), (37, lf (.ptr 1 1)), (38, lf (.dat (.sl 229 (.pr .int (.pr .int .int))) r.2)), (39, lf (dI (r.2.length : Int))), (40, lf (dI (0 : Int)))], [(0, some (.box 50 [dI s.1.1, .dat (.sl 146 (.pr (.sl 3 .int) (.sl 3 .int))) s.1.2, .dat (.sl 129 (.pr .str .int)) s.2.1, .dat (.sl 131 (.pr .int .bool)) s.2.2.1, dS s.2.2.2])), (1, some (.box 188 [.dat (.sl 9 .str) r.1, .dat (.sl 229 (.pr .int (.pr .int .int))) r.2])), (5, some (.arr 5 .u8 us))]⟩) (Wk.of [(0, 0), (1, 1), (5, 4)] rfl ⟨rfl, rfl, rfl, rfl, rfl, rfl, rfl, rfl, rfl, rfl, rfl, rfl, rfl, rfl, trivial⟩ ⟨rfl, rfl, rfl, trivial⟩ rfl rfl) ?_
      refine AC.loop (fun m_ s_ => ∃ (i : Nat) (us2 : List UInt8), i ≤ r.2.length ∧ m_ = r.2.length - i ∧ (iterS sig (arcsOf s.2.2.1 r.2) (r.1.length + 1) (List.replicate r.1.length 63) = contS sig (arcsOf s.2.2.1 r.2) (r.1.length - p) (passS sig ((arcsOf s.2.2.1 r.2).drop i) us2)) ∧ (us2.length = r.1.length) ∧ s_ = ⟨[(2, lf (dI sig)), (3, lf (.ptr 0 0)), (4, lf (.ptr 1 0)), (8, lf (.ref 5)), (10, lf (dI (p : Int))), (30, lf (dI (p : Int))), (31, lf (.ptr 1 0)), (32, lf (.dat (.sl 9 .str) r.1)), (33, lf (dI (r.1.length : Int))), (34, lf (dB true)), (37, lf (.ptr 1 1)), (38, lf (.dat (.sl 229 (.pr .int (.pr .int .int))) r.2)), (39, lf (dI (r.2.length : Int))), (40, lf (dI (i : Int)))], [(0, some (.box 50 [dI s.1.1, .dat (.sl 146 (.pr (.sl 3 .int) (.sl 3 .int))) s.1.2, .dat (.sl 129 (.pr .str .int)) s.2.1, .dat (.sl 131 (.pr .int .bool)) s.2.2.1, dS s.2.2.2])), (1, some (.box 188 [.dat (.sl 9 .str) r.1, .dat (.sl 229 (.pr .int (.pr .int .int))) r.2])), (5, some (.arr 5 .u8 us2))]⟩) (m := r.2.length - 0) ⟨0, us, Nat.zero_le _, rfl, (by rw [hA, show r.1.length + 1 - p = (r.1.length - p) + 1 by omega]; exact iterS_in _ _), hL, rfl⟩ ?_
      rintro m_ s_ ⟨i, us2, hk14, hm15, hA2, hL2, rfl⟩
      refine AC.seq ?_
      refine AC.region ?_
      refine AL.cons rfl (Does.lss (Evl.tmp rfl) (Evl.tmp rfl) rfl) ?_
      refine AL.nil ?_
      refine (?_ : AC _ _ _ _ _)
      refine AC.seq ?_
      cases hb16 : (decide ((i : Int) < (r.2.length : Int)))
      · have _h := hb16
        have hb16' : ¬ ((i : Int) < (r.2.length : Int)) := of_decide_eq_false hb16
        refine AC.condF (Evl.tmp rfl) ?_
        refine AC.exit ?_
        refine (?_ : AC _ _ _ _ _)
        refine AC.region ?_
        refine AL.cons rfl (Does.move rfl rfl) ?_
        refine AL.cons rfl (Does.add (Evl.tmp rfl) (Evl.int rfl) rfl (by omega)) ?_
        refine AL.cons rfl (Does.assign rfl rfl) ?_
        refine AL.nil ?_
        exact loop_end ((r.1.length + 1) - (p + 1)) ⟨[(2, lf (dI sig)), (3, lf (.ptr 0 0)), (4, lf (.ptr 1 0)), (8, lf (.ref 4)), (10, lf (dI ((p + 1) : Int)))], [(0, some (.box 50 [dI s.1.1, .dat (.sl 146 (.pr (.sl 3 .int) (.sl 3 .int))) s.1.2, .dat (.sl 129 (.pr .str .int)) s.2.1, .dat (.sl 131 (.pr .int .bool)) s.2.2.1, dS s.2.2.2])), (1, some (.box 188 [.dat (.sl 9 .str) r.1, .dat (.sl 229 (.pr .int (.pr .int .int))) r.2])), (4, some (.arr 5 .u8 us2))]⟩ (by omega) (Wk.of [(0, 0), (1, 1), (4, 5)] rfl ⟨rfl, rfl, rfl, rfl, rfl, trivial⟩ ⟨rfl, rfl, rfl, trivial⟩ rfl rfl) ⟨p + 1, us2, by omega, rfl, (by rw [hA2, passS_end (by rw [arcs_len]; omega), show r.1.length + 1 - (p + 1) = r.1.length - p by omega]; rfl), hL2, rfl⟩
      · have _h := hb16
        have hb16' : ((i : Int) < (r.2.length : Int)) := of_decide_eq_true hb16
        refine AC.condT (Evl.tmp rfl) ?_
        refine AC.skip ?_
        refine (?_ : AC _ _ _ _ _)
        refine AC.seq ?_
        refine AC.block ?_
        refine AC.seq ?_
        refine AC.region ?_
        obtain ⟨mv, hx18⟩ : ∃ z, r.2[i]? = some z := ⟨_, List.getElem?_eq_getElem (by omega)⟩
        obtain ⟨⟨hm1, hm2⟩, ⟨hm3, hm4⟩, hm5, hm6⟩ := hm _ (List.mem_of_getElem? hx18)
        refine AL.cons rfl (Does.indexE (Evl.tmp rfl) (Evl.tmp rfl) und_186 tsh_229 rfl (by omega) hx18) ?_
        refine AL.cons rfl (Does.loadEA (Evl.tmp rfl) tsh_229 rfl rfl) ?_
        refine AL.cons rfl (Does.alloc 6 (.pr .int (.pr .int .int)) zer_229 rfl rfl (Fresh.of rfl) (Nat.le_of_ble_eq_true rfl)) ?_
        refine AL.cons rfl (Does.storeP (Evl.tmp rfl) rfl (Ev.tmp rfl) rfl tsh_229 rfl) ?_
        refine AL.nil ?_
        refine (?_ : AC _ _ _ _ _)
        refine AC.seq ?_
        refine AC.region ?_
        refine AL.cons rfl (Does.fieldP (Evl.tmp rfl) fld_50_2 rfl rfl) ?_
        refine AL.cons rfl (Does.loadP (Evl.tmp rfl) rfl tsh_48 rfl rfl) ?_
        refine AL.cons rfl (Does.fieldP (Evl.tmp rfl) fld_229_1 rfl rfl) ?_
        refine AL.cons rfl (Does.loadP (Evl.tmp rfl) rfl tsh_3 rfl rfl) ?_
        refine AL.fact (fact_int (x := .tmp 47) (Evl.tmp rfl)) fun hi19 => ?_
        obtain ⟨lb, hx21⟩ : ∃ z, s.2.2.1[(mv.2.1).toNat]? = some z := ⟨_, List.getElem?_eq_getElem (by omega)⟩
        have hla := lab_get hx21
        refine AL.cons rfl (Does.indexE (Evl.tmp rfl) (Evl.tmp rfl) und_48 tsh_131 rfl (by omega) hx21) ?_
        refine AL.cons rfl (Does.loadEA (Evl.tmp rfl) tsh_131 rfl rfl) ?_
        refine AL.cons rfl (Does.alloc 7 (.pr .int .bool) zer_131 rfl rfl (Fresh.of rfl) (Nat.le_of_ble_eq_true rfl)) ?_
        refine AL.cons rfl (Does.storeP (Evl.tmp rfl) rfl (Ev.tmp rfl) rfl tsh_131 rfl) ?_
        refine AL.nil ?_
        refine (?_ : AC _ _ _ _ _)
        refine AC.seq ?_
        refine AC.seq ?_
        refine AC.region ?_
        refine AL.cons rfl (Does.fieldP (Evl.tmp rfl) fld_131_0 rfl rfl) ?_
        refine AL.cons rfl (Does.loadP (Evl.tmp rfl) rfl tsh_3 rfl rfl) ?_
        refine AL.fact (fact_int (x := .tmp 51) (Evl.tmp rfl)) fun hi22 => ?_
        refine AL.cons rfl (Does.move rfl rfl) ?_
        refine AL.cons rfl (Does.neq (Evl.tmp rfl) (Evl.tmp rfl) rfl) ?_
        refine AL.nil ?_
        refine (?_ : AC _ _ _ _ _)
        cases hb23 : (!decide (lb.1 = sig))
        · have _h := hb23
          have hb23' : (lb.1 = sig) := nd_false hb23
          refine AC.condF (Evl.tmp rfl) ?_
          refine AC.skip ?_
          refine (?_ : AC _ _ _ _ _)
          refine AC.seq ?_
          obtain ⟨c24, hc25⟩ : ∃ z, (bitS (!lb.2))[(0 : Int).toNat]? = some z := by first | exact ⟨_, getElem?_pos _ _ (by omega)⟩ | exact ⟨_, rfl⟩
          obtain ⟨c26, hc27⟩ : ∃ z, (bitS lb.2)[(0 : Int).toNat]? = some z := by first | exact ⟨_, getElem?_pos _ _ (by omega)⟩ | exact ⟨_, rfl⟩
          refine AC.drawL [⟨some 95, lf (.ptr 7 1), []⟩, ⟨some 96, lf (dB lb.2), []⟩, ⟨some 97, lf (dB (!lb.2)), []⟩, ⟨some 98, lf (dS (bitS (!lb.2))), []⟩, ⟨some 99, lf (.dat .u8 c24), []⟩, ⟨some 100, lf (.ptr 7 1), []⟩, ⟨some 101, lf (dB lb.2), []⟩, ⟨some 102, lf (dS (bitS lb.2)), []⟩, ⟨some 103, lf (.dat .u8 c26), []⟩, ⟨some 15, lf (.dat .u8 c24), []⟩, ⟨some 16, lf (.dat .u8 c26), []⟩] [[], [0], [0, 1], [0, 1, 2], [0, 1, 2, 3], [], [5], [0, 1, 2, 3, 5, 6], [0, 1, 2, 3, 5, 6, 7], [0, 1, 2, 3, 4, 5, 6, 7], [0, 1, 2, 3, 4, 5, 6, 7, 8, 9]] mixed rfl (by kernel_rfl) ?_ ?_
          · refine ⟨fun s_ hs => Acts.of1 rfl (Does.fieldP (Evl.tmp (hs.tm 13 rfl)) fld_131_1 (by rw [hs.en 7 rfl]; rfl) rfl) rfl, fun s_ hs => Acts.of1 rfl (Does.loadP (Evl.tmp (hs.tm 95 rfl)) (hs.en 7 rfl) tsh_4 rfl rfl) rfl, fun s_ hs => Acts.of1 rfl (Does.not (Evl.tmp (hs.tm 96 rfl)) rfl) rfl, fun s_ hs => Acts.of1 rfl (Does.call (fc_spec_l5Bit (!lb.2)) enters_217 ⟨_, _, rfl, (Ev.tmp (hs.tm 97 rfl)), rfl⟩ rfl rfl) rfl, fun s_ hs => Acts.of1 rfl (Does.indexS (Evl.tmp (hs.tm 98 rfl)) (Evl.int rfl) rfl und_9 (by omega) hc25) rfl, fun s_ hs => Acts.of1 rfl (Does.fieldP (Evl.tmp (hs.tm 13 rfl)) fld_131_1 (by rw [hs.en 7 rfl]; rfl) rfl) rfl, fun s_ hs => Acts.of1 rfl (Does.loadP (Evl.tmp (hs.tm 100 rfl)) (hs.en 7 rfl) tsh_4 rfl rfl) rfl, fun s_ hs => Acts.of1 rfl (Does.call (fc_spec_l5Bit lb.2) enters_217 ⟨_, _, rfl, (Ev.tmp (hs.tm 101 rfl)), rfl⟩ rfl rfl) rfl, fun s_ hs => Acts.of1 rfl (Does.indexS (Evl.tmp (hs.tm 102 rfl)) (Evl.int rfl) rfl und_9 (by omega) hc27) rfl, fun s_ hs => Acts.of1 rfl (Does.assign (hs.tm 99 rfl) rfl) rfl, fun s_ hs => Acts.of1 rfl (Does.assign (hs.tm 103 rfl) rfl) rfl, trivial⟩
          refine (?_ : AC _ _ _ _ _)
          refine AC.wk (s' := _) (Wk.refl _ _) ?_
          refine AC.seq ?_
          refine AC.seq ?_
          refine AC.region ?_
          refine AL.cons rfl (Does.move rfl rfl) ?_
          refine AL.cons rfl (Does.fieldP (Evl.tmp rfl) fld_229_0 rfl rfl) ?_
          refine AL.cons rfl (Does.loadP (Evl.tmp rfl) rfl tsh_3 rfl rfl) ?_
          refine AL.fact (fact_int (x := .tmp 106) (Evl.tmp rfl)) fun hi28 => ?_
          refine AL.cons rfl (Does.indexI (e := .u8) (Evl.tmp rfl) rfl (Evl.tmp rfl) und_156 tsh_5 rfl (by omega) (by first | omega | (simp only [List.length_set]; omega))) ?_
          obtain ⟨cf, hx30⟩ : ∃ z, us2[(mv.1).toNat]? = some z := ⟨_, List.getElem?_eq_getElem (by omega)⟩
          refine AL.cons rfl (Does.loadI (e := .u8) (Evl.tmp rfl) rfl hx30 rfl tsh_5 rfl rfl) ?_
          refine AL.cons rfl (Does.neqU (Evl.tmp rfl) (Evl.u8 63 rfl) rfl) ?_
          refine AL.cons rfl (Does.move rfl rfl) ?_
          cases hb31 : (!decide (cf = 63))
          · have _h := hb31
            have hb31' : (cf = 63) := nd_false hb31
            refine AL.guard_no (b := true) rfl rfl rfl ?_ rfl
            refine AL.guard_no (b := true) rfl rfl rfl ?_ rfl
            refine AL.guard_no (b := true) rfl rfl rfl ?_ rfl
            refine AL.guard_no (b := true) rfl rfl rfl ?_ rfl
            refine AL.guard_no (b := true) rfl rfl rfl ?_ rfl
            refine AL.guard_no (b := true) rfl rfl rfl ?_ rfl
            refine AL.guard_no (b := true) rfl rfl rfl ?_ rfl
            refine AL.cons rfl (Does.pickF (Evl.tmp rfl) (Evl.ev Evl.bool) rfl) ?_
            refine AL.cons rfl (Does.move rfl rfl) ?_
            refine AL.guard_yes rfl rfl rfl (Does.move rfl rfl) ?_
            refine AL.guard_yes rfl rfl rfl (Does.fieldP (Evl.tmp rfl) fld_229_2 rfl rfl) ?_
            refine AL.guard_yes rfl rfl rfl (Does.loadP (Evl.tmp rfl) rfl tsh_3 rfl rfl) ?_
            refine AL.guard_yes rfl rfl rfl (Does.indexI (e := .u8) (Evl.tmp rfl) rfl (Evl.tmp rfl) und_156 tsh_5 rfl (by omega) (by first | omega | (simp only [List.length_set]; omega))) ?_
            obtain ⟨ct, hx33⟩ : ∃ z, us2[(mv.2.2).toNat]? = some z := ⟨_, List.getElem?_eq_getElem (by omega)⟩
            refine AL.guard_yes rfl rfl rfl (Does.loadI (e := .u8) (Evl.tmp rfl) rfl hx33 rfl tsh_5 rfl rfl) ?_
            refine AL.guard_yes rfl rfl rfl (Does.neqU (Evl.tmp rfl) (Evl.u8 63 rfl) rfl) ?_
            refine AL.guard_yes rfl rfl rfl (Does.move rfl rfl) ?_
            cases hb34 : (!decide (ct = 63))
            · have _h := hb34
              have hb34' : (ct = 63) := nd_false hb34
              refine AL.guard_no (b := true) rfl rfl rfl ?_ rfl
              refine AL.guard_no (b := true) rfl rfl rfl ?_ rfl
              refine AL.guard_no (b := true) rfl rfl rfl ?_ rfl
              refine AL.guard_no (b := true) rfl rfl rfl ?_ rfl
              refine AL.guard_no (b := true) rfl rfl rfl ?_ rfl
              refine AL.guard_no (b := true) rfl rfl rfl ?_ rfl
              refine AL.guard_no (b := true) rfl rfl rfl ?_ rfl
              refine AL.guard_yes rfl rfl rfl (Does.pickF (Evl.tmp rfl) (Evl.ev Evl.bool) rfl) ?_
              refine AL.cons rfl (Does.pickF (Evl.tmp rfl) (Ev.tmp rfl) rfl) ?_
              refine AL.nil ?_
              refine (?_ : AC _ _ _ _ _)
              refine AC.condF (Evl.tmp rfl) ?_
              refine AC.skip ?_
              refine (?_ : AC _ _ _ _ _)
              refine AC.seq ?_
              refine AC.region ?_
              refine AL.cons rfl (Does.move rfl rfl) ?_
              refine AL.cons rfl (Does.fieldP (Evl.tmp rfl) fld_229_0 rfl rfl) ?_
              refine AL.cons rfl (Does.loadP (Evl.tmp rfl) rfl tsh_3 rfl rfl) ?_
              refine AL.cons rfl (Does.move rfl rfl) ?_
              refine AL.cons rfl (Does.indexI (e := .u8) (Evl.tmp rfl) rfl (Evl.tmp rfl) und_156 tsh_5 rfl (by omega) (by first | omega | (simp only [List.length_set]; omega))) ?_
              refine AL.cons rfl (Does.storeI (e := .u8) (z' := c24) (Evl.tmp rfl) rfl hx30 rfl (Ev.tmp rfl) rfl tsh_5 rfl rfl) ?_
              refine AL.nil ?_
              refine (?_ : AC _ _ _ _ _)
              refine AC.region ?_
              refine AL.cons rfl (Does.move rfl rfl) ?_
              refine AL.cons rfl (Does.fieldP (Evl.tmp rfl) fld_229_2 rfl rfl) ?_
              refine AL.cons rfl (Does.loadP (Evl.tmp rfl) rfl tsh_3 rfl rfl) ?_
              refine AL.fact (fact_int (x := .tmp 143) (Evl.tmp rfl)) fun hi35 => ?_
              refine AL.cons rfl (Does.move rfl rfl) ?_
              refine AL.cons rfl (Does.indexI (e := .u8) (Evl.tmp rfl) rfl (Evl.tmp rfl) und_156 tsh_5 rfl (by omega) (by first | omega | (simp only [List.length_set]; omega))) ?_
              obtain ⟨x36, hx37⟩ : ∃ z, (us2.set ((mv.1).toNat) c24)[(mv.2.2).toNat]? = some z := ⟨_, List.getElem?_eq_getElem (by first | omega | (simp only [List.length_set]; omega))⟩
              refine AL.cons rfl (Does.storeI (e := .u8) (z' := c26) (Evl.tmp rfl) rfl hx37 rfl (Ev.tmp rfl) rfl tsh_5 rfl rfl) ?_
              refine AL.nil ?_
              refine (?_ : AC _ _ _ _ _)
              refine AC.region ?_
              refine AL.cons rfl (Does.add (Evl.tmp rfl) (Evl.int rfl) rfl (by omega)) ?_
              refine AL.cons rfl (Does.move rfl rfl) ?_
              refine AL.nil ?_
              exact loop_end (r.2.length - (i + 1)) ⟨[(2, lf (dI sig)), (3, lf (.ptr 0 0)), (4, lf (.ptr 1 0)), (8, lf (.ref 5)), (10, lf (dI (p : Int))), (30, lf (dI (p : Int))), (31, lf (.ptr 1 0)), (32, lf (.dat (.sl 9 .str) r.1)), (33, lf (dI (r.1.length : Int))), (34, lf (dB true)), (37, lf (.ptr 1 1)), (38, lf (.dat (.sl 229 (.pr .int (.pr .int .int))) r.2)), (39, lf (dI (r.2.length : Int))), (40, lf (dI ((i + 1) : Int)))], [(0, some (.box 50 [dI s.1.1, .dat (.sl 146 (.pr (.sl 3 .int) (.sl 3 .int))) s.1.2, .dat (.sl 129 (.pr .str .int)) s.2.1, .dat (.sl 131 (.pr .int .bool)) s.2.2.1, dS s.2.2.2])), (1, some (.box 188 [.dat (.sl 9 .str) r.1, .dat (.sl 229 (.pr .int (.pr .int .int))) r.2])), (5, some (.arr 5 .u8 ((us2.set ((mv.1).toNat) c24).set ((mv.2.2).toNat) c26)))]⟩ (by omega) (Wk.of [(0, 0), (1, 1), (5, 5)] rfl ⟨rfl, rfl, rfl, rfl, rfl, rfl, rfl, rfl, rfl, rfl, rfl, rfl, rfl, rfl, trivial⟩ ⟨rfl, rfl, (show some (Ent.arr 5 .u8 ((us2.set ((mv.1).toNat) c24).set ((mv.2.2).toNat) c26)) = some (Ent.arr 5 .u8 ((us2.set ((mv.1).toNat) c24).set ((mv.2.2).toNat) c26)) from congrArg (fun z => some (Ent.arr 5 .u8 z)) (by first | rfl | simp)), trivial⟩ rfl rfl) ⟨i + 1, ((us2.set ((mv.1).toNat) c24).set ((mv.2.2).toNat) c26), by omega, rfl, hA2.trans (congrArg (contS sig (arcsOf s.2.2.1 r.2) (r.1.length - p)) (passS_ok (arcs_get hx18 hla) (by first | exact stepS_un1 (cf := cf) (ct := ct) (by assumption) (by assumption) (by assumption) (by assumption) | exact stepS_un2 (cf := cf) (ct := ct) (by assumption) (by assumption) (by assumption) (by assumption) (by first | exact .inl (by assumption) | exact .inr (by assumption)) | exact stepS_lab (cf := cf) (ct := ct) (by assumption) (by assumption) (by assumption) (by first | exact .inl (by assumption) | exact .inr (by assumption)) (by first | exact .inl (by assumption) | exact .inr (by assumption)) (by assumption) (by assumption)))), (by simp only [List.length_set]; exact hL2), rfl⟩
            · have _h := hb34
              have hb34' : ¬ (ct = 63) := nd_true hb34
              refine AL.guard_yes rfl rfl rfl (Does.move rfl rfl) ?_
              refine AL.guard_yes rfl rfl rfl (Does.fieldP (Evl.tmp rfl) fld_229_2 rfl rfl) ?_
              refine AL.guard_yes rfl rfl rfl (Does.loadP (Evl.tmp rfl) rfl tsh_3 rfl rfl) ?_
              refine AL.guard_yes rfl rfl rfl (Does.indexI (e := .u8) (Evl.tmp rfl) rfl (Evl.tmp rfl) und_156 tsh_5 rfl (by omega) (by first | omega | (simp only [List.length_set]; omega))) ?_
              refine AL.guard_yes rfl rfl rfl (Does.loadI (e := .u8) (Evl.tmp rfl) rfl hx33 rfl tsh_5 rfl rfl) ?_
              refine AL.guard_yes rfl rfl rfl (Does.move rfl rfl) ?_
              refine AL.guard_yes rfl rfl rfl (Does.neqU (Evl.tmp rfl) (Evl.tmp rfl) rfl) ?_
              refine AL.guard_yes rfl rfl rfl (Does.pickT (Evl.tmp rfl) (Ev.tmp rfl) rfl) ?_
              refine AL.cons rfl (Does.pickF (Evl.tmp rfl) (Ev.tmp rfl) rfl) ?_
              refine AL.nil ?_
              refine (?_ : AC _ _ _ _ _)
              cases hb38 : (!decide (ct = c26))
              · have _h := hb38
                have hb38' : (ct = c26) := nd_false hb38
                refine AC.condF (Evl.tmp rfl) ?_
                refine AC.skip ?_
                refine (?_ : AC _ _ _ _ _)
                refine AC.seq ?_
                refine AC.region ?_
                refine AL.cons rfl (Does.move rfl rfl) ?_
                refine AL.cons rfl (Does.fieldP (Evl.tmp rfl) fld_229_0 rfl rfl) ?_
                refine AL.cons rfl (Does.loadP (Evl.tmp rfl) rfl tsh_3 rfl rfl) ?_
                refine AL.cons rfl (Does.move rfl rfl) ?_
                refine AL.cons rfl (Does.indexI (e := .u8) (Evl.tmp rfl) rfl (Evl.tmp rfl) und_156 tsh_5 rfl (by omega) (by first | omega | (simp only [List.length_set]; omega))) ?_
                refine AL.cons rfl (Does.storeI (e := .u8) (z' := c24) (Evl.tmp rfl) rfl hx30 rfl (Ev.tmp rfl) rfl tsh_5 rfl rfl) ?_
                refine AL.nil ?_
                refine (?_ : AC _ _ _ _ _)
                refine AC.region ?_
                refine AL.cons rfl (Does.move rfl rfl) ?_
                refine AL.cons rfl (Does.fieldP (Evl.tmp rfl) fld_229_2 rfl rfl) ?_
                refine AL.cons rfl (Does.loadP (Evl.tmp rfl) rfl tsh_3 rfl rfl) ?_
                refine AL.fact (fact_int (x := .tmp 143) (Evl.tmp rfl)) fun hi39 => ?_
                refine AL.cons rfl (Does.move rfl rfl) ?_
                refine AL.cons rfl (Does.indexI (e := .u8) (Evl.tmp rfl) rfl (Evl.tmp rfl) und_156 tsh_5 rfl (by omega) (by first | omega | (simp only [List.length_set]; omega))) ?_
                obtain ⟨x40, hx41⟩ : ∃ z, (us2.set ((mv.1).toNat) c24)[(mv.2.2).toNat]? = some z := ⟨_, List.getElem?_eq_getElem (by first | omega | (simp only [List.length_set]; omega))⟩
                refine AL.cons rfl (Does.storeI (e := .u8) (z' := c26) (Evl.tmp rfl) rfl hx41 rfl (Ev.tmp rfl) rfl tsh_5 rfl rfl) ?_
                refine AL.nil ?_
                refine (?_ : AC _ _ _ _ _)
                refine AC.region ?_
                refine AL.cons rfl (Does.add (Evl.tmp rfl) (Evl.int rfl) rfl (by omega)) ?_
                refine AL.cons rfl (Does.move rfl rfl) ?_
                refine AL.nil ?_
                exact loop_end (r.2.length - (i + 1)) ⟨[(2, lf (dI sig)), (3, lf (.ptr 0 0)), (4, lf (.ptr 1 0)), (8, lf (.ref 5)), (10, lf (dI (p : Int))), (30, lf (dI (p : Int))), (31, lf (.ptr 1 0)), (32, lf (.dat (.sl 9 .str) r.1)), (33, lf (dI (r.1.length : Int))), (34, lf (dB true)), (37, lf (.ptr 1 1)), (38, lf (.dat (.sl 229 (.pr .int (.pr .int .int))) r.2)), (39, lf (dI (r.2.length : Int))), (40, lf (dI ((i + 1) : Int)))], [(0, some (.box 50 [dI s.1.1, .dat (.sl 146 (.pr (.sl 3 .int) (.sl 3 .int))) s.1.2, .dat (.sl 129 (.pr .str .int)) s.2.1, .dat (.sl 131 (.pr .int .bool)) s.2.2.1, dS s.2.2.2])), (1, some (.box 188 [.dat (.sl 9 .str) r.1, .dat (.sl 229 (.pr .int (.pr .int .int))) r.2])), (5, some (.arr 5 .u8 ((us2.set ((mv.1).toNat) c24).set ((mv.2.2).toNat) c26)))]⟩ (by omega) (Wk.of [(0, 0), (1, 1), (5, 5)] rfl ⟨rfl, rfl, rfl, rfl, rfl, rfl, rfl, rfl, rfl, rfl, rfl, rfl, rfl, rfl, trivial⟩ ⟨rfl, rfl, (show some (Ent.arr 5 .u8 ((us2.set ((mv.1).toNat) c24).set ((mv.2.2).toNat) c26)) = some (Ent.arr 5 .u8 ((us2.set ((mv.1).toNat) c24).set ((mv.2.2).toNat) c26)) from congrArg (fun z => some (Ent.arr 5 .u8 z)) (by first | rfl | simp)), trivial⟩ rfl rfl) ⟨i + 1, ((us2.set ((mv.1).toNat) c24).set ((mv.2.2).toNat) c26), by omega, rfl, hA2.trans (congrArg (contS sig (arcsOf s.2.2.1 r.2) (r.1.length - p)) (passS_ok (arcs_get hx18 hla) (by first | exact stepS_un1 (cf := cf) (ct := ct) (by assumption) (by assumption) (by assumption) (by assumption) | exact stepS_un2 (cf := cf) (ct := ct) (by assumption) (by assumption) (by assumption) (by assumption) (by first | exact .inl (by assumption) | exact .inr (by assumption)) | exact stepS_lab (cf := cf) (ct := ct) (by assumption) (by assumption) (by assumption) (by first | exact .inl (by assumption) | exact .inr (by assumption)) (by first | exact .inl (by assumption) | exact .inr (by assumption)) (by assumption) (by assumption)))), (by simp only [List.length_set]; exact hL2), rfl⟩
              · have _h := hb38
                have hb38' : ¬ (ct = c26) := nd_true hb38
                refine AC.condT (Evl.tmp rfl) ?_
                refine AC.seq ?_
                refine AC.region ?_
                refine AL.cons rfl (Does.assignC (Evl.str rfl) rfl) ?_
                refine AL.cons rfl (Does.assignC Evl.bool rfl) ?_
                refine AL.nil ?_
                refine (?_ : AC _ _ _ _ _)
                refine AC.ret ?_
                subst hO
                have e42 : ((⟨#[]⟩ : ByteArray) : ByteArray) = (l5V r.1.length (arcsOf s.2.2.1 r.2) sig).1 := by
                  first | (rw [l5V_no (by rw [hA2, passS_bad (arcs_get hx18 hla) (by first | exact stepS_un3 (cf := cf) (ct := ct) (by assumption) (by assumption) (by assumption) (by assumption) (by assumption) (by assumption) | exact stepS_lab1 (cf := cf) (by assumption) (by assumption) (by assumption) (by assumption) (by assumption) | exact stepS_lab2 (ct := ct) (by assumption) (by assumption) (by assumption) (by assumption) (by assumption))]; rfl)]; done) | (rw [l5V_yes (us := us) (by rw [hA, show r.1.length + 1 - p = 0 by omega]; rfl)]; done)
                have e43 : (false : Bool) = (l5V r.1.length (arcsOf s.2.2.1 r.2) sig).2 := by
                  first | (rw [l5V_no (by rw [hA2, passS_bad (arcs_get hx18 hla) (by first | exact stepS_un3 (cf := cf) (ct := ct) (by assumption) (by assumption) (by assumption) (by assumption) (by assumption) (by assumption) | exact stepS_lab1 (cf := cf) (by assumption) (by assumption) (by assumption) (by assumption) (by assumption) | exact stepS_lab2 (ct := ct) (by assumption) (by assumption) (by assumption) (by assumption) (by assumption))]; rfl)]; done) | (rw [l5V_yes (us := us) (by rw [hA, show r.1.length + 1 - p = 0 by omega]; rfl)]; done)
                exact fin_pure (Res.two rfl (Rs.tmp rfl) (Rs.tmp rfl)) (((congrArg (fun z_ => PV.tup [(false, [dS z_]), (false, [dB false])]) e42)).trans (congrArg (fun z_ => PV.tup [(false, [dS ((l5V r.1.length (arcsOf s.2.2.1 r.2) sig).1)]), (false, [dB z_])]) e43)) rfl
          · have _h := hb31
            have hb31' : ¬ (cf = 63) := nd_true hb31
            refine AL.guard_yes rfl rfl rfl (Does.move rfl rfl) ?_
            refine AL.guard_yes rfl rfl rfl (Does.fieldP (Evl.tmp rfl) fld_229_0 rfl rfl) ?_
            refine AL.guard_yes rfl rfl rfl (Does.loadP (Evl.tmp rfl) rfl tsh_3 rfl rfl) ?_
            refine AL.guard_yes rfl rfl rfl (Does.indexI (e := .u8) (Evl.tmp rfl) rfl (Evl.tmp rfl) und_156 tsh_5 rfl (by omega) (by first | omega | (simp only [List.length_set]; omega))) ?_
            refine AL.guard_yes rfl rfl rfl (Does.loadI (e := .u8) (Evl.tmp rfl) rfl hx30 rfl tsh_5 rfl rfl) ?_
            refine AL.guard_yes rfl rfl rfl (Does.move rfl rfl) ?_
            refine AL.guard_yes rfl rfl rfl (Does.neqU (Evl.tmp rfl) (Evl.tmp rfl) rfl) ?_
            refine AL.cons rfl (Does.pickT (Evl.tmp rfl) (Ev.tmp rfl) rfl) ?_
            refine AL.cons rfl (Does.move rfl rfl) ?_
            cases hb44 : (!decide (cf = c24))
            · have _h := hb44
              have hb44' : (cf = c24) := nd_false hb44
              refine AL.guard_yes rfl rfl rfl (Does.move rfl rfl) ?_
              refine AL.guard_yes rfl rfl rfl (Does.fieldP (Evl.tmp rfl) fld_229_2 rfl rfl) ?_
              refine AL.guard_yes rfl rfl rfl (Does.loadP (Evl.tmp rfl) rfl tsh_3 rfl rfl) ?_
              refine AL.guard_yes rfl rfl rfl (Does.indexI (e := .u8) (Evl.tmp rfl) rfl (Evl.tmp rfl) und_156 tsh_5 rfl (by omega) (by first | omega | (simp only [List.length_set]; omega))) ?_
              obtain ⟨ct, hx46⟩ : ∃ z, us2[(mv.2.2).toNat]? = some z := ⟨_, List.getElem?_eq_getElem (by omega)⟩
              refine AL.guard_yes rfl rfl rfl (Does.loadI (e := .u8) (Evl.tmp rfl) rfl hx46 rfl tsh_5 rfl rfl) ?_
              refine AL.guard_yes rfl rfl rfl (Does.neqU (Evl.tmp rfl) (Evl.u8 63 rfl) rfl) ?_
              refine AL.guard_yes rfl rfl rfl (Does.move rfl rfl) ?_
              cases hb47 : (!decide (ct = 63))
              · have _h := hb47
                have hb47' : (ct = 63) := nd_false hb47
                refine AL.guard_no (b := true) rfl rfl rfl ?_ rfl
                refine AL.guard_no (b := true) rfl rfl rfl ?_ rfl
                refine AL.guard_no (b := true) rfl rfl rfl ?_ rfl
                refine AL.guard_no (b := true) rfl rfl rfl ?_ rfl
                refine AL.guard_no (b := true) rfl rfl rfl ?_ rfl
                refine AL.guard_no (b := true) rfl rfl rfl ?_ rfl
                refine AL.guard_no (b := true) rfl rfl rfl ?_ rfl
                refine AL.guard_yes rfl rfl rfl (Does.pickF (Evl.tmp rfl) (Evl.ev Evl.bool) rfl) ?_
                refine AL.cons rfl (Does.pickF (Evl.tmp rfl) (Ev.tmp rfl) rfl) ?_
                refine AL.nil ?_
                refine (?_ : AC _ _ _ _ _)
                refine AC.condF (Evl.tmp rfl) ?_
                refine AC.skip ?_
                refine (?_ : AC _ _ _ _ _)
                refine AC.seq ?_
                refine AC.region ?_
                refine AL.cons rfl (Does.move rfl rfl) ?_
                refine AL.cons rfl (Does.fieldP (Evl.tmp rfl) fld_229_0 rfl rfl) ?_
                refine AL.cons rfl (Does.loadP (Evl.tmp rfl) rfl tsh_3 rfl rfl) ?_
                refine AL.cons rfl (Does.move rfl rfl) ?_
                refine AL.cons rfl (Does.indexI (e := .u8) (Evl.tmp rfl) rfl (Evl.tmp rfl) und_156 tsh_5 rfl (by omega) (by first | omega | (simp only [List.length_set]; omega))) ?_
                refine AL.cons rfl (Does.storeI (e := .u8) (z' := c24) (Evl.tmp rfl) rfl hx30 rfl (Ev.tmp rfl) rfl tsh_5 rfl rfl) ?_
                refine AL.nil ?_
                refine (?_ : AC _ _ _ _ _)
                refine AC.region ?_
                refine AL.cons rfl (Does.move rfl rfl) ?_
                refine AL.cons rfl (Does.fieldP (Evl.tmp rfl) fld_229_2 rfl rfl) ?_
                refine AL.cons rfl (Does.loadP (Evl.tmp rfl) rfl tsh_3 rfl rfl) ?_
                refine AL.fact (fact_int (x := .tmp 143) (Evl.tmp rfl)) fun hi48 => ?_
                refine AL.cons rfl (Does.move rfl rfl) ?_
                refine AL.cons rfl (Does.indexI (e := .u8) (Evl.tmp rfl) rfl (Evl.tmp rfl) und_156 tsh_5 rfl (by omega) (by first | omega | (simp only [List.length_set]; omega))) ?_
                obtain ⟨x49, hx50⟩ : ∃ z, (us2.set ((mv.1).toNat) c24)[(mv.2.2).toNat]? = some z := ⟨_, List.getElem?_eq_getElem (by first | omega | (simp only [List.length_set]; omega))⟩
                refine AL.cons rfl (Does.storeI (e := .u8) (z' := c26) (Evl.tmp rfl) rfl hx50 rfl (Ev.tmp rfl) rfl tsh_5 rfl rfl) ?_
                refine AL.nil ?_
                refine (?_ : AC _ _ _ _ _)
                refine AC.region ?_
                refine AL.cons rfl (Does.add (Evl.tmp rfl) (Evl.int rfl) rfl (by omega)) ?_
                refine AL.cons rfl (Does.move rfl rfl) ?_
                refine AL.nil ?_
                exact loop_end (r.2.length - (i + 1)) ⟨[(2, lf (dI sig)), (3, lf (.ptr 0 0)), (4, lf (.ptr 1 0)), (8, lf (.ref 5)), (10, lf (dI (p : Int))), (30, lf (dI (p : Int))), (31, lf (.ptr 1 0)), (32, lf (.dat (.sl 9 .str) r.1)), (33, lf (dI (r.1.length : Int))), (34, lf (dB true)), (37, lf (.ptr 1 1)), (38, lf (.dat (.sl 229 (.pr .int (.pr .int .int))) r.2)), (39, lf (dI (r.2.length : Int))), (40, lf (dI ((i + 1) : Int)))], [(0, some (.box 50 [dI s.1.1, .dat (.sl 146 (.pr (.sl 3 .int) (.sl 3 .int))) s.1.2, .dat (.sl 129 (.pr .str .int)) s.2.1, .dat (.sl 131 (.pr .int .bool)) s.2.2.1, dS s.2.2.2])), (1, some (.box 188 [.dat (.sl 9 .str) r.1, .dat (.sl 229 (.pr .int (.pr .int .int))) r.2])), (5, some (.arr 5 .u8 ((us2.set ((mv.1).toNat) c24).set ((mv.2.2).toNat) c26)))]⟩ (by omega) (Wk.of [(0, 0), (1, 1), (5, 5)] rfl ⟨rfl, rfl, rfl, rfl, rfl, rfl, rfl, rfl, rfl, rfl, rfl, rfl, rfl, rfl, trivial⟩ ⟨rfl, rfl, (show some (Ent.arr 5 .u8 ((us2.set ((mv.1).toNat) c24).set ((mv.2.2).toNat) c26)) = some (Ent.arr 5 .u8 ((us2.set ((mv.1).toNat) c24).set ((mv.2.2).toNat) c26)) from congrArg (fun z => some (Ent.arr 5 .u8 z)) (by first | rfl | simp)), trivial⟩ rfl rfl) ⟨i + 1, ((us2.set ((mv.1).toNat) c24).set ((mv.2.2).toNat) c26), by omega, rfl, hA2.trans (congrArg (contS sig (arcsOf s.2.2.1 r.2) (r.1.length - p)) (passS_ok (arcs_get hx18 hla) (by first | exact stepS_un1 (cf := cf) (ct := ct) (by assumption) (by assumption) (by assumption) (by assumption) | exact stepS_un2 (cf := cf) (ct := ct) (by assumption) (by assumption) (by assumption) (by assumption) (by first | exact .inl (by assumption) | exact .inr (by assumption)) | exact stepS_lab (cf := cf) (ct := ct) (by assumption) (by assumption) (by assumption) (by first | exact .inl (by assumption) | exact .inr (by assumption)) (by first | exact .inl (by assumption) | exact .inr (by assumption)) (by assumption) (by assumption)))), (by simp only [List.length_set]; exact hL2), rfl⟩
              · have _h := hb47
                have hb47' : ¬ (ct = 63) := nd_true hb47
                refine AL.guard_yes rfl rfl rfl (Does.move rfl rfl) ?_
                refine AL.guard_yes rfl rfl rfl (Does.fieldP (Evl.tmp rfl) fld_229_2 rfl rfl) ?_
                refine AL.guard_yes rfl rfl rfl (Does.loadP (Evl.tmp rfl) rfl tsh_3 rfl rfl) ?_
                refine AL.guard_yes rfl rfl rfl (Does.indexI (e := .u8) (Evl.tmp rfl) rfl (Evl.tmp rfl) und_156 tsh_5 rfl (by omega) (by first | omega | (simp only [List.length_set]; omega))) ?_
                refine AL.guard_yes rfl rfl rfl (Does.loadI (e := .u8) (Evl.tmp rfl) rfl hx46 rfl tsh_5 rfl rfl) ?_
                refine AL.guard_yes rfl rfl rfl (Does.move rfl rfl) ?_
                refine AL.guard_yes rfl rfl rfl (Does.neqU (Evl.tmp rfl) (Evl.tmp rfl) rfl) ?_
                refine AL.guard_yes rfl rfl rfl (Does.pickT (Evl.tmp rfl) (Ev.tmp rfl) rfl) ?_
                refine AL.cons rfl (Does.pickF (Evl.tmp rfl) (Ev.tmp rfl) rfl) ?_
                refine AL.nil ?_
                refine (?_ : AC _ _ _ _ _)
                cases hb51 : (!decide (ct = c26))
                · have _h := hb51
                  have hb51' : (ct = c26) := nd_false hb51
                  refine AC.condF (Evl.tmp rfl) ?_
                  refine AC.skip ?_
                  refine (?_ : AC _ _ _ _ _)
                  refine AC.seq ?_
                  refine AC.region ?_
                  refine AL.cons rfl (Does.move rfl rfl) ?_
                  refine AL.cons rfl (Does.fieldP (Evl.tmp rfl) fld_229_0 rfl rfl) ?_
                  refine AL.cons rfl (Does.loadP (Evl.tmp rfl) rfl tsh_3 rfl rfl) ?_
                  refine AL.cons rfl (Does.move rfl rfl) ?_
                  refine AL.cons rfl (Does.indexI (e := .u8) (Evl.tmp rfl) rfl (Evl.tmp rfl) und_156 tsh_5 rfl (by omega) (by first | omega | (simp only [List.length_set]; omega))) ?_
                  refine AL.cons rfl (Does.storeI (e := .u8) (z' := c24) (Evl.tmp rfl) rfl hx30 rfl (Ev.tmp rfl) rfl tsh_5 rfl rfl) ?_
                  refine AL.nil ?_
                  refine (?_ : AC _ _ _ _ _)
                  refine AC.region ?_
                  refine AL.cons rfl (Does.move rfl rfl) ?_
                  refine AL.cons rfl (Does.fieldP (Evl.tmp rfl) fld_229_2 rfl rfl) ?_
                  refine AL.cons rfl (Does.loadP (Evl.tmp rfl) rfl tsh_3 rfl rfl) ?_
                  refine AL.fact (fact_int (x := .tmp 143) (Evl.tmp rfl)) fun hi52 => ?_
                  refine AL.cons rfl (Does.move rfl rfl) ?_
                  refine AL.cons rfl (Does.indexI (e := .u8) (Evl.tmp rfl) rfl (Evl.tmp rfl) und_156 tsh_5 rfl (by omega) (by first | omega | (simp only [List.length_set]; omega))) ?_
                  obtain ⟨x53, hx54⟩ : ∃ z, (us2.set ((mv.1).toNat) c24)[(mv.2.2).toNat]? = some z := ⟨_, List.getElem?_eq_getElem (by first | omega | (simp only [List.length_set]; omega))⟩
                  refine AL.cons rfl (Does.storeI (e := .u8) (z' := c26) (Evl.tmp rfl) rfl hx54 rfl (Ev.tmp rfl) rfl tsh_5 rfl rfl) ?_
                  refine AL.nil ?_
                  refine (?_ : AC _ _ _ _ _)
                  refine AC.region ?_
                  refine AL.cons rfl (Does.add (Evl.tmp rfl) (Evl.int rfl) rfl (by omega)) ?_
                  refine AL.cons rfl (Does.move rfl rfl) ?_
                  refine AL.nil ?_
                  exact loop_end (r.2.length - (i + 1)) ⟨[(2, lf (dI sig)), (3, lf (.ptr 0 0)), (4, lf (.ptr 1 0)), (8, lf (.ref 5)), (10, lf (dI (p : Int))), (30, lf (dI (p : Int))), (31, lf (.ptr 1 0)), (32, lf (.dat (.sl 9 .str) r.1)), (33, lf (dI (r.1.length : Int))), (34, lf (dB true)), (37, lf (.ptr 1 1)), (38, lf (.dat (.sl 229 (.pr .int (.pr .int .int))) r.2)), (39, lf (dI (r.2.length : Int))), (40, lf (dI ((i + 1) : Int)))], [(0, some (.box 50 [dI s.1.1, .dat (.sl 146 (.pr (.sl 3 .int) (.sl 3 .int))) s.1.2, .dat (.sl 129 (.pr .str .int)) s.2.1, .dat (.sl 131 (.pr .int .bool)) s.2.2.1, dS s.2.2.2])), (1, some (.box 188 [.dat (.sl 9 .str) r.1, .dat (.sl 229 (.pr .int (.pr .int .int))) r.2])), (5, some (.arr 5 .u8 ((us2.set ((mv.1).toNat) c24).set ((mv.2.2).toNat) c26)))]⟩ (by omega) (Wk.of [(0, 0), (1, 1), (5, 5)] rfl ⟨rfl, rfl, rfl, rfl, rfl, rfl, rfl, rfl, rfl, rfl, rfl, rfl, rfl, rfl, trivial⟩ ⟨rfl, rfl, (show some (Ent.arr 5 .u8 ((us2.set ((mv.1).toNat) c24).set ((mv.2.2).toNat) c26)) = some (Ent.arr 5 .u8 ((us2.set ((mv.1).toNat) c24).set ((mv.2.2).toNat) c26)) from congrArg (fun z => some (Ent.arr 5 .u8 z)) (by first | rfl | simp)), trivial⟩ rfl rfl) ⟨i + 1, ((us2.set ((mv.1).toNat) c24).set ((mv.2.2).toNat) c26), by omega, rfl, hA2.trans (congrArg (contS sig (arcsOf s.2.2.1 r.2) (r.1.length - p)) (passS_ok (arcs_get hx18 hla) (by first | exact stepS_un1 (cf := cf) (ct := ct) (by assumption) (by assumption) (by assumption) (by assumption) | exact stepS_un2 (cf := cf) (ct := ct) (by assumption) (by assumption) (by assumption) (by assumption) (by first | exact .inl (by assumption) | exact .inr (by assumption)) | exact stepS_lab (cf := cf) (ct := ct) (by assumption) (by assumption) (by assumption) (by first | exact .inl (by assumption) | exact .inr (by assumption)) (by first | exact .inl (by assumption) | exact .inr (by assumption)) (by assumption) (by assumption)))), (by simp only [List.length_set]; exact hL2), rfl⟩
                · have _h := hb51
                  have hb51' : ¬ (ct = c26) := nd_true hb51
                  refine AC.condT (Evl.tmp rfl) ?_
                  refine AC.seq ?_
                  refine AC.region ?_
                  refine AL.cons rfl (Does.assignC (Evl.str rfl) rfl) ?_
                  refine AL.cons rfl (Does.assignC Evl.bool rfl) ?_
                  refine AL.nil ?_
                  refine (?_ : AC _ _ _ _ _)
                  refine AC.ret ?_
                  subst hO
                  have e55 : ((⟨#[]⟩ : ByteArray) : ByteArray) = (l5V r.1.length (arcsOf s.2.2.1 r.2) sig).1 := by
                    first | (rw [l5V_no (by rw [hA2, passS_bad (arcs_get hx18 hla) (by first | exact stepS_un3 (cf := cf) (ct := ct) (by assumption) (by assumption) (by assumption) (by assumption) (by assumption) (by assumption) | exact stepS_lab1 (cf := cf) (by assumption) (by assumption) (by assumption) (by assumption) (by assumption) | exact stepS_lab2 (ct := ct) (by assumption) (by assumption) (by assumption) (by assumption) (by assumption))]; rfl)]; done) | (rw [l5V_yes (us := us) (by rw [hA, show r.1.length + 1 - p = 0 by omega]; rfl)]; done)
                  have e56 : (false : Bool) = (l5V r.1.length (arcsOf s.2.2.1 r.2) sig).2 := by
                    first | (rw [l5V_no (by rw [hA2, passS_bad (arcs_get hx18 hla) (by first | exact stepS_un3 (cf := cf) (ct := ct) (by assumption) (by assumption) (by assumption) (by assumption) (by assumption) (by assumption) | exact stepS_lab1 (cf := cf) (by assumption) (by assumption) (by assumption) (by assumption) (by assumption) | exact stepS_lab2 (ct := ct) (by assumption) (by assumption) (by assumption) (by assumption) (by assumption))]; rfl)]; done) | (rw [l5V_yes (us := us) (by rw [hA, show r.1.length + 1 - p = 0 by omega]; rfl)]; done)
                  exact fin_pure (Res.two rfl (Rs.tmp rfl) (Rs.tmp rfl)) (((congrArg (fun z_ => PV.tup [(false, [dS z_]), (false, [dB false])]) e55)).trans (congrArg (fun z_ => PV.tup [(false, [dS ((l5V r.1.length (arcsOf s.2.2.1 r.2) sig).1)]), (false, [dB z_])]) e56)) rfl
            · have _h := hb44
              have hb44' : ¬ (cf = c24) := nd_true hb44
              refine AL.guard_no (b := false) rfl rfl rfl ?_ rfl
              refine AL.guard_no (b := false) rfl rfl rfl ?_ rfl
              refine AL.guard_no (b := false) rfl rfl rfl ?_ rfl
              refine AL.guard_no (b := false) rfl rfl rfl ?_ rfl
              refine AL.guard_no (b := false) rfl rfl rfl ?_ rfl
              refine AL.guard_no (b := false) rfl rfl rfl ?_ rfl
              refine AL.guard_no (b := false) rfl rfl rfl ?_ rfl
              refine AL.guard_un rfl rfl rfl ?_ rfl
              refine AL.guard_un rfl rfl rfl ?_ rfl
              refine AL.guard_un rfl rfl rfl ?_ rfl
              refine AL.guard_un rfl rfl rfl ?_ rfl
              refine AL.guard_un rfl rfl rfl ?_ rfl
              refine AL.guard_un rfl rfl rfl ?_ rfl
              refine AL.guard_un rfl rfl rfl ?_ rfl
              refine AL.guard_no (b := false) rfl rfl rfl ?_ rfl
              refine AL.cons rfl (Does.pickT (Evl.tmp rfl) (Evl.ev Evl.bool) rfl) ?_
              refine AL.nil ?_
              refine (?_ : AC _ _ _ _ _)
              refine AC.condT (Evl.tmp rfl) ?_
              refine AC.seq ?_
              refine AC.region ?_
              refine AL.cons rfl (Does.assignC (Evl.str rfl) rfl) ?_
              refine AL.cons rfl (Does.assignC Evl.bool rfl) ?_
              refine AL.nil ?_
              refine (?_ : AC _ _ _ _ _)
              refine AC.ret ?_
              subst hO
              have e57 : ((⟨#[]⟩ : ByteArray) : ByteArray) = (l5V r.1.length (arcsOf s.2.2.1 r.2) sig).1 := by
                first | (rw [l5V_no (by rw [hA2, passS_bad (arcs_get hx18 hla) (by first | exact stepS_un3 (cf := cf) (ct := ct) (by assumption) (by assumption) (by assumption) (by assumption) (by assumption) (by assumption) | exact stepS_lab1 (cf := cf) (by assumption) (by assumption) (by assumption) (by assumption) (by assumption) | exact stepS_lab2 (ct := ct) (by assumption) (by assumption) (by assumption) (by assumption) (by assumption))]; rfl)]; done) | (rw [l5V_yes (us := us) (by rw [hA, show r.1.length + 1 - p = 0 by omega]; rfl)]; done)
              have e58 : (false : Bool) = (l5V r.1.length (arcsOf s.2.2.1 r.2) sig).2 := by
                first | (rw [l5V_no (by rw [hA2, passS_bad (arcs_get hx18 hla) (by first | exact stepS_un3 (cf := cf) (ct := ct) (by assumption) (by assumption) (by assumption) (by assumption) (by assumption) (by assumption) | exact stepS_lab1 (cf := cf) (by assumption) (by assumption) (by assumption) (by assumption) (by assumption) | exact stepS_lab2 (ct := ct) (by assumption) (by assumption) (by assumption) (by assumption) (by assumption))]; rfl)]; done) | (rw [l5V_yes (us := us) (by rw [hA, show r.1.length + 1 - p = 0 by omega]; rfl)]; done)
              exact fin_pure (Res.two rfl (Rs.tmp rfl) (Rs.tmp rfl)) (((congrArg (fun z_ => PV.tup [(false, [dS z_]), (false, [dB false])]) e57)).trans (congrArg (fun z_ => PV.tup [(false, [dS ((l5V r.1.length (arcsOf s.2.2.1 r.2) sig).1)]), (false, [dB z_])]) e58)) rfl
        · have _h := hb23
          have hb23' : ¬ (lb.1 = sig) := nd_true hb23
          refine AC.condT (Evl.tmp rfl) ?_
          refine AC.seq ?_
          refine AC.region ?_
          refine AL.cons rfl (Does.move rfl rfl) ?_
          refine AL.cons rfl (Does.fieldP (Evl.tmp rfl) fld_229_0 rfl rfl) ?_
          refine AL.cons rfl (Does.loadP (Evl.tmp rfl) rfl tsh_3 rfl rfl) ?_
          refine AL.fact (fact_int (x := .tmp 56) (Evl.tmp rfl)) fun hi59 => ?_
          refine AL.cons rfl (Does.indexI (e := .u8) (Evl.tmp rfl) rfl (Evl.tmp rfl) und_156 tsh_5 rfl (by omega) (by first | omega | (simp only [List.length_set]; omega))) ?_
          obtain ⟨cf, hx61⟩ : ∃ z, us2[(mv.1).toNat]? = some z := ⟨_, List.getElem?_eq_getElem (by omega)⟩
          refine AL.cons rfl (Does.loadI (e := .u8) (Evl.tmp rfl) rfl hx61 rfl tsh_5 rfl rfl) ?_
          refine AL.cons rfl (Does.assign rfl rfl) ?_
          refine AL.nil ?_
          refine (?_ : AC _ _ _ _ _)
          refine AC.seq ?_
          refine AC.seq ?_
          refine AC.region ?_
          refine AL.cons rfl (Does.move rfl rfl) ?_
          refine AL.cons rfl (Does.eqlU (Evl.tmp rfl) (Evl.u8 63 rfl) rfl) ?_
          refine AL.nil ?_
          refine (?_ : AC _ _ _ _ _)
          cases hb62 : (decide (cf = 63))
          · have _h := hb62
            have hb62' : ¬ (cf = 63) := of_decide_eq_false hb62
            refine AC.condF (Evl.tmp rfl) ?_
            refine AC.skip ?_
            refine (?_ : AC _ _ _ _ _)
            refine AC.seq ?_
            refine AC.seq ?_
            refine AC.region ?_
            refine AL.cons rfl (Does.move rfl rfl) ?_
            refine AL.cons rfl (Does.neqU (Evl.tmp rfl) (Evl.u8 63 rfl) rfl) ?_
            refine AL.cons rfl (Does.move rfl rfl) ?_
            have hb63 : (!decide (cf = 63)) = true := nb_to (hb62)
            try rw [hb63]
            refine AL.guard_yes rfl rfl rfl (Does.move rfl rfl) ?_
            refine AL.guard_yes rfl rfl rfl (Does.fieldP (Evl.tmp rfl) fld_229_2 rfl rfl) ?_
            refine AL.guard_yes rfl rfl rfl (Does.loadP (Evl.tmp rfl) rfl tsh_3 rfl rfl) ?_
            refine AL.guard_yes rfl rfl rfl (Does.indexI (e := .u8) (Evl.tmp rfl) rfl (Evl.tmp rfl) und_156 tsh_5 rfl (by omega) (by first | omega | (simp only [List.length_set]; omega))) ?_
            obtain ⟨ct, hx65⟩ : ∃ z, us2[(mv.2.2).toNat]? = some z := ⟨_, List.getElem?_eq_getElem (by omega)⟩
            refine AL.guard_yes rfl rfl rfl (Does.loadI (e := .u8) (Evl.tmp rfl) rfl hx65 rfl tsh_5 rfl rfl) ?_
            refine AL.guard_yes rfl rfl rfl (Does.neqU (Evl.tmp rfl) (Evl.u8 63 rfl) rfl) ?_
            refine AL.cons rfl (Does.pickT (Evl.tmp rfl) (Ev.tmp rfl) rfl) ?_
            refine AL.cons rfl (Does.move rfl rfl) ?_
            cases hb66 : (!decide (ct = 63))
            · have _h := hb66
              have hb66' : (ct = 63) := nd_false hb66
              refine AL.guard_no (b := true) rfl rfl rfl ?_ rfl
              refine AL.guard_no (b := true) rfl rfl rfl ?_ rfl
              refine AL.guard_no (b := true) rfl rfl rfl ?_ rfl
              refine AL.guard_no (b := true) rfl rfl rfl ?_ rfl
              refine AL.guard_no (b := true) rfl rfl rfl ?_ rfl
              refine AL.guard_no (b := true) rfl rfl rfl ?_ rfl
              refine AL.guard_no (b := true) rfl rfl rfl ?_ rfl
              refine AL.cons rfl (Does.pickF (Evl.tmp rfl) (Evl.ev Evl.bool) rfl) ?_
              refine AL.nil ?_
              refine (?_ : AC _ _ _ _ _)
              refine AC.condF (Evl.tmp rfl) ?_
              refine AC.skip ?_
              refine (?_ : AC _ _ _ _ _)
              refine AC.seq ?_
              refine AC.region ?_
              refine AL.cons rfl (Does.move rfl rfl) ?_
              refine AL.cons rfl (Does.fieldP (Evl.tmp rfl) fld_229_0 rfl rfl) ?_
              refine AL.cons rfl (Does.loadP (Evl.tmp rfl) rfl tsh_3 rfl rfl) ?_
              refine AL.cons rfl (Does.move rfl rfl) ?_
              refine AL.cons rfl (Does.indexI (e := .u8) (Evl.tmp rfl) rfl (Evl.tmp rfl) und_156 tsh_5 rfl (by omega) (by first | omega | (simp only [List.length_set]; omega))) ?_
              refine AL.cons rfl (Does.storeI (e := .u8) (z' := cf) (Evl.tmp rfl) rfl hx61 rfl (Ev.tmp rfl) rfl tsh_5 rfl rfl) ?_
              refine AL.nil ?_
              refine (?_ : AC _ _ _ _ _)
              refine AC.seq ?_
              refine AC.region ?_
              refine AL.cons rfl (Does.move rfl rfl) ?_
              refine AL.cons rfl (Does.fieldP (Evl.tmp rfl) fld_229_2 rfl rfl) ?_
              refine AL.cons rfl (Does.loadP (Evl.tmp rfl) rfl tsh_3 rfl rfl) ?_
              refine AL.fact (fact_int (x := .tmp 92) (Evl.tmp rfl)) fun hi67 => ?_
              refine AL.cons rfl (Does.move rfl rfl) ?_
              refine AL.cons rfl (Does.indexI (e := .u8) (Evl.tmp rfl) rfl (Evl.tmp rfl) und_156 tsh_5 rfl (by omega) (by first | omega | (simp only [List.length_set]; omega))) ?_
              obtain ⟨x68, hx69⟩ : ∃ z, (us2.set ((mv.1).toNat) cf)[(mv.2.2).toNat]? = some z := ⟨_, List.getElem?_eq_getElem (by first | omega | (simp only [List.length_set]; omega))⟩
              refine AL.cons rfl (Does.storeI (e := .u8) (z' := cf) (Evl.tmp rfl) rfl hx69 rfl (Ev.tmp rfl) rfl tsh_5 rfl rfl) ?_
              refine AL.nil ?_
              refine (?_ : AC _ _ _ _ _)
              refine AC.exit ?_
              refine (?_ : AC _ _ _ _ _)
              refine AC.region ?_
              refine AL.cons rfl (Does.add (Evl.tmp rfl) (Evl.int rfl) rfl (by omega)) ?_
              refine AL.cons rfl (Does.move rfl rfl) ?_
              refine AL.nil ?_
              exact loop_end (r.2.length - (i + 1)) ⟨[(2, lf (dI sig)), (3, lf (.ptr 0 0)), (4, lf (.ptr 1 0)), (8, lf (.ref 5)), (10, lf (dI (p : Int))), (30, lf (dI (p : Int))), (31, lf (.ptr 1 0)), (32, lf (.dat (.sl 9 .str) r.1)), (33, lf (dI (r.1.length : Int))), (34, lf (dB true)), (37, lf (.ptr 1 1)), (38, lf (.dat (.sl 229 (.pr .int (.pr .int .int))) r.2)), (39, lf (dI (r.2.length : Int))), (40, lf (dI ((i + 1) : Int)))], [(0, some (.box 50 [dI s.1.1, .dat (.sl 146 (.pr (.sl 3 .int) (.sl 3 .int))) s.1.2, .dat (.sl 129 (.pr .str .int)) s.2.1, .dat (.sl 131 (.pr .int .bool)) s.2.2.1, dS s.2.2.2])), (1, some (.box 188 [.dat (.sl 9 .str) r.1, .dat (.sl 229 (.pr .int (.pr .int .int))) r.2])), (5, some (.arr 5 .u8 ((us2.set ((mv.1).toNat) cf).set ((mv.2.2).toNat) cf)))]⟩ (by omega) (Wk.of [(0, 0), (1, 1), (5, 5)] rfl ⟨rfl, rfl, rfl, rfl, rfl, rfl, rfl, rfl, rfl, rfl, rfl, rfl, rfl, rfl, trivial⟩ ⟨rfl, rfl, (show some (Ent.arr 5 .u8 ((us2.set ((mv.1).toNat) cf).set ((mv.2.2).toNat) cf)) = some (Ent.arr 5 .u8 ((us2.set ((mv.1).toNat) cf).set ((mv.2.2).toNat) cf)) from congrArg (fun z => some (Ent.arr 5 .u8 z)) (by first | rfl | simp)), trivial⟩ rfl rfl) ⟨i + 1, ((us2.set ((mv.1).toNat) cf).set ((mv.2.2).toNat) cf), by omega, rfl, hA2.trans (congrArg (contS sig (arcsOf s.2.2.1 r.2) (r.1.length - p)) (passS_ok (arcs_get hx18 hla) (by first | exact stepS_un1 (cf := cf) (ct := ct) (by assumption) (by assumption) (by assumption) (by assumption) | exact stepS_un2 (cf := cf) (ct := ct) (by assumption) (by assumption) (by assumption) (by assumption) (by first | exact .inl (by assumption) | exact .inr (by assumption)) | exact stepS_lab (cf := cf) (ct := ct) (by assumption) (by assumption) (by assumption) (by first | exact .inl (by assumption) | exact .inr (by assumption)) (by first | exact .inl (by assumption) | exact .inr (by assumption)) (by assumption) (by assumption)))), (by simp only [List.length_set]; exact hL2), rfl⟩
            · have _h := hb66
              have hb66' : ¬ (ct = 63) := nd_true hb66
              refine AL.guard_yes rfl rfl rfl (Does.move rfl rfl) ?_
              refine AL.guard_yes rfl rfl rfl (Does.fieldP (Evl.tmp rfl) fld_229_2 rfl rfl) ?_
              refine AL.guard_yes rfl rfl rfl (Does.loadP (Evl.tmp rfl) rfl tsh_3 rfl rfl) ?_
              refine AL.guard_yes rfl rfl rfl (Does.indexI (e := .u8) (Evl.tmp rfl) rfl (Evl.tmp rfl) und_156 tsh_5 rfl (by omega) (by first | omega | (simp only [List.length_set]; omega))) ?_
              refine AL.guard_yes rfl rfl rfl (Does.loadI (e := .u8) (Evl.tmp rfl) rfl hx65 rfl tsh_5 rfl rfl) ?_
              refine AL.guard_yes rfl rfl rfl (Does.move rfl rfl) ?_
              refine AL.guard_yes rfl rfl rfl (Does.neqU (Evl.tmp rfl) (Evl.tmp rfl) rfl) ?_
              refine AL.cons rfl (Does.pickT (Evl.tmp rfl) (Ev.tmp rfl) rfl) ?_
              refine AL.nil ?_
              refine (?_ : AC _ _ _ _ _)
              cases hb70 : (!decide (ct = cf))
              · have _h := hb70
                have hb70' : (ct = cf) := nd_false hb70
                refine AC.condF (Evl.tmp rfl) ?_
                refine AC.skip ?_
                refine (?_ : AC _ _ _ _ _)
                refine AC.seq ?_
                refine AC.region ?_
                refine AL.cons rfl (Does.move rfl rfl) ?_
                refine AL.cons rfl (Does.fieldP (Evl.tmp rfl) fld_229_0 rfl rfl) ?_
                refine AL.cons rfl (Does.loadP (Evl.tmp rfl) rfl tsh_3 rfl rfl) ?_
                refine AL.cons rfl (Does.move rfl rfl) ?_
                refine AL.cons rfl (Does.indexI (e := .u8) (Evl.tmp rfl) rfl (Evl.tmp rfl) und_156 tsh_5 rfl (by omega) (by first | omega | (simp only [List.length_set]; omega))) ?_
                refine AL.cons rfl (Does.storeI (e := .u8) (z' := cf) (Evl.tmp rfl) rfl hx61 rfl (Ev.tmp rfl) rfl tsh_5 rfl rfl) ?_
                refine AL.nil ?_
                refine (?_ : AC _ _ _ _ _)
                refine AC.seq ?_
                refine AC.region ?_
                refine AL.cons rfl (Does.move rfl rfl) ?_
                refine AL.cons rfl (Does.fieldP (Evl.tmp rfl) fld_229_2 rfl rfl) ?_
                refine AL.cons rfl (Does.loadP (Evl.tmp rfl) rfl tsh_3 rfl rfl) ?_
                refine AL.fact (fact_int (x := .tmp 92) (Evl.tmp rfl)) fun hi71 => ?_
                refine AL.cons rfl (Does.move rfl rfl) ?_
                refine AL.cons rfl (Does.indexI (e := .u8) (Evl.tmp rfl) rfl (Evl.tmp rfl) und_156 tsh_5 rfl (by omega) (by first | omega | (simp only [List.length_set]; omega))) ?_
                obtain ⟨x72, hx73⟩ : ∃ z, (us2.set ((mv.1).toNat) cf)[(mv.2.2).toNat]? = some z := ⟨_, List.getElem?_eq_getElem (by first | omega | (simp only [List.length_set]; omega))⟩
                refine AL.cons rfl (Does.storeI (e := .u8) (z' := cf) (Evl.tmp rfl) rfl hx73 rfl (Ev.tmp rfl) rfl tsh_5 rfl rfl) ?_
                refine AL.nil ?_
                refine (?_ : AC _ _ _ _ _)
                refine AC.exit ?_
                refine (?_ : AC _ _ _ _ _)
                refine AC.region ?_
                refine AL.cons rfl (Does.add (Evl.tmp rfl) (Evl.int rfl) rfl (by omega)) ?_
                refine AL.cons rfl (Does.move rfl rfl) ?_
                refine AL.nil ?_
                exact loop_end (r.2.length - (i + 1)) ⟨[(2, lf (dI sig)), (3, lf (.ptr 0 0)), (4, lf (.ptr 1 0)), (8, lf (.ref 5)), (10, lf (dI (p : Int))), (30, lf (dI (p : Int))), (31, lf (.ptr 1 0)), (32, lf (.dat (.sl 9 .str) r.1)), (33, lf (dI (r.1.length : Int))), (34, lf (dB true)), (37, lf (.ptr 1 1)), (38, lf (.dat (.sl 229 (.pr .int (.pr .int .int))) r.2)), (39, lf (dI (r.2.length : Int))), (40, lf (dI ((i + 1) : Int)))], [(0, some (.box 50 [dI s.1.1, .dat (.sl 146 (.pr (.sl 3 .int) (.sl 3 .int))) s.1.2, .dat (.sl 129 (.pr .str .int)) s.2.1, .dat (.sl 131 (.pr .int .bool)) s.2.2.1, dS s.2.2.2])), (1, some (.box 188 [.dat (.sl 9 .str) r.1, .dat (.sl 229 (.pr .int (.pr .int .int))) r.2])), (5, some (.arr 5 .u8 ((us2.set ((mv.1).toNat) cf).set ((mv.2.2).toNat) cf)))]⟩ (by omega) (Wk.of [(0, 0), (1, 1), (5, 5)] rfl ⟨rfl, rfl, rfl, rfl, rfl, rfl, rfl, rfl, rfl, rfl, rfl, rfl, rfl, rfl, trivial⟩ ⟨rfl, rfl, (show some (Ent.arr 5 .u8 ((us2.set ((mv.1).toNat) cf).set ((mv.2.2).toNat) cf)) = some (Ent.arr 5 .u8 ((us2.set ((mv.1).toNat) cf).set ((mv.2.2).toNat) cf)) from congrArg (fun z => some (Ent.arr 5 .u8 z)) (by first | rfl | simp)), trivial⟩ rfl rfl) ⟨i + 1, ((us2.set ((mv.1).toNat) cf).set ((mv.2.2).toNat) cf), by omega, rfl, hA2.trans (congrArg (contS sig (arcsOf s.2.2.1 r.2) (r.1.length - p)) (passS_ok (arcs_get hx18 hla) (by first | exact stepS_un1 (cf := cf) (ct := ct) (by assumption) (by assumption) (by assumption) (by assumption) | exact stepS_un2 (cf := cf) (ct := ct) (by assumption) (by assumption) (by assumption) (by assumption) (by first | exact .inl (by assumption) | exact .inr (by assumption)) | exact stepS_lab (cf := cf) (ct := ct) (by assumption) (by assumption) (by assumption) (by first | exact .inl (by assumption) | exact .inr (by assumption)) (by first | exact .inl (by assumption) | exact .inr (by assumption)) (by assumption) (by assumption)))), (by simp only [List.length_set]; exact hL2), rfl⟩
              · have _h := hb70
                have hb70' : ¬ (ct = cf) := nd_true hb70
                refine AC.condT (Evl.tmp rfl) ?_
                refine AC.seq ?_
                refine AC.region ?_
                refine AL.cons rfl (Does.assignC (Evl.str rfl) rfl) ?_
                refine AL.cons rfl (Does.assignC Evl.bool rfl) ?_
                refine AL.nil ?_
                refine (?_ : AC _ _ _ _ _)
                refine AC.ret ?_
                subst hO
                have e74 : ((⟨#[]⟩ : ByteArray) : ByteArray) = (l5V r.1.length (arcsOf s.2.2.1 r.2) sig).1 := by
                  first | (rw [l5V_no (by rw [hA2, passS_bad (arcs_get hx18 hla) (by first | exact stepS_un3 (cf := cf) (ct := ct) (by assumption) (by assumption) (by assumption) (by assumption) (by assumption) (by assumption) | exact stepS_lab1 (cf := cf) (by assumption) (by assumption) (by assumption) (by assumption) (by assumption) | exact stepS_lab2 (ct := ct) (by assumption) (by assumption) (by assumption) (by assumption) (by assumption))]; rfl)]; done) | (rw [l5V_yes (us := us) (by rw [hA, show r.1.length + 1 - p = 0 by omega]; rfl)]; done)
                have e75 : (false : Bool) = (l5V r.1.length (arcsOf s.2.2.1 r.2) sig).2 := by
                  first | (rw [l5V_no (by rw [hA2, passS_bad (arcs_get hx18 hla) (by first | exact stepS_un3 (cf := cf) (ct := ct) (by assumption) (by assumption) (by assumption) (by assumption) (by assumption) (by assumption) | exact stepS_lab1 (cf := cf) (by assumption) (by assumption) (by assumption) (by assumption) (by assumption) | exact stepS_lab2 (ct := ct) (by assumption) (by assumption) (by assumption) (by assumption) (by assumption))]; rfl)]; done) | (rw [l5V_yes (us := us) (by rw [hA, show r.1.length + 1 - p = 0 by omega]; rfl)]; done)
                exact fin_pure (Res.two rfl (Rs.tmp rfl) (Rs.tmp rfl)) (((congrArg (fun z_ => PV.tup [(false, [dS z_]), (false, [dB false])]) e74)).trans (congrArg (fun z_ => PV.tup [(false, [dS ((l5V r.1.length (arcsOf s.2.2.1 r.2) sig).1)]), (false, [dB z_])]) e75)) rfl
          · have _h := hb62
            have hb62' : (cf = 63) := of_decide_eq_true hb62
            refine AC.condT (Evl.tmp rfl) ?_
            refine AC.region ?_
            refine AL.cons rfl (Does.move rfl rfl) ?_
            refine AL.cons rfl (Does.fieldP (Evl.tmp rfl) fld_229_2 rfl rfl) ?_
            refine AL.cons rfl (Does.loadP (Evl.tmp rfl) rfl tsh_3 rfl rfl) ?_
            refine AL.fact (fact_int (x := .tmp 63) (Evl.tmp rfl)) fun hi76 => ?_
            refine AL.cons rfl (Does.indexI (e := .u8) (Evl.tmp rfl) rfl (Evl.tmp rfl) und_156 tsh_5 rfl (by omega) (by first | omega | (simp only [List.length_set]; omega))) ?_
            obtain ⟨ct, hx78⟩ : ∃ z, us2[(mv.2.2).toNat]? = some z := ⟨_, List.getElem?_eq_getElem (by omega)⟩
            refine AL.cons rfl (Does.loadI (e := .u8) (Evl.tmp rfl) rfl hx78 rfl tsh_5 rfl rfl) ?_
            refine AL.cons rfl (Does.assign rfl rfl) ?_
            refine AL.nil ?_
            refine (?_ : AC _ _ _ _ _)
            refine AC.seq ?_
            refine AC.seq ?_
            refine AC.region ?_
            refine AL.cons rfl (Does.move rfl rfl) ?_
            refine AL.cons rfl (Does.neqU (Evl.tmp rfl) (Evl.u8 63 rfl) rfl) ?_
            refine AL.cons rfl (Does.move rfl rfl) ?_
            cases hb79 : (!decide (ct = 63))
            · have _h := hb79
              have hb79' : (ct = 63) := nd_false hb79
              refine AL.guard_no (b := true) rfl rfl rfl ?_ rfl
              refine AL.guard_no (b := true) rfl rfl rfl ?_ rfl
              refine AL.guard_no (b := true) rfl rfl rfl ?_ rfl
              refine AL.guard_no (b := true) rfl rfl rfl ?_ rfl
              refine AL.guard_no (b := true) rfl rfl rfl ?_ rfl
              refine AL.guard_no (b := true) rfl rfl rfl ?_ rfl
              refine AL.cons rfl (Does.pickF (Evl.tmp rfl) (Evl.ev Evl.bool) rfl) ?_
              refine AL.cons rfl (Does.move rfl rfl) ?_
              refine AL.guard_no (b := true) rfl rfl rfl ?_ rfl
              refine AL.guard_no (b := true) rfl rfl rfl ?_ rfl
              refine AL.guard_no (b := true) rfl rfl rfl ?_ rfl
              refine AL.guard_no (b := true) rfl rfl rfl ?_ rfl
              refine AL.guard_no (b := true) rfl rfl rfl ?_ rfl
              refine AL.guard_no (b := true) rfl rfl rfl ?_ rfl
              refine AL.guard_no (b := true) rfl rfl rfl ?_ rfl
              refine AL.cons rfl (Does.pickF (Evl.tmp rfl) (Evl.ev Evl.bool) rfl) ?_
              refine AL.nil ?_
              refine (?_ : AC _ _ _ _ _)
              refine AC.condF (Evl.tmp rfl) ?_
              refine AC.skip ?_
              refine (?_ : AC _ _ _ _ _)
              refine AC.seq ?_
              refine AC.region ?_
              refine AL.cons rfl (Does.move rfl rfl) ?_
              refine AL.cons rfl (Does.fieldP (Evl.tmp rfl) fld_229_0 rfl rfl) ?_
              refine AL.cons rfl (Does.loadP (Evl.tmp rfl) rfl tsh_3 rfl rfl) ?_
              refine AL.cons rfl (Does.move rfl rfl) ?_
              refine AL.cons rfl (Does.indexI (e := .u8) (Evl.tmp rfl) rfl (Evl.tmp rfl) und_156 tsh_5 rfl (by omega) (by first | omega | (simp only [List.length_set]; omega))) ?_
              refine AL.cons rfl (Does.storeI (e := .u8) (z' := ct) (Evl.tmp rfl) rfl hx61 rfl (Ev.tmp rfl) rfl tsh_5 rfl rfl) ?_
              refine AL.nil ?_
              refine (?_ : AC _ _ _ _ _)
              refine AC.seq ?_
              refine AC.region ?_
              refine AL.cons rfl (Does.move rfl rfl) ?_
              refine AL.cons rfl (Does.fieldP (Evl.tmp rfl) fld_229_2 rfl rfl) ?_
              refine AL.cons rfl (Does.loadP (Evl.tmp rfl) rfl tsh_3 rfl rfl) ?_
              refine AL.cons rfl (Does.move rfl rfl) ?_
              refine AL.cons rfl (Does.indexI (e := .u8) (Evl.tmp rfl) rfl (Evl.tmp rfl) und_156 tsh_5 rfl (by omega) (by first | omega | (simp only [List.length_set]; omega))) ?_
              obtain ⟨x80, hx81⟩ : ∃ z, (us2.set ((mv.1).toNat) ct)[(mv.2.2).toNat]? = some z := ⟨_, List.getElem?_eq_getElem (by first | omega | (simp only [List.length_set]; omega))⟩
              refine AL.cons rfl (Does.storeI (e := .u8) (z' := ct) (Evl.tmp rfl) rfl hx81 rfl (Ev.tmp rfl) rfl tsh_5 rfl rfl) ?_
              refine AL.nil ?_
              refine (?_ : AC _ _ _ _ _)
              refine AC.exit ?_
              refine (?_ : AC _ _ _ _ _)
              refine AC.region ?_
              refine AL.cons rfl (Does.add (Evl.tmp rfl) (Evl.int rfl) rfl (by omega)) ?_
              refine AL.cons rfl (Does.move rfl rfl) ?_
              refine AL.nil ?_
              exact loop_end (r.2.length - (i + 1)) ⟨[(2, lf (dI sig)), (3, lf (.ptr 0 0)), (4, lf (.ptr 1 0)), (8, lf (.ref 5)), (10, lf (dI (p : Int))), (30, lf (dI (p : Int))), (31, lf (.ptr 1 0)), (32, lf (.dat (.sl 9 .str) r.1)), (33, lf (dI (r.1.length : Int))), (34, lf (dB true)), (37, lf (.ptr 1 1)), (38, lf (.dat (.sl 229 (.pr .int (.pr .int .int))) r.2)), (39, lf (dI (r.2.length : Int))), (40, lf (dI ((i + 1) : Int)))], [(0, some (.box 50 [dI s.1.1, .dat (.sl 146 (.pr (.sl 3 .int) (.sl 3 .int))) s.1.2, .dat (.sl 129 (.pr .str .int)) s.2.1, .dat (.sl 131 (.pr .int .bool)) s.2.2.1, dS s.2.2.2])), (1, some (.box 188 [.dat (.sl 9 .str) r.1, .dat (.sl 229 (.pr .int (.pr .int .int))) r.2])), (5, some (.arr 5 .u8 ((us2.set ((mv.1).toNat) ct).set ((mv.2.2).toNat) ct)))]⟩ (by omega) (Wk.of [(0, 0), (1, 1), (5, 5)] rfl ⟨rfl, rfl, rfl, rfl, rfl, rfl, rfl, rfl, rfl, rfl, rfl, rfl, rfl, rfl, trivial⟩ ⟨rfl, rfl, (show some (Ent.arr 5 .u8 ((us2.set ((mv.1).toNat) ct).set ((mv.2.2).toNat) ct)) = some (Ent.arr 5 .u8 ((us2.set ((mv.1).toNat) ct).set ((mv.2.2).toNat) ct)) from congrArg (fun z => some (Ent.arr 5 .u8 z)) (by first | rfl | simp)), trivial⟩ rfl rfl) ⟨i + 1, ((us2.set ((mv.1).toNat) ct).set ((mv.2.2).toNat) ct), by omega, rfl, hA2.trans (congrArg (contS sig (arcsOf s.2.2.1 r.2) (r.1.length - p)) (passS_ok (arcs_get hx18 hla) (by first | exact stepS_un1 (cf := cf) (ct := ct) (by assumption) (by assumption) (by assumption) (by assumption) | exact stepS_un2 (cf := cf) (ct := ct) (by assumption) (by assumption) (by assumption) (by assumption) (by first | exact .inl (by assumption) | exact .inr (by assumption)) | exact stepS_lab (cf := cf) (ct := ct) (by assumption) (by assumption) (by assumption) (by first | exact .inl (by assumption) | exact .inr (by assumption)) (by first | exact .inl (by assumption) | exact .inr (by assumption)) (by assumption) (by assumption)))), (by simp only [List.length_set]; exact hL2), rfl⟩
            · have _h := hb79
              have hb79' : ¬ (ct = 63) := nd_true hb79
              refine AL.guard_yes rfl rfl rfl (Does.move rfl rfl) ?_
              refine AL.guard_yes rfl rfl rfl (Does.fieldP (Evl.tmp rfl) fld_229_2 rfl rfl) ?_
              refine AL.guard_yes rfl rfl rfl (Does.loadP (Evl.tmp rfl) rfl tsh_3 rfl rfl) ?_
              refine AL.guard_yes rfl rfl rfl (Does.indexI (e := .u8) (Evl.tmp rfl) rfl (Evl.tmp rfl) und_156 tsh_5 rfl (by omega) (by first | omega | (simp only [List.length_set]; omega))) ?_
              refine AL.guard_yes rfl rfl rfl (Does.loadI (e := .u8) (Evl.tmp rfl) rfl hx78 rfl tsh_5 rfl rfl) ?_
              refine AL.guard_yes rfl rfl rfl (Does.neqU (Evl.tmp rfl) (Evl.u8 63 rfl) rfl) ?_
              refine AL.cons rfl (Does.pickT (Evl.tmp rfl) (Ev.tmp rfl) rfl) ?_
              refine AL.cons rfl (Does.move rfl rfl) ?_
              have hb82 : (!decide (ct = 63)) = true := nb_to (nb_of hb79)
              try rw [hb82]
              refine AL.guard_yes rfl rfl rfl (Does.move rfl rfl) ?_
              refine AL.guard_yes rfl rfl rfl (Does.fieldP (Evl.tmp rfl) fld_229_2 rfl rfl) ?_
              refine AL.guard_yes rfl rfl rfl (Does.loadP (Evl.tmp rfl) rfl tsh_3 rfl rfl) ?_
              refine AL.guard_yes rfl rfl rfl (Does.indexI (e := .u8) (Evl.tmp rfl) rfl (Evl.tmp rfl) und_156 tsh_5 rfl (by omega) (by first | omega | (simp only [List.length_set]; omega))) ?_
              refine AL.guard_yes rfl rfl rfl (Does.loadI (e := .u8) (Evl.tmp rfl) rfl hx78 rfl tsh_5 rfl rfl) ?_
              refine AL.guard_yes rfl rfl rfl (Does.move rfl rfl) ?_
              refine AL.guard_yes rfl rfl rfl (Does.neqU (Evl.tmp rfl) (Evl.tmp rfl) rfl) ?_
              refine AL.cons rfl (Does.pickT (Evl.tmp rfl) (Ev.tmp rfl) rfl) ?_
              refine AL.nil ?_
              refine (?_ : AC _ _ _ _ _)
              have hb83 : (!decide (ct = ct)) = false := nb_to (decide_eq_true rfl)
              try rw [hb83]
              refine AC.condF (Evl.tmp rfl) ?_
              refine AC.skip ?_
              refine (?_ : AC _ _ _ _ _)
              refine AC.seq ?_
              refine AC.region ?_
              refine AL.cons rfl (Does.move rfl rfl) ?_
              refine AL.cons rfl (Does.fieldP (Evl.tmp rfl) fld_229_0 rfl rfl) ?_
              refine AL.cons rfl (Does.loadP (Evl.tmp rfl) rfl tsh_3 rfl rfl) ?_
              refine AL.cons rfl (Does.move rfl rfl) ?_
              refine AL.cons rfl (Does.indexI (e := .u8) (Evl.tmp rfl) rfl (Evl.tmp rfl) und_156 tsh_5 rfl (by omega) (by first | omega | (simp only [List.length_set]; omega))) ?_
              refine AL.cons rfl (Does.storeI (e := .u8) (z' := ct) (Evl.tmp rfl) rfl hx61 rfl (Ev.tmp rfl) rfl tsh_5 rfl rfl) ?_
              refine AL.nil ?_
              refine (?_ : AC _ _ _ _ _)
              refine AC.seq ?_
              refine AC.region ?_
              refine AL.cons rfl (Does.move rfl rfl) ?_
              refine AL.cons rfl (Does.fieldP (Evl.tmp rfl) fld_229_2 rfl rfl) ?_
              refine AL.cons rfl (Does.loadP (Evl.tmp rfl) rfl tsh_3 rfl rfl) ?_
              refine AL.cons rfl (Does.move rfl rfl) ?_
              refine AL.cons rfl (Does.indexI (e := .u8) (Evl.tmp rfl) rfl (Evl.tmp rfl) und_156 tsh_5 rfl (by omega) (by first | omega | (simp only [List.length_set]; omega))) ?_
              obtain ⟨x84, hx85⟩ : ∃ z, (us2.set ((mv.1).toNat) ct)[(mv.2.2).toNat]? = some z := ⟨_, List.getElem?_eq_getElem (by first | omega | (simp only [List.length_set]; omega))⟩
              refine AL.cons rfl (Does.storeI (e := .u8) (z' := ct) (Evl.tmp rfl) rfl hx85 rfl (Ev.tmp rfl) rfl tsh_5 rfl rfl) ?_
              refine AL.nil ?_
              refine (?_ : AC _ _ _ _ _)
              refine AC.exit ?_
              refine (?_ : AC _ _ _ _ _)
              refine AC.region ?_
              refine AL.cons rfl (Does.add (Evl.tmp rfl) (Evl.int rfl) rfl (by omega)) ?_
              refine AL.cons rfl (Does.move rfl rfl) ?_
              refine AL.nil ?_
              exact loop_end (r.2.length - (i + 1)) ⟨[(2, lf (dI sig)), (3, lf (.ptr 0 0)), (4, lf (.ptr 1 0)), (8, lf (.ref 5)), (10, lf (dI (p : Int))), (30, lf (dI (p : Int))), (31, lf (.ptr 1 0)), (32, lf (.dat (.sl 9 .str) r.1)), (33, lf (dI (r.1.length : Int))), (34, lf (dB true)), (37, lf (.ptr 1 1)), (38, lf (.dat (.sl 229 (.pr .int (.pr .int .int))) r.2)), (39, lf (dI (r.2.length : Int))), (40, lf (dI ((i + 1) : Int)))], [(0, some (.box 50 [dI s.1.1, .dat (.sl 146 (.pr (.sl 3 .int) (.sl 3 .int))) s.1.2, .dat (.sl 129 (.pr .str .int)) s.2.1, .dat (.sl 131 (.pr .int .bool)) s.2.2.1, dS s.2.2.2])), (1, some (.box 188 [.dat (.sl 9 .str) r.1, .dat (.sl 229 (.pr .int (.pr .int .int))) r.2])), (5, some (.arr 5 .u8 ((us2.set ((mv.1).toNat) ct).set ((mv.2.2).toNat) ct)))]⟩ (by omega) (Wk.of [(0, 0), (1, 1), (5, 5)] rfl ⟨rfl, rfl, rfl, rfl, rfl, rfl, rfl, rfl, rfl, rfl, rfl, rfl, rfl, rfl, trivial⟩ ⟨rfl, rfl, (show some (Ent.arr 5 .u8 ((us2.set ((mv.1).toNat) ct).set ((mv.2.2).toNat) ct)) = some (Ent.arr 5 .u8 ((us2.set ((mv.1).toNat) ct).set ((mv.2.2).toNat) ct)) from congrArg (fun z => some (Ent.arr 5 .u8 z)) (by first | rfl | simp)), trivial⟩ rfl rfl) ⟨i + 1, ((us2.set ((mv.1).toNat) ct).set ((mv.2.2).toNat) ct), by omega, rfl, hA2.trans (congrArg (contS sig (arcsOf s.2.2.1 r.2) (r.1.length - p)) (passS_ok (arcs_get hx18 hla) (by first | exact stepS_un1 (cf := cf) (ct := ct) (by assumption) (by assumption) (by assumption) (by assumption) | exact stepS_un2 (cf := cf) (ct := ct) (by assumption) (by assumption) (by assumption) (by assumption) (by first | exact .inl (by assumption) | exact .inr (by assumption)) | exact stepS_lab (cf := cf) (ct := ct) (by assumption) (by assumption) (by assumption) (by first | exact .inl (by assumption) | exact .inr (by assumption)) (by first | exact .inl (by assumption) | exact .inr (by assumption)) (by assumption) (by assumption)))), (by simp only [List.length_set]; exact hL2), rfl⟩
  · have _h := hb6
    have hb6' : ((k : Int) < ((List.replicate r.1.length (Ty.zero .u8)).length : Int)) := of_decide_eq_true hb6
    refine AC.condT (Evl.tmp rfl) ?_
    refine AC.skip ?_
    refine (?_ : AC _ _ _ _ _)
    refine AC.seq ?_
    refine AC.block ?_
    refine AC.seq ?_
    refine AC.region ?_
    refine AL.cons rfl (Does.move rfl rfl) ?_
    refine AL.cons rfl (Does.assign rfl rfl) ?_
    refine AL.nil ?_
    refine (?_ : AC _ _ _ _ _)
    refine AC.region ?_
    refine AL.cons rfl (Does.move rfl rfl) ?_
    refine AL.cons rfl (Does.move rfl rfl) ?_
    refine AL.cons rfl (Does.indexI (e := .u8) (Evl.tmp rfl) rfl (Evl.tmp rfl) und_156 tsh_5 rfl (by omega) (by first | omega | (simp only [List.length_set]; omega))) ?_
    obtain ⟨x86, hx87⟩ : ∃ z, (fillQ r.1.length k)[k]? = some z := ⟨_, List.getElem?_eq_getElem (by omega)⟩
    refine AL.cons rfl (Does.storeI (e := .u8) (z' := 63) (Evl.tmp rfl) rfl hx87 rfl (Evl.ev (Evl.u8 63 rfl)) rfl tsh_5 rfl rfl) ?_
    refine AL.nil ?_
    refine (?_ : AC _ _ _ _ _)
    refine AC.region ?_
    refine AL.cons rfl (Does.add (Evl.tmp rfl) (Evl.int rfl) rfl (by omega)) ?_
    refine AL.cons rfl (Does.move rfl rfl) ?_
    refine AL.nil ?_
    exact loop_end (r.1.length - (k + 1)) ⟨[(2, lf (dI sig)), (3, lf (.ptr 0 0)), (4, lf (.ptr 1 0)), (6, lf (dS (⟨#[]⟩ : ByteArray))), (7, lf (dB false)), (8, lf (.ref 3)), (22, lf (dI ((List.replicate r.1.length (Ty.zero .u8)).length : Int))), (23, lf (dI ((k + 1) : Int)))], [(0, some (.box 50 [dI s.1.1, .dat (.sl 146 (.pr (.sl 3 .int) (.sl 3 .int))) s.1.2, .dat (.sl 129 (.pr .str .int)) s.2.1, .dat (.sl 131 (.pr .int .bool)) s.2.2.1, dS s.2.2.2])), (1, some (.box 188 [.dat (.sl 9 .str) r.1, .dat (.sl 229 (.pr .int (.pr .int .int))) r.2])), (3, some (.arr 5 .u8 (fillQ r.1.length (k + 1))))]⟩ (by omega) (Wk.of [(0, 0), (1, 1), (3, 3)] rfl ⟨rfl, rfl, rfl, rfl, rfl, rfl, rfl, rfl, trivial⟩ ⟨rfl, rfl, (show some (Ent.arr 5 .u8 ((fillQ r.1.length k).set k 63)) = some (Ent.arr 5 .u8 (fillQ r.1.length (k + 1))) from congrArg (fun z => some (Ent.arr 5 .u8 z)) (fillQ_set (by omega))), trivial⟩ rfl rfl) ⟨k + 1, by omega, rfl, rfl⟩

set_option maxRecDepth 100000 in
set_option maxHeartbeats 4000000 in
theorem fc_spec_l5Clash (s : (Int × (List (List Int × List Int))) × (List (ByteArray × Int)) × (List (Int × Bool)) × ByteArray) (r : List ByteArray × (List (Int × Int × Int))) (hm : ∀ m ∈ r.2, MvOk r.1.length s.2.2.1.length m) (hl1 : r.1.length ≤ 1000000) (hl2 : s.2.1.length ≤ 1000000) : FC Try.prog 184 [(true, [dI s.1.1, .dat (.sl 146 (.pr (.sl 3 .int) (.sl 3 .int))) s.1.2, .dat (.sl 129 (.pr .str .int)) s.2.1, .dat (.sl 131 (.pr .int .bool)) s.2.2.1, dS s.2.2.2]), (true, [.dat (.sl 9 .str) r.1, .dat (.sl 229 (.pr .int (.pr .int .int))) r.2])] [] 0 (Own1 3 .int (clash r.1.length (arcsOf s.2.2.1 r.2) s.2.1.length)) := by
  obtain ⟨O_, hO⟩ : ∃ x : PV → Tab → Prop, x = Own1 3 .int (clash r.1.length (arcsOf s.2.2.1 r.2) s.2.1.length) := ⟨_, rfl⟩
  refine FC.O_of hO (FC.ren (FC.of Try.func184 rfl rfl fun A_ hn_ hk_ => ?_))
  obtain ⟨w0_, N0_, X_, n_, k0_, h0_, f0_⟩ := A_
  obtain rfl : n_ = 30 := hn_.trans Try.ntmps184
  obtain rfl : k0_ = 0 := hk_
  refine AC.fact (fact_ag (x := .tmp 0) (i := 0) (Ev.tmp rfl) rfl) fun hi1 => ?_
  refine AC.seq ?_
  refine AC.region ?_
  refine AL.cons rfl (Does.box 0 (Ev.tmp rfl) rfl rfl (Fresh.of rfl) (Nat.le_of_ble_eq_true rfl)) ?_
  refine AL.cons rfl (Does.box 1 (Ev.tmp rfl) rfl rfl (Fresh.of rfl) (Nat.le_of_ble_eq_true rfl)) ?_
  refine AL.cons rfl (Does.assignC Evl.val rfl) ?_
  refine AL.nil ?_
  refine (?_ : AC _ _ _ _ _)
  refine AC.seq ?_
  refine AC.region ?_
  refine AL.cons rfl (Does.assignC Evl.val rfl) ?_
  refine AL.nil ?_
  refine (?_ : AC _ _ _ _ _)
  refine AC.seq ?_
  refine AC.seq ?_
  refine AC.region ?_
  refine AL.cons rfl (Does.fieldP (Evl.tmp rfl) fld_50_1 rfl rfl) ?_
  refine AL.cons rfl (Does.loadP (Evl.tmp rfl) rfl tsh_29 rfl rfl) ?_
  refine AL.fact (fact_len (x := .tmp 10) (Evl.tmp rfl)) fun hl2 => ?_
  refine AL.cons rfl (Does.len (Evl.tmp rfl) rfl und_29) ?_
  refine AL.cons rfl (Does.moveC (Evl.int rfl) rfl) ?_
  refine AL.nil ?_
  refine (?_ : AC _ _ _ _ _)
  refine AC.block ?_
  refine AC.wk (Wk.nilS 2 5 3 .int rfl (Fresh.of rfl) (Nat.le_of_ble_eq_true rfl)) ?_
  refine AC.wk (s' := ⟨[(2, lf (.ptr 0 0)), (3, lf (.ptr 1 0)), (4, lf (.val (.slice none 0 0))), (5, lf (.ref 3)), (11, lf (dI (s.2.1.length : Int))), (12, lf (dI (0 : Int)))], [(0, some (.box 50 [dI s.1.1, .dat (.sl 146 (.pr (.sl 3 .int) (.sl 3 .int))) s.1.2, .dat (.sl 129 (.pr .str .int)) s.2.1, .dat (.sl 131 (.pr .int .bool)) s.2.2.1, dS s.2.2.2])), (1, some (.box 188 [.dat (.sl 9 .str) r.1, .dat (.sl 229 (.pr .int (.pr .int .int))) r.2])), (3, some (.arr 3 .int (clash r.1.length (arcsOf s.2.2.1 r.2) 0)))]⟩) (Wk.of [(0, 0), (1, 1), (3, 2)] rfl ⟨rfl, rfl, rfl, rfl, rfl, rfl, trivial⟩ ⟨rfl, rfl, (show some (Ent.arr 3 .int ([])) = some (Ent.arr 3 .int (clash r.1.length (arcsOf s.2.2.1 r.2) 0)) from congrArg (fun z => some (Ent.arr 3 .int z)) (by first | rfl | simp)), trivial⟩ rfl rfl) ?_
  refine AC.loop (fun m_ s_ => ∃ (k : Nat), k ≤ s.2.1.length ∧ m_ = s.2.1.length - k ∧ s_ = ⟨[(2, lf (.ptr 0 0)), (3, lf (.ptr 1 0)), (4, lf (.val (.slice none 0 0))), (5, lf (.ref 3)), (11, lf (dI (s.2.1.length : Int))), (12, lf (dI (k : Int)))], [(0, some (.box 50 [dI s.1.1, .dat (.sl 146 (.pr (.sl 3 .int) (.sl 3 .int))) s.1.2, .dat (.sl 129 (.pr .str .int)) s.2.1, .dat (.sl 131 (.pr .int .bool)) s.2.2.1, dS s.2.2.2])), (1, some (.box 188 [.dat (.sl 9 .str) r.1, .dat (.sl 229 (.pr .int (.pr .int .int))) r.2])), (3, some (.arr 3 .int (clash r.1.length (arcsOf s.2.2.1 r.2) k)))]⟩) (m := s.2.1.length - 0) ⟨0, Nat.zero_le _, rfl, rfl⟩ ?_
  rintro m_ s_ ⟨k, hk3, hm4, rfl⟩
  have hcl := clash_len r.1.length (arcsOf s.2.2.1 r.2) k
  refine AC.seq ?_
  refine AC.region ?_
  refine AL.cons rfl (Does.lss (Evl.tmp rfl) (Evl.tmp rfl) rfl) ?_
  refine AL.nil ?_
  refine (?_ : AC _ _ _ _ _)
  refine AC.seq ?_
  cases hb5 : (decide ((k : Int) < (s.2.1.length : Int)))
  · have _h := hb5
    have hb5' : ¬ ((k : Int) < (s.2.1.length : Int)) := of_decide_eq_false hb5
    refine AC.condF (Evl.tmp rfl) ?_
    refine AC.exit ?_
    refine (?_ : AC _ _ _ _ _)
    refine AC.seq ?_
    refine AC.region ?_
    refine AL.cons rfl (Does.move rfl rfl) ?_
    refine AL.cons rfl (Does.assign rfl rfl) ?_
    refine AL.nil ?_
    refine (?_ : AC _ _ _ _ _)
    refine AC.ret ?_
    subst hO
    refine fin_own (e := .int) (xs := (clash r.1.length (arcsOf s.2.2.1 r.2) k)) (Res.one rfl (Rs.tmp rfl)) rfl ?_
    rw [show k = s.2.1.length by omega]
  · have _h := hb5
    have hb5' : ((k : Int) < (s.2.1.length : Int)) := of_decide_eq_true hb5
    refine AC.condT (Evl.tmp rfl) ?_
    refine AC.skip ?_
    refine (?_ : AC _ _ _ _ _)
    refine AC.seq ?_
    refine AC.block ?_
    refine AC.seq ?_
    refine AC.region ?_
    refine AL.cons rfl (Does.move rfl rfl) ?_
    refine AL.cons rfl (Does.assign rfl rfl) ?_
    refine AL.nil ?_
    refine (?_ : AC _ _ _ _ _)
    refine AC.seq ?_
    refine AC.region ?_
    refine AL.cons rfl (Does.loadPA (Evl.tmp rfl) rfl tsh_50 rfl rfl) ?_
    refine AL.cons rfl (Does.loadPA (Evl.tmp rfl) rfl tsh_188 rfl rfl) ?_
    refine AL.cons rfl (Does.move rfl rfl) ?_
    refine AL.cons rfl (Does.call (fc_spec_l5Values s r (k : Int) hm hl1) enters_185 ⟨_, _, rfl, (Ev.tmp rfl), ⟨_, _, rfl, (Ev.tmp rfl), ⟨_, _, rfl, (Ev.tmp rfl), rfl⟩⟩⟩ rfl rfl) ?_
    refine AL.cons rfl (Does.move rfl rfl) ?_
    refine AL.cons rfl (Does.extract rfl rfl rfl) ?_
    refine AL.cons rfl (Does.extract rfl rfl rfl) ?_
    refine AL.cons rfl (Does.assign rfl rfl) ?_
    refine AL.cons rfl (Does.assign rfl rfl) ?_
    refine AL.nil ?_
    refine (?_ : AC _ _ _ _ _)
    refine AC.seq ?_
    refine AC.region ?_
    refine AL.cons rfl (Does.move rfl rfl) ?_
    refine AL.cons rfl (Does.not (Evl.tmp rfl) rfl) ?_
    refine AL.nil ?_
    refine (?_ : AC _ _ _ _ _)
    cases hb6 : ((l5V r.1.length (arcsOf s.2.2.1 r.2) (k : Int)).2)
    · have _h := hb6
      refine AC.condT (Evl.tmp rfl) ?_
      refine AC.region ?_
      refine AL.cons rfl (Does.move rfl rfl) ?_
      refine AL.cons rfl (Does.move rfl rfl) ?_
      refine AL.cons rfl (Does.buildSlice 4 (e := .int) und_72 tsh_3 zer_3 rfl ⟨_, _, rfl, (Ev.tmp rfl), rfl⟩ (List.all_eq_true.1 rfl) ⟨_, _, _, _, rfl, ⟨rfl, rfl⟩, ⟨rfl, rfl⟩, rfl⟩ (by decide) rfl rfl (Fresh.of rfl) (Nat.le_of_ble_eq_true rfl)) ?_
      refine AL.cons rfl (Does.append 5 (Evl.tmp rfl) rfl (Evl.tmp rfl) rfl rfl und_72 elb_3 (by first | omega | (simp only [List.length_append, List.length_map, List.length_take, List.length_cons, List.length_nil]; omega)) rfl (Fresh.of rfl) (Nat.le_of_ble_eq_true rfl)) ?_
      refine AL.cons rfl (Does.assign rfl rfl) ?_
      refine AL.nil ?_
      refine (?_ : AC _ _ _ _ _)
      refine AC.region ?_
      refine AL.cons rfl (Does.add (Evl.tmp rfl) (Evl.int rfl) rfl (by omega)) ?_
      refine AL.cons rfl (Does.move rfl rfl) ?_
      refine AL.nil ?_
      exact loop_end (s.2.1.length - (k + 1)) ⟨[(2, lf (.ptr 0 0)), (3, lf (.ptr 1 0)), (4, lf (.val (.slice none 0 0))), (5, lf (.ref 3)), (11, lf (dI (s.2.1.length : Int))), (12, lf (dI ((k + 1) : Int)))], [(0, some (.box 50 [dI s.1.1, .dat (.sl 146 (.pr (.sl 3 .int) (.sl 3 .int))) s.1.2, .dat (.sl 129 (.pr .str .int)) s.2.1, .dat (.sl 131 (.pr .int .bool)) s.2.2.1, dS s.2.2.2])), (1, some (.box 188 [.dat (.sl 9 .str) r.1, .dat (.sl 229 (.pr .int (.pr .int .int))) r.2])), (3, some (.arr 3 .int (clash r.1.length (arcsOf s.2.2.1 r.2) (k + 1))))]⟩ (by omega) (Wk.of [(0, 0), (1, 1), (3, 5)] rfl ⟨rfl, rfl, rfl, rfl, rfl, rfl, trivial⟩ ⟨rfl, rfl, (show some (Ent.arr 3 .int ((clash r.1.length (arcsOf s.2.2.1 r.2) k) ++ ([(k : Int)]))) = some (Ent.arr 3 .int (clash r.1.length (arcsOf s.2.2.1 r.2) (k + 1))) from congrArg (fun z => some (Ent.arr 3 .int z)) (by first | exact clash_yes (by assumption) | exact clash_no (by assumption))), trivial⟩ rfl rfl) ⟨k + 1, by omega, rfl, rfl⟩
    · have _h := hb6
      refine AC.condF (Evl.tmp rfl) ?_
      refine AC.skip ?_
      refine (?_ : AC _ _ _ _ _)
      refine AC.region ?_
      refine AL.cons rfl (Does.add (Evl.tmp rfl) (Evl.int rfl) rfl (by omega)) ?_
      refine AL.cons rfl (Does.move rfl rfl) ?_
      refine AL.nil ?_
      exact loop_end (s.2.1.length - (k + 1)) ⟨[(2, lf (.ptr 0 0)), (3, lf (.ptr 1 0)), (4, lf (.val (.slice none 0 0))), (5, lf (.ref 3)), (11, lf (dI (s.2.1.length : Int))), (12, lf (dI ((k + 1) : Int)))], [(0, some (.box 50 [dI s.1.1, .dat (.sl 146 (.pr (.sl 3 .int) (.sl 3 .int))) s.1.2, .dat (.sl 129 (.pr .str .int)) s.2.1, .dat (.sl 131 (.pr .int .bool)) s.2.2.1, dS s.2.2.2])), (1, some (.box 188 [.dat (.sl 9 .str) r.1, .dat (.sl 229 (.pr .int (.pr .int .int))) r.2])), (3, some (.arr 3 .int (clash r.1.length (arcsOf s.2.2.1 r.2) (k + 1))))]⟩ (by omega) (Wk.of [(0, 0), (1, 1), (3, 3)] rfl ⟨rfl, rfl, rfl, rfl, rfl, rfl, trivial⟩ ⟨rfl, rfl, (show some (Ent.arr 3 .int (clash r.1.length (arcsOf s.2.2.1 r.2) k)) = some (Ent.arr 3 .int (clash r.1.length (arcsOf s.2.2.1 r.2) (k + 1))) from congrArg (fun z => some (Ent.arr 3 .int z)) (by first | exact clash_yes (by assumption) | exact clash_no (by assumption))), trivial⟩ rfl rfl) ⟨k + 1, by omega, rfl, rfl⟩

end Go.Proofs.Ytbelopdphlllnaa
