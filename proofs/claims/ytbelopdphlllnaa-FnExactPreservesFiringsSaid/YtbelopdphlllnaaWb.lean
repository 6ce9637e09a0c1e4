/- Walks over abstract states: orderings added to a graph. -/
import Derived.Test.YtbelopdphlllnaaWa
import Derived.Test.YtbelopdphlllnaaStg
import Derived.Test.YtbelopdphlllnaaAj
namespace Go.Proofs.Ytbelopdphlllnaa
open Go.RowKit

theorem len5 {us : List Value} (h : us.length = 5) : ∃ a0 a1 a2 a3 a4, us = [a0, a1, a2, a3, a4] := by
  match us, h with
  | [a0, a1, a2, a3, a4], _ => exact ⟨_, _, _, _, _, rfl⟩
theorem retB_dec {p : Prop} [Decidable p] {w : World} {e : Ending} {w' : World} (h : RetB p w e w') : RetB (decide p = true) w e w' := by
  obtain ⟨b, h1, h2, h3⟩ := h
  exact ⟨b, h1, by rw [h2, decide_eq_true_eq], h3⟩
theorem fc_impl_IsValidSTG (s : DSTG) [Decidable (StgOk s)] : FC Try.prog 57 [(true, leaves tSTG s)] [] 0 (Pure (lf (dB (decide (StgOk s))))) := FC.ofB fun gh w vs h => by
  obtain ⟨us, rfl, hr⟩ := h.agg1
  obtain ⟨a0, a1, a2, a3, a4, rfl⟩ := len5 hr.len
  exact (IsValidSTG_any a0 a1 a2 a3 a4 s w hr).mono fun _ _ h => retB_dec h
theorem fc_spec_l2Good (s : DSTG) [Decidable (StgOk s)] : FC Try.prog 69 [(true, leaves tSTG s)] [] 0 (Pure (lf (dB (decide (StgOk s))))) := FC.ofB fun gh w vs h => by
  obtain ⟨us, rfl, hr⟩ := h.agg1
  obtain ⟨a0, a1, a2, a3, a4, rfl⟩ := len5 hr.len
  exact (l2Good_any a0 a1 a2 a3 a4 s w hr).mono fun _ _ h => retB_dec h
/-- An ordering put in. -/
def addT (ts : List DTransition) (a b : Nat) (p : Int) : List DTransition := (ts.modify a fun t => (t.1, t.2 ++ [p])).modify b fun t => (t.1 ++ [p], t.2)
def bitS (b : Bool) : ByteArray := ⟨#[if b then 49 else 48]⟩
def addOrd (s : DSTG) (o : DOrdering) : DSTG := ((s.1.1 + 1, addT s.1.2 o.1.toNat o.2.1.toNat s.1.1), s.2.1, s.2.2.1, s.2.2.2 ++ bitS o.2.2)
theorem bsize1 (b : UInt8) : (⟨#[b]⟩ : ByteArray).size = 1 := rfl
set_option maxRecDepth 100000 in
set_option maxHeartbeats 4000000 in
theorem fc_impl_bit (b : Bool)  : FC Try.prog 113 [(false, [dB b])] [] 0 (Pure (lf (.dat .u8 (if b then 49 else 48)))) := by
  obtain ⟨O_, hO⟩ : ∃ x : PV → Tab → Prop, x = Pure (lf (.dat .u8 (if b then 49 else 48))) := ⟨_, rfl⟩
  refine FC.O_of hO (FC.ren (FC.of Try.func113 rfl rfl fun A_ hn_ hk_ => ?_))
  obtain ⟨w0_, N0_, X_, n_, k0_, h0_, f0_⟩ := A_
  obtain rfl : n_ = 4 := hn_.trans Try.ntmps113
  obtain rfl : k0_ = 0 := hk_
  refine AC.seq ?_
  refine AC.region ?_
  refine AL.cons rfl (Does.assignC (Evl.u8 0 rfl) rfl) ?_
  refine AL.nil ?_
  refine (?_ : AC _ _ _ _ _)
  refine AC.seq ?_
  refine AC.seq ?_
  refine AC.region ?_
  refine AL.cons rfl (Does.move rfl rfl) ?_
  refine AL.nil ?_
  refine (?_ : AC _ _ _ _ _)
  cases hb1 : (b)
  · have _h := hb1
    refine AC.condF (Evl.tmp rfl) ?_
    refine AC.skip ?_
    refine (?_ : AC _ _ _ _ _)
    refine AC.seq ?_
    refine AC.region ?_
    refine AL.cons rfl (Does.assignC (Evl.u8 48 rfl) rfl) ?_
    refine AL.nil ?_
    refine (?_ : AC _ _ _ _ _)
    refine AC.ret ?_
    subst hO
    have e2 : (48 : UInt8) = if b then 49 else 48 := by
      simp_all
    exact fin_pure (Res.one rfl (Rs.tmp rfl)) ((congrArg (fun z_ => lf (.dat .u8 z_)) e2)) rfl
  · have _h := hb1
    refine AC.condT (Evl.tmp rfl) ?_
    refine AC.seq ?_
    refine AC.region ?_
    refine AL.cons rfl (Does.assignC (Evl.u8 49 rfl) rfl) ?_
    refine AL.nil ?_
    refine (?_ : AC _ _ _ _ _)
    refine AC.ret ?_
    subst hO
    have e3 : (49 : UInt8) = if b then 49 else 48 := by
      simp_all
    exact fin_pure (Res.one rfl (Rs.tmp rfl)) ((congrArg (fun z_ => lf (.dat .u8 z_)) e3)) rfl

def zeroSTG : DSTG := ((0, []), [], [], ByteArray.empty)

/-- A graph if it is one. -/
def stgIfV (s : DSTG) [Decidable (StgOk s)] : DSTG × Bool := if StgOk s then (s, true) else (zeroSTG, false)
end Go.Proofs.Ytbelopdphlllnaa
