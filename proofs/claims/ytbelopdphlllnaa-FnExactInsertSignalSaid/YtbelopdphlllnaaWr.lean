/- Walks over abstract states: marks in signals, nets and graphs. -/
import Derived.Test.YtbelopdphlllnaaWf
import Derived.Test.YtbelopdphlllnaaPin
import Derived.Test.YtbelopdphlllnaaAl
set_option linter.unusedSimpArgs false
set_option linter.unusedVariables false
namespace Go.Proofs.Ytbelopdphlllnaa
open Go.RowKit

@[reducible] def fS : ByteArray × Int → Int → (ByteArray × Int) × Int := fun _ k => ((markT k, k + 1), k + 2)
theorem fS_c : ∀ (x : ByteArray × Int) (k : Int), (fS x k).2 = k + ((fun _ => 2 : ByteArray × Int → Nat) x : Nat) := fun _ _ => rfl
theorem mkS_le (a : List (ByteArray × Int)) (k : Int) (i : Nat) : k ≤ mkC fS a k i ∧ mkC fS a k i ≤ k + 2 * a.length := by
  have := mkC_le _ fS_c a k i
  rw [sum_two] at this
  omega
theorem mkS_succ {l : List (ByteArray × Int)} {k : Int} {i : Nat} (h : i < l.length) : mkC fS l k i + 1 + 1 = mkC fS l k (i + 1) := by rw [mkC_succ (List.getElem?_eq_getElem h)]; simp only [fS]; omega

set_option maxRecDepth 100000 in
set_option maxHeartbeats 4000000 in
theorem fc_laws_markSignalS (a : List (ByteArray × Int)) (k : Int) (hk : 0 ≤ k ∧ k + 2 * a.length ≤ 1000000000) : FC Try.prog 64 [(false, [.ref 0]), (false, [dI k])] [(0, some (.arr 129 (.pr .str .int) a))] 1 (Is (lf (dI ((marks fS a k).2))) [(0, some (.arr 129 (.pr .str .int) ((marks fS a k).1)))]) := by
 refine FC.O_all fun O_ hO => FC.ren (FC.of Try.func64 rfl rfl fun A_ hn_ hk_ => ?_)
 obtain ⟨w0_, N0_, X_, n_, k0_, h0_, f0_⟩ := A_
 obtain rfl : n_ = 28 := hn_.trans Try.ntmps64
 obtain rfl : k0_ = 1 := hk_
 refine AC.fact (fact_int (x := .tmp 1) (Evl.tmp rfl)) fun hi1 => ?_
 refine AC.sr ?_
 refine AL.cons rfl (Does.assignC (Evl.int rfl) rfl) ?_
 refine AL.nilS ?_
 refine AC.seq ?_
 refine AC.sr ?_
 refine AL.cons rfl (Does.assignC (Evl.int rfl) rfl) ?_
 refine AL.nilS ?_
 refine AC.block ?_
 refine AC.loopW (fun m_ s_ => ∃ (i : Nat), i ≤ a.length ∧ m_ = a.length - i ∧ s_ = ⟨[(0, lf (.ref 0)), (1, lf (dI (mkC fS a k i))), (4, lf (dI 0)), (5, lf (dI (i : Int)))], [(0, some (.arr 129 (.pr .str .int) (mkA fS a k i)))]⟩) ⟨0, Nat.zero_le _, rfl, rfl⟩ ?_ ?_
 · exact Wk.of [(0, 0)] rfl ⟨rfl, (show some (lf (dI k)) = some (lf (dI (mkC fS a k 0))) from congrArg (fun z_ => some (lf (dI z_))) (by rw [mkC_0])), rfl, rfl, trivial⟩ ⟨(entE (mkA_0 fS a k)), trivial⟩ rfl rfl
 rintro m_ s_ ⟨i, hk3, hm4, rfl⟩
 have hml := mkA_len fS a k i
 have hmc := mkS_le a k i
 refine AC.seq ?_
 refine AC.sr ?_
 refine AL.cons rfl (Does.move rfl rfl) ?_
 refine AL.cons rfl (Does.move rfl rfl) ?_
 refine AL.cons rfl (Does.lenO (Evl.tmp rfl) rfl rfl und_29) ?_
 refine AL.cons rfl (Does.lss (Evl.tmp rfl) (Evl.tmp rfl) rfl) ?_
 refine AL.nilS ?_
 cases hb5 : (decide ((i : Int) < ((mkA fS a k i).length : Int)))
 ·have _h := hb5
  have hb5' : ¬ ((i : Int) < ((mkA fS a k i).length : Int)) := of_decide_eq_false hb5
  refine AC.condF (Evl.tmp rfl) ?_
  refine AC.exit ?_
  refine (?_ : AC _ _ _ _ _)
  refine AC.sr ?_
  refine AL.cons rfl (Does.move rfl rfl) ?_
  refine AL.cons rfl (Does.assign rfl rfl) ?_
  refine AL.nilS ?_
  refine AC.ret ?_
  subst hO
  have e6 : (mkC fS a k i : Int) = ((marks fS a k).2) := by
   (rw [mkC_end _ (by omega)]; done)
  exact fin_is _ _ [(0, 0)] (Res.one rfl (Rs.tmp rfl)) ((congrArg (fun z_ => lf (dI z_)) e6)) ⟨(entE (by (rw [mkA_end _ (by omega)]; done))), trivial⟩ rfl rfl
 ·have _h := hb5
  have hb5' : ((i : Int) < ((mkA fS a k i).length : Int)) := of_decide_eq_true hb5
  refine AC.condT (Evl.tmp rfl) ?_
  refine AC.skipS ?_
  refine AC.seq ?_
  refine AC.block ?_
  refine AC.sr ?_
  refine AL.cons rfl (Does.move rfl rfl) ?_
  refine AL.cons rfl (Does.move rfl rfl) ?_
  refine AL.cons rfl (Does.move rfl rfl) ?_
  refine AL.cons rfl (Does.call (fc_laws_markText (mkC fS a k i)) enters_117 ⟨_, _, rfl, (Ev.tmp rfl), rfl⟩ rfl rfl) ?_
  refine AL.cons rfl (Does.indexI (e := (.pr .str .int)) (Evl.tmp rfl) rfl (Evl.tmp rfl) und_29 tsh_129 rfl (by omega) (by first | omega | (simp only [List.length_set]; omega))) ?_
  refine AL.cons rfl (Does.fieldI (Evl.tmp rfl) fld_129_0 rfl rfl) ?_
  obtain ⟨x7, hx8⟩ : ∃ z, (mkA fS a k i)[i]? = some z := ⟨_, List.getElem?_eq_getElem (by omega)⟩
  refine AL.cons rfl (Does.storeI (e := (.pr .str .int)) (z' := (markT (mkC fS a k i), x7.2)) (Evl.tmp rfl) rfl hx8 rfl (Ev.tmp rfl) rfl tsh_9 rfl rfl) ?_
  refine AL.nilS ?_
  refine AC.sr ?_
  refine AL.cons rfl (Does.move rfl rfl) ?_
  refine AL.cons rfl (Does.add (Evl.tmp rfl) (Evl.int rfl) rfl (by omega)) ?_
  refine AL.cons rfl (Does.assign rfl rfl) ?_
  refine AL.nilS ?_
  refine AC.sr ?_
  refine AL.cons rfl (Does.move rfl rfl) ?_
  refine AL.cons rfl (Does.move rfl rfl) ?_
  refine AL.cons rfl (Does.move rfl rfl) ?_
  refine AL.cons rfl (Does.indexI (e := (.pr .str .int)) (Evl.tmp rfl) rfl (Evl.tmp rfl) und_29 tsh_129 rfl (by omega) (by first | omega | (simp only [List.length_set]; omega))) ?_
  refine AL.cons rfl (Does.fieldI (Evl.tmp rfl) fld_129_1 rfl rfl) ?_
  refine AL.cons rfl (Does.storeI (e := (.pr .str .int)) (z' := ((markT (mkC fS a k i), x7.2).1, (mkC fS a k i) + 1)) (Evl.tmp rfl) rfl (List.getElem?_set_self (by first | omega | (simp only [List.length_set]; omega))) rfl (Ev.tmp rfl) rfl tsh_3 rfl rfl) ?_
  refine AL.nilS ?_
  refine AC.region ?_
  refine AL.cons rfl (Does.move rfl rfl) ?_
  refine AL.cons rfl (Does.add (Evl.tmp rfl) (Evl.int rfl) rfl (by omega)) ?_
  refine AL.cons rfl (Does.assign rfl rfl) ?_
  refine AL.nil ?_
  refine (?_ : AC _ _ _ _ _)
  refine AC.region ?_
  refine AL.cons rfl (Does.move rfl rfl) ?_
  refine AL.cons rfl (Does.add (Evl.tmp rfl) (Evl.int rfl) rfl (by omega)) ?_
  refine AL.cons rfl (Does.assign rfl rfl) ?_
  refine AL.nil ?_
  refine lend ⟨i + 1, by omega, rfl, rfl⟩ (by omega) ?_
  exact Wk.of [(0, 0)] rfl ⟨rfl, (show some (lf (dI (((mkC fS a k i) + 1) + 1))) = some (lf (dI (mkC fS a k (i + 1)))) from congrArg (fun z_ => some (lf (dI z_))) (mkS_succ (by omega))), rfl, rfl, trivial⟩ ⟨(entE (by rw [List.set_set]; exact mkA_set (f := fS) (mkA_back hx8))), trivial⟩ rfl rfl

set_option maxRecDepth 100000 in
set_option maxHeartbeats 4000000 in
theorem fc_laws_heldSignalS (a : List (ByteArray × Int)) (k : Int) (l : List (ByteArray × Int)) (hm : a = (marks fS l k).1) (hk : 0 ≤ k ∧ k + 2 * a.length ≤ 1000000000) : FC Try.prog 67 [(false, [.dat (.sl 129 (.pr .str .int)) a]), (false, [dI k])] [] 0 (Pure (lf (dI ((marks fS l k).2)))) := by
 have hla : a.length = l.length := by rw [hm, marks_len]
 refine FC.O_all fun O_ hO => FC.ren (FC.of Try.func67 rfl rfl fun A_ hn_ hk_ => ?_)
 obtain ⟨w0_, N0_, X_, n_, k0_, h0_, f0_⟩ := A_
 obtain rfl : n_ = 32 := hn_.trans Try.ntmps67
 obtain rfl : k0_ = 0 := hk_
 refine AC.fact (fact_int (x := .tmp 1) (Evl.tmp rfl)) fun hi1 => ?_
 refine AC.sr ?_
 refine AL.cons rfl (Does.assignC (Evl.int rfl) rfl) ?_
 refine AL.nilS ?_
 refine AC.seq ?_
 refine AC.sr ?_
 refine AL.cons rfl (Does.assignC (Evl.int rfl) rfl) ?_
 refine AL.nilS ?_
 refine AC.block ?_
 refine AC.loopW (fun m_ s_ => ∃ (i : Nat), i ≤ a.length ∧ m_ = a.length - i ∧ s_ = ⟨[(0, lf (.dat (.sl 129 (.pr .str .int)) a)), (1, lf (dI (mkC fS l k i))), (5, lf (dI (i : Int)))], []⟩) ⟨0, Nat.zero_le _, rfl, rfl⟩ ?_ ?_
 · exact Wk.of [] rfl ⟨rfl, (show some (lf (dI k)) = some (lf (dI (mkC fS l k 0))) from congrArg (fun z_ => some (lf (dI z_))) (by rw [mkC_0])), rfl, trivial⟩ trivial rfl rfl
 rintro m_ s_ ⟨i, hk3, hm4, rfl⟩
 have hmc := mkS_le l k i
 refine AC.seq ?_
 refine AC.sr ?_
 refine AL.cons rfl (Does.move rfl rfl) ?_
 refine AL.cons rfl (Does.move rfl rfl) ?_
 refine AL.fact (fact_len (x := .tmp 7) (Evl.tmp rfl)) fun hl5 => ?_
 refine AL.cons rfl (Does.len (Evl.tmp rfl) rfl und_29) ?_
 refine AL.cons rfl (Does.lss (Evl.tmp rfl) (Evl.tmp rfl) rfl) ?_
 refine AL.nilS ?_
 cases hb6 : (decide ((i : Int) < (a.length : Int)))
 ·have _h := hb6
  have hb6' : ¬ ((i : Int) < (a.length : Int)) := of_decide_eq_false hb6
  refine AC.condF (Evl.tmp rfl) ?_
  refine AC.exit ?_
  refine (?_ : AC _ _ _ _ _)
  refine AC.sr ?_
  refine AL.cons rfl (Does.move rfl rfl) ?_
  refine AL.cons rfl (Does.assign rfl rfl) ?_
  refine AL.nilS ?_
  refine AC.ret ?_
  subst hO
  have e7 : (mkC fS l k i : Int) = ((marks fS l k).2) := by
   (rw [mkC_end _ (by omega)]; done)
  exact fin_pure (Res.one rfl (Rs.tmp rfl)) ((congrArg (fun z_ => lf (dI z_)) e7)) rfl
 ·have _h := hb6
  have hb6' : ((i : Int) < (a.length : Int)) := of_decide_eq_true hb6
  refine AC.condT (Evl.tmp rfl) ?_
  refine AC.skipS ?_
  refine AC.seq ?_
  refine AC.block ?_
  refine AC.seq ?_
  refine AC.seq ?_
  obtain ⟨x8, hx9⟩ : ∃ z, a[i]? = some z := ⟨_, List.getElem?_eq_getElem (by omega)⟩
  have hvx8 : x8.1 = markT (mkC fS l k i) := by obtain ⟨_, _, h⟩ := held_at hm hx9; rw [h]
  have hwx8 : x8.2 = mkC fS l k i + 1 := by obtain ⟨_, _, h⟩ := held_at hm hx9; rw [h]
  refine AC.drawL [⟨some 12, lf (.dat (.sl 129 (.pr .str .int)) a), []⟩, ⟨some 13, lf (dI (i : Int)), []⟩, ⟨some 14, lf (.elt (.pr .str .int) x8 0), []⟩, ⟨some 15, lf (.elt (.pr .str .int) x8 0), []⟩, ⟨some 16, lf (dS x8.1), []⟩, ⟨some 17, lf (dI (mkC fS l k i)), []⟩, ⟨some 18, lf (dS (markT (mkC fS l k i))), []⟩, ⟨some 19, lf (dB (!decide (x8.1 = (markT (mkC fS l k i))))), []⟩] [[], [], [0, 1], [0, 1, 2], [0, 1, 2, 3], [], [5], [0, 1, 2, 3, 4, 5, 6]] mixed rfl (by kernel_rfl) ?_ ?_
  · refine ⟨fun s_ hs => Acts.of1 rfl (Does.move (hs.tm 0 rfl) rfl) rfl, fun s_ hs => Acts.of1 rfl (Does.move (hs.tm 5 rfl) rfl) rfl, fun s_ hs => Acts.of1 rfl (Does.indexE (Evl.tmp (hs.tm 12 rfl)) (Evl.tmp (hs.tm 13 rfl)) und_29 tsh_129 rfl (by omega) hx9) rfl, fun s_ hs => Acts.of1 rfl (Does.fieldE (Evl.tmp (hs.tm 14 rfl)) fld_129_0 rfl) rfl, fun s_ hs => Acts.of1 rfl (Does.loadE (Evl.tmp (hs.tm 15 rfl)) tsh_9 rfl rfl) rfl, fun s_ hs => Acts.of1 rfl (Does.move (hs.tm 1 rfl) rfl) rfl, fun s_ hs => Acts.of1 rfl (Does.call (fc_laws_markText (mkC fS l k i)) enters_117 ⟨_, _, rfl, (Ev.tmp (hs.tm 17 rfl)), rfl⟩ rfl rfl) rfl, fun s_ hs => Acts.of1 rfl (Does.neqS (Evl.tmp (hs.tm 16 rfl)) (Evl.tmp (hs.tm 18 rfl)) rfl) rfl, trivial⟩
  refine (?_ : AC _ _ _ _ _)
  refine AC.wk (s' := _) (Wk.refl _ _) ?_
  cases hb10 : (!decide (x8.1 = (markT (mkC fS l k i))))
  ·have _h := hb10
   have hb10' : (x8.1 = (markT (mkC fS l k i))) := nd_false hb10
   refine AC.condF (Evl.tmp rfl) ?_
   refine AC.skipS ?_
   refine AC.sr ?_
   refine AL.cons rfl (Does.move rfl rfl) ?_
   refine AL.cons rfl (Does.add (Evl.tmp rfl) (Evl.int rfl) rfl (by omega)) ?_
   refine AL.cons rfl (Does.assign rfl rfl) ?_
   refine AL.nilS ?_
   refine AC.seq ?_
   refine AC.sr ?_
   refine AL.cons rfl (Does.move rfl rfl) ?_
   refine AL.cons rfl (Does.move rfl rfl) ?_
   refine AL.cons rfl (Does.indexE (Evl.tmp rfl) (Evl.tmp rfl) und_29 tsh_129 rfl (by omega) hx9) ?_
   refine AL.cons rfl (Does.fieldE (Evl.tmp rfl) fld_129_1 rfl) ?_
   refine AL.cons rfl (Does.loadE (Evl.tmp rfl) tsh_3 rfl rfl) ?_
   refine AL.fact (fact_int (x := .tmp 26) (Evl.tmp rfl)) fun hi11 => ?_
   refine AL.cons rfl (Does.move rfl rfl) ?_
   refine AL.cons rfl (Does.neq (Evl.tmp rfl) (Evl.tmp rfl) rfl) ?_
   refine AL.nilS ?_
   cases hb12 : (!decide (x8.2 = ((mkC fS l k i) + 1)))
   ·have _h := hb12
    have hb12' : (x8.2 = ((mkC fS l k i) + 1)) := nd_false hb12
    refine AC.condF (Evl.tmp rfl) ?_
    refine AC.skipS ?_
    refine AC.region ?_
    refine AL.cons rfl (Does.move rfl rfl) ?_
    refine AL.cons rfl (Does.add (Evl.tmp rfl) (Evl.int rfl) rfl (by omega)) ?_
    refine AL.cons rfl (Does.assign rfl rfl) ?_
    refine AL.nil ?_
    refine (?_ : AC _ _ _ _ _)
    refine AC.region ?_
    refine AL.cons rfl (Does.move rfl rfl) ?_
    refine AL.cons rfl (Does.add (Evl.tmp rfl) (Evl.int rfl) rfl (by omega)) ?_
    refine AL.cons rfl (Does.assign rfl rfl) ?_
    refine AL.nil ?_
    refine lend ⟨i + 1, by omega, rfl, rfl⟩ (by omega) ?_
    exact Wk.of [] rfl ⟨rfl, (show some (lf (dI (((mkC fS l k i) + 1) + 1))) = some (lf (dI (mkC fS l k (i + 1)))) from congrArg (fun z_ => some (lf (dI z_))) (mkS_succ (by omega))), rfl, trivial⟩ trivial rfl rfl
   ·have _h := hb12
    have hb12' : ¬ (x8.2 = ((mkC fS l k i) + 1)) := nd_true hb12
    refine AC.condT (Evl.tmp rfl) ?_
    refine AC.sr ?_
    refine AL.cons rfl (Does.assignC (Evl.int rfl) rfl) ?_
    refine AL.nilS ?_
    refine AC.ret ?_
    subst hO
    have e14 : ((-1) : Int) = ((marks fS l k).2) := by
     (exfalso; omega)
    exact fin_pure (Res.one rfl (Rs.tmp rfl)) ((congrArg (fun z_ => lf (dI z_)) e14)) rfl
  ·have _h := hb10
   have hb10' : ¬ (x8.1 = (markT (mkC fS l k i))) := nd_true hb10
   refine AC.condT (Evl.tmp rfl) ?_
   refine AC.sr ?_
   refine AL.cons rfl (Does.assignC (Evl.int rfl) rfl) ?_
   refine AL.nilS ?_
   refine AC.ret ?_
   subst hO
   have e15 : ((-1) : Int) = ((marks fS l k).2) := by
    (exfalso; simp_all; done)
   exact fin_pure (Res.one rfl (Rs.tmp rfl)) ((congrArg (fun z_ => lf (dI z_)) e15)) rfl

theorem mS_sum (l : List (ByteArray × Int)) (k : Int) : (marks fS l k).2 = k + 2 * l.length := by rw [mkC_sum _ fS_c, sum_two]; omega
/-- A graph with marks in all that it holds, and the count behind. -/
def mSTG (s : DSTG) (k : Int) : DSTG × Int := (((s.1.1, (marks fT s.1.2 k).1), (marks fS s.2.1 (marks fT s.1.2 k).2).1, (marks fL s.2.2.1 (marks fS s.2.1 (marks fT s.1.2 k).2).2).1, s.2.2.2), (marks fL s.2.2.1 (marks fS s.2.1 (marks fT s.1.2 k).2).2).2)

end Go.Proofs.Ytbelopdphlllnaa

/- Abstract states: contracts in the elder form (measures, copies, equal data) as contracts over states; from a contract to what the statement asks. No function is named here. -/
namespace Go.Proofs.Ytbelopdphlllnaa
open Go.RowKit

def szv (left : Int) (t : Nat) : Int := if left < t then -1 else left - t
theorem szv_spec (left : Int) (t : Nat) : (left < t ∧ szv left t = -1) ∨ ((t : Int) ≤ left ∧ szv left t = left - t) := by
  unfold szv
  split
  · exact .inl ⟨by assumption, rfl⟩
  · exact .inr ⟨by omega, rfl⟩
theorem SzPost.szv {w w' : World} {l : Int} {t : Nat} {e : Ending} (h : SzPost w l t e w') : e = .returned (.int .i64 (szv l t)) ∧ Nw w w' := by
  obtain ⟨l', rfl, h1, h2⟩ := h
  have h3 := szv_spec l t
  unfold CutTo at h1
  have : l' = Go.Proofs.Ytbelopdphlllnaa.szv l t := by omega
  exact ⟨by rw [this], h2⟩
theorem FC.ofP {P : Program} {f : FuncId} {args : List (Bool × List LV)} {pv : PV} (h : ∀ (gh : Gh) (w : World) (vs : List Value), CmsR (Tab.al []) gh w args vs → Calls P f vs.toArray w fun e w' => ∃ v, e = .returned v ∧ Nw w w' ∧ PVR (Tab.al []) gh w' pv v) : FC P f args [] 0 (Pure pv) := fun gh w vs cx ha =>
  Calls.mono (h gh w vs ha) fun e w' he => by
    obtain ⟨v, rfl, h2, h3⟩ := he
    exact ⟨_, _, [], gh, rfl, ⟨rfl, rfl⟩, tombless al_nil gh w' fun g hg => Nat.lt_of_lt_of_le (cx.nl g hg) h2.size, h3, ⟨h2.grw, fun g hg _ => Below.block h2 g hg, fun g hg => .inl hg, fun q hq => absurd hq (al_nil q)⟩, fun q hq => absurd hq (by omega)⟩
section
variable {al : Nat → Prop} {gh : Gh} {w : World} {t : Ty} {x : t.Den} {cs : List (Bool × List LV)} {vs : List Value}
theorem CmsR.agg_cons (h : CmsR al gh w ((true, leaves t x) :: cs) vs) : ∃ us vs', vs = .agg us.toArray :: vs' ∧ Rep t w us x ∧ CmsR al gh w cs vs' := by
  obtain ⟨v, vs', rfl, ⟨us, rfl, h1⟩, h2⟩ := h
  exact ⟨us, vs', rfl, (LVs.rd h1).rep, h2⟩
theorem CmsR.leaf_cons (h : CmsR al gh w ((false, [.dat t x]) :: cs) vs) : ∃ v vs', vs = v :: vs' ∧ Rep t w [v] x ∧ CmsR al gh w cs vs' := by
  obtain ⟨v, vs', rfl, ⟨l, hl, h1⟩, h2⟩ := h
  simp only [List.cons.injEq, and_true] at hl
  subst hl
  exact ⟨v, vs', rfl, Rd.rep h1, h2⟩
theorem CmsR.nil_ (h : CmsR al gh w [] vs) : vs = [] := h
end
section
variable {P : Program} {f : FuncId} {t : Ty} {x : t.Den}
theorem FC.ofSzA {left : Int} (h : ∀ us w, Rep t w us x → Calls P f #[.agg us.toArray, .int .i64 left] w (SzPost w left (t.tot x))) (h0 : 0 ≤ left) (h1 : left ≤ 1048576) :
    FC P f [(true, leaves t x), (false, [dI left])] [] 0 (Pure (lf (dI (szv left (t.tot x))))) := FC.ofP fun gh w vs ha => by
  obtain ⟨us, vs, rfl, hr, ha⟩ := ha.agg_cons
  obtain ⟨v, vs, rfl, hi, ha⟩ := ha.leaf_cons
  obtain rfl := ha.nil_
  obtain ⟨rfl, _⟩ := Rep.int_ hi
  refine Calls.mono (h us w hr) fun e w' he => ?_
  obtain ⟨rfl, h2⟩ := he.szv
  have := szv_spec left (t.tot x)
  exact ⟨_, rfl, h2, _, rfl, LVR.mkI (by omega)⟩
theorem FC.ofEqA {y : t.Den} (e : x = y) (h : ∀ us vs w, Rep t w us x → Rep t w vs x → Calls P f #[.agg us.toArray, .agg vs.toArray] w (RetTrue w)) :
    FC P f [(true, leaves t x), (true, leaves t y)] [] 0 (Pure (lf (dB true))) := e ▸ FC.ofP fun gh w vs ha => by
  obtain ⟨us, vs, rfl, hr, ha⟩ := ha.agg_cons
  obtain ⟨us2, vs, rfl, hr2, ha⟩ := ha.agg_cons
  obtain rfl := ha.nil_
  refine Calls.mono (h us us2 w hr hr2) fun e w' he => ?_
  obtain ⟨rfl, h2⟩ := he
  exact ⟨_, rfl, h2, _, rfl, LVR.mkB⟩
theorem FC.ofEqS {y : t.Den} (e : x = y) (h : ∀ u v w, Rep t w [u] x → Rep t w [v] x → Calls P f #[u, v] w (RetTrue w)) :
    FC P f [(false, [.dat t x]), (false, [.dat t y])] [] 0 (Pure (lf (dB true))) := e ▸ FC.ofP fun gh w vs ha => by
  obtain ⟨us, vs, rfl, hr, ha⟩ := ha.leaf_cons
  obtain ⟨us2, vs, rfl, hr2, ha⟩ := ha.leaf_cons
  obtain rfl := ha.nil_
  refine Calls.mono (h us us2 w hr hr2) fun e w' he => ?_
  obtain ⟨rfl, h2⟩ := he
  exact ⟨_, rfl, h2, _, rfl, LVR.mkB⟩
end

/-! ### A datum's parts as own slices -/
def Ty.sls : Ty → Nat
  | .int => 0
  | .bool => 0
  | .str => 0
  | .u8 => 0
  | .sl _ _ => 1
  | .pr a b => a.sls + b.sls
def oL : (t : Ty) → t.Den → Nat → List LV
  | .int, x, _ => [.dat .int x]
  | .bool, x, _ => [.dat .bool x]
  | .str, x, _ => [.dat .str x]
  | .u8, x, _ => [.dat .u8 x]
  | .sl _ _, _, n => [.ref n]
  | .pr a b, x, n => oL a x.1 n ++ oL b x.2 (n + a.sls)
def oT : (t : Ty) → t.Den → Nat → Tab
  | .int, _, _ => []
  | .bool, _, _ => []
  | .str, _, _ => []
  | .u8, _, _ => []
  | .sl E e, xs, n => [(n, some (.arr E e xs))]
  | .pr a b, x, n => oT a x.1 n ++ oT b x.2 (n + a.sls)
theorem oL_tags : ∀ (t : Ty) (x : t.Den) (n q : Nat), q ∈ lvsTags (oL t x n) → n ≤ q ∧ q < n + t.sls
  | .int, _, _, _, h => by cases h
  | .bool, _, _, _, h => by cases h
  | .str, _, _, _, h => by cases h
  | .u8, _, _, _, h => by cases h
  | .sl _ _, _, n, q, h => by
    have : q = n := by simpa [oL, lvsTags, LV.tags] using h
    subst this
    exact ⟨Nat.le_refl _, Nat.lt_succ_self _⟩
  | .pr a b, x, n, q, h => by
    rw [oL, lvsTags_app] at h
    rcases List.mem_append.1 h with h | h
    · have := oL_tags a x.1 n q h; simp only [Ty.sls]; omega
    · have := oL_tags b x.2 _ q h; simp only [Ty.sls]; omega
theorem entApp {A B : Tab} {q : Nat} {e : Ent} (h : Tab.ent (A ++ B) q = some e) : A.ent q = some e ∨ B.ent q = some e := by
  induction A with
  | nil => exact .inr h
  | cons x A ih =>
    obtain ⟨j, o⟩ := x
    rw [List.cons_append, Tab.ent_cons] at h
    rw [Tab.ent_cons]
    by_cases e1 : q = j
    · rw [if_pos e1] at h ⊢; exact .inl h
    · rw [if_neg e1] at h ⊢; exact ih h
/-- hh, ff: what the tags from n on stand for, where the parts of x lie. -/
structure Parts (t : Ty) (w : World) (fp : List Nat) (cs : List Value) (x : t.Den) (n : Nat) (hh : Nat → Value) (ff : Nat → List Nat) : Prop where
  lv : ∀ (al : Nat → Prop) (N : Nat → Prop), LVs al ⟨hh, ff, N⟩ w (oL t x n) cs
  rg : ∀ q e, (oT t x n).ent q = some e → n ≤ q ∧ q < n + t.sls ∧ (∃ E' e' xs, e = .arr E' e' xs ∧ Own (.sl E' e') w (ff q) [hh q] xs) ∧ (∀ g ∈ ff q, g ∈ fp) ∧ (ff q).Nodup
  dj : ∀ q q', (oT t x n).al q → (oT t x n).al q' → q ≠ q' → ∀ g ∈ ff q, g ∉ ff q'
theorem parts_flat {t : Ty} {w : World} {cs : List Value} {x : t.Den} {n : Nat} (fp : List Nat) (hr : Rep t w cs x) (hf : t.flat = true) (h1 : ∀ y m, oL t y m = leaves t y) (h2 : ∀ y m, oT t y m = []) : Parts t w fp cs x n (fun _ => undef) fun _ => [] where
  lv al N := by rw [h1]; exact (Rep.rd0 (N := N) (w' := w) hr hf).leaves
  rg q e h := by rw [h2] at h; cases h
  dj q q' h := by rw [h2] at h; exact absurd h (al_nil q)
theorem Own.parts : ∀ {t : Ty} {w : World} {fp : List Nat} {cs : List Value} {x : t.Den} (n : Nat), Own t w fp cs x → fp.Nodup → ∃ hh ff, Parts t w fp cs x n hh ff
  | .int, _, fp, _, _, _, h, _ => ⟨_, _, parts_flat fp h.rep rfl (fun _ _ => rfl) fun _ _ => rfl⟩
  | .bool, _, fp, _, _, _, h, _ => ⟨_, _, parts_flat fp h.rep rfl (fun _ _ => rfl) fun _ _ => rfl⟩
  | .str, _, fp, _, _, _, h, _ => ⟨_, _, parts_flat fp h.rep rfl (fun _ _ => rfl) fun _ _ => rfl⟩
  | .u8, _, fp, _, _, _, h, _ => ⟨_, _, parts_flat fp h.rep rfl (fun _ _ => rfl) fun _ _ => rfl⟩
  | .sl E e, w, fp, cs, xs, n, h, hd => by
    have hl := h.len
    match cs, hl with
    | [v], _ =>
      refine ⟨fun _ => v, fun _ => fp, ⟨fun al N => ⟨v, [], rfl, fun _ => rfl, rfl⟩, fun q e' he => ?_, fun q q' h1 h2 hne => ?_⟩⟩
      · rw [oT, Tab.ent_cons] at he
        by_cases e1 : q = n
        · rw [if_pos e1] at he
          cases he
          exact ⟨by omega, by simp only [Ty.sls]; omega, ⟨_, _, _, rfl, h⟩, fun g hg => hg, hd⟩
        · rw [if_neg e1] at he; cases he
      · exact absurd (own1_al' h1 |>.trans (own1_al' h2).symm) hne
  | .pr a b, w, fp, cs, x, n, h, hd => by
    obtain ⟨f1, f2, l, r, rfl, rfl, h1, h2⟩ := h
    obtain ⟨d1, d2, d3⟩ := List.nodup_append.1 hd
    obtain ⟨ha, fa, pa⟩ := Own.parts n h1 d1
    obtain ⟨hb, fb, pb⟩ := Own.parts (n + a.sls) h2 d2
    have ea : ∀ q, q < n + a.sls → (if q < n + a.sls then ha q else hb q) = ha q ∧ (if q < n + a.sls then fa q else fb q) = fa q := fun q h => ⟨if_pos h, if_pos h⟩
    have eb : ∀ q, n + a.sls ≤ q → (if q < n + a.sls then ha q else hb q) = hb q ∧ (if q < n + a.sls then fa q else fb q) = fb q := fun q h => ⟨if_neg (by omega), if_neg (by omega)⟩
    refine ⟨fun q => if q < n + a.sls then ha q else hb q, fun q => if q < n + a.sls then fa q else fb q, ⟨fun al N => ?_, fun q e he => ?_, fun q q' k1 k2 hne => ?_⟩⟩
    · exact LVs.app ((pa.lv al N).mono (fun q hq k => ⟨k, (ea q (oL_tags a x.1 n q hq).2).1⟩) fun g hg => ⟨hg, rfl⟩) ((pb.lv al N).mono (fun q hq k => ⟨k, (eb q (oL_tags b x.2 _ q hq).1).1⟩) fun g hg => ⟨hg, rfl⟩)
    · rcases entApp he with he | he
      · obtain ⟨k1, k2, k3, k4, k5⟩ := pa.rg q e he
        refine ⟨k1, by simp only [Ty.sls]; omega, ?_, ?_, ?_⟩
        · rw [(ea q k2).1, (ea q k2).2]; exact k3
        · rw [(ea q k2).2]; exact fun g hg => List.mem_append_left _ (k4 g hg)
        · rw [(ea q k2).2]; exact k5
      · obtain ⟨k1, k2, k3, k4, k5⟩ := pb.rg q e he
        refine ⟨by omega, by simp only [Ty.sls]; omega, ?_, ?_, ?_⟩
        · rw [(eb q k1).1, (eb q k1).2]; exact k3
        · rw [(eb q k1).2]; exact fun g hg => List.mem_append_right _ (k4 g hg)
        · rw [(eb q k1).2]; exact k5
    · obtain ⟨e, k1⟩ := k1
      obtain ⟨e', k2⟩ := k2
      rcases entApp k1 with k1 | k1 <;> rcases entApp k2 with k2 | k2
      · obtain ⟨_, p2, _, p4, _⟩ := pa.rg q e k1
        obtain ⟨_, q2, _, q4, _⟩ := pa.rg q' e' k2
        rw [(ea q p2).2, (ea q' q2).2]
        exact pa.dj q q' ⟨_, k1⟩ ⟨_, k2⟩ hne
      · obtain ⟨_, p2, _, p4, _⟩ := pa.rg q e k1
        obtain ⟨q2, _, _, q4, _⟩ := pb.rg q' e' k2
        rw [(ea q p2).2, (eb q' q2).2]
        exact fun g h1 h2 => d3 _ (p4 g h1) _ (q4 g h2) rfl
      · obtain ⟨p2, _, _, p4, _⟩ := pb.rg q e k1
        obtain ⟨_, q2, _, q4, _⟩ := pa.rg q' e' k2
        rw [(eb q p2).2, (ea q' q2).2]
        exact fun g h1 h2 => d3 _ (q4 g h2) _ (p4 g h1) rfl
      · obtain ⟨p2, _, _, p4, _⟩ := pb.rg q e k1
        obtain ⟨q2, _, _, q4, _⟩ := pb.rg q' e' k2
        rw [(eb q p2).2, (eb q' q2).2]
        exact pb.dj q q' ⟨_, k1⟩ ⟨_, k2⟩ hne
where
  own1_al' {E : TypeId} {e : Ty} {zs : List e.Den} {q n : Nat} (h : Tab.al [(n, some (.arr E e zs))] q) : q = n := by
    obtain ⟨e', h⟩ := h
    rw [Tab.ent_cons] at h
    by_cases h1 : q = n
    · exact h1
    · rw [if_neg h1] at h; cases h
section
variable {P : Program} {f : FuncId} {t : Ty} {x : t.Den} {args : List (Bool × List LV)}
/-- A call that answers a struct in new memory. -/
theorem FC.ofOwnA (h : ∀ (gh : Gh) (w : World) (vs : List Value), CmsR (Tab.al []) gh w args vs → Calls P f vs.toArray w fun e w' => ∃ cs, e = .returned (.agg cs.toArray) ∧ Frs t w.heap.size w'.heap.size w' cs x ∧ Nw w w') :
    FC P f args [] 0 (Is (ag (oL t x 0)) (oT t x 0)) := fun gh w vs cx ha =>
  Calls.mono (h gh w vs ha) fun e w' he => by
    obtain ⟨cs, rfl, ⟨fp, h1, h2, h3⟩, h4⟩ := he
    obtain ⟨hh, ff, p⟩ := h1.parts 0 h2
    refine ⟨_, _, oT t x 0, ⟨hh, ff, gh.N⟩, rfl, ⟨rfl, rfl⟩, ⟨fun q e he => ?_, p.dj, fun q hq => ?_, fun q hq g hg hn => ?_, fun g hg => Nat.lt_of_lt_of_le (cx.nl g hg) h4.size⟩, ⟨cs, rfl, p.lv _ _⟩,
      ⟨h4.grw, fun g hg _ => Below.block h4 g hg, fun g hg => .inl hg, fun q hq g hg => ?_⟩, fun q hq => absurd hq (by omega)⟩
    · obtain ⟨_, _, ⟨E', e', xs, rfl, k⟩, _⟩ := p.rg q e he
      exact k
    · obtain ⟨e, he⟩ := hq
      exact (p.rg q e he).2.2.2.2
    · obtain ⟨e, he⟩ := hq
      have k1 := (h3 g ((p.rg q e he).2.2.2.1 g hg)).1
      have k2 := cx.nl g hn
      omega
    · obtain ⟨e, he⟩ := hq
      exact .inl (h3 g ((p.rg q e he).2.2.2.1 g hg)).1
end

/-! ### From a contract to a call -/
def gh0 (w : World) : Gh := ⟨fun _ => undef, fun _ => [], fun g => g < w.heap.size⟩
theorem CmsR.nil0 {al : Nat → Prop} {gh : Gh} {w : World} : CmsR al gh w [] [] := rfl
theorem CmsR.mkA {al : Nat → Prop} {w : World} {t : Ty} {x : t.Den} {us vs : List Value} {cs : List (Bool × List LV)} (h : Rep t w us x) (k : CmsR al (gh0 w) w cs vs) : CmsR al (gh0 w) w ((true, leaves t x) :: cs) (.agg us.toArray :: vs) :=
  ⟨_, _, rfl, ⟨us, rfl, (h.rd fun _ hg => hg).leaves⟩, k⟩
theorem CmsR.mkL {al : Nat → Prop} {w : World} {t : Ty} {x : t.Den} {v : Value} {vs : List Value} {cs : List (Bool × List LV)} (h : Rep t w [v] x) (k : CmsR al (gh0 w) w cs vs) : CmsR al (gh0 w) w ((false, [.dat t x]) :: cs) (v :: vs) :=
  ⟨_, _, rfl, ⟨_, rfl, h.rd fun _ hg => hg⟩, k⟩
theorem FC.calls {P : Program} {f : FuncId} {args : List (Bool × List LV)} {b : Bool} (h : FC P f args [] 0 (Pure (lf (dB b)))) {w : World} {vs : List Value} (ha : CmsR (Tab.al []) (gh0 w) w args vs) :
    Calls P f vs.toArray w fun e w' => e = .returned (.bool b) ∧ Nw w w' :=
  Calls.mono (h (gh0 w) w vs (tombless al_nil _ _ fun _ hg => hg) ha) fun e w' he => by
    obtain ⟨v, pv, T', gh', rfl, ⟨rfl, rfl⟩, _, ⟨l, hl, hp⟩, fr, _⟩ := he
    simp only [List.cons.injEq, and_true] at hl
    subst hl
    exact ⟨by rw [LVR.bool hp], ⟨fr.gw.os, fr.gw.tape, fr.gw.output, fr.gw.size, fun g hg => fr.kp g hg fun q hq => absurd hq (al_nil q)⟩⟩
end Go.Proofs.Ytbelopdphlllnaa

/- Walks over abstract states: firing. -/
namespace Go.Proofs.Ytbelopdphlllnaa
open Go.RowKit

def bAt (m : ByteArray) (p : Int) : UInt8 := (m[p.toNat]?).getD 0
theorem bAt_get {m : ByteArray} {p : Int} {c : UInt8} (h : m[p.toNat]? = some c) : bAt m p = c := by unfold bAt; rw [h]; rfl
theorem bl_len (m : ByteArray) : m.toList.length = m.size := by simp [ByteArray.toList_eq]
def idxF {α : Type _} (f : α → Bool) (l : List α) : Int := match l.findIdx? f with | some i => i | none => -1
/-- No one below k. -/
def NoneTo {α : Type _} (f : α → Bool) (l : List α) (k : Nat) : Prop := ∀ j, j < k → ∀ x, l[j]? = some x → f x = false
section
variable {α : Type _} {f : α → Bool} {l : List α} {k : Nat} {x : α}
theorem NoneTo.zero : NoneTo f l 0 := fun j hj => absurd hj (Nat.not_lt_zero j)
theorem NoneTo.step (h : NoneTo f l k) (hx : l[k]? = some x) (hf : f x = false) : NoneTo f l (k + 1) := fun j hj y hy => by
  by_cases e : j = k
  · subst e; rw [hx] at hy; cases hy; exact hf
  · exact h j (by omega) y hy
theorem NoneTo.at (h : NoneTo f l k) (hx : l[k]? = some x) (hf : f x = true) : idxF f l = k := by
  obtain ⟨h1, h2⟩ := List.getElem?_eq_some_iff.1 hx
  have : l.findIdx? f = some k := List.findIdx?_eq_some_iff_getElem.2 ⟨h1, by rw [h2]; exact hf, fun j hj => by
    have := h j hj _ (List.getElem?_eq_getElem (by omega))
    simp [this]⟩
  unfold idxF
  rw [this]
theorem NoneTo.no (h : NoneTo f l k) (hk : l.length ≤ k) : idxF f l = -1 := by
  have : l.findIdx? f = none := List.findIdx?_eq_none_iff.2 fun x hx => by
    obtain ⟨j, hj⟩ := List.mem_iff_getElem?.1 hx
    have := (List.getElem?_eq_some_iff.1 hj).1
    exact h j (by omega) x hj
  unfold idxF
  rw [this]
theorem idxF_any (f : α → Bool) (l : List α) : decide (0 ≤ idxF f l) = l.any f := by
  unfold idxF
  cases h : l.findIdx? f with
  | none =>
    have := List.findIdx?_eq_none_iff.1 h
    rw [Bool.eq_iff_iff]
    simp only [List.any_eq_true, decide_eq_true_eq]
    constructor
    · intro h; omega
    · rintro ⟨x, hx, hf⟩; rw [this x hx] at hf; cases hf
  | some i =>
    obtain ⟨h1, h2, _⟩ := List.findIdx?_eq_some_iff_getElem.1 h
    have : l.any f = true := List.any_eq_true.2 ⟨_, List.getElem_mem h1, h2⟩
    rw [this]
    simp
/-- The places below k at which f holds. -/
def picks (f : α → Bool) (l : List α) : Nat → List Int
  | 0 => []
  | k + 1 => picks f l k ++ (match l[k]? with | some x => if f x then [(k : Int)] else [] | none => [])
theorem drop_cons {l : List α} {k : Nat} {x : α} (hx : l[k]? = some x) : l.drop k = x :: l.drop (k + 1) := by
  obtain ⟨h1, h2⟩ := List.getElem?_eq_some_iff.1 hx
  rw [List.drop_eq_getElem_cons h1, h2]
end
/-- Whether a transition can fire; what fires. -/
def PlOk (m : ByteArray) (ps : List Int) : Prop := ∀ p ∈ ps, (0 ≤ p ∧ p < m.size) ∧ (bAt m p = 48 ∨ bAt m p = 49)
def enb (m : ByteArray) (t : DTransition) : Bool := !t.1.any fun p => decide (bAt m p = 48)
def enbs (n : DNet) (m : ByteArray) : List Int := picks (enb m) n.2 n.2.length
def clr (l : List UInt8) : List Int → List UInt8
  | [] => l
  | p :: ps => clr (l.set p.toNat 48) ps
def put1 (l : List UInt8) : List Int → Option (List UInt8)
  | [] => some l
  | p :: ps => if l[p.toNat]? = some 49 then none else put1 (l.set p.toNat 49) ps
def firedV (m : ByteArray) (t : DTransition) : ByteArray × Bool := match put1 (clr m.toList t.1) t.2 with
  | none => (⟨#[]⟩, false)
  | some l => (⟨l.toArray⟩, true)
def fireV (n : DNet) (m : ByteArray) (t : Int) : ByteArray × Bool := match n.2[t.toNat]? with
  | none => (⟨#[]⟩, false)
  | some x => firedV m x
def fireE (n : DNet) (m : ByteArray) (t : Int) : ByteArray × Bool := if 0 ≤ t then (match n.2[t.toNat]? with
  | none => (⟨#[]⟩, false)
  | some x => if enb m x then firedV m x else (⟨#[]⟩, false)) else (⟨#[]⟩, false)
section
variable {n : DNet} {m : ByteArray} {t : Int} {x : DTransition} {l : List UInt8} {ps : List Int} {k : Nat} {p : Int}
def enbAt (n : DNet) (m : ByteArray) (t : Int) : Bool := match n.2[t.toNat]? with
  | some x => enb m x
  | none => false
end

end Go.Proofs.Ytbelopdphlllnaa

/- Walks over abstract states: reachability. -/
namespace Go.Proofs.Ytbelopdphlllnaa
open Go.RowKit

abbrev RS := List ByteArray × List (Int × Int × Int) × List (Int × Int × Int)
abbrev REnd := Int × Int × Bool
def findB (l : List ByteArray) (x : ByteArray) : Int := idxF (fun y => decide (y = x)) l
def goT (n : DNet) (k : Nat) (mk : ByteArray) : List Int → RS → RS × REnd
  | [], st => (st, (-1, -1, true))
  | t :: ts, st =>
    if (fireV n mk t).2 = false then (st, (k, t, false))
    else if 0 ≤ findB st.1 (fireV n mk t).1 then goT n k mk ts (st.1, st.2.1 ++ [((k : Int), t, findB st.1 (fireV n mk t).1)], st.2.2)
    else if st.1.length = 300 then (st, (-1, -1, false))
    else goT n k mk ts (st.1 ++ [(fireV n mk t).1], st.2.1 ++ [((k : Int), t, (st.1.length : Int))], st.2.2 ++ [((k : Int), t, (st.1.length : Int))])
def goK (n : DNet) : Nat → Nat → RS → RS × REnd
  | 0, _, st => (st, (-1, -1, true))
  | f + 1, k, st => match st.1[k]? with
    | none => (st, (-1, -1, true))
    | some mk => if (goT n k mk (enbs n mk) st).2.2.2 = true then goK n f (k + 1) (goT n k mk (enbs n mk) st).1 else goT n k mk (enbs n mk) st
def contK (n : DNet) (f k : Nat) (r : RS × REnd) : RS × REnd := if r.2.2.2 = true then goK n f (k + 1) r.1 else r
def reach (s : DSTG) : RS × REnd := goK s.1 301 0 ([s.2.2.2], [], [((0 : Int), (0 : Int), (0 : Int))])
def exV (s : DSTG) : (List ByteArray × List (Int × Int × Int)) × Int × Int × Bool := (((reach s).1.1, (reach s).1.2.1), (reach s).2)
def l4V (s : DSTG) : (List ByteArray × List (Int × Int × Int)) × List (Int × Int × Int) × Int × Int × Bool :=
  (((reach s).1.1, (reach s).1.2.1), (reach s).1.2.2, (if 0 ≤ (reach s).2.2.1 then (reach s).2.1 else 0), (reach s).2.2.1, (!(reach s).2.2.2 && decide ((reach s).2.2.1 < 0)))
def zeroRG : List ByteArray × List (Int × Int × Int) := ([], [])
section
variable [∀ s, Decidable (StgOk s)]
def exploreV (s : DSTG) : (List ByteArray × List (Int × Int × Int)) × Bool := if StgOk s ∧ (reach s).2.2.2 = true then (((reach s).1.1, (reach s).1.2.1), true) else (zeroRG, false)
end
theorem findB_app (l : List ByteArray) (x y : ByteArray) : findB (l ++ [y]) x = if 0 ≤ findB l x then findB l x else if y = x then (l.length : Int) else -1 := by
  unfold findB idxF
  rw [List.findIdx?_append]
  cases h : l.findIdx? (fun z => decide (z = x)) with
  | some i => simp
  | none =>
    by_cases e : y = x
    · simp [e]
    · simp [e]
/-- The index of the marks. -/
def IdxOf (marks : List ByteArray) (idx : List (ByteArray × Int)) : Prop := ∀ x, mget .str idx x = if 0 ≤ findB marks x then some (findB marks x) else none
section
variable {marks : List ByteArray} {idx : List (ByteArray × Int)} {x : ByteArray} {v b : List (Int × Int × Int)} {n : DNet} {k f i : Nat} {mk : ByteArray} {t : Int} {ts : List Int} {r : ByteArray × Bool} {j : Int} {s : DSTG} {e : REnd}
theorem IdxOf.new (h : IdxOf marks idx) (hs : (mget .str idx x).isSome = false) : ¬ 0 ≤ findB marks x := by
  rw [h x] at hs
  intro h0
  rw [if_pos h0] at hs; cases hs
theorem IdxOf.set (h : IdxOf marks idx) (hs : (mget .str idx x).isSome = false) : IdxOf (marks ++ [x]) (mset .str idx x (marks.length : Int)) := fun y => by
  have h0 := h.new hs
  rw [mget_mset, findB_app, h y]
  by_cases e : x = y
  · subst e
    rw [if_pos ((Ty.beq_iff .str x x).2 rfl), if_neg h0, if_pos rfl, if_pos (Int.natCast_nonneg _)]
  · have : Ty.beq .str x y = false := Bool.eq_false_iff.2 fun h => e ((Ty.beq_iff .str x y).1 h)
    rw [if_neg (show ¬ Ty.beq .str x y = true by rw [this]; decide), if_neg e]
    by_cases h1 : 0 ≤ findB marks y
    · rw [if_pos h1, if_pos h1, if_pos h1]
    · rw [if_neg h1, if_neg h1, if_neg (by decide)]
theorem IdxOf.one (x : ByteArray) : IdxOf [x] (mset .str ([] : List (ByteArray × Int)) x 0) := fun y => by
  rw [mget_mset]
  by_cases e : x = y
  · subst e
    rw [if_pos ((Ty.beq_iff .str x x).2 rfl)]
    simp [findB, idxF]
  · have : Ty.beq .str x y = false := Bool.eq_false_iff.2 fun h => e ((Ty.beq_iff .str x y).1 h)
    rw [if_neg (show ¬ Ty.beq .str x y = true by rw [this]; decide)]
    simp [findB, idxF, e, mget]
/-- Bits stay bits. -/
def LBits (l : List UInt8) : Prop := ∀ c ∈ l, c = 48 ∨ c = 49
theorem LBits.set {l : List UInt8} (h : LBits l) {c : UInt8} (hc : c = 48 ∨ c = 49) (i : Nat) : LBits (l.set i c) := fun d hd => by
  rcases List.mem_or_eq_of_mem_set hd with h1 | h1
  · exact h d h1
  · rw [h1]; exact hc
theorem LBits.clr {l : List UInt8} (h : LBits l) (ps : List Int) : LBits (clr l ps) := by
  induction ps generalizing l with
  | nil => exact h
  | cons p ps ih => exact ih (h.set (.inl rfl) _)
theorem LBits.put {l l' : List UInt8} (h : LBits l) {ps : List Int} (hp : put1 l ps = some l') : LBits l' ∧ l'.length = l.length := by
  induction ps generalizing l with
  | nil => rw [put1] at hp; cases hp; exact ⟨h, rfl⟩
  | cons p ps ih =>
    rw [put1] at hp
    split at hp
    · cases hp
    · obtain ⟨h1, h2⟩ := ih (h.set (.inr rfl) _) hp
      exact ⟨h1, by rw [h2, List.length_set]⟩
end

end Go.Proofs.Ytbelopdphlllnaa

/- Walks over abstract states: labelled arcs, the values of a signal. -/
namespace Go.Proofs.Ytbelopdphlllnaa
open Go.RowKit

abbrev DMv := Int × Int × Int
abbrev DAr := Int × Int × Bool × Int
def labAt (ls : List DLabel) (t : Int) : DLabel := (ls[t.toNat]?).getD (0, false)
def arcOf (ls : List DLabel) (m : DMv) : DAr := (m.1, (labAt ls m.2.1).1, (labAt ls m.2.1).2, m.2.2)
def arcsOf (ls : List DLabel) (ms : List DMv) : List DAr := ms.map (arcOf ls)
def bv (l : List UInt8) (i : Nat) : UInt8 := (l[i]?).getD 0
def agr (vs : List UInt8) (i j : Nat) : List UInt8 × Bool × Bool :=
  if bv vs i = bv vs j then (vs, true, false) else if bv vs i = 0 then (vs.set i (bv vs j), true, true) else if bv vs j = 0 then (vs.set j (bv vs i), true, true) else (vs, false, false)
def agb (vs : List UInt8) (i : Nat) (c : UInt8) : List UInt8 × Bool × Bool :=
  if bv vs i = c then (vs, true, false) else if bv vs i = 0 then (vs.set i c, true, true) else (vs, false, false)
section
variable {vs vs' : List UInt8} {i j k : Nat} {a b c : UInt8}
/-- How many are not known. -/
def cnt0 (vs : List UInt8) : Nat := (vs.filter fun c => c = 0).length
end
/-- One arc; one pass; passes till nothing turns. -/
def stepV (sig : Int) (a : DAr) (vs : List UInt8) : Option (List UInt8 × Bool) :=
  if a.2.1 = sig then
    (if (agb vs a.1.toNat (if (!a.2.2.1) = true then 49 else 48)).2.1 = true ∧ (agb (agb vs a.1.toNat (if (!a.2.2.1) = true then 49 else 48)).1 a.2.2.2.toNat (if a.2.2.1 = true then 49 else 48)).2.1 = true then
      some ((agb (agb vs a.1.toNat (if (!a.2.2.1) = true then 49 else 48)).1 a.2.2.2.toNat (if a.2.2.1 = true then 49 else 48)).1, (agb vs a.1.toNat (if (!a.2.2.1) = true then 49 else 48)).2.2 || (agb (agb vs a.1.toNat (if (!a.2.2.1) = true then 49 else 48)).1 a.2.2.2.toNat (if a.2.2.1 = true then 49 else 48)).2.2)
    else none)
  else if (agr vs a.1.toNat a.2.2.2.toNat).2.1 = true then some ((agr vs a.1.toNat a.2.2.2.toNat).1, (agr vs a.1.toNat a.2.2.2.toNat).2.2) else none
def passV (sig : Int) : List DAr → List UInt8 → Bool → Option (List UInt8 × Bool)
  | [], vs, ch => some (vs, ch)
  | a :: rs, vs, ch => match stepV sig a vs with
    | none => none
    | some (vs', c) => passV sig rs vs' (ch || c)
def runV (sig : Int) (arcs : List DAr) : Nat → List UInt8 → Option (List UInt8)
  | 0, vs => some vs
  | f + 1, vs => match passV sig arcs vs false with
    | none => none
    | some (vs', ch) => if ch = true then runV sig arcs f vs' else some vs'
def contV (sig : Int) (arcs : List DAr) (f : Nat) : Option (List UInt8 × Bool) → Option (List UInt8)
  | none => none
  | some (vs', ch) => if ch = true then runV sig arcs f vs' else some vs'
def fz (c : UInt8) : UInt8 := if c = 0 then 48 else c
def valsV (n : Nat) (arcs : List DAr) (sig : Int) : List UInt8 × Bool := match runV sig arcs (n + 1) (List.replicate n 0) with
  | none => ([], false)
  | some vs => (vs.map fz, true)
def InR (n : Int) (a : DAr) : Prop := (0 ≤ a.1 ∧ a.1 < n) ∧ 0 ≤ a.2.2.2 ∧ a.2.2.2 < n
section
variable {sig n : Int} {a : DAr} {vs vs' : List UInt8} {arcs rs : List DAr} {ch ch' c : Bool} {f k : Nat}
/-- What is not known becomes 0. -/
def fillN (vs : List UInt8) (k : Nat) : List UInt8 := (vs.take k).map fz ++ vs.drop k
end

set_option maxRecDepth 100000 in
set_option maxHeartbeats 4000000 in
theorem fc_slices_Clone_impl_Signal_impl_Signal (s : List (ByteArray × Int)) (hl : s.length ≤ 1000000) : FC Try.prog 133 [(false, [.dat (.sl 129 (.pr .str .int)) s])] [] 0 (Own1 129 (.pr .str .int) s) := by
 refine FC.O_all fun O_ hO => FC.ren (FC.of Try.func133 rfl rfl fun A_ hn_ hk_ => ?_)
 obtain ⟨w0_, N0_, X_, n_, k0_, h0_, f0_⟩ := A_
 obtain rfl : n_ = 8 := hn_.trans Try.ntmps133
 obtain rfl : k0_ = 0 := hk_
 refine AC.sr ?_
 refine AL.cons rfl (Does.assignC Evl.val rfl) ?_
 refine AL.nilS ?_
 refine AC.seq ?_
 refine AC.sr ?_
 refine AL.cons rfl (Does.move rfl rfl) ?_
 refine AL.eqNil (Evl.tmp rfl) Evl.val und_29 rfl fun b1 hnil => ?_
 refine AL.nilS ?_
 cases hb2 : (b1)
 ·have _h := hb2
  refine AC.condF (Evl.tmp rfl) ?_
  refine AC.skipS ?_
  refine AC.sr ?_
  refine AL.cons rfl (Does.buildSlice 0 (e := (.pr .str .int)) und_29 tsh_129 zer_129 rfl rfl (List.all_eq_true.1 rfl) ⟨rfl, rfl⟩ (by decide) rfl rfl (Fresh.of rfl) (nlr rfl)) ?_
  refine AL.cons rfl (Does.move rfl rfl) ?_
  refine AL.cons rfl (Does.appendF 1 (Evl.tmp rfl) rfl (Evl.rep (Evl.tmp rfl)) rfl und_29 elb_129 (by first | omega | (simp only [List.length_append, List.length_map, List.length_take, List.length_cons, List.length_nil]; omega)) rfl (Fresh.of rfl) (nlr rfl)) ?_
  refine AL.cons rfl (Does.assign rfl rfl) ?_
  refine AL.nilS ?_
  refine AC.ret ?_
  subst hO
  refine fin_own (e := (.pr .str .int)) (xs := (([]) ++ s)) (Res.one rfl (Rs.tmp rfl)) rfl ?_
  rfl
 ·have _h := hb2
  refine AC.condT (Evl.tmp rfl) ?_
  refine AC.sr ?_
  refine AL.cons rfl (Does.assignC Evl.val rfl) ?_
  refine AL.nilS ?_
  refine AC.wk (Wk.nilS 2 2 129 (.pr .str .int) rfl (Fresh.of rfl) (nlr rfl)) ?_
  refine AC.ret ?_
  subst hO
  refine fin_own (e := (.pr .str .int)) (xs := ([])) (Res.one rfl (Rs.tmp rfl)) rfl ?_
  exact (hnil (by assumption)).symm

end Go.Proofs.Ytbelopdphlllnaa

/- Walks over abstract states: the values of a signal as the reference finds them, and the plain law that they are the same. -/
namespace Go.Proofs.Ytbelopdphlllnaa
open Go.RowKit

/-- One move; one pass; passes. -/
def stepS (sig : Int) (a : DAr) (us : List UInt8) : Option (List UInt8) :=
  if a.2.1 = sig then
    (if (bv us a.1.toNat ≠ 63 ∧ bv us a.1.toNat ≠ (if (!a.2.2.1) = true then 49 else 48)) ∨ (bv us a.2.2.2.toNat ≠ 63 ∧ bv us a.2.2.2.toNat ≠ (if a.2.2.1 = true then 49 else 48)) then none
    else some ((us.set a.1.toNat (if (!a.2.2.1) = true then 49 else 48)).set a.2.2.2.toNat (if a.2.2.1 = true then 49 else 48)))
  else if bv us a.1.toNat = 63 then some ((us.set a.1.toNat (bv us a.2.2.2.toNat)).set a.2.2.2.toNat (bv us a.2.2.2.toNat))
  else if bv us a.2.2.2.toNat ≠ 63 ∧ bv us a.2.2.2.toNat ≠ bv us a.1.toNat then none
  else some ((us.set a.1.toNat (bv us a.1.toNat)).set a.2.2.2.toNat (bv us a.1.toNat))
def passS (sig : Int) : List DAr → List UInt8 → Option (List UInt8)
  | [], us => some us
  | a :: rs, us => match stepS sig a us with
    | none => none
    | some us' => passS sig rs us'
def iterS (sig : Int) (arcs : List DAr) : Nat → List UInt8 → Option (List UInt8)
  | 0, us => some us
  | f + 1, us => match passS sig arcs us with
    | none => none
    | some us' => iterS sig arcs f us'
def contS (sig : Int) (arcs : List DAr) (f : Nat) : Option (List UInt8) → Option (List UInt8)
  | none => none
  | some us' => iterS sig arcs f us'
def l5V (n : Nat) (arcs : List DAr) (sig : Int) : ByteArray × Bool := match iterS sig arcs (n + 1) (List.replicate n 63) with
  | none => (⟨#[]⟩, false)
  | some us => (⟨us.toArray⟩, true)
section
variable {sig : Int} {a : DAr} {us us' vs vs' : List UInt8} {arcs rs : List DAr} {f k m : Nat} {cf ct x : UInt8} {ch ch' : Bool} {i j : Nat}
/-! The two ways of writing 'not known'. -/
def qm (c : UInt8) : UInt8 := if c = 0 then 63 else c
def Kn (vs : List UInt8) : Prop := ∀ c ∈ vs, c = 0 ∨ c = 48 ∨ c = 49
theorem Kn.set (h : Kn vs) {c : UInt8} (hc : c = 0 ∨ c = 48 ∨ c = 49) (i : Nat) : Kn (vs.set i c) := fun d hd => by
  rcases List.mem_or_eq_of_mem_set hd with h1 | h1
  · exact h d h1
  · rw [h1]; exact hc
theorem Kn.at (h : Kn vs) (hi : i < vs.length) : ∃ c, vs[i]? = some c ∧ (c = 0 ∨ c = 48 ∨ c = 49) := ⟨_, List.getElem?_eq_getElem hi, h _ (List.getElem_mem hi)⟩
/-! An edge of the signal that stays at a state: no values, on both sides. -/
def q0 (c : UInt8) : UInt8 := if c = 63 then 48 else c
end

end Go.Proofs.Ytbelopdphlllnaa

/- Walks over abstract states: the values of a signal, the reference. -/
namespace Go.Proofs.Ytbelopdphlllnaa
open Go.RowKit

section
variable {sig : Int} {us us' : List UInt8} {arcs : List DAr} {f k n : Nat} {cf ct b1 b2 : UInt8} {mv : DMv} {lb : DLabel} {ls : List DLabel} {ms : List DMv}
def ar4 (mv : DMv) (lb : DLabel) : DAr := (mv.1, lb.1, lb.2, mv.2.2)
/-- The places below k filled with '?'. -/
def fillQ (n k : Nat) : List UInt8 := List.replicate k 63 ++ List.replicate (n - k) 0
def clash (n : Nat) (arcs : List DAr) : Nat → List Int
  | 0 => []
  | k + 1 => clash n arcs k ++ (if (l5V n arcs (k : Int)).2 = true then [] else [(k : Int)])
end
def MvOk (n m : Nat) (v : DMv) : Prop := (0 ≤ v.1 ∧ v.1 < (n : Int)) ∧ (0 ≤ v.2.1 ∧ v.2.1 < (m : Int)) ∧ 0 ≤ v.2.2 ∧ v.2.2 < (n : Int)

set_option maxRecDepth 100000 in
set_option maxHeartbeats 4000000 in
theorem fc_spec_l5Bit (up : Bool)  : FC Try.prog 217 [(false, [dB up])] [] 0 (Pure (lf (dS (bitS up)))) := by
 refine FC.O_all fun O_ hO => FC.ren (FC.of Try.func217 rfl rfl fun A_ hn_ hk_ => ?_)
 obtain ⟨w0_, N0_, X_, n_, k0_, h0_, f0_⟩ := A_
 obtain rfl : n_ = 4 := hn_.trans Try.ntmps217
 obtain rfl : k0_ = 0 := hk_
 refine AC.sr ?_
 refine AL.cons rfl (Does.assignC (Evl.str rfl) rfl) ?_
 refine AL.nilS ?_
 refine AC.seq ?_
 refine AC.sr ?_
 refine AL.cons rfl (Does.move rfl rfl) ?_
 refine AL.nilS ?_
 cases hb1 : (up)
 ·have _h := hb1
  refine AC.condF (Evl.tmp rfl) ?_
  refine AC.skipS ?_
  refine AC.sr ?_
  refine AL.cons rfl (Does.assignC (Evl.str rfl) rfl) ?_
  refine AL.nilS ?_
  refine AC.ret ?_
  subst hO
  have e2 : ((⟨#[48]⟩ : ByteArray) : ByteArray) = (bitS up) := by
   simp [bitS, *]
  exact fin_pure (Res.one rfl (Rs.tmp rfl)) ((congrArg (fun z_ => lf (dS z_)) e2)) rfl
 ·have _h := hb1
  refine AC.condT (Evl.tmp rfl) ?_
  refine AC.sr ?_
  refine AL.cons rfl (Does.assignC (Evl.str rfl) rfl) ?_
  refine AL.nilS ?_
  refine AC.ret ?_
  subst hO
  have e3 : ((⟨#[49]⟩ : ByteArray) : ByteArray) = (bitS up) := by
   simp [bitS, *]
  exact fin_pure (Res.one rfl (Rs.tmp rfl)) ((congrArg (fun z_ => lf (dS z_)) e3)) rfl

end Go.Proofs.Ytbelopdphlllnaa

/- Walks over abstract states: the state graph, both sides. -/
namespace Go.Proofs.Ytbelopdphlllnaa
open Go.RowKit

/-! What the search finds is in order. -/
structure Rok (m : Nat) (st : RS) : Prop where
  one : 1 ≤ st.1.length
  most : st.1.length ≤ 300
  nd : st.1.Nodup
  mv : ∀ v ∈ st.2.1, MvOk st.1.length m v
section
variable {n : DNet} {k f : Nat} {mk : ByteArray} {t : Int} {ts : List Int} {st : RS} {s : DSTG} {l : List ByteArray} {x : ByteArray}
theorem MvOk.grow {a b m : Nat} {v : DMv} (h : MvOk a m v) (hab : a ≤ b) : MvOk b m v := by
  obtain ⟨⟨h1, h2⟩, h3, h4, h5⟩ := h
  exact ⟨⟨h1, by omega⟩, h3, h4, by omega⟩
end
theorem sigs_len {ss : List DSignal} (h : SigsOk ss) : ss.length ≤ 24 := by
  have := h.2.2
  omega
section
variable [∀ s, Decidable (StgOk s)] {s : DSTG}
end
section
variable {s : DSTG}
end
end Go.Proofs.Ytbelopdphlllnaa

/- Walks over abstract states: the state graph, both sides. -/
namespace Go.Proofs.Ytbelopdphlllnaa
open Go.RowKit

/-- A column of bits put behind the codes, from place i on. -/
def addF : Nat → List ByteArray → List UInt8 → List ByteArray
  | _, c, [] => c
  | i, c, v :: vs => addF (i + 1) (c.set i ((c[i]?).getD ByteArray.empty ++ ⟨#[v]⟩)) vs
def goS (n : Nat) (arcs : List DAr) : Nat → Nat → List ByteArray → Option (List ByteArray)
  | 0, _, c => some c
  | f + 1, k, c => if (valsV n arcs (k : Int)).2 = true then goS n arcs f (k + 1) (addF 0 c (valsV n arcs (k : Int)).1) else none
section
variable {n f k i m : Nat} {arcs : List DAr} {c codes : List ByteArray} {vs us : List UInt8} {v : UInt8} {x : ByteArray}
end
section
variable [∀ s, Decidable (StgOk s)] {s : DSTG} {c : List ByteArray}
def zeroSG : List (ByteArray × Int) × List ByteArray × List DAr := ([], [], [])
def sgV (s : DSTG) : (List (ByteArray × Int) × List ByteArray × List DAr) × Bool :=
  if (exploreV s).2 = true ∧ ¬ 4000 < (exploreV s).1.2.length then
    (match goS (exploreV s).1.1.length (arcsOf s.2.2.1 (exploreV s).1.2) s.2.1.length 0 (List.replicate (exploreV s).1.1.length ByteArray.empty) with
    | some c => ((s.2.1, c, arcsOf s.2.2.1 (exploreV s).1.2), true)
    | none => (zeroSG, false))
  else (zeroSG, false)
end

end Go.Proofs.Ytbelopdphlllnaa

/- Walks over abstract states: valid reachability graphs, dead transitions, deadlocks. -/
namespace Go.Proofs.Ytbelopdphlllnaa
open Go.RowKit

abbrev DRg := List ByteArray × List DMv
instance (n m : Nat) (v : DMv) : Decidable (MvOk n m v) := inferInstanceAs (Decidable (_ ∧ _))
def GoodR (r : DRg) : Prop := (1 ≤ r.1.length ∧ r.1.length ≤ 300) ∧ r.2.length ≤ 4000 ∧ r.1.Nodup ∧ ∀ v ∈ r.2, MvOk r.1.length 24 v
instance (r : DRg) : Decidable (GoodR r) := inferInstanceAs (Decidable (_ ∧ _))
def seenL (l : List ByteArray) : List (ByteArray × Bool) := l.foldl (fun m x => mset .str m x true) []
section
variable {r : DRg} {k : Nat} {x y : ByteArray} {v : DMv} {l : List ByteArray} {m : List (ByteArray × Bool)}
end
/-- The numbers below k at which f does not hold. -/
def freeI (f : Int → Bool) : Nat → List Int
  | 0 => []
  | k + 1 => freeI f k ++ (if f (k : Int) = true then [] else [(k : Int)])
section
variable {f : Int → Bool} {k n : Nat} {α : Type _} {l : List α} {p : α → Bool} {x : α}
end
def byT (r : DRg) (t : Int) : Bool := r.2.any fun v => decide (v.2.1 = t)
def fromK (r : DRg) (t : Int) : Bool := r.2.any fun v => decide (v.1 = t)
def mfV (r : DRg) (k : Int) : List DMv × Bool := if GoodR r ∧ 0 ≤ k ∧ k < r.1.length then (r.2.filter fun v => decide (v.1 = k), true) else ([], false)
def dlV (r : DRg) : List Int × Bool := if GoodR r then (freeI (fromK r) r.1.length, true) else ([], false)
section
variable [∀ s, Decidable (StgOk s)]
def dtV (s : DSTG) (r : DRg) : List Int × Bool := if StgOk s ∧ GoodR r then (freeI (byT r) s.2.2.1.length, true) else ([], false)
end
def filtK (k : Int) (ms : List DMv) : List DMv := ms.filter fun v => decide (v.1 = k)
end Go.Proofs.Ytbelopdphlllnaa
