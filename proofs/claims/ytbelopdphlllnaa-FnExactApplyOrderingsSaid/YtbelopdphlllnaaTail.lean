/- A region that draws its order, whose last operations wait for all the others: the others in whatever order under a condition on the world, then the last ones in the text's order. No program is named here. -/
import Derived.Test.YtbelopdphlllnaaOwn
import Derived.StillTail
import Derived.Deep.RegionHeld3
namespace Go.Proofs.Ytbelopdphlllnaa
open Go.RowKit

/-- The first n operations stand by themselves, their edges lead backwards; the n-th waits for all of them; each later one waits for the one before. -/
def headB (ops : Array Oper) (n : Nat) : Bool :=
  (List.range n).all fun i => match ops[i]? with
    | some o => (o.after.all fun e => !Region.binds .any e || decide (e.on < i)) && (match o.guard with | some (g, _) => decide (g < n) | none => true)
    | none => false
def tailB (l : List Oper) (n : Nat) : Bool :=
  decide (n < l.length) && headB l.toArray n && (List.range n).all (fun i => Region.waitsFor .any l.toArray n i) && Region.chainB .any l.toArray n &&
    Region.seqB .any l.toArray (l.length - n) n (Array.replicate n true ++ Array.replicate (l.length - n) false)
def TailQ (P : Program) (l : List Oper) (n : Nat) (Q : Exit → Act → World → Prop) : Exit → Act → World → Prop
  | .normal, a, w => wpList P l.toArray Q (l.drop n) a w
  | e, a, w => Q e a w

section
variable {P : Program} {Q : Exit → Act → World → Prop} {a : Act} {w : World}

theorem upon_tailQ {l : List Oper} {n : Nat} {o : Oper} {K : Act → World → Prop} {r : Result Next} (h : o.upon P a K (TailQ P l n Q) r) : o.upon P a K Q r := by
  cases r with
  | ok x w' =>
    cases x with
    | enter f args =>
      refine Calls.mono h fun e w'' he => ?_
      cases e <;> exact he
    | _ => exact h
  | halt x w' => cases x <;> exact h

theorem wpAny_zero {ops : Array Oper} {md : Region.Mode} {listed : Array Bool} (hr : Region.ready md ops listed = []) (h : Q .normal a w) : ∀ f, wpAny P md ops Q f listed a w
  | 0 => ⟨hr, h⟩
  | _ + 1 => ⟨fun _ => h, by rw [hr]; simp⟩
theorem wpAny_seq {ops : Array Oper} {md : Region.Mode} : ∀ (l : List Oper) (k : Nat) (listed : Array Bool) (a : Act) (w : World) (f : Nat), (∀ j, l[j]? = ops[k + j]?) →
    Region.seqB md ops l.length k listed = true → wpList P ops Q l a w → wpAny P md ops Q (l.length + f) listed a w
  | [], _, _, _, _, f, _, hB, h => wpAny_zero (by simpa [Region.seqB] using hB) h _
  | o :: l, k, listed, a, w, f, hl, hB, h => by
    have h0 : ops[k]? = some o := by simpa using (hl 0).symm
    simp only [List.length_cons, Region.seqB, Bool.and_eq_true, decide_eq_true_eq] at hB
    rw [show (o :: l).length + f = (l.length + f) + 1 by simp only [List.length_cons]; omega]
    refine ⟨fun h1 => (by rw [hB.1] at h1; cases h1), fun i hi => ?_⟩
    rw [hB.1] at hi
    have hik : i = k := by simpa using hi
    subst hik
    have hw : wpOp P ops Q i (wpList P ops Q l) a w := by unfold wpOp; simp only [h0]; exact h
    exact wpOp_mono (fun a' w' h' => wpAny_seq l (i + 1) _ a' w' f (fun j => by have := hl (j + 1); simpa [Nat.add_assoc, Nat.add_comm 1 j] using this) hB.2 h') hw

theorem getD_app {n g : Nat} {listed : Array Bool} (hs : listed.size = n) (b : Bool) {i : Nat} (hi : i < n) : (listed ++ Array.replicate g false).getD i b = listed.getD i b := by
  simp [hi, hs, Array.getElem_append_left, show i < n + g by omega]
theorem getD_app2 {n g : Nat} {listed : Array Bool} (hs : listed.size = n) (b : Bool) {i : Nat} (hi : n ≤ i) (hi2 : i < n + g) : (listed ++ Array.replicate g false).getD i b = false := by
  simp [hs, hi2, Array.getElem_append_right, hi]
theorem set_app {n g : Nat} {listed : Array Bool} (hs : listed.size = n) {i : Nat} (hi : i < n) : (listed ++ Array.replicate g false).setIfInBounds i true = listed.setIfInBounds i true ++ Array.replicate g false := by
  rw [Array.setIfInBounds_append, if_pos (by omega)]

/-- A head all of whose edges lead backwards: none may come up: all have. -/
theorem all_listed {ops : Array Oper} {n : Nat} {listed : Array Bool} (hH : headB ops n = true) (hs : listed.size = n) (hr : ∀ i, i < n → i ∉ Region.ready .any ops (listed ++ Array.replicate (ops.size - n) false)) (hn : n ≤ ops.size) : ∀ i, i < n → listed.getD i true = true := by
  intro i
  induction i using Nat.strongRecOn with
  | _ i ih =>
    intro hi
    cases h : listed.getD i true with
    | true => rfl
    | false =>
      refine absurd (mem_ready.2 ⟨by rw [getD_app hs _ hi]; exact h, ?_⟩) (hr i hi)
      have h1 := List.all_eq_true.1 hH i (List.mem_range.2 hi)
      cases ho : ops[i]? with
      | none => rw [ho] at h1; cases h1
      | some o =>
        rw [ho] at h1
        simp only [Bool.and_eq_true, Array.all_eq_true_iff_forall_mem, Bool.or_eq_true, Bool.not_eq_true', decide_eq_true_eq] at h1
        refine ⟨o, rfl, fun e he hb => ?_⟩
        have h2 := h1.1 e he
        rw [hb] at h2
        have h3 : e.on < i := by simpa using h2
        rw [getD_app hs _ (by omega)]
        have := ih e.on h3 (by omega)
        have h4 : e.on < listed.size := by omega
        simpa [h4] using this

theorem wpAny_held_tail {S : World → Prop} (l : List Oper) (n : Nat) (hB : tailB l n = true) : ∀ (f : Nat) (listed : Array Bool) (a : Act) (w : World), listed.size = n →
    wpAnyH P .any (l.take n).toArray (TailQ P l n Q) S f listed a w → wpAny P .any l.toArray Q ((l.length - n) + f) (listed ++ Array.replicate (l.length - n) false) a w := by
  simp only [tailB, Bool.and_eq_true, decide_eq_true_eq] at hB
  obtain ⟨⟨⟨⟨hn, hH⟩, hW⟩, hC⟩, hQ⟩ := hB
  have hget : ∀ i, i < n → (l.take n).toArray[i]? = l.toArray[i]? := fun i hi => by simp [List.getElem?_take, hi]
  have hready : ∀ (listed : Array Bool) (i : Nat), listed.size = n → i < n → (i ∈ Region.ready .any (l.take n).toArray listed ↔ i ∈ Region.ready .any l.toArray (listed ++ Array.replicate (l.length - n) false)) := by
    intro listed i hs hi
    rw [mem_ready, mem_ready, hget i hi, getD_app hs _ hi]
    refine and_congr_right fun _ => exists_congr fun o => and_congr_right fun ho => forall_congr' fun e => forall_congr' fun he => forall_congr' fun hb => ?_
    have h1 := List.all_eq_true.1 hH i (List.mem_range.2 hi)
    rw [ho] at h1
    simp only [Bool.and_eq_true, Array.all_eq_true_iff_forall_mem, Bool.or_eq_true, Bool.not_eq_true', decide_eq_true_eq] at h1
    have h2 := h1.1 e he
    rw [hb] at h2
    have h3 : e.on < i := by simpa using h2
    rw [getD_app hs _ (by omega)]
  have hnone : ∀ (listed : Array Bool) (a : Act) (w : World) (f : Nat), listed.size = n → Region.ready .any (l.take n).toArray listed = [] → TailQ P l n Q .normal a w →
      wpAny P .any l.toArray Q ((l.length - n) + f) (listed ++ Array.replicate (l.length - n) false) a w := by
    intro listed a w f hs hr hq
    have hall := all_listed (ops := l.toArray) hH hs (fun i hi h => by
      have := (hready listed i hs hi).2 (by simpa using h)
      rw [hr] at this; cases this) (by simpa using Nat.le_of_lt hn)
    have he : listed = Array.replicate n true := by
      refine Array.ext (by simp [hs]) fun i h1 h2 => ?_
      have := hall i (by omega)
      simpa [h1] using this
    rw [he]
    have hd : (l.drop n).length = l.length - n := by simp
    have := wpAny_seq (P := P) (Q := Q) (md := .any) (ops := l.toArray) (l.drop n) n _ a w f (fun j => by simp [List.getElem?_drop]) (by rw [hd]; exact hQ) hq
    rwa [hd] at this
  intro f
  induction f with
  | zero => intro listed a w hs h; exact hnone listed a w 0 hs h.1 h.2
  | succ f ih =>
    intro listed a w hs h
    by_cases hr : Region.ready .any (l.take n).toArray listed = []
    · exact hnone listed a w (f + 1) hs hr (h.1 hr)
    · obtain ⟨i0, hi0⟩ := List.exists_mem_of_ne_nil _ hr
      have hi0n : i0 < n := by
        obtain ⟨o, ho, _⟩ := (mem_ready.1 hi0).2
        have := (Array.getElem?_eq_some_iff.1 ho).1
        simp at this
        omega
      refine ⟨fun h0 => ?_, fun i hi => ?_⟩
      · have := (hready listed i0 hs hi0n).1 hi0
        rw [h0] at this
        cases this
      · have hin : i < n := by
          rcases Nat.lt_or_ge i n with h' | h'
          · exact h'
          · exfalso
            obtain ⟨hu, o, ho, hall⟩ := mem_ready.1 hi
            have hil : i < l.length := by simpa using (Array.getElem?_eq_some_iff.1 ho).1
            by_cases hie : i = n
            · subst hie
              obtain ⟨o', ho', e, he, hb, hon⟩ := Region.waitsFor_spec (List.all_eq_true.1 hW i0 (List.mem_range.2 hi0n))
              rw [ho] at ho'
              cases ho'
              have h1 := hall e he hb
              rw [hon, getD_app hs _ hi0n, getD_both (mem_ready.1 hi0).1] at h1
              cases h1
            · have h1 := List.all_eq_true.1 hC i (List.mem_range.2 (by simpa using hil))
              simp only [Bool.or_eq_true, decide_eq_true_eq] at h1
              rcases h1 with h1 | h1
              · omega
              · obtain ⟨o', ho', e, he, hb, hon⟩ := Region.waitsFor_spec h1
                rw [ho] at ho'
                cases ho'
                have h2 := hall e he hb
                rw [hon, getD_app2 hs _ (by omega) (by omega)] at h2
                cases h2
        have h1 := h.2 i ((hready listed i hs hin).2 hi)
        unfold wpOp at h1 ⊢
        rw [hget i hin] at h1
        have hHi := List.all_eq_true.1 hH i (List.mem_range.2 hin)
        cases ho : l.toArray[i]? with
        | none => rw [ho] at hHi; cases hHi
        | some o =>
          rw [ho] at h1 hHi
          simp only at h1 hHi ⊢
          have hw : Region.wanted o (yielded (l.take n).toArray a.tmps) = Region.wanted o (yielded l.toArray a.tmps) := by
            unfold Region.wanted
            cases hg : o.guard with
            | none => rfl
            | some gb =>
              rw [hg] at hHi
              obtain ⟨g, b⟩ := gb
              simp only [Bool.and_eq_true, decide_eq_true_eq] at hHi
              simp only [yielded, hget g hHi.2]
          rw [hw] at h1
          have hset := set_app (g := l.length - n) hs hin
          split
          · rename_i hwt
            simp only [hwt, if_true] at h1
            refine h1.imp (fun h2 => ?_) id
            exact Oper.wp_mono (fun a' w' h3 => by rw [hset]; exact ih _ a' w' (by simp [hs]) h3.2) (upon_tailQ h2)
          · rename_i hwt
            simp only [hwt] at h1
            rw [hset]
            exact ih _ _ _ (by simp [hs]) h1.2

theorem wp_region_held_tail {id : Nat} {S : World → Prop} (l : List Oper) (n : Nat) (hm : P.follows .mixedOrders = true) (hB : tailB l n = true) (hS : S w.drew)
    (h : S w.drew → wpAnyH P .any (l.take n).toArray (TailQ P l n Q) S n (Array.replicate n false) a w.drew) : (Code.region id l.toArray true).wp P Q a w := by
  refine wp_region_any hm ?_
  have hn : n ≤ l.length := by simp only [tailB, Bool.and_eq_true, decide_eq_true_eq] at hB; omega
  have h1 := wpAny_held_tail (P := P) (Q := Q) l n hB n (Array.replicate n false) a w.drew (by simp) (h hS)
  have e1 : Array.replicate n false ++ Array.replicate (l.length - n) false = Array.replicate l.toArray.size false := by
    rw [Array.replicate_append_replicate]
    congr 1
    simp
    omega
  rw [e1, show l.length - n + n = l.toArray.size by simp; omega] at h1
  exact h1
end
end Go.Proofs.Ytbelopdphlllnaa
