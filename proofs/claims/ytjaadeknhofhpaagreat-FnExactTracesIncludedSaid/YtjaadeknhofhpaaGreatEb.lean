/- Abstract states: a slice of one's own, of slices: its cells as such, what they lead to apart. No program is named here. -/
import Derived.Test.YtjaadeknhofhpaaGreatAv
import Derived.Test.YtjaadeknhofhpaaGreatWh
import Derived.Shelf.Lays
import Derived.Shelf.Lays2
import Derived.Shelf.Slices.In.SortNone
import Derived.Shelf.Slices.In.CompactI
import Derived.Test.YtjaadeknhofhpaaGreatVh
import Derived.Test.YtjaadeknhofhpaaGreatWz
import Derived.Test.YtjaadeknhofhpaaGreatAl
set_option linter.unusedSimpArgs false
set_option linter.unusedVariables false
set_option linter.unusedSectionVars false
namespace Go.Proofs.YtjaadeknhofhpaaGreat
open Go.RowKit

theorem Rep.fun : ∀ {t : Ty} {w : World} {cs : List Value} {x y : t.Den}, Rep t w cs x → Rep t w cs y → x = y
  | .int, _, _, x, y, h, k => by have h1 := h.1; have h2 := k.1; rw [h1] at h2; simpa using h2
  | .bool, _, _, x, y, h, k => by have h1 : _ = _ := h; have h2 : _ = _ := k; rw [h1] at h2; simpa using h2
  | .str, _, _, x, y, h, k => by have h1 := h.1; have h2 := k.1; rw [h1] at h2; simpa using h2
  | .u8, _, _, x, y, h, k => by
    have h1 : _ = _ := h; have h2 : _ = _ := k; rw [h1] at h2
    simp only [List.cons.injEq, Value.int.injEq, and_true, true_and] at h2
    exact UInt8.toNat_inj.1 (by omega)
  | .vl, _, _, x, y, h, k => by
    have h1 : _ = _ := h; have h2 : _ = _ := k; rw [h1] at h2
    exact hdV_inj (by simpa using h2)
  | .sl E e, w, cs, xs, ys, ⟨A, c, h1, h2, h3, h4⟩, ⟨A', c', k1, k2, k3, k4⟩ => by
    rw [h1] at k1
    simp only [List.cons.injEq, Value.slice.injEq, and_true] at k1
    obtain ⟨rfl, hl, rfl⟩ := k1
    apply List.ext_getElem?
    intro i
    rcases Nat.lt_or_ge i xs.length with hi | hi
    · obtain ⟨b, o, e1, g1⟩ := h4 (by omega)
      obtain ⟨b', o', e2, g2⟩ := k4 (by omega)
      rw [e1] at e2
      cases e2
      obtain ⟨ds, r1, r2⟩ := g1 i xs[i] (List.getElem?_eq_getElem hi)
      obtain ⟨ds', s1, s2⟩ := g2 i ys[i] (List.getElem?_eq_getElem (by omega))
      have hd : ds = ds' := by
        apply List.ext_getElem?
        intro j
        have l1 := r1.len
        have l2 := s1.len
        rcases Nat.lt_or_ge j e.wd with hj | hj
        · have a1 := r2 j ds[j] (List.getElem?_eq_getElem (by omega))
          have a2 := s2 j ds'[j] (List.getElem?_eq_getElem (by omega))
          rw [a1] at a2
          rw [List.getElem?_eq_getElem (by omega), List.getElem?_eq_getElem (by omega)]
          exact a2
        · rw [List.getElem?_eq_none (by omega), List.getElem?_eq_none (by omega)]
      subst hd
      rw [List.getElem?_eq_getElem hi, List.getElem?_eq_getElem (by omega), Rep.fun r1 s1]
    · rw [List.getElem?_eq_none hi, List.getElem?_eq_none (by omega)]
  | .pr a b, w, cs, x, y, ⟨l, r, h1, h2, h3⟩, ⟨l', r', k1, k2, k3⟩ => by
    rw [h1] at k1
    obtain ⟨rfl, rfl⟩ := List.append_inj k1 (by rw [h2.len, k2.len])
    exact Prod.ext (Rep.fun h2 k2) (Rep.fun h3 k3)
open Classical in
/-- The list that a slice shows. -/
noncomputable def rdF (E : TypeId) (e : Ty) (w : World) (v : Hdr) : List e.Den := if h : ∃ x, Rep (.sl E e) w [hdV v] x then h.choose else []
section
variable {A : Amb} {P : Program} {s : St} {Q : Exit → St → Prop} {c : Code}
/-- A slice as such that was one of the pool's, read. -/
theorem Evl.pl {x : Operand} {p : Nat} {e : Ty} {vs : List Hdr} {f : Hdr → e.Den} {v : Hdr} (hx : Evl A s x (.dat .vl v)) (hp : s.tab.ent p = some (.pl false e vs f)) (hv : v ∈ vs) : Evl A s x (.dat e (f v)) := fun gh a w r => by
  obtain ⟨_, _, h3⟩ := r.cx.en p _ hp
  have h1 : Rd gh.N .vl w [a.eval x] v := hx gh a w r
  have h2 : [a.eval x] = [hdV v] := h1.rep
  show Rd gh.N e w [a.eval x] (f v)
  rw [h2]
  exact h3 v hv
end
end Go.Proofs.YtjaadeknhofhpaaGreat

/- slices.Sort and slices.Compact of numbers, by the library's contracts. -/
namespace Go.Proofs.YtjaadeknhofhpaaGreat
open Go.RowKit

section
variable {α : Type} [DecidableEq α] [Inhabited α]
omit [Inhabited α] in
theorem cmpG_snoc (y : α) : ∀ l : List α, cmpG (l ++ [y]) = cmpG l ++ (if l.getLast? = some y then [] else [y])
  | [] => by simp [cmpG]
  | [x] => by
    by_cases h : x = y
    · simp [cmpG, h]
    · simp [cmpG, h]
  | x :: z :: l => by
    have ih := cmpG_snoc y (z :: l)
    have hl : (x :: z :: l).getLast? = (z :: l).getLast? := by simp
    rw [hl]
    show (if x = z then cmpG ((z :: l) ++ [y]) else x :: cmpG ((z :: l) ++ [y])) = (if x = z then cmpG (z :: l) else x :: cmpG (z :: l)) ++ _
    rw [ih]
    split <;> simp
theorem compact_upto (zs : List α) : ∀ m, m ≤ zs.length → Lib.compactUpTo zs.toArray m = cmpG (zs.take m)
  | 0, _ => by simp [Lib.compactUpTo, cmpG]
  | m + 1, hm => by
    have hg : zs[m]? = some zs[m] := List.getElem?_eq_getElem (by omega)
    have hd : (zs.toArray)[m]! = zs[m] := by rw [getElem!_pos _ m (by simp; omega)]; simp
    rw [Lib.compactUpTo_succ, compact_upto zs m (by omega), take_snoc hg, cmpG_snoc, hd]
    refine congrArg _ ?_
    cases m with
    | zero => simp [Lib.keeps]
    | succ k =>
      have hd2 : (zs.toArray)[k]! = zs[k] := by rw [getElem!_pos _ k (by simp; omega)]; simp
      have hl : (zs.take (k + 1)).getLast? = some zs[k] := by
        rw [List.getLast?_eq_getElem?, List.length_take, show min (k + 1) zs.length - 1 = k by omega, List.getElem?_take_of_lt (by omega)]
        exact List.getElem?_eq_getElem (by omega)
      rw [hl]
      have hkp : Lib.keeps zs.toArray (k + 1) = !decide (zs[k] = zs[k + 1]) := by
        unfold Lib.keeps
        rw [hd, show k + 1 - 1 = k from rfl, hd2]
        by_cases e : zs[k] = zs[k + 1]
        · simp [e]
        · simp [e, Ne.symm e]
      rw [hkp]
      by_cases e : zs[k] = zs[k + 1]
      · simp [e]
      · simp [e]
theorem compact_eq (zs : List α) : Lib.compact zs = cmpG zs := by
  have := compact_upto zs zs.length (Nat.le_refl _)
  rw [List.take_length] at this
  exact this
omit [Inhabited α] in
theorem cmpG_len : ∀ l : List α, (cmpG l).length ≤ l.length
  | [] => Nat.le_refl _
  | [_] => Nat.le_refl _
  | x :: y :: l => by
    have := cmpG_len (y :: l)
    unfold cmpG
    split
    · simp only [List.length_cons] at *; omega
    · simp only [List.length_cons] at *; omega
end
/-- What the library's contract says of striking repetitions out of a row of numbers. -/
def CompsI (P : Program) (f : FuncId) : Prop := ∀ (blk cap : Nat) (zs : List Int) (w : World), Sort.Holds (Value.int .i64) w blk 0 zs.toArray → zs.length ≤ 9223372036854775807 → zs.length ≤ cap →
  Calls P f #[.slice (some ⟨blk, 0, none⟩) zs.length cap] w fun e w' => e = .returned (.slice (some ⟨blk, 0, none⟩) (cmpG zs).length cap) ∧ ∃ q, w' = Sort.putRow (Value.int .i64) (Sort.ahead w q) blk 0 (cmpG zs ++ List.replicate (zs.length - (cmpG zs).length) 0).toArray
def CompsNil (P : Program) (f : FuncId) : Prop := ∀ w : World, Calls P f #[.slice none 0 0] w fun e w' => e = .returned (.slice none 0 0) ∧ w' = w
theorem FC.compI {P : Program} {f : FuncId} {E : TypeId} (hS : CompsI P f) (hN : CompsNil P f) (xs : List Int) (hl : xs.length ≤ 1000000000) : FC P f [(false, [.ref 0])] [(0, some (.arr E .int xs))] 0 (Own1 E .int (cmpG xs)) := fun gh w vs cx ha => by
  obtain ⟨v, vs', rfl, ⟨l, hl_, h1⟩, rfl⟩ := ha
  simp only [List.cons.injEq, and_true] at hl_
  subst hl_
  have hv : v = gh.h 0 := h1 ⟨_, rfl⟩
  subst hv
  have hO : Own (.sl E .int) w (gh.f 0) [gh.h 0] xs := cx.en 0 _ rfl
  have alq : ∀ (y : List Int) q, Tab.al [(0, some (Ent.arr E .int y))] q → q = 0 := fun y q ⟨e, he⟩ => by
    rw [Tab.ent_cons] at he
    split at he
    · assumption
    · cases he
  rcases hO with ⟨hf, hc, hx⟩ | ⟨g, cap, cur, fps, hf, hc, hb, hn, hcap, hsz, hL⟩
  · simp only [List.cons.injEq, and_true] at hc
    subst hx
    rw [hc]
    refine Calls.mono (hN w) fun e w' he => ?_
    obtain ⟨rfl, rfl⟩ := he
    refine ⟨_, _, _, gh, rfl, ⟨rfl, rfl⟩, ⟨fun q e he => ?_, fun q q' hq hq' hne => absurd ((alq _ q hq).trans (alq _ q' hq').symm) hne, fun q hq => ?_, fun q hq g hg => ?_, fun g hg => cx.nl g hg⟩, ⟨_, rfl, fun _ => hc.symm⟩,
      ⟨Grw.refl _, fun _ _ _ => rfl, fun g hg => .inl hg, fun q hq g hg => ?_⟩, fun q h _ => absurd h (Nat.not_lt_zero _)⟩
    · rw [Tab.ent_cons] at he
      split at he
      · rename_i e0; subst e0; cases he
        exact .inl ⟨hf, by rw [hc], rfl⟩
      · cases he
    · rw [alq _ q hq, hf]; exact List.nodup_nil
    · rw [alq _ q hq, hf] at hg; cases hg
    · rw [alq _ q hq, hf] at hg; cases hg
  · simp only [List.cons.injEq, and_true] at hc
    rw [Nat.mul_one] at hL
    obtain ⟨rfl, ht, hr⟩ := ownL_ints hL
    have hg : g < w.heap.size := (Array.getElem?_eq_some_iff.1 hb).1
    rw [hc]
    have hm : xs.length ≤ 9223372036854775807 := by unfold maxLen at hcap; omega
    refine Calls.mono (hS g cap xs w (holds_of_blockI hb ht) hm hn) fun e w' he => ?_
    obtain ⟨rfl, n, rfl⟩ := he
    have hcl := cmpG_len xs
    have hlen : (cmpG xs ++ List.replicate (xs.length - (cmpG xs).length) (0 : Int)).length = xs.length := by simp; omega
    generalize hR : cmpG xs ++ List.replicate (xs.length - (cmpG xs).length) (0 : Int) = row at *
    have hgrow : Sort.putRow (Value.int .i64) (Sort.ahead w n) g 0 row.toArray = Sort.grow (Sort.putRow (Value.int .i64) (Sort.ahead w n) g 0 row.toArray) #[] := (Sort.grow_empty _).symm
    rw [hgrow]
    obtain ⟨k1, k2, k3, k4, k5⟩ := grownBy_sortedI (w := w) (g := g) (n := n) (os := #[]) row.toArray
    have h0 : ∀ x : Int, x ∈ cmpG xs → x ∈ xs := fun x hx => cmpG_mem.1 hx
    refine ⟨_, _, _, ⟨fun _ => .slice (some ⟨g, 0, none⟩) (cmpG xs).length cap, gh.f, gh.N⟩, rfl, ⟨rfl, rfl⟩, ⟨fun q e he => ?_, fun q q' hq hq' hne => absurd ((alq _ q hq).trans (alq _ q' hq').symm) hne, fun q hq => ?_, fun q hq g' hg' => ?_, fun g' hg' => Nat.lt_of_lt_of_le (cx.nl g' hg') k4⟩, ⟨_, rfl, fun _ => rfl⟩,
      ⟨⟨k1, k2, k3, k4⟩, fun g' h1 h2 => ?_, fun g' h1 => .inl h1, fun q hq g' hg' => ?_⟩, fun q h _ => absurd h (Nat.not_lt_zero _)⟩
    · rw [Tab.ent_cons] at he
      split at he
      · rename_i e0; subst e0; cases he
        refine .inr ⟨g, cap, _, [], hf, rfl, heap_sortedI _ hb, by omega, hcap, by simpa [Sort.putCells] using hsz, ?_⟩
        show OwnL (Own .int _) [] (List.take ((cmpG xs).length * 1) _) (cmpG xs)
        have ht2 := take_putCellsI cur row (by have : cur.size = cap * 1 := hsz; omega)
        rw [Nat.mul_one, show (cmpG xs).length = min (cmpG xs).length row.length by omega, ← List.take_take, ht2, ← List.map_take, ← hR, List.take_left' rfl]
        exact ownL_mk fun x hx => hr x (h0 x hx)
      · cases he
    · rw [alq _ q hq]; exact cx.nd 0 ⟨_, rfl⟩
    · rw [alq _ q hq] at hg'; exact cx.no 0 ⟨_, rfl⟩ g' hg'
    · exact k5 g' h1 fun e0 => h2 0 ⟨_, rfl⟩ (by rw [hf]; cases e0; exact List.mem_cons_self ..)
    · rw [alq _ q hq] at hg'; exact .inr ⟨0, ⟨_, rfl⟩, hg'⟩
def sortL_ren : Go.Shelf.Ren := ⟨fun | 189 => 255 | 125 => 228 | 257 => 325 | 128 => 304 | 129 => 305 | 294 => 363 | 295 => 364 | 296 => 365 | 297 => 366 | 298 => 367 | 299 => 368 | 216 => 369 | 300 => 370 | 301 => 371 | 328 => 383 | 329 => 353 | 330 => 354 | 331 => 384 | 332 => 385 | 215 => 306 | 343 => 387 | n => n, fun | 28 => 95 | 3 => 3 | 46 => 253 | 0 => 0 | 51 => 321 | 53 => 119 | 4 => 4 | 183 => 315 | 182 => 314 | 131 => 220 | 5 => 5 | 9 => 9 | 218 => 360 | 222 => 364 | 228 => 383 | 229 => 113 | n => n, fun | n => n⟩
theorem sortL : Go.Proofs.Lays.n189 Tryz.prog sortL_ren := {
  mixed := by kernel_rfl,
  f125 := Tryz.func228.trans (congrArg some (by kernel_rfl)),
  f128 := Tryz.func304.trans (congrArg some (by kernel_rfl)),
  f129 := Tryz.func305.trans (congrArg some (by kernel_rfl)),
  f189 := Tryz.func255.trans (congrArg some (by kernel_rfl)),
  f215 := Tryz.func306.trans (congrArg some (by kernel_rfl)),
  f216 := Tryz.func369.trans (congrArg some (by kernel_rfl)),
  f257 := Tryz.func325.trans (congrArg some (by kernel_rfl)),
  f294 := Tryz.func363.trans (congrArg some (by kernel_rfl)),
  f295 := Tryz.func364.trans (congrArg some (by kernel_rfl)),
  f296 := Tryz.func365.trans (congrArg some (by kernel_rfl)),
  f297 := Tryz.func366.trans (congrArg some (by kernel_rfl)),
  f298 := Tryz.func367.trans (congrArg some (by kernel_rfl)),
  f299 := Tryz.func368.trans (congrArg some (by kernel_rfl)),
  f300 := Tryz.func370.trans (congrArg some (by kernel_rfl)),
  f301 := Tryz.func371.trans (congrArg some (by kernel_rfl)),
  f328 := Tryz.func383.trans (congrArg some (by kernel_rfl)),
  f329 := Tryz.func353.trans (congrArg some (by kernel_rfl)),
  f330 := Tryz.func354.trans (congrArg some (by kernel_rfl)),
  f331 := Tryz.func384.trans (congrArg some (by kernel_rfl)),
  f332 := Tryz.func385.trans (congrArg some (by kernel_rfl)),
  f343 := Tryz.func387.trans (congrArg some (by kernel_rfl)),
  t0 := Tryz.underlying0,
  a0 := Tryz.isAgg0,
  z0 := Tryz.sizeOf0,
  v0 := Tryz.zeroValue0,
  t3 := Tryz.underlying3,
  a3 := Tryz.isAgg3,
  z3 := Tryz.sizeOf3,
  v3 := Tryz.zeroValue3,
  t4 := Tryz.underlying4,
  a4 := Tryz.isAgg4,
  z4 := Tryz.sizeOf4,
  v4 := Tryz.zeroValue4,
  t5 := Tryz.underlying5,
  a5 := Tryz.isAgg5,
  z5 := Tryz.sizeOf5,
  v5 := Tryz.zeroValue5,
  t9 := Tryz.underlying9,
  a9 := Tryz.isAgg9,
  z9 := Tryz.sizeOf9,
  v9 := Tryz.zeroValue9,
  t28 := Tryz.underlying95,
  a28 := Tryz.isAgg95,
  z28 := Tryz.sizeOf95,
  v28 := Tryz.zeroValue95,
  t46 := Tryz.underlying253,
  a46 := Tryz.isAgg253,
  z46 := Tryz.sizeOf253,
  v46 := Tryz.zeroValue253,
  t51 := Tryz.underlying321,
  a51 := Tryz.isAgg321,
  z51 := Tryz.sizeOf321,
  v51 := Tryz.zeroValue321,
  t53 := Tryz.underlying119,
  a53 := Tryz.isAgg119,
  z53 := Tryz.sizeOf119,
  v53 := Tryz.zeroValue119,
  t131 := Tryz.underlying220,
  a131 := Tryz.isAgg220,
  z131 := Tryz.sizeOf220,
  v131 := Tryz.zeroValue220,
  t182 := Tryz.underlying314,
  a182 := Tryz.isAgg314,
  z182 := Tryz.sizeOf314,
  v182 := Tryz.zeroValue314,
  t183 := Tryz.underlying315,
  a183 := Tryz.isAgg315,
  z183 := Tryz.sizeOf315,
  v183 := Tryz.zeroValue315,
  t218 := Tryz.underlying360,
  a218 := Tryz.isAgg360,
  z218 := Tryz.sizeOf360,
  v218 := Tryz.zeroValue360,
  t222 := Tryz.underlying364,
  a222 := Tryz.isAgg364,
  z222 := Tryz.sizeOf364,
  v222 := Tryz.zeroValue364,
  t228 := Tryz.underlying383,
  a228 := Tryz.isAgg383,
  z228 := Tryz.sizeOf383,
  v228 := Tryz.zeroValue383,
  t229 := Tryz.underlying113,
  a229 := Tryz.isAgg113,
  z229 := Tryz.sizeOf113,
  v229 := Tryz.zeroValue113 }
theorem sortsI : SortsI Tryz.prog 255 := fun blk cap zs w hH hb hl => calls_of_every_depth fun D => AnyS.slices_Sort_int_in sortL D blk 0 cap zs w hH hb hl
theorem sortsNil : SortsNil Tryz.prog 255 := fun w => Calls.mono (Any.slices_Sort_int_none sortL none 0 w) fun _ _ ⟨h1, h2⟩ => ⟨h1, h2 ▸ Nw.refl _⟩
theorem fc_sort (l : List Int) (hl : l.length ≤ 1000000000) : FC Tryz.prog 255 [(false, [.ref 0])] [(0, some (.arr 3 .int l))] 1 (Is (.tup []) [(0, some (.arr 3 .int (isort l)))]) := FC.sortI sortsI sortsNil l hl
def compactL_ren : Go.Shelf.Ren := ⟨fun | 20 => 256 | n => n, fun | 22 => 95 | 3 => 3 | 4 => 4 | 0 => 0 | n => n, fun | n => n⟩
theorem compactL : Go.Proofs.Lays2.n20 Tryz.prog compactL_ren := {
  mixed := by kernel_rfl,
  f20 := Tryz.func256.trans (congrArg some (by kernel_rfl)),
  t0 := Tryz.underlying0,
  a0 := Tryz.isAgg0,
  z0 := Tryz.sizeOf0,
  v0 := Tryz.zeroValue0,
  t3 := Tryz.underlying3,
  a3 := Tryz.isAgg3,
  z3 := Tryz.sizeOf3,
  v3 := Tryz.zeroValue3,
  t4 := Tryz.underlying4,
  a4 := Tryz.isAgg4,
  z4 := Tryz.sizeOf4,
  v4 := Tryz.zeroValue4,
  t22 := Tryz.underlying95,
  a22 := Tryz.isAgg95,
  z22 := Tryz.sizeOf95,
  v22 := Tryz.zeroValue95,
  i3 := by kernel_rfl }
theorem compsI : CompsI Tryz.prog 256 := fun blk cap zs w hH h1 h2 => by
  have h := calls_of_every_depth fun D => AnyS.slices_Compact_int_in compactL D blk 0 cap zs w hH h1 h2
  rw [compact_eq] at h
  exact h
theorem compsNil : CompsNil Tryz.prog 256 := fun w => calls_of_every_depth fun D => AnyS.slices_Compact_int_empty_in compactL D none 0 w
theorem fc_compact (l : List Int) (hl : l.length ≤ 1000000000) : FC Tryz.prog 256 [(false, [.ref 0])] [(0, some (.arr 3 .int l))] 0 (Own1 3 .int (cmpG l)) := FC.compI compsI compsNil l hl
end Go.Proofs.YtjaadeknhofhpaaGreat

/- Walks over abstract states: tidied lists of numbers; labels; which signals are no inputs; the name of the next state signal. -/
namespace Go.Proofs.YtjaadeknhofhpaaGreat
open Go.RowKit
set_option maxRecDepth 100000
set_option maxHeartbeats 4000000

/-- The targets of the arcs with a label. -/
def swL (as_ : List DAr) (l : Int × Bool) : List Int := (as_.filter fun a => decide (a.2.1 = l.1 ∧ a.2.2.1 = l.2)).map fun a => a.2.2.2
def inpV (c : DSg) (sig : Int) : Bool := decide (0 ≤ sig) && decide (((c.1[sig.toNat]?).getD (ByteArray.empty, 0)).2 = 1)
/-- The numbers of the signals that are no inputs. -/
def outsL (l : List DSignal) (k : Nat) : List Int := ((List.range k).filter fun i => !decide (((l[i]?).getD (ByteArray.empty, 0)).2 = 1)).map fun i => ((i : Nat) : Int)
def stNm (c : DSg) : ByteArray := if idxF (fun x : DSignal => decide (x.1 = (⟨#[122, 48]⟩ : ByteArray))) c.1 < 0 then ⟨#[122, 48]⟩ else if idxF (fun x : DSignal => decide (x.1 = (⟨#[122, 49]⟩ : ByteArray))) c.1 < 0 then ⟨#[122, 49]⟩ else ⟨#[122, 50]⟩
section
variable {c : DSg} {l : List Int} {as_ : List DAr} {a : DAr} {p : Int × Bool} {k : Nat} {n m y sig : Int} {x : DSignal} {ss : List DSignal}
theorem put_lo (hP : ∀ j : Nat, (j : Int) < m → ∀ y, l[j]? = some y → y < n) (h : l[m.toNat]? = some n) : l = putG ltI n l :=
  (putG_same (k := m.toNat) (fun j hj y hy => by have := hP j (by omega) y hy; simp [ltI, this]) h (by simp [ltI])).symm
theorem put_at (hP : ∀ j : Nat, (j : Int) < m → ∀ y, l[j]? = some y → y < n) (h0 : 0 ≤ m) (h1 : m ≤ (l.length : Int)) (h : ∀ y, l[m.toNat]? = some y → ¬ y < n ∧ y ≠ n) : l.take m.toNat ++ n :: l.drop m.toNat = putG ltI n l :=
  (putG_at (k := m.toNat) (fun j hj y hy => by have := hP j (by omega) y hy; simp [ltI, this]) (by omega) fun y hy => by have := h y hy; simp [ltI, this]).symm
theorem put_at2 (hP : ∀ j : Nat, (j : Int) < m → ∀ y, l[j]? = some y → y < n) (h0 : 0 ≤ m) (h1 : m ≤ (l.length : Int)) (h : ∀ y, l[m.toNat]? = some y → ¬ y < n ∧ y ≠ n) :
    (([] ++ (l.take (0 + m.toNat)).drop 0) ++ [n]) ++ (l.take (m.toNat + (l.length - m.toNat))).drop m.toNat = putG ltI n l := by
  rw [← put_at hP h0 h1 h, show m.toNat + (l.length - m.toNat) = l.length by omega, List.take_length]
  simp
abbrev zNames : List ByteArray := [(⟨#[122, 48]⟩ : ByteArray), (⟨#[122, 49]⟩ : ByteArray)]
end

theorem fc_impl_tidy (l : List Int) (hl : l.length ≤ 1000000) : FC Tryz.prog 153 [(false, [.ref 0])] [(0, some (.arr 3 .int l))] 0 (Own1 3 .int (ofG ltI l)) := by
 refine FC.go Tryz.func153 rfl rfl Tryz.ntmps153 fun O_ hO w0_ N0_ X_ h0_ f0_ => ?_
 iterate 5 refine w_ ?_
 refine lc (dP 1 [] (fc_sort l (by omega)) enters_255) ?_
 iterate 3 refine w_ ?_
 refine lc (dP 2 [] (fc_compact (isort l) (by rw [isort_len]; omega)) enters_256) ?_
 iterate 2 refine w_ ?_
 refine AC.ret ?_
 subst hO
 refine fin_own (e := .int) (xs := (cmpG (isort l))) (Res.one rfl (Rs.tmp rfl)) rfl ?_
 exact tidy_of _

theorem fc_spec_l1Has (l : List Int) (n : Int)  : FC Tryz.prog 281 [(false, [.dat (.sl 3 .int) l]), (false, [dI n])] [] 0 (Pure (lB (decide (n ∈ l)))) := by
 refine FC.go Tryz.func281 rfl rfl Tryz.ntmps281 fun O_ hO w0_ N0_ X_ h0_ f0_ => ?_
 refine AC.fact (fact_int (x := .tmp 1) (Evl.tmp rfl)) fun hi1 => ?_
 iterate 6 refine w_ ?_
 refine AL.fact (fact_len (x := .tmp 7) (Evl.tmp rfl)) fun hl2 => ?_
 iterate 4 refine w_ ?_
 refine AC.loopW (fun m_ s_ => ∃ (k : Nat), k ≤ l.length ∧ m_ = l.length - k ∧ (∀ j, j < k → ∀ y, l[j]? = some y → ¬ y = n) ∧ s_ = ⟨[(1, lI n), (7, lf (.dat (.sl 3 .int) l)), (8, lI (l.length : Int)), (9, lI (k : Int))], []⟩) ⟨0, Nat.zero_le _, rfl, (fun j hj => absurd hj (Nat.not_lt_zero j)), rfl⟩ ?_ ?_
 · exact Wk.of [] rfl ⟨rfl, rfl, rfl, rfl, trivial⟩ trivial rfl rfl
 rintro m_ s_ ⟨k, hk3, hm4, hno, rfl⟩
 iterate 4 refine w_ ?_
 cases hb5 : (decide ((k : Int) < (l.length : Int)))
 ·have hb5' := of_decide_eq_false hb5
  refine w_ ?_
  refine AC.exit ?_
  refine (?_ : AC _ _ _ _ _)
  iterate 3 refine w_ ?_
  refine AC.ret ?_
  subst hO
  have e6 : (false : Bool) = (decide (n ∈ l)) := by
   first | exact (decide_eq_false fun hm => by obtain ⟨j, hj⟩ := List.mem_iff_getElem?.1 hm; exact hno j (by have := (List.getElem?_eq_some_iff.1 hj).1; omega) n hj rfl).symm
  exact fin_pure (Res.one rfl (Rs.tmp rfl)) ((congrArg (fun z_ => lB z_) e6)) rfl
 ·have hb5' := of_decide_eq_true hb5
  iterate 5 refine w_ ?_
  obtain ⟨x7, hx8⟩ : ∃ z, l[k]? = some z := ⟨_, List.getElem?_eq_getElem (by omega)⟩
  iterate 2 refine w_ ?_
  refine AL.fact (fact_int (x := .tmp 12) (Evl.tmp rfl)) fun hi9 => ?_
  iterate 7 refine w_ ?_
  cases hb10 : (decide (x7 = n))
  ·have hb10' := of_decide_eq_false hb10
   refine w_ ?_
   refine AC.skip ?_
   refine (?_ : AC _ _ _ _ _)
   iterate 3 refine w_ ?_
   refine AL.nil <| lend ⟨k + 1, by omega, rfl, (each_step hno hx8 (by assumption)), rfl⟩ (by omega) ?_
   exact Wk.of [] rfl ⟨rfl, rfl, rfl, rfl, trivial⟩ trivial rfl rfl
  ·have hb10' := of_decide_eq_true hb10
   iterate 4 refine w_ ?_
   refine AC.ret ?_
   subst hO
   have e11 : (true : Bool) = (decide (n ∈ l)) := by
    exact (decide_eq_true (by have := List.mem_of_getElem? hx8; simp_all)).symm
   exact fin_pure (Res.one rfl (Rs.tmp rfl)) ((congrArg (fun z_ => lB z_) e11)) rfl

theorem fc_spec_l1Put (l : List Int) (n : Int) (hl : l.length ≤ 1000000000) : FC Tryz.prog 287 [(false, [.ref 0]), (false, [dI n])] [(0, some (.arr 3 .int l))] 0 (Own1 3 .int (putG ltI n l)) := by
 refine FC.go Tryz.func287 rfl rfl Tryz.ntmps287 fun O_ hO w0_ N0_ X_ h0_ f0_ => ?_
 refine AC.fact (fact_int (x := .tmp 1) (Evl.tmp rfl)) fun hi1 => ?_
 iterate 8 refine w_ ?_
 refine AC.loopW (fun m_ s_ => ∃  (m : Int), m_ = ((l.length : Int) - m).toNat ∧ (0 ≤ m ∧ m ≤ (l.length : Int)) ∧ (∀ j : Nat, (j : Int) < m → ∀ y, l[j]? = some y → y < n) ∧ s_ = ⟨[(0, lR 0), (1, lI n), (4, lf (.val (.slice none 0 0))), (5, lI m)], [(0, some (.arr 3 .int l))]⟩) ⟨0, rfl, (by omega), (fun j hj => by omega), rfl⟩ ?_ ?_
 · exact Wk.of [] rfl ⟨rfl, rfl, rfl, rfl, trivial⟩ ⟨rfl, trivial⟩ rfl rfl
 rintro m_ s_ ⟨m, hm3, hm, hP, rfl⟩
 iterate 7 refine w_ ?_
 cases hb4 : (decide (m < (l.length : Int)))
 ·have hb4' := of_decide_eq_false hb4
  iterate 9 refine w_ ?_
  refine AC.exit ?_
  refine (?_ : AC _ _ _ _ _)
  iterate 7 refine w_ ?_
  have hb5 : (decide (m < (l.length : Int))) = false := hb4
  try rw [hb5]
  iterate 11 refine w_ ?_
  refine lc (dBs 1 (e := .int) zer_3) ?_
  iterate 2 refine w_ ?_
  refine lc (Does.sliceO (e := .int) (a := 0) (b := (m).toNat) (l := none) (h := (some m)) (Evl.tmp rfl) rfl (by exact trivial) (by exact (Evl.tmp rfl)) und_95 tsh_3 rfl (by first | (simp only [Option.getD_none, Option.getD_some]; omega) | omega | (simp only [Option.getD_none, Option.getD_some, List.length_append, List.length_take, List.length_replicate]; omega)) (by first | (simp only [Option.getD_none, Option.getD_some]; omega) | omega | (simp only [Option.getD_none, Option.getD_some, List.length_append, List.length_take, List.length_replicate]; omega)) (by first | (simp only [Option.getD_none, Option.getD_some]; omega) | omega | (simp only [Option.getD_none, Option.getD_some, List.length_append, List.length_take, List.length_replicate]; omega)) (by first | rfl | simp) (by first | rfl | simp)) <| lc (Does.appendF 2 (Evl.tmp rfl) rfl (Evl.repSub (e := .int) (Evl.tmp rfl) rfl (by omega)) rfl und_95 elb_3 (by first | omega | (simp only [List.length_append, List.length_map, List.length_take, List.length_cons, List.length_nil]; omega) | (simp only [List.length_append, List.length_drop, List.length_take, List.length_cons, List.length_nil]; omega)) rfl (Fresh.of rfl) (nlr rfl)) ?_
  iterate 5 refine w_ ?_
  refine lc (dBs 3 (e := .int) zer_3) ?_
  refine lc (dA 4 elb_3) ?_
  iterate 6 refine w_ ?_
  refine lc (Does.sliceO (e := .int) (a := (m).toNat) (b := l.length - (m).toNat) (l := (some m)) (h := none) (Evl.tmp rfl) rfl (by exact (Evl.tmp rfl)) (by exact trivial) und_95 tsh_3 rfl (by first | (simp only [Option.getD_none, Option.getD_some]; omega) | omega | (simp only [Option.getD_none, Option.getD_some, List.length_append, List.length_take, List.length_replicate]; omega)) (by first | (simp only [Option.getD_none, Option.getD_some]; omega) | omega | (simp only [Option.getD_none, Option.getD_some, List.length_append, List.length_take, List.length_replicate]; omega)) (by first | (simp only [Option.getD_none, Option.getD_some]; omega) | omega | (simp only [Option.getD_none, Option.getD_some, List.length_append, List.length_take, List.length_replicate]; omega)) (by first | rfl | simp) (by first | rfl | simp)) <| lc (Does.appendF 5 (Evl.tmp rfl) rfl (Evl.repSub (e := .int) (Evl.tmp rfl) rfl (by omega)) rfl und_95 elb_3 (by first | omega | (simp only [List.length_append, List.length_map, List.length_take, List.length_cons, List.length_nil]; omega) | (simp only [List.length_append, List.length_drop, List.length_take, List.length_cons, List.length_nil]; omega)) rfl (Fresh.of rfl) (nlr rfl)) ?_
  iterate 2 refine w_ ?_
  refine AC.ret ?_
  subst hO
  refine fin_own (e := .int) (xs := (((([]) ++ ((l.take (0 + ((m).toNat))).drop 0)) ++ ([n])) ++ ((l.take (((m).toNat) + (l.length - (m).toNat))).drop ((m).toNat)))) (Res.one rfl (Rs.tmp rfl)) rfl ?_
  exact put_at2 hP (by omega) (by omega) (fun z hz => by simp_all)
 ·have hb4' := of_decide_eq_true hb4
  iterate 3 refine w_ ?_
  obtain ⟨y, hx7⟩ : ∃ z, l[(m).toNat]? = some z := ⟨_, List.getElem?_eq_getElem (by omega)⟩
  iterate 5 refine w_ ?_
  cases hb8 : (decide (y < n))
  ·have hb8' := of_decide_eq_false hb8
   refine w_ ?_
   refine AC.exit ?_
   refine (?_ : AC _ _ _ _ _)
   iterate 7 refine w_ ?_
   have hb9 : (decide (m < (l.length : Int))) = true := hb4
   try rw [hb9]
   iterate 8 refine w_ ?_
   cases hb10 : (decide (y = n))
   ·have hb10' := of_decide_eq_false hb10
    iterate 3 refine w_ ?_
    refine lc (dBs 6 (e := .int) zer_3) ?_
    iterate 2 refine w_ ?_
    refine lc (Does.sliceO (e := .int) (a := 0) (b := (m).toNat) (l := none) (h := (some m)) (Evl.tmp rfl) rfl (by exact trivial) (by exact (Evl.tmp rfl)) und_95 tsh_3 rfl (by first | (simp only [Option.getD_none, Option.getD_some]; omega) | omega | (simp only [Option.getD_none, Option.getD_some, List.length_append, List.length_take, List.length_replicate]; omega)) (by first | (simp only [Option.getD_none, Option.getD_some]; omega) | omega | (simp only [Option.getD_none, Option.getD_some, List.length_append, List.length_take, List.length_replicate]; omega)) (by first | (simp only [Option.getD_none, Option.getD_some]; omega) | omega | (simp only [Option.getD_none, Option.getD_some, List.length_append, List.length_take, List.length_replicate]; omega)) (by first | rfl | simp) (by first | rfl | simp)) <| lc (Does.appendF 7 (Evl.tmp rfl) rfl (Evl.repSub (e := .int) (Evl.tmp rfl) rfl (by omega)) rfl und_95 elb_3 (by first | omega | (simp only [List.length_append, List.length_map, List.length_take, List.length_cons, List.length_nil]; omega) | (simp only [List.length_append, List.length_drop, List.length_take, List.length_cons, List.length_nil]; omega)) rfl (Fresh.of rfl) (nlr rfl)) ?_
    iterate 5 refine w_ ?_
    refine lc (dBs 8 (e := .int) zer_3) ?_
    refine lc (dA 9 elb_3) ?_
    iterate 6 refine w_ ?_
    refine lc (Does.sliceO (e := .int) (a := (m).toNat) (b := l.length - (m).toNat) (l := (some m)) (h := none) (Evl.tmp rfl) rfl (by exact (Evl.tmp rfl)) (by exact trivial) und_95 tsh_3 rfl (by first | (simp only [Option.getD_none, Option.getD_some]; omega) | omega | (simp only [Option.getD_none, Option.getD_some, List.length_append, List.length_take, List.length_replicate]; omega)) (by first | (simp only [Option.getD_none, Option.getD_some]; omega) | omega | (simp only [Option.getD_none, Option.getD_some, List.length_append, List.length_take, List.length_replicate]; omega)) (by first | (simp only [Option.getD_none, Option.getD_some]; omega) | omega | (simp only [Option.getD_none, Option.getD_some, List.length_append, List.length_take, List.length_replicate]; omega)) (by first | rfl | simp) (by first | rfl | simp)) <| lc (Does.appendF 10 (Evl.tmp rfl) rfl (Evl.repSub (e := .int) (Evl.tmp rfl) rfl (by omega)) rfl und_95 elb_3 (by first | omega | (simp only [List.length_append, List.length_map, List.length_take, List.length_cons, List.length_nil]; omega) | (simp only [List.length_append, List.length_drop, List.length_take, List.length_cons, List.length_nil]; omega)) rfl (Fresh.of rfl) (nlr rfl)) ?_
    iterate 2 refine w_ ?_
    refine AC.ret ?_
    subst hO
    refine fin_own (e := .int) (xs := (((([]) ++ ((l.take (0 + ((m).toNat))).drop 0)) ++ ([n])) ++ ((l.take (((m).toNat) + (l.length - (m).toNat))).drop ((m).toNat)))) (Res.one rfl (Rs.tmp rfl)) rfl ?_
    exact put_at2 hP (by omega) (by omega) (fun z hz => by simp_all)
   ·have hb10' := of_decide_eq_true hb10
    iterate 5 refine w_ ?_
    refine AC.ret ?_
    subst hO
    refine fin_own (e := .int) (xs := l) (Res.one rfl (Rs.tmp rfl)) rfl ?_
    exact put_lo hP (by simp_all)
  ·have hb8' := of_decide_eq_true hb8
   iterate 7 refine w_ ?_
   refine AL.nil <| lend ⟨(m + 1), rfl, (by omega), (fun j hj z hz => by by_cases e : j = m.toNat <;> first | (subst e; simp_all; done) | exact hP j (by omega) z hz), rfl⟩ (by omega) ?_
   exact Wk.of [] rfl ⟨rfl, rfl, rfl, rfl, trivial⟩ ⟨rfl, trivial⟩ rfl rfl

theorem fc_spec_l1OwnS (l : List ByteArray) (hl : l.length ≤ 1000000000) : FC Tryz.prog 258 [(false, [.dat (.sl 9 .str) l])] [] 0 (Own1 9 .str l) := by
 refine FC.go Tryz.func258 rfl rfl Tryz.ntmps258 fun O_ hO w0_ N0_ X_ h0_ f0_ => ?_
 iterate 4 refine w_ ?_
 refine lc (dBs 0 (e := .str) zer_9) ?_
 refine w_ ?_
 refine lc (Does.appendF 1 (Evl.tmp rfl) rfl (Evl.rep (Evl.tmp rfl)) rfl und_49 elb_9 (by first | omega | (simp only [List.length_append, List.length_map, List.length_take, List.length_cons, List.length_nil]; omega) | (simp only [List.length_append, List.length_drop, List.length_take, List.length_cons, List.length_nil]; omega)) rfl (Fresh.of rfl) (nlr rfl)) ?_
 iterate 2 refine w_ ?_
 refine AC.ret ?_
 subst hO
 refine fin_own (e := .str) (xs := (([]) ++ l)) (Res.one rfl (Rs.tmp rfl)) rfl ?_
 rfl

end Go.Proofs.YtjaadeknhofhpaaGreat

/- The traces of a state graph. Plain law. -/
namespace Go.Proofs.YtjaadeknhofhpaaGreat
open Go.RowKit
set_option maxRecDepth 100000
set_option maxHeartbeats 4000000

/-! ### Arcs that are not seen; what is reached by them -/
def inv (h : Int) (a : DAr) : Bool := decide (a.2.1 = -1) || decide (a.2.1 = h)
inductive Ch (rs : List DAr) (h : Int) (S : Int → Prop) : Int → Prop
  | base {u : Int} : S u → Ch rs h S u
  | step {a : DAr} : Ch rs h S a.1 → a ∈ rs → inv h a = true → Ch rs h S a.2.2.2
def stS (h : Int) (S : List Int) (a : DAr) : List Int := if inv h a = true ∧ a.1 ∈ S then putG ltI a.2.2.2 S else S
def stP (h : Int) (rs : List DAr) (S : List Int) : List Int := rs.foldl (stS h) S
def stN (h : Int) (rs : List DAr) : Nat → List Int → List Int
  | 0, S => S
  | k + 1, S => stP h rs (stN h rs k S)
def stl (c : DSg) (h : Int) (S : List Int) : List Int := stN h c.2.2 c.2.1.length S
@[reducible] def Srt (S : List Int) : Prop := S.Pairwise fun x y => ltI x y = true
section
variable {rs as_ : List DAr} {a : DAr} {h : Int} {S T_ : List Int} {P Q : Int → Prop} {u v : Int} {n k : Nat}
theorem Ch.mono (hq : ∀ u, P u → Ch rs h Q u) (k : Ch rs h P u) : Ch rs h Q u := by
  induction k with
  | base h1 => exact hq _ h1
  | step _ h2 h3 ih => exact .step ih h2 h3
theorem Ch.congr (hq : ∀ u, P u ↔ Q u) : Ch rs h P u ↔ Ch rs h Q u := ⟨Ch.mono fun _ k => .base ((hq _).1 k), Ch.mono fun _ k => .base ((hq _).2 k)⟩
theorem stS_sub (hx : u ∈ S) : u ∈ stS h S a := by
  unfold stS; split
  · exact putG_mem.2 (.inr hx)
  · exact hx
theorem stP_sub (hx : u ∈ S) : u ∈ stP h as_ S := by
  induction as_ generalizing S with
  | nil => exact hx
  | cons a l ih => exact ih (stS_sub hx)
theorem stN_sub (hx : u ∈ S) : u ∈ stN h rs k S := by
  induction k with
  | zero => exact hx
  | succ k ih => exact stP_sub ih
theorem stS_srt (hs : Srt S) : Srt (stS h S a) := by
  unfold stS; split
  · exact putG_str ltI_to hs
  · exact hs
theorem stP_srt (hs : Srt S) : Srt (stP h as_ S) := by
  induction as_ generalizing S with
  | nil => exact hs
  | cons a l ih => exact ih (stS_srt hs)
theorem stN_srt (hs : Srt S) : Srt (stN h rs k S) := by
  induction k with
  | zero => exact hs
  | succ k ih => exact stP_srt ih
theorem stP_ch (hsub : ∀ a ∈ as_, a ∈ rs) (hS : ∀ u ∈ S, Ch rs h P u) : ∀ u ∈ stP h as_ S, Ch rs h P u := by
  induction as_ generalizing S with
  | nil => exact hS
  | cons a l ih =>
    refine ih (fun b hb => hsub b (List.mem_cons_of_mem _ hb)) fun u hu => ?_
    unfold stS at hu
    split at hu
    · rename_i h1
      rcases putG_mem.1 hu with rfl | h2
      · exact .step (hS _ h1.2) (hsub a (List.mem_cons_self ..)) h1.1
      · exact hS _ h2
    · exact hS _ hu
theorem stN_ch (hS : ∀ u ∈ S, Ch rs h P u) : ∀ u ∈ stN h rs k S, Ch rs h P u := by
  induction k with
  | zero => exact hS
  | succ k ih => exact stP_ch (fun _ h => h) ih
theorem stP_hit (ha : a ∈ as_) (hi : inv h a = true) (hu : a.1 ∈ S) : a.2.2.2 ∈ stP h as_ S := by
  induction as_ generalizing S with
  | nil => cases ha
  | cons b l ih =>
    rcases List.mem_cons.1 ha with rfl | ha
    · refine stP_sub (as_ := l) ?_
      unfold stS; rw [if_pos ⟨hi, hu⟩]
      exact putG_mem.2 (.inl rfl)
    · exact ih ha (stS_sub hu)
theorem srt_nodup (hs : Srt S) : S.Nodup := hs.imp fun h e => by subst e; simp [ltI] at h
theorem nd_sub {α : Type} [DecidableEq α] : ∀ {l m : List α}, l.Nodup → (∀ x ∈ l, x ∈ m) → l.length ≤ m.length
  | [], _, _, _ => Nat.zero_le _
  | a :: l, m, hn, hs => by
    obtain ⟨h1, h2⟩ := List.nodup_cons.1 hn
    have ha := hs a (List.mem_cons_self ..)
    have h3 := nd_sub (m := m.erase a) h2 fun x hx => (List.mem_erase_of_ne (fun e => h1 (by rw [← e]; exact hx))).2 (hs x (List.mem_cons_of_mem _ hx))
    rw [List.length_erase_of_mem ha] at h3
    have := List.length_pos_of_mem ha
    rw [List.length_cons]; omega
theorem srt_few (hs : Srt S) (hn : ∀ u ∈ S, 0 ≤ u ∧ u < (n : Int)) : S.length ≤ n := by
  have h1 : (S.map Int.toNat).Nodup := by
    unfold List.Nodup
    rw [List.pairwise_map]
    exact (srt_nodup hs).imp_of_mem fun ha hb h e => h (by have := hn _ ha; have := hn _ hb; omega)
  have h2 : (S.map Int.toNat) ⊆ List.range n := fun x hx => by
    obtain ⟨u, hu, rfl⟩ := List.mem_map.1 hx
    have := hn u hu
    exact List.mem_range.2 (by omega)
  have := nd_sub h1 h2
  rwa [List.length_map, List.length_range] at this
theorem stN_rng (hr : ∀ a ∈ rs, 0 ≤ a.2.2.2 ∧ a.2.2.2 < (n : Int)) (hn : ∀ u ∈ S, 0 ≤ u ∧ u < (n : Int)) : ∀ u ∈ stN h rs k S, 0 ≤ u ∧ u < (n : Int) := by
  have h1 : ∀ u, Ch rs h (fun v => v ∈ S) u → 0 ≤ u ∧ u < (n : Int) := fun u hu => by
    induction hu with
    | base h2 => exact hn _ h2
    | step _ h2 _ _ => exact hr _ h2
  exact fun u hu => h1 u (stN_ch (P := fun v => v ∈ S) (fun v hv => .base hv) u hu)
theorem len_lt (hs : Srt S) (ht : Srt T_) (hsub : ∀ u ∈ S, u ∈ T_) : T_ = S ∨ S.length < T_.length := by
  by_cases hc : ∀ x ∈ T_, x ∈ S
  · exact .inl (ltI_to.ext ht hs fun x => ⟨hc x, hsub x⟩)
  · obtain ⟨x, hx⟩ := Classical.not_forall.1 hc
    obtain ⟨h1, h2⟩ := Classical.not_imp.1 hx
    have := nd_sub (l := x :: S) (m := T_) (List.nodup_cons.2 ⟨h2, srt_nodup hs⟩) fun y hy => by
      rcases List.mem_cons.1 hy with rfl | hy
      · exact h1
      · exact hsub y hy
    rw [List.length_cons] at this
    exact .inr this
theorem stN_fix (hs : Srt S) (h1 : stP h rs (stN h rs k S) = stN h rs k S) : ∀ j, stN h rs (k + j) S = stN h rs k S
  | 0 => rfl
  | j + 1 => by rw [← Nat.add_assoc, stN, stN_fix hs h1 j, h1]
theorem stN_grow (hs : Srt S) : (∃ j, j < k ∧ stP h rs (stN h rs j S) = stN h rs j S) ∨ S.length + k ≤ (stN h rs k S).length := by
  induction k with
  | zero => exact .inr (Nat.le_refl _)
  | succ k ih =>
    rcases ih with ⟨j, h1, h2⟩ | h1
    · exact .inl ⟨j, by omega, h2⟩
    · rcases len_lt (stN_srt (h := h) (rs := rs) (k := k) hs) (stP_srt (stN_srt hs)) (fun u hu => stP_sub (h := h) (as_ := rs) hu) with h2 | h2
      · exact .inl ⟨k, by omega, h2⟩
      · right; rw [stN]; omega
theorem stN_closed (hs : Srt S) (hr : ∀ a ∈ rs, 0 ≤ a.2.2.2 ∧ a.2.2.2 < (n : Int)) (hn : ∀ u ∈ S, 0 ≤ u ∧ u < (n : Int)) : ∀ u, u ∈ stN h rs n S ↔ Ch rs h (fun v => v ∈ S) u := by
  have hc : stP h rs (stN h rs n S) = stN h rs n S := by
    rcases stN_grow (rs := rs) (h := h) (k := n) hs with ⟨j, h1, h2⟩ | h1
    · have h3 := stN_fix hs h2 (n - j)
      rw [show j + (n - j) = n by omega] at h3
      rw [h3, h2]
    · have h2 := srt_few (stN_srt (h := h) (rs := rs) (k := n) hs) (stN_rng hr hn)
      have h3 : S = [] := List.eq_nil_of_length_eq_zero (by omega)
      subst h3
      have h4 : ∀ (l : List DAr), stP h l [] = [] := fun l => by
        induction l with
        | nil => rfl
        | cons a l ih => show stP h l (stS h [] a) = []; rw [show stS h [] a = [] from if_neg (by simp)]; exact ih
      have h5 : ∀ k, stN h rs k [] = [] := fun k => by
        induction k with
        | zero => rfl
        | succ k ih => rw [stN, ih, h4]
      rw [h5, h4]
  refine fun u => ⟨stN_ch (fun v hv => .base hv) u, fun hu => ?_⟩
  induction hu with
  | base h1 => exact stN_sub h1
  | step _ h2 h3 ih => rw [← hc]; exact stP_hit h2 h3 ih
/-- The program's way: a list that grows while it is read. -/
def clA (rs : List DAr) (h u : Int) (out : List Int) : List Int := rs.foldl (fun out a => if a.1 = u ∧ inv h a = true ∧ ¬ a.2.2.2 ∈ out then out ++ [a.2.2.2] else out) out
def clL (rs : List DAr) (h : Int) : Nat → Nat → List Int → List Int
  | 0, _, out => out
  | f + 1, k, out => match out[k]? with
    | none => out
    | some u => clL rs h f (k + 1) (clA rs h u out)
theorem clA_pre : ∃ r, clA as_ h u S = S ++ r := by
  unfold clA
  induction as_ generalizing S with
  | nil => exact ⟨[], (List.append_nil _).symm⟩
  | cons a l ih =>
    rw [List.foldl_cons]
    split
    · obtain ⟨r, hr⟩ := ih (S := S ++ [a.2.2.2])
      exact ⟨a.2.2.2 :: r, by rw [hr, List.append_assoc]; rfl⟩
    · exact ih
theorem clA_nodup (hs : S.Nodup) : (clA as_ h u S).Nodup := by
  unfold clA
  induction as_ generalizing S with
  | nil => exact hs
  | cons a l ih =>
    rw [List.foldl_cons]
    split
    · rename_i h1
      exact ih (List.nodup_append.2 ⟨hs, by simp, fun x hx y hy e => by rw [List.mem_singleton] at hy; subst hy; subst e; exact h1.2.2 hx⟩)
    · exact ih hs
theorem clA_ch (hsub : ∀ a ∈ as_, a ∈ rs) (hu : Ch rs h P u) (hS : ∀ v ∈ S, Ch rs h P v) : ∀ v ∈ clA as_ h u S, Ch rs h P v := by
  unfold clA
  induction as_ generalizing S with
  | nil => exact hS
  | cons a l ih =>
    rw [List.foldl_cons]
    refine ih (fun b hb => hsub b (List.mem_cons_of_mem _ hb)) ?_
    split
    · rename_i h1
      intro v hv
      rcases List.mem_append.1 hv with hv | hv
      · exact hS v hv
      · rw [List.mem_singleton] at hv; subst hv
        exact .step (by rw [h1.1]; exact hu) (hsub a (List.mem_cons_self ..)) h1.2.1
    · exact hS
theorem clA_hit (ha : a ∈ as_) (hi : inv h a = true) (hu : a.1 = u) : a.2.2.2 ∈ clA as_ h u S := by
  induction as_ generalizing S with
  | nil => cases ha
  | cons b l ih =>
    rcases List.mem_cons.1 ha with rfl | ha
    · unfold clA
      rw [List.foldl_cons]
      split
      · obtain ⟨r, hr⟩ := clA_pre (as_ := l) (h := h) (u := u) (S := S ++ [a.2.2.2])
        unfold clA at hr
        rw [hr]; simp
      · rename_i h1
        obtain ⟨r, hr⟩ := clA_pre (as_ := l) (h := h) (u := u) (S := S)
        unfold clA at hr
        rw [hr]
        exact List.mem_append_left _ (Classical.byContradiction fun g => h1 ⟨hu, hi, g⟩)
    · unfold clA at ih ⊢
      rw [List.foldl_cons]; exact ih ha
/-- What the walk of 'closed' keeps. -/
structure ClI (rs : List DAr) (h : Int) (P : Int → Prop) (k : Nat) (out : List Int) : Prop where
  nod : out.Nodup
  ch : ∀ v ∈ out, Ch rs h P v
  bas : ∀ v, P v → v ∈ out
  don : ∀ (j : Nat) w, j < k → out[j]? = some w → ∀ a ∈ rs, a.1 = w → inv h a = true → a.2.2.2 ∈ out
  le : k ≤ out.length
theorem ClI.zero (hs : S.Nodup) (hp : ∀ v, P v ↔ v ∈ S) : ClI rs h P 0 S := ⟨hs, fun v hv => .base ((hp v).2 hv), fun v hv => (hp v).1 hv, fun j w hj => absurd hj (Nat.not_lt_zero _), Nat.zero_le _⟩
theorem ClI.step {out : List Int} (g : ClI rs h P k out) (hu : out[k]? = some u) : ClI rs h P (k + 1) (clA rs h u out) := by
  obtain ⟨r, hr⟩ := clA_pre (as_ := rs) (h := h) (u := u) (S := out)
  have hk := (List.getElem?_eq_some_iff.1 hu).1
  refine ⟨clA_nodup g.nod, clA_ch (fun _ h => h) (g.ch u (List.mem_of_getElem? hu)) g.ch, fun v hv => by rw [hr]; exact List.mem_append_left _ (g.bas v hv), fun j w hj hw a ha e hi => ?_, by rw [hr, List.length_append]; omega⟩
  by_cases e1 : j = k
  · subst e1
    have hw : out[j]? = some w := by rw [hr, List.getElem?_append_left hk] at hw; exact hw
    rw [hu] at hw; cases hw
    exact clA_hit ha hi e
  · have hj2 : j < out.length := by omega
    rw [hr, List.getElem?_append_left hj2] at hw
    rw [hr]; exact List.mem_append_left _ (g.don j w (by omega) hw a ha e hi)
theorem ClI.end_ {out : List Int} (g : ClI rs h P k out) (hk : out.length ≤ k) : ∀ v, v ∈ out ↔ Ch rs h P v := by
  refine fun v => ⟨g.ch v, fun hv => ?_⟩
  induction hv with
  | base h1 => exact g.bas _ h1
  | step _ h2 h3 ih =>
    obtain ⟨j, hj⟩ := List.mem_iff_getElem?.1 ih
    exact g.don j _ (by have := (List.getElem?_eq_some_iff.1 hj).1; omega) hj _ h2 rfl h3
end

/-! ### Words -/
def isSg (b : UInt8) : Bool := b == 43 || b == 45
def sgB (up : Bool) : ByteArray := if up = true then ⟨#[43]⟩ else ⟨#[45]⟩
def wdA (c : DSg) (a : DAr) : ByteArray := ((c.1[a.2.1.toNat]?).getD (ByteArray.empty, 0)).1 ++ sgB a.2.2.1
def tl (t : ByteArray) : List UInt8 := t.data.toList
def Ends (l : List UInt8) : Prop := l = [] ∨ ∃ l0 s, l = l0 ++ [s] ∧ isSg s = true
theorem tl_app (s t : ByteArray) : tl (s ++ t) = tl s ++ tl t := by simp [tl]
theorem tl_inj {s t : ByteArray} (h : tl s = tl t) : s = t := by
  cases s; cases t; simp only [tl] at h; congr; exact Array.toList_inj.1 h
theorem ends_inj {T T' N N' : List UInt8} (h : Ends T) (h' : Ends T') (k : ∀ b ∈ N, isSg b = false) (k' : ∀ b ∈ N', isSg b = false) (e : T ++ N = T' ++ N') : T = T' ∧ N = N' := by
  have tw : ∀ {T N : List UInt8}, Ends T → (∀ b ∈ N, isSg b = false) → ((T ++ N).reverse.takeWhile fun b => !isSg b) = N.reverse := fun {T N} h k => by
    rw [List.reverse_append, List.takeWhile_append_of_pos (fun b hb => by rw [k b (List.mem_reverse.1 hb)]; rfl)]
    rcases h with rfl | ⟨l0, s, rfl, hs⟩
    · simp
    · rw [List.reverse_append, List.reverse_singleton, List.singleton_append, List.takeWhile_cons, hs]; simp
  have h1 := tw h k
  rw [e, tw h' k'] at h1
  have h2 := List.reverse_inj.1 h1
  subst h2
  exact ⟨List.append_cancel_right e, rfl⟩

end Go.Proofs.YtjaadeknhofhpaaGreat

/- The traces of a state graph: levels. Plain law. -/
namespace Go.Proofs.YtjaadeknhofhpaaGreat
open Go.RowKit
set_option maxRecDepth 100000
set_option maxHeartbeats 4000000

inductive Tr (c : DSg) (h : Int) : Nat → ByteArray → Int → Prop
  | zero : Tr c h 0 ByteArray.empty 0
  | still {n : Nat} {t : ByteArray} {a : DAr} : Tr c h n t a.1 → a ∈ c.2.2 → inv h a = true → Tr c h n t a.2.2.2
  | word {n : Nat} {t : ByteArray} {a : DAr} : Tr c h n t a.1 → a ∈ c.2.2 → inv h a = false → Tr c h (n + 1) (t ++ wdA c a) a.2.2.2
@[reducible] def DTx := ByteArray × List Int × Int
@[reducible] def DLv := List (ByteArray × List Int)
/-- A word seen from states at a text. -/
def Vs (c : DSg) (h : Int) (L : DLv) (s : ByteArray) (v : Int) : Prop := ∃ q ∈ L, ∃ a ∈ c.2.2, inv h a = false ∧ a.1 ∈ q.2 ∧ s = q.1 ++ wdA c a ∧ v = a.2.2.2
structure Lev (c : DSg) (h : Int) (n : Nat) (K : DLv) : Prop where
  nod : K.Pairwise fun p q => p.1 ≠ q.1
  mem : ∀ p ∈ K, (∃ u, u ∈ p.2) ∧ ∀ u, u ∈ p.2 ↔ Tr c h n p.1 u
  all : ∀ t u, Tr c h n t u → ∃ p ∈ K, p.1 = t
section
variable {c : DSg} {h : Int} {n m : Nat} {s t : ByteArray} {u v : Int} {K L M : DLv} {a : DAr}
theorem Tr.ch {P : Int → Prop} (hp : ∀ u, P u → Tr c h n t u) (k : Ch c.2.2 h P u) : Tr c h n t u := by
  induction k with
  | base h1 => exact hp _ h1
  | step _ h2 h3 ih => exact .still ih h2 h3
theorem tr_zero : Tr c h 0 t u ↔ t = ByteArray.empty ∧ Ch c.2.2 h (fun v => v = 0) u := by
  constructor
  · intro k
    generalize e : 0 = n at k
    induction k with
    | zero => exact ⟨rfl, .base rfl⟩
    | still _ h2 h3 ih => exact ⟨(ih e).1, .step (ih e).2 h2 h3⟩
    | word => cases e
  · rintro ⟨rfl, k⟩
    exact Tr.ch (fun u hu => by subst hu; exact .zero) k
theorem tr_succ : Tr c h (n + 1) s u ↔ Ch c.2.2 h (fun v => ∃ t, ∃ a ∈ c.2.2, inv h a = false ∧ Tr c h n t a.1 ∧ s = t ++ wdA c a ∧ v = a.2.2.2) u := by
  constructor
  · intro k
    generalize e : n + 1 = m at k
    induction k with
    | zero => cases e
    | still _ h2 h3 ih => exact .step (ih e) h2 h3
    | word h1 h2 h3 =>
      cases e
      exact .base ⟨_, _, h2, h3, h1, rfl, rfl⟩
  · exact Tr.ch fun u ⟨t, a, h1, h2, h3, h4, h5⟩ => by subst h4; subst h5; exact .word h3 h1 h2
theorem Lev.vs (g : Lev c h n L) : Vs c h L s v ↔ ∃ t, ∃ a ∈ c.2.2, inv h a = false ∧ Tr c h n t a.1 ∧ s = t ++ wdA c a ∧ v = a.2.2.2 := by
  constructor
  · rintro ⟨q, hq, a, h1, h2, h3, h4, h5⟩
    exact ⟨q.1, a, h1, h2, ((g.mem q hq).2 _).1 h3, h4, h5⟩
  · rintro ⟨t, a, h1, h2, h3, h4, h5⟩
    obtain ⟨q, hq, rfl⟩ := g.all t _ h3
    exact ⟨q, hq, a, h1, h2, ((g.mem q hq).2 _).2 h3, h4, h5⟩
theorem Lev.next (g : Lev c h n L) (hn : M.Pairwise fun p q => p.1 ≠ q.1) (hm : ∀ p ∈ M, (∃ v, Vs c h L p.1 v) ∧ ∀ u, u ∈ p.2 ↔ Ch c.2.2 h (fun v => Vs c h L p.1 v) u) (ha : ∀ s v, Vs c h L s v → ∃ p ∈ M, p.1 = s) : Lev c h (n + 1) M := by
  have e : ∀ s u, Ch c.2.2 h (fun v => Vs c h L s v) u ↔ Tr c h (n + 1) s u := fun s u => (Ch.congr fun _ => g.vs).trans tr_succ.symm
  refine ⟨hn, fun p hp => ⟨?_, fun u => ((hm p hp).2 u).trans (e _ _)⟩, fun t u hu => ?_⟩
  · obtain ⟨v, hv⟩ := (hm p hp).1
    exact ⟨v, ((hm p hp).2 v).2 (.base hv)⟩
  · have h1 := (e t u).2 hu
    have h2 : ∃ v, Vs c h L t v := by
      induction h1 with
      | base h2 => exact ⟨_, h2⟩
      | step h1 _ _ ih => exact ih ((e _ _).1 h1)
    obtain ⟨v, hv⟩ := h2
    exact ha t v hv

/-! ### The reference -/
def putT : List DTx → DTx → List DTx
  | [], x => [x]
  | y :: l, x => if y.1 = x.1 ∧ y.2.2 = x.2.2 then (y.1, x.2.1.foldl (fun s k => putG ltI k s) y.2.1, y.2.2) :: l else y :: putT l x
def arT (c : DSg) (h : Int) (x : DTx) (out : List DTx) (a : DAr) : List DTx := if inv h a = false ∧ a.1 ∈ x.2.1 then putT out (x.1 ++ wdA c a, [a.2.2.2], x.2.2 + 1) else out
def rowT (c : DSg) (h : Int) (as_ : List DAr) (x : DTx) (out : List DTx) : List DTx := as_.foldl (arT c h x) out
def colT (c : DSg) (h : Int) (L : List DTx) (out : List DTx) : List DTx := L.foldl (fun out x => rowT c h c.2.2 x out) out
def clsT (c : DSg) (h : Int) (y : DTx) : DTx := (y.1, stl c h y.2.1, y.2.2)
def morT (c : DSg) (h : Int) (L : List DTx) : List DTx := (colT c h L []).map (clsT c h)
def levT (c : DSg) (h : Int) : Nat → List DTx
  | 0 => [(ByteArray.empty, stl c h [0], 0)]
  | n + 1 => morT c h (levT c h n)
def unT (L : List DTx) : DLv := L.map fun x => (x.1, x.2.1)
structure OT (m : Int) (V : ByteArray → Int → Prop) (out : List DTx) : Prop where
  many : ∀ y ∈ out, y.2.2 = m
  nod : out.Pairwise fun p q => p.1 ≠ q.1
  srt : ∀ y ∈ out, Srt y.2.1
  mem : ∀ y ∈ out, ∀ v, v ∈ y.2.1 ↔ V y.1 v
  wit : ∀ y ∈ out, ∃ v, V y.1 v
  all : ∀ s v, V s v → ∃ y ∈ out, y.1 = s
theorem OT.congr {i : Int} {V W : ByteArray → Int → Prop} {out : List DTx} (g : OT i V out) (e : ∀ s v, V s v ↔ W s v) : OT i W out :=
  ⟨g.many, g.nod, g.srt, fun y hy v => (g.mem y hy v).trans (e _ _), fun y hy => (g.wit y hy).imp fun v hv => (e _ _).1 hv, fun s v hv => g.all s v ((e _ _).2 hv)⟩
theorem putT_mem {i : Int} : ∀ {out : List DTx} {y : DTx}, (∀ y ∈ out, y.2.2 = i) → (out.Pairwise fun p q => p.1 ≠ q.1) → (y ∈ putT out (s, [v], i) ↔ (y ∈ out ∧ y.1 ≠ s) ∨ (∃ z ∈ out, z.1 = s ∧ y = (z.1, putG ltI v z.2.1, z.2.2)) ∨ ((∀ z ∈ out, z.1 ≠ s) ∧ y = (s, [v], i)))
  | [], y, _, _ => by simp [putT]
  | z :: l, y, hm, hn => by
    obtain ⟨hn1, hn2⟩ := List.pairwise_cons.1 hn
    have hm1 := hm z (List.mem_cons_self ..)
    rw [putT]
    by_cases e : z.1 = s
    · rw [if_pos ⟨e, hm1⟩]
      have hl : ∀ x ∈ l, x.1 ≠ s := fun x hx g => hn1 x hx (e.trans g.symm)
      simp only [List.foldl_cons, List.foldl_nil, List.mem_cons]
      constructor
      · rintro (rfl | hy)
        · exact .inr (.inl ⟨z, .inl rfl, e, rfl⟩)
        · exact .inl ⟨.inr hy, hl y hy⟩
      · rintro (⟨rfl | hy, h2⟩ | ⟨x, rfl | hx, h2, rfl⟩ | ⟨h1, _⟩)
        · exact absurd e h2
        · exact .inr hy
        · exact .inl rfl
        · exact absurd h2 (hl x hx)
        · exact absurd e (h1 z (.inl rfl))
    · rw [if_neg (fun g => e g.1)]
      have ih := putT_mem (out := l) (y := y) (fun x hx => hm x (List.mem_cons_of_mem _ hx)) hn2
      rw [List.mem_cons, ih]
      simp only [List.mem_cons]
      constructor
      · rintro (rfl | ⟨h1, h2⟩ | ⟨x, hx, h2, h3⟩ | ⟨h1, h2⟩)
        · exact .inl ⟨.inl rfl, e⟩
        · exact .inl ⟨.inr h1, h2⟩
        · exact .inr (.inl ⟨x, .inr hx, h2, h3⟩)
        · exact .inr (.inr ⟨fun x hx => by rcases hx with rfl | hx; exact e; exact h1 x hx, h2⟩)
      · rintro (⟨rfl | h1, h2⟩ | ⟨x, rfl | hx, h2, h3⟩ | ⟨h1, h2⟩)
        · exact .inl rfl
        · exact .inr (.inl ⟨h1, h2⟩)
        · exact absurd h2 e
        · exact .inr (.inr (.inl ⟨x, hx, h2, h3⟩))
        · exact .inr (.inr (.inr ⟨fun x hx => h1 x (.inr hx), h2⟩))
theorem putT_key {i : Int} {x : DTx} : ∀ {out : List DTx}, ∀ y ∈ putT out x, y.1 = x.1 ∨ ∃ z ∈ out, z.1 = y.1
  | [], y, hy => by rw [putT, List.mem_singleton] at hy; subst hy; exact .inl rfl
  | z :: l, y, hy => by
    rw [putT] at hy
    split at hy
    · rcases List.mem_cons.1 hy with rfl | hy
      · exact .inr ⟨z, List.mem_cons_self .., rfl⟩
      · exact .inr ⟨y, List.mem_cons_of_mem _ hy, rfl⟩
    · rcases List.mem_cons.1 hy with rfl | hy
      · exact .inr ⟨y, List.mem_cons_self .., rfl⟩
      · rcases putT_key (i := i) y hy with h1 | ⟨w, hw, h1⟩
        · exact .inl h1
        · exact .inr ⟨w, List.mem_cons_of_mem _ hw, h1⟩
theorem putT_nod {i : Int} {x : DTx} (hx : x.2.2 = i) : ∀ {out : List DTx}, (∀ y ∈ out, y.2.2 = i) → (out.Pairwise fun p q => p.1 ≠ q.1) → (putT out x).Pairwise fun p q => p.1 ≠ q.1
  | [], _, _ => List.pairwise_singleton ..
  | z :: l, hm, hn => by
    obtain ⟨hn1, hn2⟩ := List.pairwise_cons.1 hn
    have hm1 := hm z (List.mem_cons_self ..)
    rw [putT]
    split
    · exact List.pairwise_cons.2 ⟨fun y hy => hn1 y hy, hn2⟩
    · rename_i h1
      refine List.pairwise_cons.2 ⟨fun y hy => ?_, putT_nod hx (fun x hx => hm x (List.mem_cons_of_mem _ hx)) hn2⟩
      rcases putT_key (i := i) y hy with h2 | ⟨w, hw, h2⟩
      · exact fun g => h1 ⟨g.trans h2, hm1.trans hx.symm⟩
      · rw [← h2]; exact hn1 w hw
theorem OT.step {i : Int} {V : ByteArray → Int → Prop} {out : List DTx} (g : OT i V out) : OT i (fun s' v' => V s' v' ∨ (s' = s ∧ v' = v)) (putT out (s, [v], i)) := by
  have hm := fun y => putT_mem (s := s) (v := v) (y := y) g.many g.nod
  have hs : ∀ z ∈ out, z.1 = s → ∀ v', v' ∈ putG ltI v z.2.1 ↔ V s v' ∨ v' = v := fun z hz e v' => by
    rw [putG_mem, g.mem z hz v', e]; exact Or.comm
  refine ⟨fun y hy => ?_, putT_nod rfl g.many g.nod, fun y hy => ?_, fun y hy v' => ?_, fun y hy => ?_, fun s' v' hv => ?_⟩
  · rcases (hm y).1 hy with h1 | ⟨z, hz, h2, rfl⟩ | ⟨_, rfl⟩
    · exact g.many y h1.1
    · exact g.many z hz
    · rfl
  · rcases (hm y).1 hy with h1 | ⟨z, hz, h2, rfl⟩ | ⟨_, rfl⟩
    · exact g.srt y h1.1
    · exact putG_str ltI_to (g.srt z hz)
    · exact List.pairwise_singleton ..
  · rcases (hm y).1 hy with h1 | ⟨z, hz, h2, rfl⟩ | ⟨h1, rfl⟩
    · rw [g.mem y h1.1]; exact ⟨.inl, fun k => k.resolve_right fun e => h1.2 e.1⟩
    · show v' ∈ putG ltI v z.2.1 ↔ _
      rw [hs z hz h2, h2]
      exact ⟨fun k => k.imp id fun e => ⟨rfl, e⟩, fun k => k.imp id fun e => e.2⟩
    · show v' ∈ [v] ↔ _
      rw [List.mem_singleton]
      refine ⟨fun e => .inr ⟨rfl, e⟩, fun k => k.elim (fun k => ?_) fun k => k.2⟩
      obtain ⟨z, hz, e⟩ := g.all _ _ k
      exact absurd e (h1 z hz)
  · rcases (hm y).1 hy with h1 | ⟨z, hz, h2, rfl⟩ | ⟨_, rfl⟩
    · exact (g.wit y h1.1).imp fun _ => .inl
    · exact ⟨v, .inr ⟨h2, rfl⟩⟩
    · exact ⟨v, .inr ⟨rfl, rfl⟩⟩
  · by_cases e : s' = s
    · subst e
      by_cases k : ∃ z ∈ out, z.1 = s'
      · obtain ⟨z, hz, h2⟩ := k
        exact ⟨_, (hm _).2 (.inr (.inl ⟨z, hz, h2, rfl⟩)), h2⟩
      · exact ⟨_, (hm _).2 (.inr (.inr ⟨fun z hz h2 => k ⟨z, hz, h2⟩, rfl⟩)), rfl⟩
    · obtain ⟨z, hz, h2⟩ := g.all s' v' (hv.resolve_right fun k => e k.1)
      exact ⟨z, (hm _).2 (.inl ⟨hz, by rw [h2]; exact e⟩), h2⟩
theorem rowT_ot {i : Int} {x : DTx} (hx : x.2.2 + 1 = i) : ∀ (as_ : List DAr) {V : ByteArray → Int → Prop} {out : List DTx}, OT i V out → OT i (fun s v => V s v ∨ ∃ a ∈ as_, inv h a = false ∧ a.1 ∈ x.2.1 ∧ s = x.1 ++ wdA c a ∧ v = a.2.2.2) (rowT c h as_ x out)
  | [], V, out, g => g.congr fun s v => by simp
  | a :: l, V, out, g => by
    show OT i _ (rowT c h l x (arT c h x out a))
    unfold arT
    split
    · rename_i h1
      rw [hx]
      refine (rowT_ot hx l g.step).congr fun s v => ?_
      simp only [List.mem_cons, exists_eq_or_imp, or_assoc]
      exact or_congr_right (or_congr_left ⟨fun k => ⟨h1.1, h1.2, k⟩, fun k => k.2.2⟩)
    · rename_i h1
      refine (rowT_ot hx l g).congr fun s v => ?_
      simp only [List.mem_cons, exists_eq_or_imp]
      exact or_congr_right ⟨.inr, fun k => k.resolve_left fun k => h1 ⟨k.1, k.2.1⟩⟩
theorem colT_ot {i : Int} : ∀ (L : List DTx) {V : ByteArray → Int → Prop} {out : List DTx}, (∀ x ∈ L, x.2.2 + 1 = i) → OT i V out → OT i (fun s v => V s v ∨ Vs c h (unT L) s v) (colT c h L out)
  | [], V, out, _, g => g.congr fun s v => by simp [Vs, unT]
  | x :: l, V, out, hm, g => by
    refine (colT_ot l (fun y hy => hm y (List.mem_cons_of_mem _ hy)) (rowT_ot (hm x (List.mem_cons_self ..)) c.2.2 g)).congr fun s v => ?_
    simp only [Vs, unT, List.map_cons, List.mem_cons, exists_eq_or_imp, or_assoc]
theorem colT_ot0 {i : Int} {L : List DTx} (hm : ∀ x ∈ L, x.2.2 + 1 = i) : OT i (Vs c h (unT L)) (colT c h L []) :=
  (colT_ot L hm (V := fun _ _ => False) ⟨by simp, List.Pairwise.nil, by simp, by simp, by simp, by simp⟩).congr fun s v => by simp
end

end Go.Proofs.YtjaadeknhofhpaaGreat
