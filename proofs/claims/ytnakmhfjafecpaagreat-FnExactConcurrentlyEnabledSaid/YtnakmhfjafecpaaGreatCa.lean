/- slices.SortFunc of lists of numbers, by slices.Compare: by the library's contract. -/
import Derived.Test.YtnakmhfjafecpaaGreatBc
import Derived.Shelf.SlSortCmp.NoneTotal
import Derived.Shelf.SlLaysF
import Derived.Test.YtnakmhfjafecpaaGreatVh
set_option linter.unusedSimpArgs false
set_option linter.unusedVariables false
set_option linter.unusedSectionVars false
namespace Go.Proofs.YtnakmhfjafecpaaGreat
open Go.RowKit Go.Sort Go.Shelf Go.Lib

/-- Sorted by the order of lists. -/
def lsort (xs : List (List Int)) : List (List Int) := xs.mergeSort fun a b => !ltP b a
theorem lsort_perm (xs : List (List Int)) : (lsort xs).Perm xs := List.mergeSort_perm ..
theorem lsort_len (xs : List (List Int)) : (lsort xs).length = xs.length := (lsort_perm xs).length_eq
theorem ltP_asym {a b : List Int} (h : ltP a b = true) : ltP b a = false := by
  cases hb : ltP b a with
  | false => rfl
  | true => have := ltP_tr a b a h hb; rw [ltP_irr] at this; cases this
theorem leP_tr (a b c : List Int) (h1 : (!ltP b a) = true) (h2 : (!ltP c b) = true) : (!ltP c a) = true := by
  simp only [Bool.not_eq_true'] at *
  cases h : ltP c a with
  | false => rfl
  | true =>
    rcases ltP_tot a b with h3 | h3 | h3
    · have := ltP_tr c a b h h3; rw [h2] at this; cases this
    · subst h3; rw [h2] at h; cases h
    · rw [h1] at h3; cases h3
theorem leP_tot (a b : List Int) : ((!ltP b a) || (!ltP a b)) = true := by
  cases h : ltP b a with
  | false => rfl
  | true => rw [ltP_asym h]; rfl
theorem lsort_sorted (xs : List (List Int)) : (lsort xs).Pairwise fun a b => ltP b a = false := by
  have := List.pairwise_mergeSort (le := fun a b => !ltP b a) leP_tr leP_tot xs
  exact this.imp fun h => by simpa using h
theorem sorted_eq : ∀ {a b : List (List Int)}, a.Perm b → a.Pairwise (fun x y => ltP y x = false) → b.Pairwise (fun x y => ltP y x = false) → a = b
  | [], b, hp, _, _ => (List.nil_perm.1 hp).symm
  | x :: a, b, hp, ha, hb => by
    cases b with
    | nil => exact absurd (List.perm_nil.1 hp) (by simp)
    | cons y b =>
      obtain ⟨a1, a2⟩ := List.pairwise_cons.1 ha
      obtain ⟨b1, b2⟩ := List.pairwise_cons.1 hb
      have e : x = y := by
        rcases List.mem_cons.1 (hp.mem_iff.1 (List.mem_cons_self ..) : x ∈ y :: b) with h | h
        · exact h
        · rcases List.mem_cons.1 (hp.mem_iff.2 (List.mem_cons_self ..) : y ∈ x :: a) with h' | h'
          · exact h'.symm
          · have k1 := b1 x h
            have k2 := a1 y h'
            rcases ltP_tot x y with h3 | h3 | h3
            · rw [k1] at h3; cases h3
            · exact h3
            · rw [k2] at h3; cases h3
      subst e
      rw [sorted_eq ((List.perm_cons x).1 hp) a2 b2]
/-- Sorted, then made compact. -/
theorem tidyP_of (xs : List (List Int)) : cmpG (lsort xs) = ofG ltP xs := cmpG_of ltP_to (lsort_sorted xs) fun _ => (lsort_perm xs).mem_iff
section
variable {α : Type} [Inhabited α] {enc : α → Value} {w : World} {g n : Nat} {os : Array Obj}
theorem holdsE {cur : Array Value} {e : TypeId} {ss : List α} (hb : w.heap[g]? = some (.cells cur e (0, 0))) (ht : cur.toList.take ss.length = ss.map enc) : Holds enc w g 0 ss.toArray := by
  intro j hj
  have hj' : j < ss.length := by simpa using hj
  refine ⟨?_, by simp [World.frozen?, hb]⟩
  have h1 : (cur.toList.take ss.length)[j]? = (ss.map enc)[j]? := by rw [ht]
  rw [List.getElem?_take_of_lt hj'] at h1
  simp only [World.cell?, hb, Nat.zero_add]
  simp only [Option.isSome_none, Bool.false_eq_true, if_false]
  rw [← Array.getElem?_toList, h1]
  simp [hj']
theorem sw_at {cur : Array Value} {e : TypeId} {fr : Nat × Nat} (d : Array α) (hb : w.heap[g]? = some (.cells cur e fr)) : (sortWorld enc w g 0 n d os).heap[g]? = some (.cells (putCells enc 0 d cur) e fr) := by
  have hg : g < w.heap.size := (Array.getElem?_eq_some_iff.1 hb).1
  unfold sortWorld
  rw [heap_grow_old _ _ (by simpa using hg)]
  simp [putRow, mapBlock, Sort.ahead, Array.getElem?_modify, hb, onCells]
theorem sw_other (d : Array α) {k : Nat} (hk : k < w.heap.size) (hne : k ≠ g) : (sortWorld enc w g 0 n d os).heap[k]? = w.heap[k]? := by
  unfold sortWorld
  rw [heap_grow_old _ _ (by simpa using hk)]
  have : g ≠ k := fun e => hne e.symm
  simp [putRow, mapBlock, Sort.ahead, Array.getElem?_modify, this]
theorem sw_grw (d : Array α) : Grw w (sortWorld enc w g 0 n d os) := ⟨rfl, rfl, rfl, by unfold sortWorld; simp [grow, putRow, mapBlock, Sort.ahead]⟩
theorem take_putE (cur : Array Value) (ts : List α) (h : ts.length ≤ cur.size) : (putCells enc 0 ts.toArray cur).toList.take ts.length = ts.map enc := by
  apply List.ext_getElem?
  intro j
  by_cases hj : j < ts.length
  · rw [List.getElem?_take_of_lt hj, Array.getElem?_toList]
    simp [putCells, hj, show j < cur.size by omega]
  · rw [List.getElem?_take_eq_none (by omega), List.getElem?_eq_none (by simp; omega)]
end
theorem OwnL.keep' {e : Ty} {w w' : World} {fp : List Nat} {cs : List Value} {xs : List e.Den} (hk : ∀ g ∈ fp, w'.heap[g]? = w.heap[g]?) (h : OwnL (Own e w) fp cs xs) : OwnL (Own e w') fp cs xs :=
  OwnL.mono h fun _ _ _ hf ho => ho.keep fun g hg => hk g (hf g hg)
def SortsF (P : Program) (f g : FuncId) : Prop := ∀ (α : Type) [Inhabited α] (enc : α → Value), (∀ x, (enc x).oneCell' = true) → ∀ cf : α → α → Int, SWO (ltOf cf) → ∀ (blk cap : Nat) (d : Array α) (w : World), CmpLays1 P g #[] enc cf blk 0 d.size w → Holds enc w blk 0 d →
  blk < w.heap.size → d.size < 4611686018427387904 → Calls P f #[.slice (some ⟨blk, 0, none⟩) d.size cap, .func (.func g) #[] #[]] w fun e w' => e = .returned (.tuple #[]) ∧ ∃ d' n os, PermIn 0 d.size d d' ∧ SortedIn (ltOf cf) 0 d.size d' ∧ w' = sortWorld enc w blk 0 n d' os
def SortsFNil (P : Program) (f : FuncId) : Prop := ∀ (p : Option Addr) (cap : Nat) (fv : Value) (w : World), Calls P f #[.slice p 0 cap, fv] w fun e w' => e = .returned (.tuple #[]) ∧ w' = w
def Compares (P : Program) (g : FuncId) (E : TypeId) : Prop := ∀ (u v : Value) (a b : List Int) (w : World), Rep (.sl E .int) w [u] a → Rep (.sl E .int) w [v] b → Calls P g #[u, v] w fun e w' => e = .returned (.int .i64 (cmpV a b)) ∧ w' = w
theorem swoP {α : Type} (f : α → List Int) : SWO (ltOf fun x y : α => cmpV (f x) (f y)) := by
  have e : ∀ x y : α, ltOf (fun x y : α => cmpV (f x) (f y)) x y = ltP (f x) (f y) := fun x y => by
    unfold ltOf
    rw [Bool.eq_iff_iff, decide_eq_true_eq, cmpV_lt]
  refine ⟨fun x => by rw [e]; exact ltP_irr _, fun x y z h1 h2 => by rw [e] at *; exact ltP_tr _ _ _ h1 h2, fun x y z h1 h2 => ?_⟩
  rw [e] at *
  have := leP_tr (f z) (f y) (f x) (by rw [h2]; rfl) (by rw [h1]; rfl)
  simpa using this
theorem FC.sortF {P : Program} {f g : FuncId} {E E' : TypeId} (hS : SortsF P f g) (hN : SortsFNil P f) (hC : Compares P g E') (xs : List (List Int)) (hl : xs.length ≤ 1000000000) :
    FC P f [(false, [.ref 0]), (false, [.clo g []])] [(0, some (.arr E (.sl E' .int) xs))] 1 (Is (.tup []) [(0, some (.arr E (.sl E' .int) (lsort xs)))]) := fun gh w vs cx ha => by
  obtain ⟨v, vs', rfl, ⟨l, hl_, h1⟩, v2, vs2, rfl, ⟨l2, hl2, h2⟩, rfl⟩ := ha
  simp only [List.cons.injEq, and_true] at hl_ hl2
  subst hl_ hl2
  have hv : v = gh.h 0 := h1 ⟨_, rfl⟩
  have hv2 : v2 = .func (.func g) #[] #[] := h2 (by simp)
  subst hv hv2
  have hO : Own (.sl E (.sl E' .int)) w (gh.f 0) [gh.h 0] xs := cx.en 0 _ rfl
  have alq : ∀ (y : List (List Int)) q, Tab.al [(0, some (Ent.arr E (.sl E' .int) y))] q → q = 0 := fun y q ⟨e, he⟩ => by
    rw [Tab.ent_cons] at he
    split at he
    · assumption
    · cases he
  -- nothing to sort
  have hnone : xs = [] → ∀ p cap, gh.h 0 = .slice p 0 cap → Calls P f [gh.h 0, .func (.func g) #[] #[]].toArray w fun e w' => ∃ v pv T' gh', e = .returned v ∧ Is (.tup []) [(0, some (.arr E (.sl E' .int) (lsort xs)))] pv T' ∧ Cx T' gh' w' ∧ PVR T'.al gh' w' pv v ∧ Fr [(0, some (.arr E (.sl E' .int) xs))] T' gh gh' w w' ∧ ∀ q, q < 1 → T'.al q → gh'.h q = gh.h q := fun hx p cap hp => by
    subst hx
    rw [hp]
    refine Calls.mono (hN p cap _ w) fun e w' he => ?_
    obtain ⟨rfl, rfl⟩ := he
    have hls : lsort [] = [] := List.eq_nil_of_length_eq_zero (lsort_len [])
    rw [hls]
    have hcx : Cx [(0, some (Ent.arr E (.sl E' .int) []))] gh w' := cx
    exact ⟨_, _, _, gh, rfl, ⟨rfl, rfl⟩, hcx, ⟨[], rfl, rfl⟩, ⟨Grw.refl _, fun g _ _ => rfl, fun g hg => .inl hg, fun q hq g hg => .inr ⟨q, hq, hg⟩⟩, fun q _ _ => rfl⟩
  rcases hO with ⟨hf, hc, hx⟩ | ⟨b, cap, cur, fps, hf, hc, hb, hn, hcap, hsz, hL⟩
  · simp only [List.cons.injEq, and_true] at hc
    exact hnone hx _ _ hc
  · simp only [List.cons.injEq, and_true] at hc
    obtain ⟨hs, k1, k2⟩ := own_split hL
    rw [k1, ← k2] at hL
    have hlen : hs.length = xs.length := by rw [← k2, List.length_map]
    cases hs with
    | nil =>
      have hx : xs = [] := by rw [← k2]; rfl
      exact hnone hx _ _ (by rw [hc, hx]; rfl)
    | cons h0 hs0 =>
      generalize hhs : h0 :: hs0 = hs at *
      have hin : h0 ∈ hs := by rw [← hhs]; exact List.mem_cons_self ..
      let α := { v : Hdr // v ∈ hs }
      letI : Inhabited α := ⟨⟨h0, hin⟩⟩
      let F : Hdr → List Int := rdF E' .int w
      let enc : α → Value := fun x => hdV x.1
      have hg : b < w.heap.size := (Array.getElem?_eq_some_iff.1 hb).1
      have hnd := cx.nd 0 ⟨_, rfl⟩
      rw [hf] at hnd
      obtain ⟨hnb, hnf⟩ := List.nodup_cons.1 hnd
      have hlt : ∀ g ∈ fps, g < w.heap.size := fun g hg' => cx.lt (q := 0) ⟨_, rfl⟩ g (by rw [hf]; exact List.mem_cons_of_mem _ hg')
      have hat : hs.attach.map (fun x => hdV x.1) = hs.map hdV := by
        have : hs.attach.map (fun x => hdV x.1) = (hs.attach.map Subtype.val).map hdV := by rw [List.map_map]; rfl
        rw [this, List.attach_map_subtype_val]
      have hH : Holds enc w b 0 hs.attach.toArray := holdsE hb (by
        rw [List.length_attach, hlen]
        have := k1
        simp only [Ty.wd, Nat.mul_one] at this
        rw [this]; exact hat.symm)
      have hds : hs.attach.toArray.size = xs.length := by simp [hlen]
      have hcmp : CmpLays1 P g #[] enc (fun x y => cmpV (F x.1) (F y.1)) b 0 hs.attach.toArray.size w := fun m os dk _ x y => by
        have hr : ∀ z : α, Rep (.sl E' .int) (sortWorld enc w b 0 m dk os) [enc z] (F z.1) := fun z => by
          obtain ⟨fv, o1, o2⟩ := ownL_at hL z.1 z.2
          exact (o1.keep fun g hg' => sw_other dk (hlt g (o2 g hg')) fun e => hnb (by rw [← e]; exact o2 g hg')).rep
        refine Calls.mono (hC (enc x) (enc y) _ _ _ (hr x) (hr y)) fun e w' he => ?_
        obtain ⟨rfl, rfl⟩ := he
        exact ⟨rfl, 0, #[], by rw [grow_empty]; rfl⟩
      have h1c : ∀ x : α, (enc x).oneCell' = true := fun x => by cases hx : x.1 <;> simp [enc, hx, hdV, Value.oneCell']
      have hm : xs.length < 4611686018427387904 := by omega
      have key := hS α enc h1c _ (swoP fun x : α => F x.1) b cap hs.attach.toArray w hcmp hH hg (by rw [hds]; exact hm)
      rw [hds] at key
      rw [hc]
      refine Calls.mono key fun e w' he => ?_
      obtain ⟨rfl, d', n, os, ⟨p1, p2, p3⟩, hsrt, rfl⟩ := he
      have hal' : hs.attach.length = hs.length := List.length_attach
      have hd's : d'.size = hs.length := by rw [p1]; exact hal'
      -- the headers behind the sort
      let zs : List Hdr := d'.toList.map Subtype.val
      have hzp : hs.Perm zs := by
        have e1 : (d'.extract 0 xs.length).toList = d'.toList := by rw [← hlen, ← hd's]; simp
        have e2 : (hs.attach.toArray.extract 0 xs.length).toList = hs.attach := by
          rw [← hlen]
          simp only [List.extract_toArray, List.extract_eq_take_drop, Nat.sub_zero, List.drop_zero]
          exact List.take_of_length_le (Nat.le_of_eq hal')
        rw [e1, e2] at p3
        have := p3.symm.map Subtype.val
        rwa [List.attach_map_subtype_val] at this
      have hzl : zs.length = xs.length := by rw [← hlen]; exact hzp.length_eq.symm
      have hze : zs.map F = lsort xs := by
        refine sorted_eq ?_ ?_ (lsort_sorted xs)
        · have := hzp.symm.map F
          rw [k2] at this
          exact this.trans (lsort_perm xs).symm
        · rw [List.pairwise_map, List.pairwise_map]
          rw [List.pairwise_iff_getElem]
          intro i j hi hj hij
          have hi' : i < d'.size := by simpa using hi
          have hj' : j < d'.size := by simpa using hj
          have := hsrt i j (Nat.zero_le _) hij (by rw [← hlen, ← hd's]; exact hj')
          rw [getElem!_pos d' i hi', getElem!_pos d' j hj'] at this
          simp only [Array.getElem_toList]
          cases hlt2 : ltP (F d'[j].1) (F d'[i].1) with
          | false => rfl
          | true =>
            have h3 := (cmpV_lt _ _).2 hlt2
            unfold ltOf at this
            exact absurd h3 (of_decide_eq_false this)
      obtain ⟨fb, m3, m4⟩ := ownL_perm hzp hL
      have hb' := sw_at (enc := enc) (n := n) (os := os) d' hb
      have hcs : (putCells enc 0 d' cur).size = cur.size := by simp [putCells]
      let gh' : Gh := ⟨gh.h, fun q => if q = 0 then b :: fb else gh.f q, gh.N⟩
      have fq : gh'.f 0 = b :: fb := rfl
      have hmem : ∀ g, g ∈ b :: fb ↔ g ∈ gh.f 0 := fun g => by rw [hf, List.mem_cons, List.mem_cons, m3.mem_iff]
      refine ⟨_, _, _, gh', rfl, ⟨rfl, rfl⟩, ⟨fun q e he => ?_, fun q q' hq hq' hne => absurd ((alq _ q hq).trans (alq _ q' hq').symm) hne, fun q hq => ?_, fun q hq g' hg' => ?_, fun g' hg' => Nat.lt_of_lt_of_le (cx.nl g' hg') (sw_grw d').size⟩, ⟨[], rfl, rfl⟩,
        ⟨sw_grw d', fun g' h1 h2 => ?_, fun g' h1 => .inl h1, fun q hq g' hg' => ?_⟩, fun q _ _ => rfl⟩
      · rw [Tab.ent_cons] at he
        split at he
        · rename_i e0; subst e0; cases he
          refine .inr ⟨b, cap, putCells enc 0 d' cur, fb, rfl, by rw [lsort_len]; exact congrArg (fun z => [z]) hc, hb', by rw [lsort_len]; exact hn, hcap, by rw [hcs]; exact hsz, ?_⟩
          have et : (putCells enc 0 d' cur).toList.take ((lsort xs).length * Ty.wd (.sl E' .int)) = zs.map hdV := by
            have hcz : d'.toList.length ≤ cur.size := by
              have : cur.size = cap * Ty.wd (.sl E' .int) := hsz
              simp only [Ty.wd, Nat.mul_one] at this
              rw [Array.length_toList, hd's, hlen]; omega
            have := take_putE (enc := enc) cur d'.toList hcz
            rw [lsort_len, ← hlen, ← hd's]
            show List.take (d'.size * 1) _ = _
            rw [Nat.mul_one]
            simp only [Array.length_toList] at this
            rw [show d'.toList.toArray = d' by simp] at this
            rw [this, List.map_map]; rfl
          rw [et, ← hze]
          have hk : ∀ g ∈ fb, (sortWorld enc w b 0 n d' os).heap[g]? = w.heap[g]? := fun g hg' => by
            have h3 : g ∈ fps := m3.mem_iff.2 hg'
            exact sw_other d' (hlt g h3) fun e => hnb (e ▸ h3)
          exact OwnL.keep' hk m4
        · cases he
      · rw [alq _ q hq, fq, List.nodup_cons]
        exact ⟨fun h => hnb (m3.mem_iff.2 h), (m3.nodup_iff).1 hnf⟩
      · rw [alq _ q hq, fq] at hg'; exact cx.no 0 ⟨_, rfl⟩ g' ((hmem g').1 hg')
      · exact sw_other d' h1 fun e0 => h2 0 ⟨_, rfl⟩ (by rw [hf, e0]; exact List.mem_cons_self ..)
      · rw [alq _ q hq, fq] at hg'; exact .inr ⟨0, ⟨_, rfl⟩, (hmem g').1 hg'⟩
def sortFL_ren : Go.Shelf.Ren := ⟨fun | 6 => 93 | 15 => 172 | 14 => 171 | 28 => 239 | 29 => 240 | 20 => 231 | 21 => 232 | 22 => 233 | 23 => 234 | 24 => 235 | 25 => 236 | 26 => 237 | 27 => 238 | 46 => 278 | 47 => 279 | 48 => 280 | 49 => 281 | 50 => 282 | 57 => 300 | n => n, fun | 22 => 30 | 24 => 106 | 25 => 142 | 3 => 3 | 39 => 214 | 0 => 0 | 53 => 272 | 55 => 274 | 4 => 4 | 46 => 266 | 45 => 265 | 50 => 175 | 5 => 5 | 9 => 9 | 66 => 305 | 70 => 309 | 76 => 324 | 77 => 147 | n => n, fun | n => n⟩
theorem sortFL : Go.Proofs.SlLaysF.n6 Tryz.prog sortFL_ren := {
  mixed := by kernel_rfl,
  f6 := ⟨"slices.SortFunc[[][]int,[]int]", by decide, Tryz.func93.trans (congrArg some (by kernel_rfl))⟩,
  f14 := ⟨"slices.pdqsortCmpFunc[[]int]", by decide, Tryz.func171.trans (congrArg some (by kernel_rfl))⟩,
  f15 := Tryz.func172.trans (congrArg some (by kernel_rfl)),
  f20 := ⟨"slices.insertionSortCmpFunc[[]int]", by decide, Tryz.func231.trans (congrArg some (by kernel_rfl))⟩,
  f21 := ⟨"slices.heapSortCmpFunc[[]int]", by decide, Tryz.func232.trans (congrArg some (by kernel_rfl))⟩,
  f22 := ⟨"slices.breakPatternsCmpFunc[[]int]", by decide, Tryz.func233.trans (congrArg some (by kernel_rfl))⟩,
  f23 := ⟨"slices.choosePivotCmpFunc[[]int]", by decide, Tryz.func234.trans (congrArg some (by kernel_rfl))⟩,
  f24 := ⟨"slices.reverseRangeCmpFunc[[]int]", by decide, Tryz.func235.trans (congrArg some (by kernel_rfl))⟩,
  f25 := ⟨"slices.partialInsertionSortCmpFunc[[]int]", by decide, Tryz.func236.trans (congrArg some (by kernel_rfl))⟩,
  f26 := ⟨"slices.partitionEqualCmpFunc[[]int]", by decide, Tryz.func237.trans (congrArg some (by kernel_rfl))⟩,
  f27 := ⟨"slices.partitionCmpFunc[[]int]", by decide, Tryz.func238.trans (congrArg some (by kernel_rfl))⟩,
  f28 := Tryz.func239.trans (congrArg some (by kernel_rfl)),
  f29 := Tryz.func240.trans (congrArg some (by kernel_rfl)),
  f46 := ⟨"slices.siftDownCmpFunc[[]int]", by decide, Tryz.func278.trans (congrArg some (by kernel_rfl))⟩,
  f47 := Tryz.func279.trans (congrArg some (by kernel_rfl)),
  f48 := Tryz.func280.trans (congrArg some (by kernel_rfl)),
  f49 := ⟨"slices.medianAdjacentCmpFunc[[]int]", by decide, Tryz.func281.trans (congrArg some (by kernel_rfl))⟩,
  f50 := ⟨"slices.medianCmpFunc[[]int]", by decide, Tryz.func282.trans (congrArg some (by kernel_rfl))⟩,
  f57 := ⟨"slices.order2CmpFunc[[]int]", by decide, Tryz.func300.trans (congrArg some (by kernel_rfl))⟩,
  t0 := Tryz.underlying0,
  a0 := Tryz.isAgg0,
  z0 := Tryz.sizeOf0,
  v0 := Tryz.zeroValue0,
  t3 := Tryz.underlying3,
  a3 := Tryz.isAgg3,
  z3 := Tryz.sizeOf3,
  v3 := Tryz.zeroValue3,
  t4 := Tryz.underlying4,
  a4 := Tryz.isAgg4,
  z4 := Tryz.sizeOf4,
  v4 := Tryz.zeroValue4,
  t5 := Tryz.underlying5,
  a5 := Tryz.isAgg5,
  z5 := Tryz.sizeOf5,
  v5 := Tryz.zeroValue5,
  t9 := Tryz.underlying9,
  a9 := Tryz.isAgg9,
  z9 := Tryz.sizeOf9,
  v9 := Tryz.zeroValue9,
  t22 := Tryz.underlying30,
  a22 := Tryz.isAgg30,
  z22 := Tryz.sizeOf30,
  v22 := Tryz.zeroValue30,
  a24 := Tryz.isAgg106,
  z24 := Tryz.sizeOf106,
  t25 := Tryz.underlying142,
  a25 := Tryz.isAgg142,
  z25 := Tryz.sizeOf142,
  v25 := Tryz.zeroValue142,
  t39 := Tryz.underlying214,
  a39 := Tryz.isAgg214,
  z39 := Tryz.sizeOf214,
  v39 := Tryz.zeroValue214,
  t45 := Tryz.underlying265,
  a45 := Tryz.isAgg265,
  z45 := Tryz.sizeOf265,
  v45 := Tryz.zeroValue265,
  t46 := Tryz.underlying266,
  a46 := Tryz.isAgg266,
  z46 := Tryz.sizeOf266,
  v46 := Tryz.zeroValue266,
  t50 := Tryz.underlying175,
  a50 := Tryz.isAgg175,
  z50 := Tryz.sizeOf175,
  v50 := Tryz.zeroValue175,
  t53 := Tryz.underlying272,
  a53 := Tryz.isAgg272,
  z53 := Tryz.sizeOf272,
  v53 := Tryz.zeroValue272,
  t55 := Tryz.underlying274,
  a55 := Tryz.isAgg274,
  z55 := Tryz.sizeOf274,
  v55 := Tryz.zeroValue274,
  t66 := Tryz.underlying305,
  a66 := Tryz.isAgg305,
  z66 := Tryz.sizeOf305,
  v66 := Tryz.zeroValue305,
  t70 := Tryz.underlying309,
  a70 := Tryz.isAgg309,
  z70 := Tryz.sizeOf309,
  v70 := Tryz.zeroValue309,
  t76 := Tryz.underlying324,
  a76 := Tryz.isAgg324,
  z76 := Tryz.sizeOf324,
  v76 := Tryz.zeroValue324,
  t77 := Tryz.underlying147,
  a77 := Tryz.isAgg147,
  z77 := Tryz.sizeOf147,
  v77 := Tryz.zeroValue147 }
theorem sortsF : SortsF Tryz.prog 93 94 := fun _ _ enc h1 cf hO blk cap d w hc hH hb hs => Any.slices_SortFunc sortFL enc (fun x => h1 x) cf hO _ #[] blk 0 cap d w (fun args W => run_enter Tryz.func94 (by kernel_rfl) rfl args W) hc hH hb hs
theorem sortsFNil : SortsFNil Tryz.prog 93 := fun p cap fv w => AnyF.slices_SortFunc_none { sortFL with } p cap fv w
theorem fc_sortF (xs : List (List Int)) (hl : xs.length ≤ 1000000000) : FC Tryz.prog 93 [(false, [.ref 0]), (false, [.clo 94 []])] [(0, some (.arr 106 (.sl 3 .int) xs))] 1 (Is (.tup []) [(0, some (.arr 106 (.sl 3 .int) (lsort xs)))]) :=
  FC.sortF sortsF sortsFNil (fun u v a b w h1 h2 => compare_any u v a b w h1 h2) xs hl
end Go.Proofs.YtnakmhfjafecpaaGreat

/- Walks over abstract states: tidied lists of numbers; labels; which signals are no inputs; the name of the next state signal. -/
namespace Go.Proofs.YtnakmhfjafecpaaGreat
open Go.RowKit
set_option maxRecDepth 100000
set_option maxHeartbeats 4000000

/-- The targets of the arcs with a label. -/
def swL (as_ : List DAr) (l : Int × Bool) : List Int := (as_.filter fun a => decide (a.2.1 = l.1 ∧ a.2.2.1 = l.2)).map fun a => a.2.2.2
def inpV (c : DSg) (sig : Int) : Bool := decide (0 ≤ sig) && decide (((c.1[sig.toNat]?).getD (ByteArray.empty, 0)).2 = 1)
/-- The numbers of the signals that are no inputs. -/
def outsL (l : List DSignal) (k : Nat) : List Int := ((List.range k).filter fun i => !decide (((l[i]?).getD (ByteArray.empty, 0)).2 = 1)).map fun i => ((i : Nat) : Int)
def stNm (c : DSg) : ByteArray := if idxF (fun x : DSignal => decide (x.1 = (⟨#[122, 48]⟩ : ByteArray))) c.1 < 0 then ⟨#[122, 48]⟩ else if idxF (fun x : DSignal => decide (x.1 = (⟨#[122, 49]⟩ : ByteArray))) c.1 < 0 then ⟨#[122, 49]⟩ else ⟨#[122, 50]⟩
section
variable {c : DSg} {l : List Int} {as_ : List DAr} {a : DAr} {p : Int × Bool} {k : Nat} {n m y sig : Int} {x : DSignal} {ss : List DSignal}
abbrev zNames : List ByteArray := [(⟨#[122, 48]⟩ : ByteArray), (⟨#[122, 49]⟩ : ByteArray)]
end

theorem fc_spec_l1Has (l : List Int) (n : Int)  : FC Tryz.prog 187 [(false, [.dat (.sl 3 .int) l]), (false, [dI n])] [] 0 (Pure (lB (decide (n ∈ l)))) := by
 refine FC.go Tryz.func187 rfl rfl Tryz.ntmps187 fun O_ hO w0_ N0_ X_ h0_ f0_ => ?_
 refine AC.fact (fact_int (x := .tmp 1) (Evl.tmp rfl)) fun hi1 => ?_
 iterate 6 refine w_ ?_
 refine AL.fact (fact_len (x := .tmp 7) (Evl.tmp rfl)) fun hl2 => ?_
 iterate 4 refine w_ ?_
 refine AC.loopW (fun m_ s_ => ∃ (k : Nat), k ≤ l.length ∧ m_ = l.length - k ∧ (∀ j, j < k → ∀ y, l[j]? = some y → ¬ y = n) ∧ s_ = ⟨[(1, lI n), (7, lf (.dat (.sl 3 .int) l)), (8, lI (l.length : Int)), (9, lI (k : Int))], []⟩) ⟨0, Nat.zero_le _, rfl, (fun j hj => absurd hj (Nat.not_lt_zero j)), rfl⟩ ?_ ?_
 · exact Wk.of [] rfl ⟨rfl, rfl, rfl, rfl, trivial⟩ trivial rfl rfl
 rintro m_ s_ ⟨k, hk3, hm4, hno, rfl⟩
 iterate 4 refine w_ ?_
 cases hb5 : (decide ((k : Int) < (l.length : Int)))
 ·have hb5' := of_decide_eq_false hb5
  refine w_ ?_
  refine AC.exit ?_
  refine (?_ : AC _ _ _ _ _)
  iterate 3 refine w_ ?_
  refine AC.ret ?_
  subst hO
  have e6 : (false : Bool) = (decide (n ∈ l)) := by
   first | exact (decide_eq_false fun hm => by obtain ⟨j, hj⟩ := List.mem_iff_getElem?.1 hm; exact hno j (by have := (List.getElem?_eq_some_iff.1 hj).1; omega) n hj rfl).symm
  exact fin_pure (Res.one rfl (Rs.tmp rfl)) ((congrArg (fun z_ => lB z_) e6)) rfl
 ·have hb5' := of_decide_eq_true hb5
  iterate 5 refine w_ ?_
  obtain ⟨x7, hx8⟩ : ∃ z, l[k]? = some z := ⟨_, List.getElem?_eq_getElem (by omega)⟩
  refine lc (Does.indexE (Evl.tmp rfl) (Evl.tmp rfl) und_106 tsh_3 rfl (by omega) hx8) ?_
  refine w_ ?_
  refine AL.fact (fact_int (x := .tmp 12) (Evl.tmp rfl)) fun hi9 => ?_
  iterate 7 refine w_ ?_
  cases hb10 : (decide (x7 = n))
  ·have hb10' := of_decide_eq_false hb10
   refine w_ ?_
   refine AC.skip ?_
   refine (?_ : AC _ _ _ _ _)
   iterate 3 refine w_ ?_
   refine AL.nil <| lend ⟨k + 1, by omega, rfl, (each_step hno hx8 (by assumption)), rfl⟩ (by omega) ?_
   exact Wk.of [] rfl ⟨rfl, rfl, rfl, rfl, trivial⟩ trivial rfl rfl
  ·have hb10' := of_decide_eq_true hb10
   iterate 4 refine w_ ?_
   refine AC.ret ?_
   subst hO
   have e11 : (true : Bool) = (decide (n ∈ l)) := by
    exact (decide_eq_true (by have := List.mem_of_getElem? hx8; simp_all)).symm
   exact fin_pure (Res.one rfl (Rs.tmp rfl)) ((congrArg (fun z_ => lB z_) e11)) rfl

end Go.Proofs.YtnakmhfjafecpaaGreat

/- Walks over abstract states: lists of lists, repetitions struck out. -/
namespace Go.Proofs.YtnakmhfjafecpaaGreat
open Go.RowKit
set_option maxRecDepth 100000
set_option maxHeartbeats 4000000

/-- The heads of the runs. -/
def cmpH (f : Hdr → List Int) : Option (List Int) → List Hdr → List Hdr
  | _, [] => []
  | p, y :: l => if p = some (f y) then cmpH f p l else y :: cmpH f (some (f y)) l
section
variable {f : Hdr → List Int} {vs zs : List Hdr} {m k : Nat} {x y : Hdr} {l : List (List Int)} {i j n : Int}
theorem cmpH_sub : ∀ (l : List Hdr) (p : Option (List Int)), (cmpH f p l).Sublist l
  | [], _ => List.Sublist.refl _
  | y :: l, p => by
    unfold cmpH
    split
    · exact (cmpH_sub l p).cons y
    · exact (cmpH_sub l _).cons_cons y
theorem cmpH_some : ∀ (l : List Hdr) (x : List Int), x :: (cmpH f (some x) l).map f = cmpG (x :: l.map f)
  | [], x => rfl
  | y :: l, x => by
    unfold cmpH
    rw [List.map_cons, cmpG]
    by_cases h : x = f y
    · rw [if_pos (congrArg some h), if_pos h, ← h]; exact cmpH_some l x
    · rw [if_neg (fun e => h (Option.some.inj e)), if_neg h, List.map_cons, cmpH_some l (f y)]
theorem cmpH_map : ∀ l : List Hdr, (cmpH f none l).map f = cmpG (l.map f)
  | [] => rfl
  | y :: l => by rw [cmpH, if_neg (by simp), List.map_cons, cmpH_some l (f y), List.map_cons]
theorem cmpH_snoc (y : Hdr) : ∀ (l : List Hdr) (p : Option (List Int)), cmpH f p (l ++ [y]) = cmpH f p l ++ (if ((l.getLast?).map f).or p = some (f y) then [] else [y])
  | [], p => by
    by_cases h : p = some (f y)
    · simp [cmpH, h]
    · simp [cmpH, h]
  | z :: l, p => by
    have hl : ∀ q : Option (List Int), (((z :: l).getLast?).map f).or q = ((l.getLast?).map f).or (some (f z)) := fun q => by
      rw [List.getLast?_cons]
      cases l.getLast? <;> rfl
    rw [hl, List.cons_append, cmpH, cmpH]
    by_cases h : p = some (f z)
    · rw [if_pos h, if_pos h, cmpH_snoc y l p, h]
    · rw [if_neg h, if_neg h, cmpH_snoc y l (some (f z)), List.cons_append]
theorem cmpH_step (h1 : vs[m]? = some x) (h2 : vs[m + 1]? = some y) : cmpH f none (vs.take (m + 1 + 1)) = cmpH f none (vs.take (m + 1)) ++ (if f x = f y then [] else [y]) := by
  rw [take_snoc h2, cmpH_snoc]
  have : (vs.take (m + 1)).getLast? = some x := by rw [take_snoc h1]; simp
  rw [this]; simp
theorem cmpH_eq (hi : 1 ≤ i) (hx : vs[(i - 1).toNat]? = some x) (hy : vs[i.toNat]? = some y) (h : f y = f x) : cmpH f none (vs.take (i + 1).toNat) = cmpH f none (vs.take i.toNat) := by
  have := cmpH_step (f := f) hx (y := y) (by rw [show (i - 1).toNat + 1 = i.toNat by omega]; exact hy)
  rw [show (i - 1).toNat + 1 = i.toNat by omega, show i.toNat + 1 = (i + 1).toNat by omega, if_pos h.symm, List.append_nil] at this
  exact this
theorem cmpH_ne (hi : 1 ≤ i) (hx : vs[(i - 1).toNat]? = some x) (hy : vs[i.toNat]? = some y) (h : ¬ f y = f x) : cmpH f none (vs.take (i + 1).toNat) = cmpH f none (vs.take i.toNat) ++ [y] := by
  have := cmpH_step (f := f) hx (y := y) (by rw [show (i - 1).toNat + 1 = i.toNat by omega]; exact hy)
  rw [show (i - 1).toNat + 1 = i.toNat by omega, show i.toNat + 1 = (i + 1).toNat by omega, if_neg (fun e => h e.symm)] at this
  exact this
theorem cmp_st0 (h : 2 ≤ (vs.length : Int)) : cmpH f none (vs.take (1 : Int).toNat) = vs.take (1 : Int).toNat := by
  match vs, h with
  | a :: b :: vs, _ => simp [cmpH]
theorem cmp_stS (hi : 1 ≤ i) (hP : cmpH f none (vs.take i.toNat) = vs.take i.toNat) (hx : vs[(i - 1).toNat]? = some x) (hy : vs[i.toNat]? = some y) (h : ¬ f y = f x) : cmpH f none (vs.take (i + 1).toNat) = vs.take (i + 1).toNat := by
  rw [cmpH_ne hi hx hy h, hP, show (i + 1).toNat = i.toNat + 1 by omega, take_snoc hy]
theorem cmp_in0 (hi : 1 ≤ i) (hP : cmpH f none (vs.take i.toNat) = vs.take i.toNat) (hx : vs[(i - 1).toNat]? = some x) (hy : vs[i.toNat]? = some y) (h : f y = f x) : vs.take i.toNat = cmpH f none (vs.take (i + 1).toNat) := by
  rw [cmpH_eq hi hx hy h, hP]
theorem cmp_end1 (hvf : vs.map f = l) (hP : cmpH f none (vs.take i.toNat) = vs.take i.toNat) (h : ¬ i < (vs.length : Int)) : vs.map f = cmpG l := by
  rw [List.take_of_length_le (by omega)] at hP
  rw [← hvf, ← cmpH_map, hP]
theorem cmp_few (hvf : vs.map f = l) (h : (vs.length : Int) < 2) : vs.map f = cmpG l := by
  rw [← hvf]
  match vs, h with
  | [], _ => rfl
  | [a], _ => rfl
  | a :: b :: vs, h => simp at h; omega
theorem cmp_inE (hm : 1 ≤ n) (hj : 1 ≤ j) (hz : zs.take i.toNat = cmpH f none (vs.take (n + j).toNat)) (ht : ∀ t : Nat, n + j - 1 ≤ (t : Int) → zs[t]? = vs[t]?)
    (hx : zs[n.toNat + (j - 1).toNat]? = some x) (hy : zs[n.toNat + j.toNat]? = some y) (h : f y = f x) : zs.take i.toNat = cmpH f none (vs.take (n + (j + 1)).toNat) := by
  rw [hz, show n + (j + 1) = (n + j) + 1 by omega]
  refine (cmpH_eq (by omega) (x := x) (y := y) ?_ ?_ h).symm
  · rw [← ht _ (by omega), ← hx]; congr 1; omega
  · rw [← ht _ (by omega), ← hy]; congr 1; omega
theorem cmp_inN (hm : 1 ≤ n) (hj : 1 ≤ j) (h0 : 0 ≤ i) (hl : i < (zs.length : Int)) (hz : zs.take i.toNat = cmpH f none (vs.take (n + j).toNat)) (ht : ∀ t : Nat, n + j - 1 ≤ (t : Int) → zs[t]? = vs[t]?)
    (hx : zs[n.toNat + (j - 1).toNat]? = some x) (hy : zs[n.toNat + j.toNat]? = some y) (h : ¬ f y = f x) : (zs.set i.toNat y).take (i + 1).toNat = cmpH f none (vs.take (n + (j + 1)).toNat) := by
  have e1 : (zs.set i.toNat y)[i.toNat]? = some y := List.getElem?_set_self (by omega)
  rw [show (i + 1).toNat = i.toNat + 1 by omega, take_snoc e1, List.take_set_of_le (Nat.le_refl _), hz, show n + (j + 1) = (n + j) + 1 by omega]
  refine (cmpH_ne (by omega) (x := x) (y := y) ?_ ?_ h).symm
  · rw [← ht _ (by omega), ← hx]; congr 1; omega
  · rw [← ht _ (by omega), ← hy]; congr 1; omega
theorem cmp_inT (hi : i ≤ n + j - 1) (h0 : 0 ≤ i) (ht : ∀ t : Nat, n + j - 1 ≤ (t : Int) → zs[t]? = vs[t]?) : ∀ t : Nat, n + (j + 1) - 1 ≤ (t : Int) → (zs.set i.toNat y)[t]? = vs[t]? := fun t h => by
  rw [List.getElem?_set_ne (by omega)]; exact ht t (by omega)
theorem cmp_row (h0 : 0 ≤ i) (hl : i ≤ (zs.length : Int)) (r : List Hdr) : (zs.take i.toNat ++ r).take i.toNat = zs.take i.toNat := by
  rw [List.take_left' (by rw [List.length_take]; omega)]
theorem cmp_shut (h0 : 0 ≤ i) (hl : i ≤ (zs.length : Int)) (r : List Hdr) (hz : zs.take i.toNat = cmpH f none (vs.take (n + j).toNat)) : ∃ l : List Hdr, l.Perm ((zs.take i.toNat ++ r).take i.toNat) ∧ l.Sublist vs := by
  rw [cmp_row h0 hl, hz]
  exact ⟨_, List.Perm.refl _, (cmpH_sub _ _).trans (List.take_sublist ..)⟩
theorem cmp_end2 (hvf : vs.map f = l) (h0 : 0 ≤ i) (hl : i ≤ (zs.length : Int)) (r : List Hdr) (hz : zs.take i.toNat = cmpH f none (vs.take (n + j).toNat)) (he : (vs.length : Int) ≤ n + j) : ((zs.take i.toNat ++ r).take i.toNat).map f = cmpG l := by
  rw [cmp_row h0 hl, hz, List.take_of_length_le (by omega), cmpH_map, hvf]
end

theorem fc_slices_CompactFunc_int_int (l : List (List Int)) (hl : l.length ≤ 1000000) : FC Tryz.prog 116 [(false, [.ref 0]), (false, [.clo 117 []])] [(0, some (.arr 106 (.sl 3 .int) l))] 0 (Own1 106 (.sl 3 .int) (cmpG l)) := by
 refine FC.go Tryz.func116 rfl rfl Tryz.ntmps116 fun O_ hO w0_ N0_ X_ h0_ f0_ => ?_
 refine AC.seq <| AC.poolO (q := 0) (e := .int) 1 rfl (Fresh.of rfl) (nlr rfl) fun vs gf hvf => ?_
 have hvl : vs.length = l.length := by rw [← hvf, List.length_map]
 iterate 9 refine w_ ?_
 cases hb1 : (decide ((vs.length : Int) < 2))
 ·have hb1' := of_decide_eq_false hb1
  iterate 7 refine w_ ?_
  refine AC.loopW (fun m_ s_ => ∃  (m : Int), m_ = ((vs.length : Int) - m).toNat ∧ (1 ≤ m ∧ m ≤ (vs.length : Int)) ∧ (cmpH gf none (vs.take m.toNat) = vs.take m.toNat) ∧ s_ = ⟨[(0, lR 0), (1, lf (.clo 117 [])), (5, lI m)], [(0, some (.arr 106 .vl vs)), (1, some (.pl true (.sl 3 .int) vs gf))]⟩) ⟨1, rfl, (by omega), (cmp_st0 (by omega)), rfl⟩ ?_ ?_
  · exact Wk.of [(0, 0), (1, 1)] rfl ⟨rfl, rfl, rfl, trivial⟩ ⟨rfl, rfl, trivial⟩ rfl rfl
  rintro m_ s_ ⟨m, hm3, hm, hP, rfl⟩
  iterate 7 refine w_ ?_
  cases hb4 : (decide (m < (vs.length : Int)))
  ·have hb4' := of_decide_eq_false hb4
   refine w_ ?_
   refine AC.exit ?_
   refine (?_ : AC _ _ _ _ _)
   iterate 4 refine w_ ?_
   refine AC.wk (Wk.unpool (q := 0) (p := 1) (zs := vs) rfl rfl (by exact ⟨_, List.Perm.refl _, List.Sublist.refl _⟩)) <| AC.ret ?_
   subst hO
   refine fin_own (e := (.sl 3 .int)) (xs := (vs.map gf)) (Res.one rfl (Rs.tmp rfl)) rfl ?_
   exact cmp_end1 hvf hP (by omega)
  ·have hb4' := of_decide_eq_true hb4
   iterate 4 refine w_ ?_
   obtain ⟨y, hx6⟩ : ∃ z, vs[(m).toNat]? = some z := ⟨_, List.getElem?_eq_getElem (by omega)⟩
   have yh := hx6
   obtain ⟨x, hx8⟩ : ∃ z, vs[(m - 1).toNat]? = some z := ⟨_, List.getElem?_eq_getElem (by omega)⟩
   have xh := hx8
   refine dw [io 18 (lf (.clo 117 [])), io 19 (lR 0), io 20 (lI m), io 21 (lf (.ept 0 1 ((m).toNat) 0)), io 22 (lf (.dat .vl y)), io 23 (lR 0), io 24 (lI m), io 25 (lI (m - 1)), io 26 (lf (.ept 0 1 ((m - 1).toNat) 0)), io 27 (lf (.dat .vl x)), io 28 (lB (decide ((gf y) = (gf x))))] [0, 0, 0, 6, 14, 0, 0, 64, 224, 480, 1023] mixed rfl (by kernel_rfl) ⟨dxm rfl rfl, dxm rfl rfl, dxm rfl rfl, fun _ h_ => ac (Does.indexI (e := .vl) (h_.v rfl) (h_.en 0 rfl) (h_.v rfl) und_30 tsh_106 rfl (by omega) (by first | omega | (simp only [List.length_set]; omega))) rfl, fun _ h_ => ac (Does.loadI (e := .vl) (h_.v rfl) (h_.n 0 rfl) hx6 rfl tsh_106 rfl rfl) rfl, dxm rfl rfl, dxm rfl rfl, fun _ h_ => ac (Does.sub (h_.v rfl) (Evl.int rfl) rfl (by omega)) rfl, fun _ h_ => ac (Does.indexI (e := .vl) (h_.v rfl) (h_.en 0 rfl) (h_.v rfl) und_30 tsh_106 rfl (by omega) (by first | omega | (simp only [List.length_set]; omega))) rfl, fun _ h_ => ac (Does.loadI (e := .vl) (h_.v rfl) (h_.n 0 rfl) hx8 rfl tsh_106 rfl rfl) rfl, fun _ h_ => ac (Does.callFB (fc_slices_Equal_int_int (gf y) (gf x)) enters_117 (h_.v rfl) ⟨_, _, rfl, (Evl.plB (p := 1) (h_.v rfl) (h_.n 1 rfl) (List.mem_of_getElem? hx6)), ⟨_, _, rfl, (Evl.plB (p := 1) (h_.v rfl) (h_.n 1 rfl) (List.mem_of_getElem? hx8)), rfl⟩⟩ rfl rfl rfl) rfl, ⟨⟩⟩ ?_
   cases hb9 : (decide ((gf y) = (gf x)))
   ·have hb9' := of_decide_eq_false hb9
    refine w_ ?_
    refine AC.skip ?_
    refine (?_ : AC _ _ _ _ _)
    iterate 4 refine w_ ?_
    refine AL.nil <| lend ⟨(m + 1), rfl, (by omega), (cmp_stS (by omega) hP xh yh (of_decide_eq_false (by assumption))), rfl⟩ (by omega) ?_
    exact Wk.of [(0, 0), (1, 1)] rfl ⟨rfl, rfl, rfl, trivial⟩ ⟨rfl, rfl, trivial⟩ rfl rfl
   ·have hb9' := of_decide_eq_true hb9
    iterate 4 refine w_ ?_
    refine lc (Does.sliceO (e := .vl) (a := (m).toNat) (b := vs.length - (m).toNat) (l := (some m)) (h := none) (Evl.tmp rfl) rfl (by exact (Evl.tmp rfl)) (by exact trivial) und_30 tsh_106 rfl (by first | (simp only [Option.getD_none, Option.getD_some]; omega) | omega | (simp only [Option.getD_none, Option.getD_some, List.length_append, List.length_take, List.length_replicate]; omega)) (by first | (simp only [Option.getD_none, Option.getD_some]; omega) | omega | (simp only [Option.getD_none, Option.getD_some, List.length_append, List.length_take, List.length_replicate]; omega)) (by first | (simp only [Option.getD_none, Option.getD_some]; omega) | omega | (simp only [Option.getD_none, Option.getD_some, List.length_append, List.length_take, List.length_replicate]; omega)) (by first | rfl | simp) (by first | rfl | simp)) ?_
    iterate 7 refine w_ ?_
    refine AC.loopW (fun m_ s_ => ∃  (zs : List Hdr) (i : Int) (j : Int), m_ = ((vs.length : Int) - m - j).toNat ∧ (zs.length = vs.length) ∧ (m ≤ i ∧ 1 ≤ j ∧ i ≤ m + j - 1 ∧ m + j ≤ (vs.length : Int)) ∧ (zs.take i.toNat = cmpH gf none (vs.take (m + j).toNat)) ∧ (∀ t : Nat, m + j - 1 ≤ (t : Int) → zs[t]? = vs[t]?) ∧ s_ = ⟨[(0, lR 2), (1, lf (.clo 117 [])), (5, lI i), (6, lf (.sub 2 1 ((m).toNat) (vs.length - (m).toNat))), (7, lI j), (12, lI m), (14, lI (vs.length : Int)), (15, lB true), (18, lf (.clo 117 [])), (20, lI m), (22, lf (.dat .vl y)), (24, lI m), (25, lI (m - 1)), (27, lf (.dat .vl x)), (28, lB true), (30, lI m)], [(1, some (.pl true (.sl 3 .int) vs gf)), (2, some (.arr 106 .vl zs))]⟩) ⟨vs, m, 1, rfl, rfl, (by omega), (cmp_in0 (by omega) hP xh yh (of_decide_eq_true (by assumption))), (fun t _ => rfl), rfl⟩ ?_ ?_
    · exact Wk.of [(1, 1), (2, 0)] rfl ⟨rfl, rfl, rfl, rfl, rfl, rfl, rfl, rfl, rfl, rfl, rfl, rfl, rfl, rfl, rfl, rfl, trivial⟩ ⟨rfl, rfl, trivial⟩ rfl rfl
    rintro m_ s_ ⟨zs, i, j, hm11, hz0, hij, hzs, htl, rfl⟩
    iterate 4 refine w_ ?_
    refine lc (Does.lenSub (e := .vl) (Evl.tmp rfl) rfl (by omega) und_30 rfl) ?_
    iterate 2 refine w_ ?_
    cases hb12 : (decide (j < ((vs.length - (m).toNat : Nat) : Int)))
    ·have hb12' := of_decide_eq_false hb12
     refine w_ ?_
     refine AC.exit ?_
     refine (?_ : AC _ _ _ _ _)
     iterate 3 refine w_ ?_
     refine lc (Does.sliceO (e := .vl) (a := (i).toNat) (b := zs.length - (i).toNat) (l := (some i)) (h := none) (Evl.tmp rfl) rfl (by exact (Evl.tmp rfl)) (by exact trivial) und_30 tsh_106 rfl (by first | (simp only [Option.getD_none, Option.getD_some]; omega) | omega | (simp only [Option.getD_none, Option.getD_some, List.length_append, List.length_take, List.length_replicate]; omega)) (by first | (simp only [Option.getD_none, Option.getD_some]; omega) | omega | (simp only [Option.getD_none, Option.getD_some, List.length_append, List.length_take, List.length_replicate]; omega)) (by first | (simp only [Option.getD_none, Option.getD_some]; omega) | omega | (simp only [Option.getD_none, Option.getD_some, List.length_append, List.length_take, List.length_replicate]; omega)) (by first | rfl | simp) (by first | rfl | simp)) <| lc (Does.clearO (e := .vl) (Evl.tmp rfl) rfl (by omega) und_30 zer_106 rfl rfl rfl) ?_
     iterate 4 refine w_ ?_
     refine lc (Does.sliceO (e := .vl) (a := 0) (b := (i).toNat) (l := none) (h := (some i)) (Evl.tmp rfl) rfl (by exact trivial) (by exact (Evl.tmp rfl)) und_30 tsh_106 rfl (by first | (simp only [Option.getD_none, Option.getD_some]; omega) | omega | (simp only [Option.getD_none, Option.getD_some, List.length_append, List.length_take, List.length_replicate]; omega)) (by first | (simp only [Option.getD_none, Option.getD_some]; omega) | omega | (simp only [Option.getD_none, Option.getD_some, List.length_append, List.length_take, List.length_replicate]; omega)) (by first | (simp only [Option.getD_none, Option.getD_some]; omega) | omega | (simp only [Option.getD_none, Option.getD_some, List.length_append, List.length_take, List.length_replicate]; omega)) (by first | rfl | simp) (by first | rfl | simp)) ?_
     iterate 2 refine w_ ?_
     refine AC.wk (Wk.shorten 3 4 (e := .vl) (xs := zs.take ((i).toNat) ++ List.replicate (zs.length - (i).toNat) (Ty.zero .vl)) rfl rfl (by first | omega | (simp only [List.length_append, List.length_take, List.length_replicate]; omega)) rfl (Fresh.of rfl) (nlr rfl)) <| AC.wk (Wk.unpool (q := 3) (p := 1) (zs := (zs.take ((i).toNat) ++ List.replicate (zs.length - (i).toNat) (Ty.zero .vl)).take ((i).toNat)) rfl rfl (by exact cmp_shut (by omega) (by omega) _ hzs)) <| AC.ret ?_
     subst hO
     refine fin_own (e := (.sl 3 .int)) (xs := (((zs.take ((i).toNat) ++ List.replicate (zs.length - (i).toNat) (Ty.zero .vl)).take ((i).toNat)).map gf)) (Res.one rfl (Rs.tmp rfl)) rfl ?_
     exact cmp_end2 hvf (by omega) (by omega) _ hzs (by omega)
    ·have hb12' := of_decide_eq_true hb12
     iterate 4 refine w_ ?_
     obtain ⟨y2, hx14⟩ : ∃ z, zs[(((m).toNat) + (j).toNat)]? = some z := ⟨_, List.getElem?_eq_getElem (by omega)⟩
     have y2h := hx14
     obtain ⟨x2, hx16⟩ : ∃ z, zs[(((m).toNat) + (j - 1).toNat)]? = some z := ⟨_, List.getElem?_eq_getElem (by omega)⟩
     have x2h := hx16
     refine dw [io 38 (lf (.clo 117 [])), io 39 (lf (.sub 2 1 ((m).toNat) (vs.length - (m).toNat))), io 40 (lI j), io 41 (lf (.ept 2 1 (((m).toNat) + (j).toNat) 0)), io 42 (lf (.dat .vl y2)), io 43 (lf (.sub 2 1 ((m).toNat) (vs.length - (m).toNat))), io 44 (lI j), io 45 (lI (j - 1)), io 46 (lf (.ept 2 1 (((m).toNat) + (j - 1).toNat) 0)), io 47 (lf (.dat .vl x2)), io 48 (lB (decide ((gf y2) = (gf x2)))), io 49 (lB (!(decide ((gf y2) = (gf x2)))))] [0, 0, 0, 6, 14, 0, 0, 64, 224, 480, 1023, 2047] mixed rfl (by kernel_rfl) ⟨dxm rfl rfl, dxm rfl rfl, dxm rfl rfl, fun _ h_ => ac (Does.indexSub (e := .vl) (k := ((m).toNat) + (j).toNat) (h_.v rfl) (h_.en 2 rfl) (by omega) (h_.v rfl) und_30 tsh_106 rfl (by omega) (by omega) (by first | rfl | omega)) rfl, fun _ h_ => ac (Does.loadI (e := .vl) (h_.v rfl) (h_.n 2 rfl) hx14 rfl tsh_106 rfl rfl) rfl, dxm rfl rfl, dxm rfl rfl, fun _ h_ => ac (Does.sub (h_.v rfl) (Evl.int rfl) rfl (by omega)) rfl, fun _ h_ => ac (Does.indexSub (e := .vl) (k := ((m).toNat) + (j - 1).toNat) (h_.v rfl) (h_.en 2 rfl) (by omega) (h_.v rfl) und_30 tsh_106 rfl (by omega) (by omega) (by first | rfl | omega)) rfl, fun _ h_ => ac (Does.loadI (e := .vl) (h_.v rfl) (h_.n 2 rfl) hx16 rfl tsh_106 rfl rfl) rfl, fun _ h_ => ac (Does.callFB (fc_slices_Equal_int_int (gf y2) (gf x2)) enters_117 (h_.v rfl) ⟨_, _, rfl, (Evl.plB (p := 1) (h_.v rfl) (h_.en 1 rfl) (List.mem_of_getElem? ((htl _ (by omega)).symm.trans hx14))), ⟨_, _, rfl, (Evl.plB (p := 1) (h_.v rfl) (h_.en 1 rfl) (List.mem_of_getElem? ((htl _ (by omega)).symm.trans hx16))), rfl⟩⟩ rfl rfl rfl) rfl, fun _ h_ => ac (Does.not (h_.v rfl) rfl) rfl, ⟨⟩⟩ ?_
     cases hb17 : (decide ((gf y2) = (gf x2)))
     ·have hb17' := of_decide_eq_false hb17
      iterate 6 refine w_ ?_
      refine lc (Does.indexSub (e := .vl) (k := ((m).toNat) + (j).toNat) (Evl.tmp rfl) rfl (by omega) (Evl.tmp rfl) und_30 tsh_106 rfl (by omega) (by omega) (by first | rfl | omega)) <| lc (Does.loadI (e := .vl) (Evl.tmp rfl) rfl hx14 rfl tsh_106 rfl rfl) <| lc (Does.indexI (e := .vl) (Evl.tmp rfl) rfl (Evl.tmp rfl) und_30 tsh_106 rfl (by omega) (by first | omega | (simp only [List.length_set]; omega))) ?_
      obtain ⟨x18, hx19⟩ : ∃ z, zs[(i).toNat]? = some z := ⟨_, List.getElem?_eq_getElem (by omega)⟩
      have x18h := hx19
      refine lc (Does.storeI (e := .vl) (z' := y2) (Evl.tmp rfl) rfl hx19 rfl (Ev.tmp rfl) rfl tsh_106 rfl rfl) ?_
      iterate 5 refine w_ ?_
      refine AL.nil ?_
      refine (?_ : AC _ _ _ _ _)
      iterate 4 refine w_ ?_
      refine AL.nil <| lend ⟨(zs.set ((i).toNat) y2), (i + 1), (j + 1), rfl, (by (rw [List.length_set]; assumption)), (by omega), (by exact cmp_inN (by omega) (by omega) (by omega) (by omega) hzs htl x2h y2h (of_decide_eq_false (by assumption))), (by exact cmp_inT (by omega) (by omega) htl), rfl⟩ (by omega) ?_
      exact Wk.of [(1, 1), (2, 2)] rfl ⟨rfl, rfl, rfl, rfl, rfl, rfl, rfl, rfl, rfl, rfl, rfl, rfl, rfl, rfl, rfl, rfl, trivial⟩ ⟨rfl, (entE (by first | rfl | simp)), trivial⟩ rfl rfl
     ·have hb17' := of_decide_eq_true hb17
      refine w_ ?_
      refine AC.skip ?_
      refine (?_ : AC _ _ _ _ _)
      iterate 4 refine w_ ?_
      refine AL.nil <| lend ⟨zs, i, (j + 1), rfl, (by assumption), (by omega), (by exact cmp_inE (by omega) (by omega) hzs htl x2h y2h (of_decide_eq_true (by assumption))), (by exact fun t h => htl t (by omega)), rfl⟩ (by omega) ?_
      exact Wk.of [(1, 1), (2, 2)] rfl ⟨rfl, rfl, rfl, rfl, rfl, rfl, rfl, rfl, rfl, rfl, rfl, rfl, rfl, rfl, rfl, rfl, trivial⟩ ⟨rfl, rfl, trivial⟩ rfl rfl
 ·have hb1' := of_decide_eq_true hb1
  iterate 5 refine w_ ?_
  refine AC.wk (Wk.unpool (q := 0) (p := 1) (zs := vs) rfl rfl (by exact ⟨_, List.Perm.refl _, List.Sublist.refl _⟩)) <| AC.ret ?_
  subst hO
  refine fin_own (e := (.sl 3 .int)) (xs := (vs.map gf)) (Res.one rfl (Rs.tmp rfl)) rfl ?_
  exact cmp_few hvf (by omega)

end Go.Proofs.YtnakmhfjafecpaaGreat
