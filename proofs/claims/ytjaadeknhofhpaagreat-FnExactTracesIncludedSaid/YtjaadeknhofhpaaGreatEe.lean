/- The traces of a state graph: both ways to them. Plain law. -/
import Derived.Test.YtjaadeknhofhpaaGreatEb
import Derived.Test.YtjaadeknhofhpaaGreatWh
set_option linter.unusedSimpArgs false
set_option linter.unusedVariables false
set_option linter.unusedSectionVars false
namespace Go.Proofs.YtjaadeknhofhpaaGreat
open Go.RowKit
set_option maxRecDepth 100000
set_option maxHeartbeats 4000000

section
variable {c : DSg} {h : Int} {n m : Nat} {s t : ByteArray} {u v : Int} {K L M A D l1 l2 : DLv} {a : DAr} {S T_ : List Int} {q p : ByteArray × List Int}
theorem arc_to (hs : SgOk c) (ha : a ∈ c.2.2) : 0 ≤ a.2.2.2 ∧ a.2.2.2 < (c.2.1.length : Int) := by
  have := hs.arcs a ha
  obtain ⟨_, h2, _⟩ := this
  omega
theorem stl_ok (hs : SgOk c) (hS : Srt S) (hr : ∀ u ∈ S, 0 ≤ u ∧ u < (c.2.1.length : Int)) : ∀ u, u ∈ stl c h S ↔ Ch c.2.2 h (fun v => v ∈ S) u := stN_closed hS (fun _ ha => arc_to hs ha) hr
theorem vs_to (hs : SgOk c) (k : Vs c h L s v) : 0 ≤ v ∧ v < (c.2.1.length : Int) := by
  obtain ⟨_, _, a, h1, _, _, _, rfl⟩ := k
  exact arc_to hs h1
theorem unT_get {L : List DTx} {p : ByteArray × List Int} (k : p ∈ unT L) : ∃ x ∈ L, p = (x.1, x.2.1) := by
  obtain ⟨x, hx, e⟩ := List.mem_map.1 k
  exact ⟨x, hx, e.symm⟩
theorem levT_ok (hs : SgOk c) : ∀ n, (Lev c h n (unT (levT c h n)) ∧ (∀ x ∈ levT c h n, x.2.2 = (n : Int))) ∧ ∀ x ∈ levT c h n, Srt x.2.1 := fun n => by
  have h1 := hs.some_
  induction n with
  | zero =>
    have h0 : ∀ u, u ∈ stl c h [0] ↔ Ch c.2.2 h (fun v => v = 0) u := fun u => (stl_ok hs (List.pairwise_singleton ..) (fun u hu => by rw [List.mem_singleton] at hu; omega) u).trans (Ch.congr fun v => List.mem_singleton)
    refine ⟨⟨⟨List.pairwise_singleton .., fun p hp => ?_, fun t u hu => ⟨_, List.mem_singleton.2 rfl, (tr_zero.1 hu).1.symm⟩⟩, fun x hx => by rw [levT, List.mem_singleton] at hx; subst hx; rfl⟩, fun x hx => by rw [levT, List.mem_singleton] at hx; subst hx; exact stN_srt (List.pairwise_singleton ..)⟩
    obtain ⟨x, hx, rfl⟩ := unT_get hp
    rw [levT, List.mem_singleton] at hx
    subst hx
    exact ⟨⟨0, (h0 0).2 (.base rfl)⟩, fun u => (h0 u).trans ⟨fun k => tr_zero.2 ⟨rfl, k⟩, fun k => (tr_zero.1 k).2⟩⟩
  | succ n ih =>
    obtain ⟨⟨g, hm⟩, hsr⟩ := ih
    have o := colT_ot0 (c := c) (h := h) (i := (n : Int) + 1) (L := levT c h n) fun x hx => by rw [hm x hx]
    have hcl : ∀ y ∈ colT c h (levT c h n) [], ∀ u, u ∈ stl c h y.2.1 ↔ Ch c.2.2 h (fun v => Vs c h (unT (levT c h n)) y.1 v) u := fun y hy u =>
      (stl_ok hs (o.srt y hy) (fun v hv => vs_to hs ((o.mem y hy v).1 hv)) u).trans (Ch.congr fun v => o.mem y hy v)
    refine ⟨⟨g.next ?_ (fun p hp => ?_) (fun s v hv => ?_), fun x hx => ?_⟩, fun x hx => ?_⟩
    · unfold unT levT morT
      rw [List.map_map, List.pairwise_map]
      exact o.nod
    · obtain ⟨x, hx, rfl⟩ := unT_get hp
      obtain ⟨y, hy, rfl⟩ := List.mem_map.1 hx
      exact ⟨o.wit y hy, hcl y hy⟩
    · obtain ⟨y, hy, e⟩ := o.all s v hv
      exact ⟨_, List.mem_map.2 ⟨clsT c h y, List.mem_map.2 ⟨y, hy, rfl⟩, rfl⟩, e⟩
    · obtain ⟨y, hy, rfl⟩ := List.mem_map.1 hx
      rw [show (clsT c h y).2.2 = y.2.2 from rfl, o.many y hy]; omega
    · obtain ⟨y, hy, rfl⟩ := List.mem_map.1 hx
      exact stN_srt (o.srt y hy)

/-! ### Texts, in their order -/
def outT (L : List DTx) (out : List ByteArray) : List ByteArray := L.foldl (fun o x => putG ltB x.1 o) out
def txL (c : DSg) (h : Int) : Nat → List ByteArray
  | 0 => outT (levT c h 0) []
  | n + 1 => outT (levT c h (n + 1)) (txL c h n)
theorem outT_mem : ∀ {L : List DTx} {out : List ByteArray}, t ∈ outT L out ↔ t ∈ out ∨ ∃ x ∈ L, x.1 = t
  | [], out => by simp [outT]
  | x :: l, out => by
    show t ∈ outT l (putG ltB x.1 out) ↔ _
    rw [outT_mem, putG_mem]
    simp only [List.mem_cons, exists_eq_or_imp]
    constructor
    · rintro ((rfl | h1) | h1)
      · exact .inr (.inl rfl)
      · exact .inl h1
      · exact .inr (.inr h1)
    · rintro (h1 | rfl | h1)
      · exact .inl (.inr h1)
      · exact .inl (.inl rfl)
      · exact .inr h1
theorem outT_str (ho : TO ltB) : ∀ {L : List DTx} {out : List ByteArray}, out.Pairwise (fun x y => ltB x y = true) → (outT L out).Pairwise (fun x y => ltB x y = true)
  | [], _, k => k
  | x :: l, out, k => outT_str ho (L := l) (putG_str ho k)
theorem txL_str (ho : TO ltB) : ∀ n, (txL c h n).Pairwise (fun x y => ltB x y = true)
  | 0 => outT_str ho List.Pairwise.nil
  | n + 1 => outT_str ho (txL_str ho n)
theorem lev_tx (g : Lev c h n (unT (levT c h n))) : (∃ x ∈ levT c h n, x.1 = t) ↔ ∃ u, Tr c h n t u := by
  constructor
  · rintro ⟨x, hx, rfl⟩
    have h1 := g.mem _ (List.mem_map.2 ⟨x, hx, rfl⟩)
    exact h1.1.imp fun u hu => (h1.2 u).1 hu
  · rintro ⟨u, hu⟩
    obtain ⟨p, hp, rfl⟩ := g.all t u hu
    obtain ⟨x, hx, rfl⟩ := unT_get hp
    exact ⟨x, hx, rfl⟩
theorem txL_mem (hs : SgOk c) : ∀ n, t ∈ txL c h n ↔ ∃ m, m ≤ n ∧ ∃ u, Tr c h m t u
  | 0 => by
    rw [txL, outT_mem, lev_tx (levT_ok hs 0).1.1]
    exact ⟨fun k => ⟨0, Nat.le_refl _, k.resolve_left (by simp)⟩, fun ⟨m, hm, k⟩ => .inr (by rwa [Nat.le_zero.1 hm] at k)⟩
  | n + 1 => by
    rw [txL, outT_mem, lev_tx (levT_ok hs (n + 1)).1.1, txL_mem hs n]
    constructor
    · rintro (⟨m, h1, h2⟩ | h1)
      · exact ⟨m, by omega, h2⟩
      · exact ⟨n + 1, Nat.le_refl _, h1⟩
    · rintro ⟨m, h1, h2⟩
      by_cases e : m = n + 1
      · subst e; exact .inr h2
      · exact .inl ⟨m, by omega, h2⟩
theorem str_nd {l : List ByteArray} (ho : TO ltB) (k : l.Pairwise (fun x y => ltB x y = true)) : l.Nodup := k.imp fun h e => by subst e; exact absurd ((ho.irr _).symm.trans h) (by decide)
theorem txL_le (ho : TO ltB) : ∀ {m n : Nat}, m ≤ n → (txL c h m).length ≤ (txL c h n).length := fun {m n} k => by
  induction k with
  | refl => exact Nat.le_refl _
  | step _ ih => exact Nat.le_trans ih (nd_sub (str_nd ho (txL_str ho _)) fun x hx => outT_mem.2 (.inl hx))
theorem levT_nil (k : levT c h n = []) : ∀ j, txL c h (n + j) = txL c h n ∧ levT c h (n + j) = []
  | 0 => ⟨rfl, k⟩
  | j + 1 => by
    obtain ⟨h1, h2⟩ := levT_nil k j
    have h3 : levT c h (n + j + 1) = [] := by rw [levT, h2]; rfl
    exact ⟨by rw [← Nat.add_assoc, txL, h3, h1]; rfl, h3⟩
@[reducible] def TcOk (c : DSg) (h m : Int) : Prop := SgOk c ∧ (-1 ≤ h ∧ h ≤ (c.1.length : Int) - 1) ∧ (0 ≤ m ∧ m ≤ 6)
def trV (c : DSg) [Decidable (SgOk c)] (h m : Int) : List ByteArray × Bool := if TcOk c h m ∧ (txL c h m.toNat).length ≤ 400 then (txL c h m.toNat, true) else ([], false)
theorem trV_no [Decidable (SgOk c)] {m : Int} (k : ¬ TcOk c h m) : trV c h m = ([], false) := if_neg fun g => k g.1
theorem trV_many [Decidable (SgOk c)] {m : Int} (ho : TO ltB) (k : 400 < (txL c h n).length) (hn : n ≤ m.toNat) : trV c h m = ([], false) := if_neg fun g => by have := txL_le (c := c) (h := h) ho hn; omega
theorem trV_yes [Decidable (SgOk c)] {m : Int} (g : TcOk c h m) (k : (txL c h m.toNat).length ≤ 400) : trV c h m = (txL c h m.toNat, true) := if_pos ⟨g, k⟩
theorem trV_end [Decidable (SgOk c)] {m : Int} (g : TcOk c h m) (hn : n ≤ m.toNat) (e : levT c h n = []) (k : (txL c h n).length ≤ 400) : trV c h m = (txL c h n, true) := by
  have h1 := (levT_nil e (m.toNat - n)).1
  rw [show n + (m.toNat - n) = m.toNat by omega] at h1
  rw [trV_yes g (by rw [h1]; exact k), h1]

/-! ### Words and texts -/
theorem inv_f : inv h a = false ↔ ¬ a.2.1 = -1 ∧ ¬ a.2.1 = h := by simp [inv]
theorem inv_t : inv h a = true ↔ a.2.1 = -1 ∨ a.2.1 = h := by simp [inv]
theorem wd_ok (hs : SgOk c) (ha : a ∈ c.2.2) (hi : inv h a = false) : ∃ N x, tl (wdA c a) = N ++ [x] ∧ isSg x = true ∧ ∀ b ∈ N, isSg b = false := by
  have h1 := (hs.arcs a ha).2.2.1
  have h2 : 0 ≤ a.2.1 ∧ a.2.1 ≤ (c.1.length : Int) - 1 := h1.resolve_right fun k => (inv_f.1 hi).1 k.1
  obtain ⟨g, hg⟩ : ∃ g, c.1[a.2.1.toNat]? = some g := ⟨_, List.getElem?_eq_getElem (by omega)⟩
  have h3 := (hs.sigs.1 a.2.1.toNat (by omega) g hg).1
  refine ⟨tl g.1, if a.2.2.1 = true then 43 else 45, ?_, by split <;> rfl, fun b hb => ?_⟩
  · unfold wdA sgB
    rw [tl_app, hg]
    split <;> rfl
  · obtain ⟨k, hk⟩ := List.mem_iff_getElem?.1 hb
    have hk2 : k < g.1.size := by have := (List.getElem?_eq_some_iff.1 hk).1; simpa [tl] using this
    have h4 : g.1[k] = b := by
      have := (List.getElem?_eq_some_iff.1 hk).2
      simp only [tl, Array.getElem_toList] at this
      exact this
    have h5 := h3.1 k hk2
    rw [h4] at h5
    unfold isSg
    simp only [Bool.or_eq_false_iff, beq_eq_false_iff_ne, ne_eq]
    unfold NameChar at h5
    refine ⟨fun e => ?_, fun e => ?_⟩ <;> subst e <;> revert h5 <;> simp
def cnS (l : List UInt8) : Nat := (l.filter isSg).length
theorem tr_txt (hs : SgOk c) (k : Tr c h n t u) : Ends (tl t) ∧ cnS (tl t) = n := by
  induction k with
  | zero => exact ⟨.inl rfl, rfl⟩
  | still _ _ _ ih => exact ih
  | word _ h2 h3 ih =>
    obtain ⟨N, x, e, hx, hN⟩ := wd_ok hs h2 h3
    rw [tl_app, e]
    refine ⟨.inr ⟨_, x, (List.append_assoc ..).symm, hx⟩, ?_⟩
    have e2 : N.filter isSg = [] := List.filter_eq_nil_iff.2 fun b hb => by rw [hN b hb]; decide
    have := ih.2
    unfold cnS at this ⊢
    rw [List.filter_append, List.filter_append, e2, List.nil_append, List.length_append, this, List.filter_cons, hx]; rfl
theorem tr_inj {t' : ByteArray} {u' : Int} {a' : DAr} (hs : SgOk c) (k : Tr c h n t u) (k' : Tr c h m t' u') (ha : a ∈ c.2.2) (ha' : a' ∈ c.2.2) (hi : inv h a = false) (hi' : inv h a' = false) (e : t ++ wdA c a = t' ++ wdA c a') : t = t' ∧ wdA c a = wdA c a' := by
  obtain ⟨N, x, e1, hx, hN⟩ := wd_ok hs ha hi
  obtain ⟨N', x', e1', hx', hN'⟩ := wd_ok hs ha' hi'
  have e2 := congrArg tl e
  rw [tl_app, tl_app, e1, e1', ← List.append_assoc, ← List.append_assoc] at e2
  obtain ⟨e3, e4⟩ := List.append_inj' e2 rfl
  obtain ⟨e5, e6⟩ := ends_inj (tr_txt hs k).1 (tr_txt hs k').1 hN hN' e3
  exact ⟨tl_inj e5, tl_inj (by rw [e1, e1', e6, e4])⟩
theorem tr_lev {u' : Int} (hs : SgOk c) (k : Tr c h n t u) (k' : Tr c h m t u') : n = m := (tr_txt hs k).2.symm.trans (tr_txt hs k').2

/-! ### The program -/
def afS (c : DSg) (S : List Int) (h : Int) (A : DLv) (a : DAr) : DLv := if a.1 ∈ S ∧ inv h a = false then mset .str A (wdA c a) (((mget .str A (wdA c a)).getD []) ++ [a.2.2.2]) else A
def afV (c : DSg) (S : List Int) (h : Int) : DLv := c.2.2.foldl (afS c S h) []
structure AfI (c : DSg) (h : Int) (S : List Int) (rs : List DAr) (A : DLv) : Prop where
  nod : A.Pairwise fun p q => p.1 ≠ q.1
  mem : ∀ p ∈ A, (∃ v, v ∈ p.2) ∧ ∀ v, v ∈ p.2 ↔ ∃ a ∈ rs, inv h a = false ∧ a.1 ∈ S ∧ wdA c a = p.1 ∧ v = a.2.2.2
  all : ∀ a ∈ rs, inv h a = false → a.1 ∈ S → ∃ p ∈ A, p.1 = wdA c a
theorem mg_of {k : Ty} {V : Type} {m : List (k.Den × V)} {x : k.Den} (hd : m.Pairwise fun p q => p.1 ≠ q.1) : (∃ v, (x, v) ∈ m ∧ mget k m x = some v) ∨ ((∀ p ∈ m, p.1 ≠ x) ∧ mget k m x = none) := by
  by_cases e : ∃ p ∈ m, p.1 = x
  · obtain ⟨p, hp, rfl⟩ := e
    obtain ⟨j, hj⟩ := List.mem_iff_getElem?.1 hp
    exact .inl ⟨p.2, hp, mget_at hd hj rfl⟩
  · have e2 : ∀ p ∈ m, p.1 ≠ x := fun p hp g => e ⟨p, hp, g⟩
    exact .inr ⟨e2, mget_none e2⟩
theorem ms_mem {k : Ty} {V : Type} {m : List (k.Den × V)} {x : k.Den} {v : V} {p : k.Den × V} (hd : m.Pairwise fun p q => p.1 ≠ q.1) : p ∈ mset k m x v ↔ (p ∈ m ∧ p.1 ≠ x) ∨ p = (x, v) := by
  have h1 := mset_pw (x := x) (v := v) hd
  constructor
  · intro hp
    rcases mset_mem hp with e | hp2
    · exact .inr e
    · by_cases e : p.1 = x
      · right
        obtain ⟨j, hj⟩ := List.mem_iff_getElem?.1 hp
        have h2 := mget_at h1 hj e
        rw [mget_mset, if_pos ((k.beq_iff _ _).2 rfl)] at h2
        cases h2
        exact Prod.ext e rfl
      · exact .inl ⟨hp2, e⟩
  · have h2 : ∀ y w, (y, w) ∈ mset k m x v ↔ mget k (mset k m x v) y = some w := fun y w => by
      rcases mg_of (x := y) h1 with ⟨w', h2, h3⟩ | ⟨h2, h3⟩
      · rw [h3]
        refine ⟨fun h4 => ?_, fun h4 => by cases h4; exact h2⟩
        obtain ⟨j, hj⟩ := List.mem_iff_getElem?.1 h4
        rw [← mget_at h1 hj rfl, h3]
      · rw [h3]; exact ⟨fun h4 => absurd rfl (h2 _ h4), fun h4 => by cases h4⟩
    rintro (⟨hp, e⟩ | rfl)
    · obtain ⟨y, w⟩ := p
      rw [h2, mget_mset, if_neg (fun g => e ((k.beq_iff _ _).1 g).symm)]
      obtain ⟨j, hj⟩ := List.mem_iff_getElem?.1 hp
      exact mget_at hd hj rfl
    · rw [h2, mget_mset, if_pos ((k.beq_iff _ _).2 rfl)]
theorem AfI.zero : AfI c h S [] [] := ⟨List.Pairwise.nil, by simp, by simp⟩
theorem AfI.step {rs : List DAr} (g : AfI c h S rs A) : AfI c h S (rs ++ [a]) (afS c S h A a) := by
  unfold afS
  split
  · rename_i h1
    have hold : ∀ v, v ∈ ((mget .str A (wdA c a)).getD []) ↔ ∃ b ∈ rs, inv h b = false ∧ b.1 ∈ S ∧ wdA c b = wdA c a ∧ v = b.2.2.2 := fun v => by
      rcases mg_of (k := .str) (x := wdA c a) g.nod with ⟨w, h2, h3⟩ | ⟨h2, h3⟩
      · rw [h3]; exact (g.mem _ h2).2 v
      · rw [h3]
        refine ⟨fun k => (by cases k), fun ⟨b, k1, k2, k3, k4, _⟩ => ?_⟩
        obtain ⟨p, hp, e⟩ := g.all b k1 k2 k3
        exact absurd (e.trans k4) (h2 p hp)
    refine ⟨mset_pw (k := .str) g.nod, fun p hp => ?_, fun b hb k1 k2 => ?_⟩
    · rcases (ms_mem (k := .str) g.nod).1 hp with ⟨hp, e⟩ | rfl
      · refine ⟨(g.mem p hp).1, fun v => ((g.mem p hp).2 v).trans ⟨fun ⟨b, k1, k2⟩ => ⟨b, List.mem_append_left _ k1, k2⟩, fun ⟨b, k1, k2, k3, k4, k5⟩ => ?_⟩⟩
        rcases List.mem_append.1 k1 with k1 | k1
        · exact ⟨b, k1, k2, k3, k4, k5⟩
        · rw [List.mem_singleton] at k1; subst k1; exact absurd k4.symm e
      · refine ⟨⟨a.2.2.2, List.mem_append_right _ (List.mem_singleton.2 rfl)⟩, fun v => ?_⟩
        show v ∈ _ ++ [a.2.2.2] ↔ _
        rw [List.mem_append, hold, List.mem_singleton]
        constructor
        · rintro (⟨b, k1, k2, k3, k4, k5⟩ | rfl)
          · exact ⟨b, List.mem_append_left _ k1, k2, k3, k4, k5⟩
          · exact ⟨a, List.mem_append_right _ (List.mem_singleton.2 rfl), h1.2, h1.1, rfl, rfl⟩
        · rintro ⟨b, k1, k2, k3, k4, k5⟩
          rcases List.mem_append.1 k1 with k1 | k1
          · exact .inl ⟨b, k1, k2, k3, k4, k5⟩
          · rw [List.mem_singleton] at k1; subst k1; exact .inr k5
    · rcases List.mem_append.1 hb with hb | hb
      · obtain ⟨p, hp, e⟩ := g.all b hb k1 k2
        by_cases e2 : p.1 = wdA c a
        · exact ⟨_, (ms_mem (k := .str) g.nod).2 (.inr rfl), by rw [← e, e2]⟩
        · exact ⟨p, (ms_mem (k := .str) g.nod).2 (.inl ⟨hp, e2⟩), e⟩
      · rw [List.mem_singleton] at hb; subst hb
        exact ⟨_, (ms_mem (k := .str) g.nod).2 (.inr rfl), rfl⟩
  · rename_i h1
    refine ⟨g.nod, fun p hp => ⟨(g.mem p hp).1, fun v => ((g.mem p hp).2 v).trans ⟨fun ⟨b, k1, k2⟩ => ⟨b, List.mem_append_left _ k1, k2⟩, fun ⟨b, k1, k2, k3, k4⟩ => ?_⟩⟩, fun b hb k1 k2 => ?_⟩
    · rcases List.mem_append.1 k1 with k1 | k1
      · exact ⟨b, k1, k2, k3, k4⟩
      · rw [List.mem_singleton] at k1; subst k1; exact absurd ⟨k3, k2⟩ h1
    · rcases List.mem_append.1 hb with hb | hb
      · exact g.all b hb k1 k2
      · rw [List.mem_singleton] at hb; subst hb; exact absurd ⟨k2, k1⟩ h1
theorem fold_afI : ∀ (l rs : List DAr) {A : DLv}, AfI c h S rs A → AfI c h S (rs ++ l) (l.foldl (afS c S h) A)
  | [], rs, A, g => by rw [List.append_nil]; exact g
  | a :: l, rs, A, g => by
    have := fold_afI l (rs ++ [a]) (g.step (a := a))
    rw [List.append_assoc] at this
    exact this
theorem afV_ok : AfI c h S c.2.2 (afV c S h) := by
  have := fold_afI (c := c) (h := h) (S := S) c.2.2 [] AfI.zero
  rw [List.nil_append] at this
  exact this
structure NxI (c : DSg) (h : Int) (V : ByteArray → Int → Prop) (M : DLv) : Prop where
  nod : M.Pairwise fun p q => p.1 ≠ q.1
  mem : ∀ p ∈ M, (∃ v, V p.1 v) ∧ ∀ u, u ∈ p.2 ↔ Ch c.2.2 h (fun v => V p.1 v) u
  all : ∀ s v, V s v → ∃ p ∈ M, p.1 = s
theorem NxI.congr {V W : ByteArray → Int → Prop} (g : NxI c h V M) (e : ∀ s v, V s v ↔ W s v) : NxI c h W M :=
  ⟨g.nod, fun p hp => ⟨(g.mem p hp).1.imp fun v hv => (e _ _).1 hv, fun u => ((g.mem p hp).2 u).trans (Ch.congr fun v => e _ _)⟩, fun s v hv => g.all s v ((e _ _).2 hv)⟩
theorem NxI.zero : NxI c h (fun _ _ => False) [] := ⟨List.Pairwise.nil, by simp, fun _ _ k => k.elim⟩
theorem NxI.step {V : ByteArray → Int → Prop} {W : Int → Prop} (g : NxI c h V M) (hf : ∀ v, ¬ V s v) (hT : ∀ u, u ∈ T_ ↔ Ch c.2.2 h W u) (hw : ∃ w, W w) : NxI c h (fun s' v' => V s' v' ∨ (s' = s ∧ W v')) (mset .str M s T_) := by
  have hnew : ∀ p ∈ M, p.1 ≠ s := fun p hp e => by
    obtain ⟨v, hv⟩ := (g.mem p hp).1
    rw [e] at hv; exact hf v hv
  refine ⟨mset_pw (k := .str) g.nod, fun p hp => ?_, fun s' v' hv => ?_⟩
  · rcases (ms_mem (k := .str) g.nod).1 hp with ⟨hp, e⟩ | rfl
    · exact ⟨(g.mem p hp).1.imp fun _ => .inl, fun u => ((g.mem p hp).2 u).trans (Ch.congr fun v => ⟨.inl, fun k => k.resolve_right fun k => e k.1⟩)⟩
    · exact ⟨hw.imp fun w hw => .inr ⟨rfl, hw⟩, fun u => (hT u).trans (Ch.congr fun v => ⟨fun k => .inr ⟨rfl, k⟩, fun k => k.elim (fun k => absurd k (hf v)) fun k => k.2⟩)⟩
  · rcases hv with hv | ⟨rfl, _⟩
    · obtain ⟨p, hp, e⟩ := g.all s' v' hv
      exact ⟨p, (ms_mem (k := .str) g.nod).2 (.inl ⟨hp, hnew p hp⟩), e⟩
    · exact ⟨_, (ms_mem (k := .str) g.nod).2 (.inr rfl), rfl⟩
/-- In the middle of a text's words. -/
def Vm (c : DSg) (h : Int) (D : DLv) (q : ByteArray × List Int) (E : DLv) (s : ByteArray) (v : Int) : Prop := Vs c h D s v ∨ ∃ p ∈ E, s = q.1 ++ p.1 ∧ v ∈ p.2
theorem vm_zero : Vm c h D q [] s v ↔ Vs c h D s v := by simp [Vm]
theorem vm_end {E : DLv} (hE : ∀ p, p ∈ E ↔ p ∈ afV c q.2 h) : Vm c h D q E s v ↔ Vs c h (D ++ [q]) s v := by
  have g := afV_ok (c := c) (h := h) (S := q.2)
  unfold Vm Vs
  constructor
  · rintro (⟨x, hx, k⟩ | ⟨p, hp, rfl, hv⟩)
    · exact ⟨x, List.mem_append_left _ hx, k⟩
    · obtain ⟨a, k1, k2, k3, k4, k5⟩ := ((g.mem p ((hE p).1 hp)).2 v).1 hv
      exact ⟨q, List.mem_append_right _ (List.mem_singleton.2 rfl), a, k1, k2, k3, by rw [k4], k5⟩
  · rintro ⟨x, hx, a, k1, k2, k3, k4, k5⟩
    rcases List.mem_append.1 hx with hx | hx
    · exact .inl ⟨x, hx, a, k1, k2, k3, k4, k5⟩
    · rw [List.mem_singleton] at hx; subst hx
      obtain ⟨p, hp, e⟩ := g.all a k1 k2 k3
      exact .inr ⟨p, (hE p).2 hp, by rw [k4, e], ((g.mem p hp).2 v).2 ⟨a, k1, k2, k3, e.symm, k5⟩⟩
theorem vm_new {E : DLv} (hs : SgOk c) (g : Lev c h n K) (hD : ∀ x ∈ D, x ∈ K) (hq : q ∈ K) (hqD : ∀ x ∈ D, x.1 ≠ q.1) (hE : ∀ x ∈ E, x ∈ afV c q.2 h) (hp : p ∈ afV c q.2 h) (hpE : ∀ x ∈ E, x.1 ≠ p.1) : ∀ v, ¬ Vm c h D q E (q.1 ++ p.1) v := fun v k => by
  have ga := afV_ok (c := c) (h := h) (S := q.2)
  have wit : ∀ x ∈ afV c q.2 h, ∃ a ∈ c.2.2, inv h a = false ∧ a.1 ∈ q.2 ∧ wdA c a = x.1 := fun x hx => by
    obtain ⟨w, hw⟩ := (ga.mem x hx).1
    obtain ⟨a, k1, k2, k3, k4, _⟩ := ((ga.mem x hx).2 w).1 hw
    exact ⟨a, k1, k2, k3, k4⟩
  obtain ⟨a, a1, a2, a3, a4⟩ := wit p hp
  have tq := ((g.mem q hq).2 _).1 a3
  rcases k with ⟨x, hx, b, b1, b2, b3, b4, _⟩ | ⟨x, hx, e, _⟩
  · rw [← a4] at b4
    exact hqD x hx (tr_inj hs tq (((g.mem x (hD x hx)).2 _).1 b3) a1 b1 a2 b2 b4).1.symm
  · obtain ⟨b, b1, b2, b3, b4⟩ := wit x (hE x hx)
    rw [← a4, ← b4] at e
    exact hpE x hx (by rw [← a4, ← b4, (tr_inj hs tq tq a1 b1 a2 b2 e).2])
/-- The texts so far, in whatever order. -/
structure OuI (c : DSg) (h : Int) (n : Nat) (out : List ByteArray) : Prop where
  nod : out.Nodup
  mem : ∀ t, t ∈ out ↔ ∃ m, m ≤ n ∧ ∃ u, Tr c h m t u
theorem OuI.zero : OuI c h 0 [ByteArray.empty] := ⟨by simp, fun t => by
  rw [List.mem_singleton]
  exact ⟨fun e => ⟨0, Nat.le_refl _, 0, by rw [e]; exact .zero⟩, fun ⟨m, hm, u, k⟩ => by rw [Nat.le_zero.1 hm] at k; exact (tr_zero.1 k).1⟩⟩
theorem OuI.len (hs : SgOk c) (ho : TO ltB) {out : List ByteArray} (g : OuI c h n out) : out.length = (txL c h n).length :=
  Nat.le_antisymm (nd_sub g.nod fun t ht => (txL_mem hs n).2 ((g.mem t).1 ht)) (nd_sub (str_nd ho (txL_str ho n)) fun t ht => (g.mem t).2 ((txL_mem hs n).1 ht))
theorem OuI.next (hs : SgOk c) {out : List ByteArray} (g : OuI c h n out) (k : Lev c h (n + 1) M) {E : DLv} (hE : E.Perm M) : OuI c h (n + 1) (out ++ E.map fun p => p.1) := by
  have hn : (E.map fun p => p.1).Nodup := by
    unfold List.Nodup
    rw [List.pairwise_map]
    exact hE.symm.pairwise k.nod fun h e => h e.symm
  refine ⟨List.nodup_append.2 ⟨g.nod, hn, fun x hx y hy e => ?_⟩, fun t => ?_⟩
  · subst e
    obtain ⟨m, hm, u, k1⟩ := (g.mem x).1 hx
    obtain ⟨p, hp, rfl⟩ := List.mem_map.1 hy
    have h2 := k.mem p (hE.mem_iff.1 hp)
    obtain ⟨u2, hu2⟩ := h2.1
    have := tr_lev hs k1 ((h2.2 u2).1 hu2)
    omega
  · rw [List.mem_append, g.mem]
    constructor
    · rintro (⟨m, hm, k1⟩ | h1)
      · exact ⟨m, by omega, k1⟩
      · obtain ⟨p, hp, rfl⟩ := List.mem_map.1 h1
        have h2 := k.mem p (hE.mem_iff.1 hp)
        exact ⟨n + 1, Nat.le_refl _, h2.1.imp fun u hu => (h2.2 u).1 hu⟩
    · rintro ⟨m, hm, u, k1⟩
      by_cases e : m = n + 1
      · subst e
        obtain ⟨p, hp, rfl⟩ := k.all t u k1
        exact .inr (List.mem_map.2 ⟨p, hE.mem_iff.2 hp, rfl⟩)
      · exact .inl ⟨m, by omega, u, k1⟩
end

end Go.Proofs.YtjaadeknhofhpaaGreat

/- The traces of a state graph: what both walks need. Plain law. -/
namespace Go.Proofs.YtjaadeknhofhpaaGreat
open Go.RowKit
set_option maxRecDepth 100000
set_option maxHeartbeats 4000000

theorem pg_len {α : Type _} [DecidableEq α] {lt : α → α → Bool} (x : α) : ∀ l : List α, (putG lt x l).length ≤ l.length + 1
  | [] => Nat.le_refl _
  | y :: l => by
    unfold putG
    have := pg_len (lt := lt) x l
    split
    · simp only [List.length_cons]; omega
    · split <;> simp
section
variable {c : DSg} {h : Int} {n k i j : Nat} {S set : List Int} {a : DAr} {rs as_ : List DAr} {x y z : DTx} {l L out : List DTx} {s t : ByteArray} {u v : Int} {g : DSignal}
theorem sg_name (hs : SgOk c) (hg : c.1[k]? = some g) : g.1.size ≤ 6 := (hs.sigs.1 k (List.getElem?_eq_some_iff.1 hg).1 g hg).1.2.2
theorem sgB_size {b : Bool} : (sgB b).size = 1 := by unfold sgB; split <;> rfl
theorem wdA_up (hg : c.1[a.2.1.toNat]? = some g) (hu : a.2.2.1 = true) : g.1 ++ (⟨#[43]⟩ : ByteArray) = wdA c a := by unfold wdA sgB; rw [hg, if_pos hu]; rfl
theorem wdA_dn (hg : c.1[a.2.1.toNat]? = some g) (hu : a.2.2.1 = false) : g.1 ++ (⟨#[45]⟩ : ByteArray) = wdA c a := by unfold wdA sgB; rw [hg, hu]; rfl
theorem wdA_size (hs : SgOk c) : (wdA c a).size ≤ 7 := by
  unfold wdA
  rw [ByteArray.size_append, sgB_size]
  cases hg : c.1[a.2.1.toNat]? with
  | none => simp
  | some g => have := sg_name hs hg; simp only [Option.getD_some]; omega
theorem tr_size (hs : SgOk c) (k : Tr c h n t u) : t.size ≤ 7 * n := by
  induction k with
  | zero => exact Nat.le_refl _
  | still _ _ _ ih => exact ih
  | word _ _ _ ih => rw [ByteArray.size_append]; have := wdA_size (c := c) hs (a := by assumption); omega
theorem arc_sig (hs : SgOk c) (ha : a ∈ c.2.2) (h1 : ¬ a.2.1 = -1) : 0 ≤ a.2.1 ∧ a.2.1 < (c.1.length : Int) := by
  have := (hs.arcs a ha).2.2.1.resolve_right fun k => h1 k.1
  omega

/-! ### What is reached unseen, step by step -/
theorem st_y1 (hx : rs[i]? = some a) (hi : a.2.1 = -1) (hm : a.1 ∈ stP h (rs.take i) S) : putG ltI a.2.2.2 (stP h (rs.take i) S) = stP h (rs.take (i + 1)) S := by
  rw [take_snoc hx]; unfold stP at hm ⊢
  rw [List.foldl_append, List.foldl_cons, List.foldl_nil, stS, if_pos ⟨inv_t.2 (.inl hi), hm⟩]
theorem st_y2 (hx : rs[i]? = some a) (hi : a.2.1 = h) (hm : a.1 ∈ stP h (rs.take i) S) : putG ltI a.2.2.2 (stP h (rs.take i) S) = stP h (rs.take (i + 1)) S := by
  rw [take_snoc hx]; unfold stP at hm ⊢
  rw [List.foldl_append, List.foldl_cons, List.foldl_nil, stS, if_pos ⟨inv_t.2 (.inr hi), hm⟩]
theorem st_n1 (hx : rs[i]? = some a) (h1 : ¬ a.2.1 = -1) (h2 : ¬ a.2.1 = h) : stP h (rs.take i) S = stP h (rs.take (i + 1)) S := by
  rw [take_snoc hx]; unfold stP
  rw [List.foldl_append, List.foldl_cons, List.foldl_nil, stS, if_neg (fun g => (inv_t.1 g.1).elim h1 h2)]
theorem st_n2 (hx : rs[i]? = some a) (hm : ¬ a.1 ∈ stP h (rs.take i) S) : stP h (rs.take i) S = stP h (rs.take (i + 1)) S := by
  rw [take_snoc hx]; unfold stP at hm ⊢
  rw [List.foldl_append, List.foldl_cons, List.foldl_nil, stS, if_neg (fun g => hm g.2)]
theorem st_end (hi : rs.length ≤ i) : stP h (rs.take i) (stN h rs k S) = stN h rs (k + 1) S := by rw [List.take_of_length_le hi]; rfl
theorem stS_len : (stS h S a).length ≤ S.length + 1 := by unfold stS; split; exact pg_len _ _; omega
theorem stP_len : (stP h as_ S).length ≤ S.length + as_.length := by
  induction as_ generalizing S with
  | nil => exact Nat.le_refl _
  | cons a l ih => have h1 := ih (S := stS h S a); have h2 := stS_len (h := h) (S := S) (a := a); simp only [stP, List.foldl_cons, List.length_cons] at h1 ⊢; omega
theorem stN_len (hr : rs.length ≤ 4000) : (stN h rs k S).length ≤ S.length + 4000 * k := by
  induction k with
  | zero => exact Nat.le_refl _
  | succ k ih => have h1 := stP_len (h := h) (as_ := rs) (S := stN h rs k S); rw [stN]; omega

/-! ### Texts with what is reached, put in -/
def ftT (x : DTx) (j : Nat) (y : DTx) : DTx := (y.1, (x.2.1.take j).foldl (fun s k => putG ltI k s) y.2.1, y.2.2)
theorem ftT_succ (hu : x.2.1[j]? = some u) : (y.1, putG ltI u (ftT x j y).2.1, y.2.2) = ftT x (j + 1) y := by unfold ftT; rw [take_snoc hu, List.foldl_append]; rfl
theorem fold_len : ∀ (m : List Int) {s : List Int}, (m.foldl (fun s k => putG ltI k s) s).length ≤ s.length + m.length
  | [], s => Nat.le_refl _
  | k :: m, s => by have h1 := fold_len m (s := putG ltI k s); have h2 := pg_len (lt := ltI) k s; simp only [List.foldl_cons, List.length_cons]; omega
theorem ftT_len : (ftT x j y).2.1.length ≤ y.2.1.length + j := by
  have h1 := fold_len (x.2.1.take j) (s := y.2.1)
  have h2 : (x.2.1.take j).length ≤ j := by simp only [List.length_take]; omega
  unfold ftT; dsimp only; omega
theorem set_self {α : Type} : ∀ {l : List α} {i : Nat} {y : α}, l[i]? = some y → l.set i y = l
  | _ :: _, 0, _, h => by cases h; rfl
  | _ :: _, i + 1, _, h => by rw [List.set_cons_succ, set_self (i := i) h]
theorem putT_at : ∀ {l : List DTx} {i : Nat} {y : DTx}, (∀ j, j < i → ∀ z, l[j]? = some z → ¬ (z.1 = x.1 ∧ z.2.2 = x.2.2)) → l[i]? = some y → y.1 = x.1 → y.2.2 = x.2.2 → x.2.1.length ≤ j → l.set i (ftT x j y) = putT l x
  | z :: l, 0, y, _, hy, h1, h2, hj => by cases hy; rw [putT, if_pos ⟨h1, h2⟩, ftT, List.take_of_length_le hj]; rfl
  | z :: l, i + 1, y, hP, hy, h1, h2, hj => by
    rw [putT, if_neg (hP 0 (Nat.succ_pos _) z rfl), List.set_cons_succ, putT_at (fun j hj w hw => hP (j + 1) (by omega) w hw) (i := i) hy h1 h2 hj]
theorem putT_end : ∀ {l : List DTx}, (∀ j, j < l.length → ∀ z, l[j]? = some z → ¬ (z.1 = x.1 ∧ z.2.2 = x.2.2)) → l ++ [x] = putT l x
  | [], _ => rfl
  | z :: l, hP => by
    rw [putT, if_neg (hP 0 (Nat.succ_pos _) z rfl), List.cons_append, putT_end fun j hj w hw => hP (j + 1) (by simp only [List.length_cons]; omega) w hw]
/-- Few texts, few states at each. -/
def Sm (N : Nat) (l : List DTx) : Prop := l.length ≤ N ∧ ∀ y ∈ l, y.2.1.length ≤ N
theorem Sm.put (g : Sm n l) (hx : x.2.1.length ≤ 1) : Sm (n + 1) (putT l x) := by
  obtain ⟨g1, g2⟩ := g
  suffices k : ∀ l : List DTx, (∀ y ∈ l, y.2.1.length ≤ n) → (putT l x).length ≤ l.length + 1 ∧ ∀ y ∈ putT l x, y.2.1.length ≤ n + 1 by
    obtain ⟨k1, k2⟩ := k l g2
    exact ⟨by omega, k2⟩
  intro l
  induction l with
  | nil => exact fun _ => ⟨Nat.le_refl _, fun y hy => by rw [putT, List.mem_singleton] at hy; subst hy; omega⟩
  | cons z l ih =>
    intro hl
    rw [putT]
    split
    · refine ⟨by simp, fun y hy => ?_⟩
      rcases List.mem_cons.1 hy with rfl | hy
      · have h1 := fold_len x.2.1 (s := z.2.1)
        have h2 := hl z (List.mem_cons_self ..)
        dsimp only; omega
      · have := hl y (List.mem_cons_of_mem _ hy); omega
    · obtain ⟨k1, k2⟩ := ih fun y hy => hl y (List.mem_cons_of_mem _ hy)
      refine ⟨by simp only [List.length_cons]; omega, fun y hy => ?_⟩
      rcases List.mem_cons.1 hy with rfl | hy
      · have := hl y (List.mem_cons_self ..); omega
      · exact k2 y hy
theorem Sm.ar (g : Sm n l) : Sm (n + 1) (arT c h x l a) := by
  unfold arT
  split
  · exact g.put (Nat.le_refl _)
  · exact ⟨Nat.le_succ_of_le g.1, fun y hy => Nat.le_succ_of_le (g.2 y hy)⟩
theorem Sm.row : ∀ (as_ : List DAr) {n : Nat} {l : List DTx}, Sm n l → Sm (n + as_.length) (rowT c h as_ x l)
  | [], _, _, g => g
  | a :: l, n, _, g => by
    have := Sm.row l (g.ar (c := c) (h := h) (x := x) (a := a))
    rw [show n + (a :: l).length = n + 1 + l.length by simp only [List.length_cons]; omega]
    exact this
theorem Sm.le {m : Nat} (g : Sm n l) (h : n ≤ m) : Sm m l := ⟨by have := g.1; omega, fun y hy => by have := g.2 y hy; omega⟩
theorem Sm.col (hr : c.2.2.length ≤ 4000) : ∀ (L : List DTx) {n : Nat} {l : List DTx}, Sm n l → Sm (n + 4000 * L.length) (colT c h L l)
  | [], _, _, g => g
  | x :: L, n, _, g => by
    have h1 := (Sm.row (c := c) (h := h) (x := x) c.2.2 g).le (m := n + 4000) (by omega)
    have := Sm.col hr L h1
    rw [show n + 4000 * (x :: L).length = n + 4000 + 4000 * L.length by simp only [List.length_cons]; omega]
    exact this
theorem Sm.zero : Sm 0 [] := ⟨Nat.le_refl _, fun _ h => by cases h⟩
theorem sm_in (hr : c.2.2.length ≤ 4000) (hL : L.length ≤ n) : Sm (4000 * n + i) (rowT c h (c.2.2.take i) x (colT c h (L.take k) [])) := by
  have h1 := Sm.col (h := h) hr (L.take k) Sm.zero
  refine (Sm.row (c.2.2.take i) h1).le ?_
  have h2 : (L.take k).length ≤ L.length := by simp only [List.length_take]; omega
  have h3 : (c.2.2.take i).length ≤ i := by simp only [List.length_take]; omega
  omega
theorem sm_all (hr : c.2.2.length ≤ 4000) (hL : L.length ≤ n) : Sm (4000 * n) (colT c h L []) := (Sm.col (h := h) hr L Sm.zero).le (by omega)
theorem row_y (hx : c.2.2[i]? = some a) (h1 : ¬ a.2.1 = -1) (h2 : ¬ a.2.1 = h) (hm : a.1 ∈ x.2.1) : putT (rowT c h (c.2.2.take i) x out) (x.1 ++ wdA c a, [a.2.2.2], x.2.2 + 1) = rowT c h (c.2.2.take (i + 1)) x out := by
  rw [take_snoc hx]; unfold rowT
  rw [List.foldl_append, List.foldl_cons, List.foldl_nil, arT, if_pos ⟨inv_f.2 ⟨h1, h2⟩, hm⟩]
theorem row_n1 (hx : c.2.2[i]? = some a) (h1 : a.2.1 = -1) : rowT c h (c.2.2.take i) x out = rowT c h (c.2.2.take (i + 1)) x out := by
  rw [take_snoc hx]; unfold rowT
  rw [List.foldl_append, List.foldl_cons, List.foldl_nil, arT, if_neg (fun g => (inv_f.1 g.1).1 h1)]
theorem row_n2 (hx : c.2.2[i]? = some a) (h1 : a.2.1 = h) : rowT c h (c.2.2.take i) x out = rowT c h (c.2.2.take (i + 1)) x out := by
  rw [take_snoc hx]; unfold rowT
  rw [List.foldl_append, List.foldl_cons, List.foldl_nil, arT, if_neg (fun g => (inv_f.1 g.1).2 h1)]
theorem row_n3 (hx : c.2.2[i]? = some a) (hm : ¬ a.1 ∈ x.2.1) : rowT c h (c.2.2.take i) x out = rowT c h (c.2.2.take (i + 1)) x out := by
  rw [take_snoc hx]; unfold rowT
  rw [List.foldl_append, List.foldl_cons, List.foldl_nil, arT, if_neg (fun g => hm g.2)]
theorem col_end (hx : L[k]? = some x) (hi : c.2.2.length ≤ i) : rowT c h (c.2.2.take i) x (colT c h (L.take k) []) = colT c h (L.take (k + 1)) [] := by
  rw [List.take_of_length_le hi, take_snoc hx]; unfold colT
  rw [List.foldl_append]; rfl
theorem cls_0 : ((L.take 0).map (clsT c h)) ++ L.drop 0 = L := by simp
theorem cls_at (hk : L[k]? = some y) : ((L.take k).map (clsT c h) ++ L.drop k)[k]? = some y := by
  have hl := (List.getElem?_eq_some_iff.1 hk).1
  rw [List.getElem?_append_right (by simp only [List.length_map, List.length_take]; omega), List.length_map, List.length_take, Nat.min_eq_left (by omega), Nat.sub_self, List.getElem?_drop]
  exact hk
theorem cls_set (hk : L[k]? = some y) : ((L.take k).map (clsT c h) ++ L.drop k).set k (clsT c h y) = (L.take (k + 1)).map (clsT c h) ++ L.drop (k + 1) := by
  obtain ⟨hl, hy⟩ := List.getElem?_eq_some_iff.1 hk
  rw [List.set_append_right _ _ (by simp only [List.length_map, List.length_take]; omega), List.length_map, List.length_take, Nat.min_eq_left (by omega), Nat.sub_self, List.drop_eq_getElem_cons hl, List.set_cons_zero, take_snoc hk, List.map_append, List.append_assoc]; rfl
theorem cls_len : ((L.take k).map (clsT c h) ++ L.drop k).length = L.length := by simp only [List.length_append, List.length_map, List.length_take, List.length_drop]; omega
theorem cls_end (hk : L.length ≤ k) : (L.take k).map (clsT c h) ++ L.drop k = L.map (clsT c h) := by rw [List.take_of_length_le hk, List.drop_eq_nil_of_le hk, List.append_nil]

/-! ### Levels -/
/-- The texts ahead of a level. -/
def txP (c : DSg) (h : Int) : Nat → List ByteArray
  | 0 => []
  | n + 1 => txL c h n
theorem txL_P : ∀ n, outT (levT c h n) (txP c h n) = txL c h n
  | 0 => rfl
  | n + 1 => rfl
theorem outT_snoc {o : List ByteArray} (hx : L[k]? = some x) : putG ltB x.1 (outT (L.take k) o) = outT (L.take (k + 1)) o := by
  rw [take_snoc hx]; unfold outT
  rw [List.foldl_append]; rfl
theorem outT_len : ∀ (L : List DTx) {o : List ByteArray}, (outT L o).length ≤ o.length + L.length
  | [], o => Nat.le_refl _
  | x :: L, o => by have h1 := outT_len L (o := putG ltB x.1 o); have h2 := pg_len (lt := ltB) x.1 o; simp only [outT, List.foldl_cons, List.length_cons] at h1 ⊢; omega
theorem lev_len (hs : SgOk c) : (levT c h (n + 1)).length ≤ 4000 * (levT c h n).length := by
  have := (sm_all (c := c) (h := h) hs.few (Nat.le_refl (levT c h n).length)).1
  rw [levT, morT, List.length_map]; omega
theorem lev_few (hs : SgOk c) : (levT c h n).length ≤ (txL c h n).length := by
  have h1 := (levT_ok (h := h) hs n).1.1
  have h2 := fun t => txL_mem (h := h) (t := t) hs n
  have h3 : ((levT c h n).map fun x => x.1).Nodup := by
    have := h1.nod
    unfold unT at this
    rw [List.pairwise_map] at this
    unfold List.Nodup
    rw [List.pairwise_map]; exact this
  have h4 := nd_sub h3 (m := txL c h n) fun t ht => by
    obtain ⟨x, hx, rfl⟩ := List.mem_map.1 ht
    obtain ⟨u, hu⟩ := (lev_tx h1).1 ⟨x, hx, rfl⟩
    exact (h2 _).2 ⟨n, Nat.le_refl _, u, hu⟩
  rwa [List.length_map] at h4
theorem lev_size (hs : SgOk c) (hx : x ∈ levT c h n) : x.1.size ≤ 7 * n := by
  obtain ⟨u, hu⟩ := (lev_tx (levT_ok (h := h) hs n).1.1).1 ⟨x, hx, rfl⟩
  exact tr_size hs hu
theorem lev_many (hs : SgOk c) (hx : x ∈ levT c h n) : x.2.2 = (n : Int) := (levT_ok (h := h) hs n).1.2 x hx
end

end Go.Proofs.YtjaadeknhofhpaaGreat

/- The traces of a state graph: what the walk of the program needs. Plain law. -/
namespace Go.Proofs.YtjaadeknhofhpaaGreat
open Go.RowKit
set_option maxRecDepth 100000
set_option maxHeartbeats 4000000

section
variable {c : DSg} {h : Int} {n k i j : Nat} {S set : List Int} {a : DAr} {rs as_ : List DAr} {out : List Int} {s t : ByteArray} {u v : Int} {K M A D E L L1 L2 : DLv} {p q : ByteArray × List Int}
theorem nd_few (hn : S.Nodup) (hr : ∀ u ∈ S, 0 ≤ u ∧ u < (n : Int)) : S.length ≤ n := by
  have h1 : (S.map Int.toNat).Nodup := by
    unfold List.Nodup
    rw [List.pairwise_map]
    exact List.Pairwise.imp_of_mem (fun ha hb h e => h (by have := hr _ ha; have := hr _ hb; omega)) hn
  have h2 : (S.map Int.toNat) ⊆ List.range n := fun x hx => by
    obtain ⟨u, hu, rfl⟩ := List.mem_map.1 hx
    have := hr u hu
    exact List.mem_range.2 (by omega)
  have := nd_sub h1 h2
  rwa [List.length_map, List.length_range] at this
/-- What 'closed' answers. -/
def clV (c : DSg) (h : Int) (S : List Int) : List Int := clL c.2.2 h 301 0 S
@[reducible] def Rng (c : DSg) (S : List Int) : Prop := S.Nodup ∧ ∀ u ∈ S, 0 ≤ u ∧ u < (c.2.1.length : Int)
theorem ch_rng (hs : SgOk c) (hS : Rng c S) (k : Ch c.2.2 h (fun v => v ∈ S) v) : 0 ≤ v ∧ v < (c.2.1.length : Int) := by
  induction k with
  | base h1 => exact hS.2 _ h1
  | step _ h2 _ _ => exact arc_to hs h2
theorem clI_few (hs : SgOk c) (hS : Rng c S) (g : ClI c.2.2 h (fun v => v ∈ S) k out) : out.length ≤ 300 := by
  have := nd_few g.nod fun u hu => ch_rng hs hS (g.ch u hu)
  have := hs.some_; omega
theorem cl_step (hE : clL rs h (301 - k) k out = S) (hu : out[k]? = some u) (hk : k < 301) : clL rs h (301 - (k + 1)) (k + 1) (clA rs h u out) = S := by
  rw [show 301 - k = (301 - (k + 1)) + 1 by omega, clL, hu] at hE; exact hE
theorem cl_end (hE : clL rs h (301 - k) k out = S) (hk : out.length ≤ k) : out = S := by
  have h1 : out[k]? = none := List.getElem?_eq_none hk
  cases h2 : 301 - k with
  | zero => rw [h2] at hE; exact hE
  | succ f => rw [h2, clL, h1] at hE; exact hE
theorem clV_go (hs : SgOk c) (hS : Rng c S) : ∀ (f : Nat) {k : Nat} {out : List Int}, k + f = 301 → ClI c.2.2 h (fun v => v ∈ S) k out → (∀ v, v ∈ clL c.2.2 h f k out ↔ Ch c.2.2 h (fun v => v ∈ S) v) ∧ (clL c.2.2 h f k out).Nodup
  | 0, k, out, e, g => by have h1 := g.le; have h2 := clI_few hs hS g; omega
  | f + 1, k, out, e, g => by
    rw [clL]
    cases hu : out[k]? with
    | none => exact ⟨g.end_ (List.getElem?_eq_none_iff.1 hu), g.nod⟩
    | some u => exact clV_go hs hS f (by omega) (g.step hu)
theorem clV_ok (hs : SgOk c) (hS : Rng c S) : (∀ v, v ∈ clV c h S ↔ Ch c.2.2 h (fun v => v ∈ S) v) ∧ (clV c h S).Nodup := clV_go hs hS 301 (Nat.zero_add _) (ClI.zero hS.1 fun _ => Iff.rfl)
theorem ca_at (hu : out[k]? = some u) (hz : (clA as_ h u out)[k]? = some v) : v = u := by
  obtain ⟨r, hr⟩ := clA_pre (as_ := as_) (h := h) (u := u) (S := out)
  rw [hr, List.getElem?_append_left (List.getElem?_eq_some_iff.1 hu).1, hu] at hz
  cases hz; rfl
theorem ca_le : out.length ≤ (clA as_ h u out).length := by
  obtain ⟨r, hr⟩ := clA_pre (as_ := as_) (h := h) (u := u) (S := out)
  rw [hr, List.length_append]; omega
theorem ca_len : (clA as_ h u out).length ≤ out.length + as_.length := by
  unfold clA
  induction as_ generalizing out with
  | nil => exact Nat.le_refl _
  | cons a l ih =>
    rw [List.foldl_cons]
    split
    · have := ih (out := out ++ [a.2.2.2]); simp only [List.length_append, List.length_cons, List.length_nil] at this ⊢; omega
    · have := ih (out := out); simp only [List.length_cons]; omega
theorem ca_snoc (hx : rs[i]? = some a) : clA (rs.take (i + 1)) h u out = if a.1 = u ∧ inv h a = true ∧ ¬ a.2.2.2 ∈ clA (rs.take i) h u out then clA (rs.take i) h u out ++ [a.2.2.2] else clA (rs.take i) h u out := by
  rw [take_snoc hx]; unfold clA
  rw [List.foldl_append]; rfl
theorem any_f {l : List Int} (k : (l.any fun y => decide (v = y)) = false) : ¬ v ∈ l := fun hm => by
  have := List.any_eq_false.1 k v hm
  simp at this
theorem any_t {l : List Int} (k : (l.any fun y => decide (v = y)) = true) : v ∈ l := by
  obtain ⟨y, hy, e⟩ := List.any_eq_true.1 k
  rw [of_decide_eq_true e]; exact hy
theorem ca_y1 (hx : rs[i]? = some a) (h1 : a.1 = u) (h2 : a.2.1 = -1) (h3 : ((clA (rs.take i) h u out).any fun y => decide (a.2.2.2 = y)) = false) : clA (rs.take i) h u out ++ [a.2.2.2] = clA (rs.take (i + 1)) h u out := by rw [ca_snoc hx, if_pos ⟨h1, inv_t.2 (.inl h2), any_f h3⟩]
theorem ca_y2 (hx : rs[i]? = some a) (h1 : a.1 = u) (h2 : a.2.1 = h) (h3 : ((clA (rs.take i) h u out).any fun y => decide (a.2.2.2 = y)) = false) : clA (rs.take i) h u out ++ [a.2.2.2] = clA (rs.take (i + 1)) h u out := by rw [ca_snoc hx, if_pos ⟨h1, inv_t.2 (.inr h2), any_f h3⟩]
theorem ca_n1 (hx : rs[i]? = some a) (h1 : ¬ a.1 = u) : clA (rs.take i) h u out = clA (rs.take (i + 1)) h u out := by rw [ca_snoc hx, if_neg (fun g => h1 g.1)]
theorem ca_n2 (hx : rs[i]? = some a) (h1 : ¬ a.2.1 = -1) (h2 : ¬ a.2.1 = h) : clA (rs.take i) h u out = clA (rs.take (i + 1)) h u out := by rw [ca_snoc hx, if_neg (fun g => (inv_t.1 g.2.1).elim h1 h2)]
theorem ca_n3 (hx : rs[i]? = some a) (h3 : ((clA (rs.take i) h u out).any fun y => decide (a.2.2.2 = y)) = true) : clA (rs.take i) h u out = clA (rs.take (i + 1)) h u out := by rw [ca_snoc hx, if_neg (fun g => g.2.2 (any_t h3))]

/-! ### What visible arcs reach, by texts -/
def edT (ss : List DSignal) (l : Int × Bool) : ByteArray := if l.1 < 0 then ⟨#[126]⟩ else ((ss[l.1.toNat]?).getD (ByteArray.empty, 0)).1 ++ sgB l.2
theorem edT_w (h1 : 0 ≤ a.2.1) : edT c.1 (a.2.1, a.2.2.1) = wdA c a := by unfold edT; rw [if_neg (by dsimp only; omega)]; rfl
def afT (c : DSg) (S : List Int) (h : Int) (i : Nat) : DLv := (c.2.2.take i).foldl (afS c S h) []
theorem afT_end (hi : c.2.2.length ≤ i) : afT c S h i = afV c S h := by unfold afT afV; rw [List.take_of_length_le hi]
theorem afT_snoc (hx : c.2.2[i]? = some a) : afT c S h (i + 1) = afS c S h (afT c S h i) a := by unfold afT; rw [take_snoc hx, List.foldl_append]; rfl
theorem af_y (hx : c.2.2[i]? = some a) (hm : (S.any fun y => decide (a.1 = y)) = true) (h1 : ¬ a.2.1 = -1) (h2 : ¬ a.2.1 = h) (h0 : 0 ≤ a.2.1) : mset .str (afT c S h i) (edT c.1 (a.2.1, a.2.2.1)) (((mget .str (afT c S h i) (edT c.1 (a.2.1, a.2.2.1))).getD []) ++ [a.2.2.2]) = afT c S h (i + 1) := by
  rw [afT_snoc hx, edT_w h0, afS, if_pos ⟨any_t hm, inv_f.2 ⟨h1, h2⟩⟩]
theorem af_n1 (hx : c.2.2[i]? = some a) (hm : (S.any fun y => decide (a.1 = y)) = false) : afT c S h i = afT c S h (i + 1) := by rw [afT_snoc hx, afS, if_neg fun g => any_f hm g.1]
theorem af_n2 (hx : c.2.2[i]? = some a) (h1 : a.2.1 = -1) : afT c S h i = afT c S h (i + 1) := by rw [afT_snoc hx, afS, if_neg fun g => (inv_f.1 g.2).1 h1]
theorem af_n3 (hx : c.2.2[i]? = some a) (h1 : a.2.1 = h) : afT c S h i = afT c S h (i + 1) := by rw [afT_snoc hx, afS, if_neg fun g => (inv_f.1 g.2).2 h1]
theorem afS_len (g : ∀ z, ((mget .str A z).getD []).length ≤ n) : ∀ z, ((mget .str (afS c S h A a) z).getD []).length ≤ n + 1 := fun z => by
  unfold afS
  split
  · rw [mget_mset]
    split
    · have := g (wdA c a); simp only [Option.getD_some, List.length_append, List.length_cons, List.length_nil]; omega
    · have := g z; omega
  · have := g z; omega
theorem af_len0 : ∀ (l : List DAr) {n : Nat} {A : DLv}, (∀ z, ((mget .str A z).getD []).length ≤ n) → ∀ z, ((mget .str (l.foldl (afS c S h) A) z).getD []).length ≤ n + l.length
  | [], _, _, g => g
  | a :: l, n, _, g => fun z => by
    have := af_len0 l (afS_len (c := c) (S := S) (h := h) (a := a) g) z
    simp only [List.foldl_cons, List.length_cons] at this ⊢; omega
theorem af_len (z : ByteArray) : ((mget .str (afT c S h i) z).getD []).length ≤ i := by
  have := af_len0 (c := c) (S := S) (h := h) (c.2.2.take i) (n := 0) (A := []) (fun z => Nat.le_refl _) z
  simp only [List.length_take] at this
  unfold afT; omega
theorem af_few (hs : SgOk c) (hp : p ∈ afV c S h) : p.2.length ≤ 4000 := by
  have g := afV_ok (c := c) (h := h) (S := S)
  obtain ⟨j, hj⟩ := List.mem_iff_getElem?.1 hp
  have h1 := mget_at (k := .str) g.nod hj rfl
  have h2 := af_len (c := c) (S := S) (h := h) (i := c.2.2.length) p.1
  rw [afT_end (Nat.le_refl _), h1] at h2
  have := hs.few
  simp only [Option.getD_some] at h2; omega
theorem af_rng (hs : SgOk c) (hp : p ∈ afV c S h) : Rng c (ofG ltI p.2) := by
  refine ⟨srt_nodup (ofG_str ltI_to _), fun u hu => ?_⟩
  obtain ⟨a, h1, _, _, _, rfl⟩ := (((afV_ok (c := c) (h := h) (S := S)).mem p hp).2 u).1 ((ofG_mem ltI_to _).1 hu)
  exact arc_to hs h1
theorem af_size (hs : SgOk c) (hp : p ∈ afV c S h) : p.1.size ≤ 7 := by
  have g := (afV_ok (c := c) (h := h) (S := S)).mem p hp
  obtain ⟨v, hv⟩ := g.1
  obtain ⟨a, _, _, _, e, _⟩ := (g.2 v).1 hv
  rw [← e]; exact wdA_size hs

/-! ### Levels -/
theorem rng_zero (hs : SgOk c) : Rng c [0] := ⟨by simp, fun u hu => by rw [List.mem_singleton] at hu; have := hs.some_; omega⟩
theorem lev_zero (hs : SgOk c) : Lev c h 0 [(ByteArray.empty, clV c h [0])] := by
  have g := (clV_ok (h := h) hs (rng_zero hs)).1
  have g2 : ∀ v, v ∈ clV c h [0] ↔ Ch c.2.2 h (fun v => v = 0) v := fun v => (g v).trans (Ch.congr fun v => List.mem_singleton)
  refine ⟨List.pairwise_singleton .., fun p hp => ?_, fun t u hu => ⟨_, List.mem_singleton.2 rfl, (tr_zero.1 hu).1.symm⟩⟩
  rw [List.mem_singleton] at hp; subst hp
  exact ⟨⟨0, (g2 0).2 (.base rfl)⟩, fun u => (g2 u).trans ⟨fun k => tr_zero.2 ⟨rfl, k⟩, fun k => (tr_zero.1 k).2⟩⟩
theorem perm_next (g : (D ++ L).Perm K) (e : L = L1 ++ q :: L2) : ((D ++ [q]) ++ (L1 ++ L2)).Perm K := by
  subst e
  refine List.Perm.trans ?_ g
  rw [List.append_assoc]
  refine List.Perm.append_left _ ?_
  exact (List.perm_middle (a := q) (l₁ := L1) (l₂ := L2)).symm
theorem perm_at (g : (D ++ L).Perm K) (e : L = L1 ++ q :: L2) : q ∈ K := g.mem_iff.1 (by rw [e]; simp)
theorem perm_in (g : (D ++ L).Perm K) : ∀ x ∈ D, x ∈ K := fun x hx => g.mem_iff.1 (List.mem_append_left _ hx)
theorem perm_ne (g : (D ++ L).Perm K) (hn : K.Pairwise fun p q => p.1 ≠ q.1) (e : L = L1 ++ q :: L2) : ∀ x ∈ D, x.1 ≠ q.1 := fun x hx => by
  have h1 := g.symm.pairwise hn fun h e => h e.symm
  exact (List.pairwise_append.1 h1).2.2 x hx q (by rw [e]; simp)
theorem perm_all (g : (D ++ L).Perm K) (e : L = []) : D.Perm K := by rw [e, List.append_nil] at g; exact g
theorem vs_perm (g : D.Perm K) : Vs c h D s v ↔ Vs c h K s v := by
  unfold Vs
  exact ⟨fun ⟨q, hq, k⟩ => ⟨q, g.mem_iff.1 hq, k⟩, fun ⟨q, hq, k⟩ => ⟨q, g.mem_iff.2 hq, k⟩⟩
theorem vm_snoc : Vm c h D q (E ++ [p]) s v ↔ Vm c h D q E s v ∨ (s = q.1 ++ p.1 ∧ v ∈ p.2) := by
  unfold Vm
  constructor
  · rintro (k | ⟨x, hx, k⟩)
    · exact .inl (.inl k)
    · rcases List.mem_append.1 hx with hx | hx
      · exact .inl (.inr ⟨x, hx, k⟩)
      · rw [List.mem_singleton] at hx; subst hx; exact .inr k
  · rintro ((k | ⟨x, hx, k⟩) | k)
    · exact .inl k
    · exact .inr ⟨x, List.mem_append_left _ hx, k⟩
    · exact .inr ⟨p, List.mem_append_right _ (List.mem_singleton.2 rfl), k⟩
theorem nx_zero : NxI c h (Vs c h []) [] := NxI.zero.congr fun s v => by simp [Vs]
theorem nx_in (g : NxI c h (Vs c h D) M) : NxI c h (Vm c h D q []) M := g.congr fun _ _ => vm_zero.symm
theorem nx_step (hs : SgOk c) (gl : Lev c h n K) (g : NxI c h (Vm c h D q E) M) (gD : (D ++ L).Perm K) (eq : L = L1 ++ q :: L2) {R R1 R2 : DLv} (gE : (E ++ R).Perm (afV c q.2 h)) (ep : R = R1 ++ p :: R2) : NxI c h (Vm c h D q (E ++ [p])) (mset .str M (q.1 ++ p.1) (clV c h (ofG ltI p.2))) := by
  have ga := afV_ok (c := c) (h := h) (S := q.2)
  have hp := perm_at gE ep
  refine (g.step (W := fun v => v ∈ p.2) (vm_new hs gl (perm_in gD) (perm_at gD eq) (perm_ne gD gl.nod eq) (perm_in gE) hp (perm_ne gE ga.nod ep)) (fun u => ((clV_ok hs (af_rng hs hp)).1 u).trans (Ch.congr fun v => ofG_mem ltI_to _)) ((ga.mem p hp).1)).congr fun s v => vm_snoc.symm
theorem nx_out (g : NxI c h (Vm c h D q E) M) {R : DLv} (gE : (E ++ R).Perm (afV c q.2 h)) (e : R = []) : NxI c h (Vs c h (D ++ [q])) M := g.congr fun _ _ => vm_end fun _ => (perm_all gE e).mem_iff
theorem nx_lev (gl : Lev c h n K) (g : NxI c h (Vs c h D) M) (gD : (D ++ L).Perm K) (e : L = []) : Lev c h (n + 1) M := by
  have g2 : NxI c h (Vs c h K) M := g.congr fun _ _ => vs_perm (perm_all gD e)
  exact gl.next g2.nod g2.mem g2.all
theorem lev_key (hs : SgOk c) (gl : Lev c h n K) (hq : q ∈ K) : q.1.size ≤ 7 * n := by
  obtain ⟨u, hu⟩ := (gl.mem q hq).1
  exact tr_size hs (((gl.mem q hq).2 u).1 hu)
theorem ou_end (hs : SgOk c) {out : List ByteArray} (g : OuI c h n out) : ssort out = txL c h n :=
  ltB_to.ext (ssort_nd g.nod) (txL_str ltB_to n) fun t => by rw [(ssort_perm out).mem_iff, g.mem, txL_mem hs]
end

end Go.Proofs.YtjaadeknhofhpaaGreat
