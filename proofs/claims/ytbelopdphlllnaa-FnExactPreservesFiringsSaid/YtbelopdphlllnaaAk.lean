/- Abstract states: contracts in the elder form (measures, copies, equal data) as contracts over states; from a contract to what the statement asks. No function is named here. -/
import Derived.Test.YtbelopdphlllnaaTo
import Derived.Test.YtbelopdphlllnaaEq
import Derived.Test.YtbelopdphlllnaaAj
namespace Go.Proofs.Ytbelopdphlllnaa
open Go.RowKit

def szv (left : Int) (t : Nat) : Int := if left < t then -1 else left - t
theorem szv_spec (left : Int) (t : Nat) : (left < t ∧ szv left t = -1) ∨ ((t : Int) ≤ left ∧ szv left t = left - t) := by
  unfold szv
  split
  · exact .inl ⟨by assumption, rfl⟩
  · exact .inr ⟨by omega, rfl⟩
theorem SzPost.szv {w w' : World} {l : Int} {t : Nat} {e : Ending} (h : SzPost w l t e w') : e = .returned (.int .i64 (szv l t)) ∧ Nw w w' := by
  obtain ⟨l', rfl, h1, h2⟩ := h
  have h3 := szv_spec l t
  unfold CutTo at h1
  have : l' = Go.Proofs.Ytbelopdphlllnaa.szv l t := by omega
  exact ⟨by rw [this], h2⟩
theorem FC.ofP {P : Program} {f : FuncId} {args : List (Bool × List LV)} {pv : PV} (h : ∀ (gh : Gh) (w : World) (vs : List Value), CmsR (Tab.al []) gh w args vs → Calls P f vs.toArray w fun e w' => ∃ v, e = .returned v ∧ Nw w w' ∧ PVR (Tab.al []) gh w' pv v) : FC P f args [] 0 (Pure pv) := fun gh w vs cx ha =>
  Calls.mono (h gh w vs ha) fun e w' he => by
    obtain ⟨v, rfl, h2, h3⟩ := he
    exact ⟨_, _, [], gh, rfl, ⟨rfl, rfl⟩, tombless al_nil gh w' fun g hg => Nat.lt_of_lt_of_le (cx.nl g hg) h2.size, h3, ⟨h2.grw, fun g hg _ => Below.block h2 g hg, fun g hg => .inl hg, fun q hq => absurd hq (al_nil q)⟩, fun q hq => absurd hq (by omega)⟩
section
variable {al : Nat → Prop} {gh : Gh} {w : World} {t : Ty} {x : t.Den} {cs : List (Bool × List LV)} {vs : List Value}
theorem CmsR.agg_cons (h : CmsR al gh w ((true, leaves t x) :: cs) vs) : ∃ us vs', vs = .agg us.toArray :: vs' ∧ Rep t w us x ∧ CmsR al gh w cs vs' := by
  obtain ⟨v, vs', rfl, ⟨us, rfl, h1⟩, h2⟩ := h
  exact ⟨us, vs', rfl, (LVs.rd h1).rep, h2⟩
theorem CmsR.leaf_cons (h : CmsR al gh w ((false, [.dat t x]) :: cs) vs) : ∃ v vs', vs = v :: vs' ∧ Rep t w [v] x ∧ CmsR al gh w cs vs' := by
  obtain ⟨v, vs', rfl, ⟨l, hl, h1⟩, h2⟩ := h
  simp only [List.cons.injEq, and_true] at hl
  subst hl
  exact ⟨v, vs', rfl, Rd.rep h1, h2⟩
theorem CmsR.nil_ (h : CmsR al gh w [] vs) : vs = [] := h
end
section
variable {P : Program} {f : FuncId} {t : Ty} {x : t.Den}
theorem FC.ofSzA {left : Int} (h : ∀ us w, Rep t w us x → Calls P f #[.agg us.toArray, .int .i64 left] w (SzPost w left (t.tot x))) (h0 : 0 ≤ left) (h1 : left ≤ 1048576) :
    FC P f [(true, leaves t x), (false, [dI left])] [] 0 (Pure (lf (dI (szv left (t.tot x))))) := FC.ofP fun gh w vs ha => by
  obtain ⟨us, vs, rfl, hr, ha⟩ := ha.agg_cons
  obtain ⟨v, vs, rfl, hi, ha⟩ := ha.leaf_cons
  obtain rfl := ha.nil_
  obtain ⟨rfl, _⟩ := Rep.int_ hi
  refine Calls.mono (h us w hr) fun e w' he => ?_
  obtain ⟨rfl, h2⟩ := he.szv
  have := szv_spec left (t.tot x)
  exact ⟨_, rfl, h2, _, rfl, LVR.mkI (by omega)⟩
theorem FC.ofEqA {y : t.Den} (e : x = y) (h : ∀ us vs w, Rep t w us x → Rep t w vs x → Calls P f #[.agg us.toArray, .agg vs.toArray] w (RetTrue w)) :
    FC P f [(true, leaves t x), (true, leaves t y)] [] 0 (Pure (lf (dB true))) := e ▸ FC.ofP fun gh w vs ha => by
  obtain ⟨us, vs, rfl, hr, ha⟩ := ha.agg_cons
  obtain ⟨us2, vs, rfl, hr2, ha⟩ := ha.agg_cons
  obtain rfl := ha.nil_
  refine Calls.mono (h us us2 w hr hr2) fun e w' he => ?_
  obtain ⟨rfl, h2⟩ := he
  exact ⟨_, rfl, h2, _, rfl, LVR.mkB⟩
end

/-! ### A datum's parts as own slices -/
def Ty.sls : Ty → Nat
  | .int => 0
  | .bool => 0
  | .str => 0
  | .u8 => 0
  | .sl _ _ => 1
  | .pr a b => a.sls + b.sls
def oL : (t : Ty) → t.Den → Nat → List LV
  | .int, x, _ => [.dat .int x]
  | .bool, x, _ => [.dat .bool x]
  | .str, x, _ => [.dat .str x]
  | .u8, x, _ => [.dat .u8 x]
  | .sl _ _, _, n => [.ref n]
  | .pr a b, x, n => oL a x.1 n ++ oL b x.2 (n + a.sls)
def oT : (t : Ty) → t.Den → Nat → Tab
  | .int, _, _ => []
  | .bool, _, _ => []
  | .str, _, _ => []
  | .u8, _, _ => []
  | .sl E e, xs, n => [(n, some (.arr E e xs))]
  | .pr a b, x, n => oT a x.1 n ++ oT b x.2 (n + a.sls)
theorem oL_tags : ∀ (t : Ty) (x : t.Den) (n q : Nat), q ∈ lvsTags (oL t x n) → n ≤ q ∧ q < n + t.sls
  | .int, _, _, _, h => by cases h
  | .bool, _, _, _, h => by cases h
  | .str, _, _, _, h => by cases h
  | .u8, _, _, _, h => by cases h
  | .sl _ _, _, n, q, h => by
    have : q = n := by simpa [oL, lvsTags, LV.tags] using h
    subst this
    exact ⟨Nat.le_refl _, Nat.lt_succ_self _⟩
  | .pr a b, x, n, q, h => by
    rw [oL, lvsTags_app] at h
    rcases List.mem_append.1 h with h | h
    · have := oL_tags a x.1 n q h; simp only [Ty.sls]; omega
    · have := oL_tags b x.2 _ q h; simp only [Ty.sls]; omega
theorem entApp {A B : Tab} {q : Nat} {e : Ent} (h : Tab.ent (A ++ B) q = some e) : A.ent q = some e ∨ B.ent q = some e := by
  induction A with
  | nil => exact .inr h
  | cons x A ih =>
    obtain ⟨j, o⟩ := x
    rw [List.cons_append, Tab.ent_cons] at h
    rw [Tab.ent_cons]
    by_cases e1 : q = j
    · rw [if_pos e1] at h ⊢; exact .inl h
    · rw [if_neg e1] at h ⊢; exact ih h
/-- hh, ff: what the tags from n on stand for, where the parts of x lie. -/
structure Parts (t : Ty) (w : World) (fp : List Nat) (cs : List Value) (x : t.Den) (n : Nat) (hh : Nat → Value) (ff : Nat → List Nat) : Prop where
  lv : ∀ (al : Nat → Prop) (N : Nat → Prop), LVs al ⟨hh, ff, N⟩ w (oL t x n) cs
  rg : ∀ q e, (oT t x n).ent q = some e → n ≤ q ∧ q < n + t.sls ∧ (∃ E' e' xs, e = .arr E' e' xs ∧ Own (.sl E' e') w (ff q) [hh q] xs) ∧ (∀ g ∈ ff q, g ∈ fp) ∧ (ff q).Nodup
  dj : ∀ q q', (oT t x n).al q → (oT t x n).al q' → q ≠ q' → ∀ g ∈ ff q, g ∉ ff q'
theorem parts_flat {t : Ty} {w : World} {cs : List Value} {x : t.Den} {n : Nat} (fp : List Nat) (hr : Rep t w cs x) (hf : t.flat = true) (h1 : ∀ y m, oL t y m = leaves t y) (h2 : ∀ y m, oT t y m = []) : Parts t w fp cs x n (fun _ => undef) fun _ => [] where
  lv al N := by rw [h1]; exact (Rep.rd0 (N := N) (w' := w) hr hf).leaves
  rg q e h := by rw [h2] at h; cases h
  dj q q' h := by rw [h2] at h; exact absurd h (al_nil q)
theorem Own.parts : ∀ {t : Ty} {w : World} {fp : List Nat} {cs : List Value} {x : t.Den} (n : Nat), Own t w fp cs x → fp.Nodup → ∃ hh ff, Parts t w fp cs x n hh ff
  | .int, _, fp, _, _, _, h, _ => ⟨_, _, parts_flat fp h.rep rfl (fun _ _ => rfl) fun _ _ => rfl⟩
  | .bool, _, fp, _, _, _, h, _ => ⟨_, _, parts_flat fp h.rep rfl (fun _ _ => rfl) fun _ _ => rfl⟩
  | .str, _, fp, _, _, _, h, _ => ⟨_, _, parts_flat fp h.rep rfl (fun _ _ => rfl) fun _ _ => rfl⟩
  | .u8, _, fp, _, _, _, h, _ => ⟨_, _, parts_flat fp h.rep rfl (fun _ _ => rfl) fun _ _ => rfl⟩
  | .sl E e, w, fp, cs, xs, n, h, hd => by
    have hl := h.len
    match cs, hl with
    | [v], _ =>
      refine ⟨fun _ => v, fun _ => fp, ⟨fun al N => ⟨v, [], rfl, fun _ => rfl, rfl⟩, fun q e' he => ?_, fun q q' h1 h2 hne => ?_⟩⟩
      · rw [oT, Tab.ent_cons] at he
        by_cases e1 : q = n
        · rw [if_pos e1] at he
          cases he
          exact ⟨by omega, by simp only [Ty.sls]; omega, ⟨_, _, _, rfl, h⟩, fun g hg => hg, hd⟩
        · rw [if_neg e1] at he; cases he
      · exact absurd (own1_al' h1 |>.trans (own1_al' h2).symm) hne
  | .pr a b, w, fp, cs, x, n, h, hd => by
    obtain ⟨f1, f2, l, r, rfl, rfl, h1, h2⟩ := h
    obtain ⟨d1, d2, d3⟩ := List.nodup_append.1 hd
    obtain ⟨ha, fa, pa⟩ := Own.parts n h1 d1
    obtain ⟨hb, fb, pb⟩ := Own.parts (n + a.sls) h2 d2
    have ea : ∀ q, q < n + a.sls → (if q < n + a.sls then ha q else hb q) = ha q ∧ (if q < n + a.sls then fa q else fb q) = fa q := fun q h => ⟨if_pos h, if_pos h⟩
    have eb : ∀ q, n + a.sls ≤ q → (if q < n + a.sls then ha q else hb q) = hb q ∧ (if q < n + a.sls then fa q else fb q) = fb q := fun q h => ⟨if_neg (by omega), if_neg (by omega)⟩
    refine ⟨fun q => if q < n + a.sls then ha q else hb q, fun q => if q < n + a.sls then fa q else fb q, ⟨fun al N => ?_, fun q e he => ?_, fun q q' k1 k2 hne => ?_⟩⟩
    · exact LVs.app ((pa.lv al N).mono (fun q hq k => ⟨k, (ea q (oL_tags a x.1 n q hq).2).1⟩) fun g hg => ⟨hg, rfl⟩) ((pb.lv al N).mono (fun q hq k => ⟨k, (eb q (oL_tags b x.2 _ q hq).1).1⟩) fun g hg => ⟨hg, rfl⟩)
    · rcases entApp he with he | he
      · obtain ⟨k1, k2, k3, k4, k5⟩ := pa.rg q e he
        refine ⟨k1, by simp only [Ty.sls]; omega, ?_, ?_, ?_⟩
        · rw [(ea q k2).1, (ea q k2).2]; exact k3
        · rw [(ea q k2).2]; exact fun g hg => List.mem_append_left _ (k4 g hg)
        · rw [(ea q k2).2]; exact k5
      · obtain ⟨k1, k2, k3, k4, k5⟩ := pb.rg q e he
        refine ⟨by omega, by simp only [Ty.sls]; omega, ?_, ?_, ?_⟩
        · rw [(eb q k1).1, (eb q k1).2]; exact k3
        · rw [(eb q k1).2]; exact fun g hg => List.mem_append_right _ (k4 g hg)
        · rw [(eb q k1).2]; exact k5
    · obtain ⟨e, k1⟩ := k1
      obtain ⟨e', k2⟩ := k2
      rcases entApp k1 with k1 | k1 <;> rcases entApp k2 with k2 | k2
      · obtain ⟨_, p2, _, p4, _⟩ := pa.rg q e k1
        obtain ⟨_, q2, _, q4, _⟩ := pa.rg q' e' k2
        rw [(ea q p2).2, (ea q' q2).2]
        exact pa.dj q q' ⟨_, k1⟩ ⟨_, k2⟩ hne
      · obtain ⟨_, p2, _, p4, _⟩ := pa.rg q e k1
        obtain ⟨q2, _, _, q4, _⟩ := pb.rg q' e' k2
        rw [(ea q p2).2, (eb q' q2).2]
        exact fun g h1 h2 => d3 _ (p4 g h1) _ (q4 g h2) rfl
      · obtain ⟨p2, _, _, p4, _⟩ := pb.rg q e k1
        obtain ⟨_, q2, _, q4, _⟩ := pa.rg q' e' k2
        rw [(eb q p2).2, (ea q' q2).2]
        exact fun g h1 h2 => d3 _ (q4 g h2) _ (p4 g h1) rfl
      · obtain ⟨p2, _, _, p4, _⟩ := pb.rg q e k1
        obtain ⟨q2, _, _, q4, _⟩ := pb.rg q' e' k2
        rw [(eb q p2).2, (eb q' q2).2]
        exact pb.dj q q' ⟨_, k1⟩ ⟨_, k2⟩ hne
where
  own1_al' {E : TypeId} {e : Ty} {zs : List e.Den} {q n : Nat} (h : Tab.al [(n, some (.arr E e zs))] q) : q = n := by
    obtain ⟨e', h⟩ := h
    rw [Tab.ent_cons] at h
    by_cases h1 : q = n
    · exact h1
    · rw [if_neg h1] at h; cases h
section
variable {P : Program} {f : FuncId} {t : Ty} {x : t.Den} {args : List (Bool × List LV)}
/-- A call that answers a struct in new memory. -/
theorem FC.ofOwnA (h : ∀ (gh : Gh) (w : World) (vs : List Value), CmsR (Tab.al []) gh w args vs → Calls P f vs.toArray w fun e w' => ∃ cs, e = .returned (.agg cs.toArray) ∧ Frs t w.heap.size w'.heap.size w' cs x ∧ Nw w w') :
    FC P f args [] 0 (Is (ag (oL t x 0)) (oT t x 0)) := fun gh w vs cx ha =>
  Calls.mono (h gh w vs ha) fun e w' he => by
    obtain ⟨cs, rfl, ⟨fp, h1, h2, h3⟩, h4⟩ := he
    obtain ⟨hh, ff, p⟩ := h1.parts 0 h2
    refine ⟨_, _, oT t x 0, ⟨hh, ff, gh.N⟩, rfl, ⟨rfl, rfl⟩, ⟨fun q e he => ?_, p.dj, fun q hq => ?_, fun q hq g hg hn => ?_, fun g hg => Nat.lt_of_lt_of_le (cx.nl g hg) h4.size⟩, ⟨cs, rfl, p.lv _ _⟩,
      ⟨h4.grw, fun g hg _ => Below.block h4 g hg, fun g hg => .inl hg, fun q hq g hg => ?_⟩, fun q hq => absurd hq (by omega)⟩
    · obtain ⟨_, _, ⟨E', e', xs, rfl, k⟩, _⟩ := p.rg q e he
      exact k
    · obtain ⟨e, he⟩ := hq
      exact (p.rg q e he).2.2.2.2
    · obtain ⟨e, he⟩ := hq
      have k1 := (h3 g ((p.rg q e he).2.2.2.1 g hg)).1
      have k2 := cx.nl g hn
      omega
    · obtain ⟨e, he⟩ := hq
      exact .inl (h3 g ((p.rg q e he).2.2.2.1 g hg)).1
end

/-! ### From a contract to a call -/
def gh0 (w : World) : Gh := ⟨fun _ => undef, fun _ => [], fun g => g < w.heap.size⟩
theorem CmsR.nil0 {al : Nat → Prop} {gh : Gh} {w : World} : CmsR al gh w [] [] := rfl
theorem CmsR.mkA {al : Nat → Prop} {w : World} {t : Ty} {x : t.Den} {us vs : List Value} {cs : List (Bool × List LV)} (h : Rep t w us x) (k : CmsR al (gh0 w) w cs vs) : CmsR al (gh0 w) w ((true, leaves t x) :: cs) (.agg us.toArray :: vs) :=
  ⟨_, _, rfl, ⟨us, rfl, (h.rd fun _ hg => hg).leaves⟩, k⟩
theorem FC.calls {P : Program} {f : FuncId} {args : List (Bool × List LV)} {b : Bool} (h : FC P f args [] 0 (Pure (lf (dB b)))) {w : World} {vs : List Value} (ha : CmsR (Tab.al []) (gh0 w) w args vs) :
    Calls P f vs.toArray w fun e w' => e = .returned (.bool b) ∧ Nw w w' :=
  Calls.mono (h (gh0 w) w vs (tombless al_nil _ _ fun _ hg => hg) ha) fun e w' he => by
    obtain ⟨v, pv, T', gh', rfl, ⟨rfl, rfl⟩, _, ⟨l, hl, hp⟩, fr, _⟩ := he
    simp only [List.cons.injEq, and_true] at hl
    subst hl
    exact ⟨by rw [LVR.bool hp], ⟨fr.gw.os, fr.gw.tape, fr.gw.output, fr.gw.size, fun g hg => fr.kp g hg fun q hq => absurd hq (al_nil q)⟩⟩
end Go.Proofs.Ytbelopdphlllnaa
