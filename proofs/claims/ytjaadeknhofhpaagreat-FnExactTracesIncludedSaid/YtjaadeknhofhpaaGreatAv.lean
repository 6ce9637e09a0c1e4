/- Abstract states: parts of slices of one's own; copies; an own slice that is frozen. No program is named here. -/
import Derived.Test.YtjaadeknhofhpaaGreatAl
import Derived.Laws.CopyRow
import Derived.Test.YtjaadeknhofhpaaGreatAh
import Derived.Test.YtjaadeknhofhpaaGreatAe
import Derived.DeepKeys3
import Derived.Laws.Shifts
import Derived.Laws.BitsAllLaws
import Derived.Test.YtjaadeknhofhpaaGreatAk
import Derived.Sort.EveryDepth
import Derived.Sort.OwnSortedInts
import Derived.Shelf.Sort.AssemblyIn
set_option linter.unusedSimpArgs false
set_option linter.unusedVariables false
set_option linter.unusedSectionVars false
namespace Go.Proofs.YtjaadeknhofhpaaGreat
open Go.RowKit

section
variable {A : Amb} {P : Program} {s : St} {x y : Operand} {d : Nat} {T T' ty : TypeId} {pos : String} {af : Array Edge} {g : Option (Nat × Bool)}
variable {E : TypeId} {e : Ty} {xs : List e.Den} {q lo n : Nat}
theorem SubR.all {h : Value} {w : World} {fp : List Nat} {wd : Nat} (hO : Own (.sl E e) w fp [h] xs) : SubR h wd 0 xs.length h := by
  rcases hO with ⟨_, h1, h2⟩ | ⟨b, cap, cur, fps, _, h1, _⟩
  · subst h2
    simp only [List.cons.injEq, and_true] at h1
    exact ⟨none, 0, 0, h1, by rw [h1]; rfl⟩
  · simp only [List.cons.injEq, and_true] at h1
    refine ⟨some ⟨b, 0, none⟩, xs.length, cap, h1, ?_⟩
    rw [h1]
    congr 1
    split
    · rfl
    · simp [Addr.add_lit]
theorem SubR.rep {h v : Value} {w : World} {fp : List Nat} (hO : Own (.sl E e) w fp [h] xs) (hs : SubR h e.wd lo n v) (hb : lo + n ≤ xs.length) : Rep (.sl E e) w [v] ((xs.take (lo + n)).drop lo) := by
  obtain ⟨B, m, c, rfl, rfl⟩ := hs
  have hR := hO.rep
  obtain ⟨B', c', k, _⟩ := hR
  have hR := hO.rep
  simp only [List.cons.injEq, Value.slice.injEq, and_true] at k
  obtain ⟨rfl, rfl, rfl⟩ := k
  have := hR.part (lo := lo) (hi := lo + n) (by omega) hb
  rwa [Nat.add_sub_cancel_left] at this
theorem Does.sliceO {lo hi : Option Operand} {l h : Option Int} {bb : Bool} (hx : Evl A s x (.ref q)) (he : s.tab.ent q = some (.arr E e xs)) (hlo : opI A s lo l) (hhi : opI A s hi h) {E' : TypeId} (hT : P.underlying T = some (.slice E')) (hE : tsh P E' = some (bb, e.wd)) (hn : Nat.blt d A.n = true)
    (h0 : 0 ≤ l.getD 0) (h1 : l.getD 0 ≤ h.getD xs.length) (h2 : h.getD xs.length ≤ xs.length) {a b : Nat} (ha : a = (l.getD 0).toNat) (hb : b = (h.getD xs.length).toNat - (l.getD 0).toNat) : Does A P ⟨some d, .slice T x lo hi none, ty, pos, af, g⟩ s (s.put d (lf (.sub q e.wd a b))) :=
  Does.yields rfl hn fun gh a' w r => by
    subst ha hb
    have hv : a'.eval x = gh.h q := hx gh a' w r ⟨_, he⟩
    have hO : Own (.sl E e) w (gh.f q) [gh.h q] xs := r.cx.en q _ he
    obtain ⟨B, c, k1, k2, k3⟩ := hO.rep.slv
    refine ⟨_, ?_, _, rfl, fun _ => ⟨B, xs.length, c, k1, rfl⟩⟩
    simp only [execOp, hv, k1, hlo.ev r, hhi.ev r, Option.map_none, Instr.sliceAt, Instr.slice, Go.Sem.run_bind, run_underlying hT, Result.andThen_ok, run_sliceBounds h0 h1 h2 k2, run_sizeOf hE]
    simp
theorem Evl.repSub (h : Evl A s x (.sub q e.wd lo n)) (he : s.tab.ent q = some (.arr E e xs)) (hb : lo + n ≤ xs.length) : RepEv A s x (.sl E e) ((xs.take (lo + n)).drop lo) := fun gh a w r => by
  have hO : Own (.sl E e) w (gh.f q) [gh.h q] xs := r.cx.en q _ he
  exact (h gh a w r ⟨_, he⟩).rep hO hb
/-! ### Copies of one-cell elements into a slice of one's own -/
def cpy {α : Type} (xs : List α) (lo n : Nat) (ys : List α) : List α := xs.take lo ++ ys.take (min ys.length n) ++ xs.drop (lo + min ys.length n)
theorem cpy_len {α : Type} {xs : List α} {lo n : Nat} {ys : List α} (h : lo + n ≤ xs.length) : (cpy xs lo n ys).length = xs.length := by
  simp [cpy]; omega
theorem take_splice {α : Type} {l : List α} {len lo : Nat} {cs : List α} (h : lo + cs.length ≤ len) (h2 : len ≤ l.length) : (l.take lo ++ cs ++ l.drop (lo + cs.length)).take len = (l.take len).take lo ++ cs ++ (l.take len).drop (lo + cs.length) := by
  have hA : (l.take lo ++ cs).length = lo + cs.length := by simp; omega
  rw [List.take_append, List.take_of_length_le (by omega), hA, List.take_take, Nat.min_eq_left (by omega), List.drop_take]
theorem OwnL.fp0 {w : World} (hf : e.flat = true) : ∀ {xs : List e.Den} {fp : List Nat} {cs : List Value}, OwnL (Own e w) fp cs xs → fp = []
  | [], _, _, h => h.1
  | _ :: _, _, _, ⟨f1, f2, c1, c2, h1, h2, h3, h4⟩ => by rw [h1, flat_own_fp hf h3, OwnL.fp0 hf h4]; rfl
theorem OwnL.takeN {w : World} (hw : e.wd = 1) (hf : e.flat = true) : ∀ {xs : List e.Den} {fp : List Nat} {cs : List Value} (k : Nat), OwnL (Own e w) fp cs xs → OwnL (Own e w) [] (cs.take k) (xs.take k)
  | [], _, _, k, h => by rw [h.2]; simp [OwnL]
  | x :: xs, _, _, 0, _ => by simp [OwnL]
  | x :: xs, _, _, k + 1, ⟨f1, f2, c1, c2, h1, h2, h3, h4⟩ => by
    have hl := h3.len
    rw [hw] at hl
    have hf1 := flat_own_fp hf h3
    subst hf1
    match c1, hl with
    | [c], _ =>
      rw [h2]
      exact ⟨[], [], [c], c2.take k, rfl, rfl, h3, OwnL.takeN hw hf k h4⟩
theorem OwnL.dropN {w : World} (hw : e.wd = 1) (hf : e.flat = true) : ∀ {xs : List e.Den} {fp : List Nat} {cs : List Value} (k : Nat), OwnL (Own e w) fp cs xs → OwnL (Own e w) [] (cs.drop k) (xs.drop k)
  | [], _, _, k, h => by rw [h.2]; simp [OwnL]
  | x :: xs, _, _, 0, h => by have := h.fp0 hf; subst this; exact h
  | x :: xs, _, _, k + 1, ⟨f1, f2, c1, c2, h1, h2, h3, h4⟩ => by
    have hl := h3.len
    rw [hw] at hl
    match c1, hl with
    | [c], _ =>
      rw [h2]
      exact OwnL.dropN hw hf k h4
theorem run_copy_puts {w : World} {dT sT ty elem : TypeId} {b o dLen dCap : Nat} {a : Addr} {sLen sCap : Nat} {cur : Array Value} {cs : List Value} (hu : P.underlying dT = some (.slice elem)) (hs : (P.info? elem).map (·.size) = some 1)
    (hg : w.heap[b]? = some (.cells cur E (0, 0))) (hn : cs.length = Nat.min sLen dLen) (hsrc : ∀ j v, cs[j]? = some v → w.cell? (a.add j) = some v) (hfit : o + cs.length ≤ cur.size) (h1 : ∀ v ∈ cs, v.oneCell' = true) :
    (Builtin.copy_ #[dT, sT] ty #[.slice (some ⟨b, o, none⟩) dLen dCap, .slice (some a) sLen sCap]).run P w = .ok (goInt cs.length) (puts w b o cs) := by
  have hl := run_loadCells_list (P := P) w a cs hsrc
  have hst := run_storeCells (P := P) (b := b) (E := E) cs o 0 w cur hg (by omega) h1
  cases hq : P.info? elem with
  | none => simp [hq] at hs
  | some i =>
    have hi : i.size = 1 := by simpa [hq] using hs
    simp [Builtin.copy_, run_underlying hu, Builtin.lenOf, Builtin.firstCells, sizeOf, typeInfo, hq, hi, ← hn, hl, hst]
def SubEv (A : Amb) (s : St) (x : Operand) (q wd lo n : Nat) : Prop := ∀ gh a w, Rg A s gh a w → SubR (gh.h q) wd lo n (a.eval x)
theorem Evl.subS (h : Evl A s x (.sub q e.wd lo n)) (he : s.tab.ent q = some (.arr E e xs)) : SubEv A s x q e.wd lo n := fun gh a w r => h gh a w r ⟨_, he⟩
theorem Evl.subR (h : Evl A s x (.ref q)) (he : s.tab.ent q = some (.arr E e xs)) : SubEv A s x q e.wd 0 xs.length := fun gh a w r => by
  have hO : Own (.sl E e) w (gh.f q) [gh.h q] xs := r.cx.en q _ he
  rw [show a.eval x = gh.h q from h gh a w r ⟨_, he⟩]
  exact SubR.all hO
theorem Does.copyO {T1 T2 elem : TypeId} {z : Value} {bytes : Nat} {ys : List e.Den} (hx : SubEv A s x q e.wd lo n) (he : s.tab.ent q = some (.arr E e xs)) (hb : lo + n ≤ xs.length) (hy : RepEv A s y (.sl E e) ys) (hw : e.wd = 1) (hf : e.flat = true)
    (hu : P.underlying T1 = some (.slice elem)) (hi : (P.info? elem).map (fun i => (i.zero, i.size, i.bytes)) = some (some z, 1, bytes)) (hn : Nat.blt d A.n = true) :
    Does A P ⟨some d, .call ⟨.builtin .copy, #[x, y], #[T1, T2]⟩, ty, pos, af, g⟩ s ⟨(d, lf (dI (min ys.length n : Nat))) :: s.tm, (q, some (.arr E e (cpy xs lo n ys))) :: s.tab⟩ := fun a w K Q r hK => by
  obtain ⟨gh, r⟩ := r
  have hs : (P.info? elem).map (·.size) = some 1 := by
    cases hq : P.info? elem with
    | none => rw [hq] at hi; simp at hi
    | some i => rw [hq] at hi; simp at hi; simp [hi.2.1]
  have hO : Own (.sl E e) w (gh.f q) [gh.h q] xs := r.cx.en q _ he
  have hO' := hO
  obtain ⟨B, m, c, q1, q2⟩ := hx gh a w r
  have hr := hy gh a w r
  obtain ⟨A', c2, hv2, h3, h4⟩ := hr.slv
  obtain ⟨B0, c0, z1, z2, z3⟩ := hO.rep.slv
  have hsz : (min ys.length n : Nat) ≤ 9223372036854775807 := by unfold maxLen at z3; omega
  by_cases hz : min ys.length n = 0
  · have hc : cpy xs lo n ys = xs := by simp [cpy, hz]
    have e0 : (execOp a.eval ⟨some d, .call ⟨.builtin .copy, #[x, y], #[T1, T2]⟩, ty, pos, af, g⟩).run P w = .ok (.value (goInt ((min ys.length n : Nat) : Int))) w := by
      have h5 := run_copy_none (P := P) w T1 T2 ty elem (if c = lo then B else B.map (·.add (lo * e.wd))) A' n (c - lo) ys.length c2 hu hs hz
      rw [hz]
      simp only [execOp, resolve, invoke, builtin, q2, hv2, Go.Sem.run_bind, Go.Sem.run_pure, Result.andThen_ok, List.map_toArray, List.map_cons, List.map_nil, h5]
      rfl
    unfold Oper.wp
    rw [e0, Oper.upon_value]
    refine hK _ _ ⟨gh, Rg.put (s := ⟨s.tm, (q, some (.arr E e (cpy xs lo n ys))) :: s.tab⟩) (r.mod he (Grw.refl w) (fun _ _ _ => rfl) ?_) (Nat.le_of_ble_eq_true hn) (pv := lf (dI (min ys.length n : Nat))) ⟨_, rfl, LVR.mkI (n := ((min ys.length n : Nat) : Int)) (by omega)⟩⟩
    rw [hc]
    exact hO'
  · rcases hO with ⟨_, _, h⟩ | ⟨b, cap, cur, fps, p2, p3, p4, p5, p6, p7, p8⟩
    · subst h; simp at hb; omega
    have hfp := p8.fp0 hf
    subst hfp
    simp only [List.cons.injEq, and_true] at p3
    rw [q1] at p3
    simp only [Value.slice.injEq] at p3
    obtain ⟨rfl, rfl, rfl⟩ := p3
    rw [if_neg (by omega)] at q2
    simp only [Option.map_some, Addr.add_lit, hw, Nat.mul_one, Nat.zero_add] at q2
    rw [hv2] at hr
    obtain ⟨_, hsrc⟩ := hr.src (M := 0) hf
    rcases hsrc with ⟨_, h0⟩ | ⟨ad, news, rfl, ⟨fp, n1, _, _⟩, n4⟩
    · omega
    have hnl := n1.len
    rw [hw, Nat.mul_one] at hnl
    have n5 := n1.takeN hw hf (min ys.length n)
    have hcl : (news.take (min ys.length n)).length = min ys.length n := by rw [List.length_take]; omega
    have hcs : cur.size = c := by rw [p7, hw, Nat.mul_one]
    have h5 := run_copy_puts (P := P) (w := w) (dT := T1) (sT := T2) (ty := ty) (o := lo) (dCap := c - lo) (sCap := c2) (sLen := ys.length) (dLen := n) (a := ad) (cs := news.take (min ys.length n)) hu hs p4 hcl
      (fun j v hj => n4 j v (by rw [List.getElem?_take] at hj; split at hj; exact hj; cases hj)) (by rw [hcl]; omega) (OwnL.one (fp := []) n5)
    have e0 : (execOp a.eval ⟨some d, .call ⟨.builtin .copy, #[x, y], #[T1, T2]⟩, ty, pos, af, g⟩).run P w = .ok (.value (goInt ((min ys.length n : Nat) : Int))) (puts w b lo (news.take (min ys.length n))) := by
      rw [hcl] at h5
      simp only [execOp, resolve, invoke, builtin, q2, hv2, Go.Sem.run_bind, Go.Sem.run_pure, Result.andThen_ok, List.map_toArray, List.map_cons, List.map_nil, h5]
    unfold Oper.wp
    rw [e0, Oper.upon_value]
    obtain ⟨cur', m1, m2, m3⟩ := puts_row b E (0, 0) (news.take (min ys.length n)) w lo cur p4 (by rw [hcl]; omega)
    refine hK _ _ ⟨gh, Rg.put (s := ⟨s.tm, (q, some (.arr E e (cpy xs lo n ys))) :: s.tab⟩) (r.mod he (puts_grw w b lo _) (fun g0 _ hg0 => puts_other w b lo _ g0 fun h => hg0 (by rw [p2, h]; simp)) ?_) (Nat.le_of_ble_eq_true hn) (pv := lf (dI (min ys.length n : Nat))) ⟨_, rfl, LVR.mkI (n := ((min ys.length n : Nat) : Int)) (by omega)⟩⟩
    have hcp := cpy_len (ys := ys) hb
    refine .inr ⟨b, c, cur', [], p2, by rw [q1, hcp], m1, by omega, p6, by rw [m2]; exact p7, ?_⟩
    rw [hw, Nat.mul_one] at p8 ⊢
    rw [hcp]
    have hlist : cur'.toList.take xs.length = (cur.toList.take xs.length).take lo ++ news.take (min ys.length n) ++ (cur.toList.take xs.length).drop (lo + min ys.length n) := by
      have h9 := take_splice (l := cur.toList) (len := xs.length) (lo := lo) (cs := news.take (min ys.length n)) (by rw [hcl]; omega) (by simp; omega)
      rw [m3, h9, hcl]
    rw [hlist]
    have keep : ∀ {cs : List Value} {zs : List e.Den}, OwnL (Own e w) [] cs zs → OwnL (Own e (puts w b lo (news.take (min ys.length n)))) [] cs zs := fun h => h.mono fun f c x hf' ho => ho.keep fun g hg => absurd (hf' g hg) (by simp)
    exact ((keep (p8.takeN hw hf lo)).append (keep n5)).append (keep (p8.dropN hw hf (lo + min ys.length n)))
/-- What is one's own is frozen: it reads as a datum from now on. -/
theorem Wk.freezeS (i : Nat) (hi : lk s.tm i = some (lf (.ref q))) (he : s.tab.ent q = some (.arr E e xs)) : Wk A s ⟨(i, lf (.dat (.sl E e) xs)) :: s.tm, (q, none) :: s.tab⟩ := fun a w r => by
  obtain ⟨gh, r⟩ := r
  obtain ⟨v, h1, l, h2, h3⟩ := r.tm i _ hi
  simp only [List.cons.injEq, and_true] at h2
  subst h2
  have hv : v = gh.h q := h3 ⟨_, he⟩
  have hO : Own (.sl E e) w (gh.f q) [gh.h q] xs := r.cx.en q _ he
  have hal : ∀ q', Tab.al ((q, none) :: s.tab) q' → q' ≠ q ∧ s.tab.al q' := fun q' ⟨e', h⟩ => by
    rw [Tab.ent_cons] at h
    by_cases e2 : q' = q
    · rw [if_pos e2] at h; cases h
    · rw [if_neg e2] at h; exact ⟨e2, e', h⟩
  have r2 := r.step (T := (q, none) :: s.tab) (gh' := ⟨gh.h, gh.f, fun g => gh.N g ∨ g ∈ gh.f q⟩) (w' := w) ⟨fun q' e' h => ?_, fun q1 q2 k1 k2 hne => r.cx.dj q1 q2 (hal q1 k1).2 (hal q2 k2).2 hne, fun q' h => r.cx.nd q' (hal q' h).2, fun q' h g hg hN => ?_, fun g hN => ?_⟩
    (fun q' h => .inl ⟨(hal q' h).2, rfl, fun _ => rfl⟩) (fun g hg => ⟨.inl hg, rfl⟩) (Grw.refl w) (fun _ _ _ => rfl) (fun g hN => ?_) (fun q' h g hg => .inr ⟨q', (hal q' h).2, hg⟩)
  · exact ⟨_, r2.know h1 (pv := lf (.dat (.sl E e) xs)) ⟨_, rfl, by rw [hv]; exact hO.rd fun g hg => .inr hg⟩⟩
  · rw [Tab.ent_cons] at h
    by_cases e2 : q' = q
    · rw [if_pos e2] at h; cases h
    · rw [if_neg e2] at h
      exact (r.cx.en q' e' h).mono (fun r' _ h' => ⟨(hal r' h').2, rfl⟩) (fun g hg => ⟨.inl hg, rfl⟩) rfl rfl fun _ _ => rfl
  · rcases hN with hN | hN
    · exact r.cx.no q' (hal q' h).2 g hg hN
    · exact r.cx.dj q' q (hal q' h).2 ⟨_, he⟩ (hal q' h).1 g hg hN
  · rcases hN with hN | hN
    · exact r.cx.nl g hN
    · exact Own.lt hO g hN
  · rcases hN with hN | hN
    · exact .inl hN
    · exact .inr (.inr ⟨q, ⟨_, he⟩, hN, fun hl => r.xn g hl (r.ox q ⟨_, he⟩ g hN hl)⟩)
end
end Go.Proofs.YtjaadeknhofhpaaGreat

/- Steps of a walk that are found by themselves: tables of the types, one operation, one step of the control. -/
namespace Go.Proofs.YtjaadeknhofhpaaGreat
open Go.RowKit
set_option maxRecDepth 100000
theorem lk_mem {α : Type _} : ∀ {l : List (Nat × α)} {i : Nat} {x : α}, lk l i = some x → (i, x) ∈ l
  | (j, y) :: l, i, x, h => by
    rw [lk_cons] at h
    split at h
    · rename_i e; cases h; subst e; exact List.mem_cons_self ..
    · exact List.mem_cons_of_mem _ (lk_mem h)
noncomputable def tshT : List (Nat × Bool × Nat) := [(0, false, 1), (2, false, 1), (3, false, 1), (4, false, 1), (5, false, 1), (6, false, 1), (8, true, 4), (9, false, 1), (10, false, 1), (11, false, 1), (12, false, 1), (14, true, 2), (15, false, 1), (16, false, 1), (17, false, 1), (19, true, 1), (20, false, 1), (22, false, 1), (23, false, 1), (25, true, 2), (26, false, 1), (27, false, 1), (29, true, 5), (32, true, 3), (33, false, 1), (35, false, 1), (37, false, 1), (39, false, 1), (40, false, 1), (42, false, 1), (46, false, 1), (49, false, 1), (50, false, 1), (52, true, 3), (55, true, 2), (57, true, 4), (58, false, 1), (60, false, 1), (61, false, 1), (63, false, 1), (67, false, 1), (69, true, 2), (70, false, 1), (71, false, 1), (73, true, 5), (75, false, 1), (79, false, 1), (80, false, 1), (82, false, 1), (84, false, 1), (90, true, 2), (91, false, 1), (93, false, 1), (95, false, 1), (96, false, 1), (98, false, 1), (103, false, 1), (106, true, 4), (107, false, 1), (110, false, 1), (113, false, 1), (118, false, 1), (119, false, 1), (121, true, 3), (132, true, 7), (133, false, 1), (135, false, 1), (138, false, 1), (140, false, 1), (155, false, 1), (159, false, 1), (160, false, 1), (162, false, 1), (164, true, 2), (165, false, 1), (168, false, 1), (174, false, 1), (182, false, 1), (194, false, 1), (198, true, 2), (199, false, 1), (205, false, 1), (211, false, 1), (214, false, 1), (218, false, 1), (220, false, 1), (225, true, 2), (229, true, 3), (232, true, 3), (233, false, 1), (239, true, 2), (242, false, 1), (253, false, 1), (255, true, 6), (261, false, 1), (262, false, 1), (263, false, 1), (265, true, 9), (268, true, 2), (270, false, 1), (283, false, 1), (289, true, 2), (303, true, 2), (307, false, 1), (309, false, 1), (314, false, 1), (315, false, 1), (321, false, 1), (327, false, 1), (328, false, 1), (335, false, 1), (337, true, 8), (345, false, 1), (347, true, 7), (350, false, 1), (353, false, 1), (355, false, 1), (359, false, 1), (360, false, 1), (364, false, 1), (366, false, 1), (379, false, 1), (381, false, 1), (383, false, 1), (396, false, 1)]
noncomputable def fldT : List (Nat × Nat) := [(512, 0), (513, 1), (514, 2), (515, 3), (896, 0), (897, 1), (1216, 0), (1600, 0), (1601, 1), (1856, 0), (1857, 2), (1858, 3), (1859, 4), (2048, 0), (2049, 1), (2050, 2), (3328, 0), (3329, 1), (3330, 2), (3520, 0), (3521, 1), (3648, 0), (3649, 2), (4416, 0), (4417, 1), (4672, 0), (4673, 2), (4674, 3), (4675, 4), (5760, 0), (5761, 1), (6784, 0), (6785, 1), (6786, 2), (6787, 3), (7744, 0), (7745, 1), (7746, 2), (8448, 0), (8449, 4), (10496, 0), (10497, 1), (12672, 0), (12673, 1), (14400, 0), (14401, 1), (14656, 0), (14657, 1), (14658, 2), (14848, 0), (14849, 1), (14850, 2), (15296, 0), (15297, 1), (16320, 0), (16321, 2), (16322, 3), (16323, 4), (16324, 5), (16960, 0), (16961, 3), (16962, 4), (16963, 7), (16964, 8), (17152, 0), (17153, 1), (18496, 0), (18497, 1), (19392, 0), (19393, 1), (21568, 0), (21569, 3), (21570, 4), (21571, 5), (22208, 0), (22209, 5), (22210, 6)]
noncomputable def sliT : List (Nat × Nat) := [(22, 5), (23, 198), (26, 90), (27, 55), (39, 32), (49, 9), (50, 106), (60, 57), (67, 303), (70, 225), (71, 239), (79, 95), (95, 3), (135, 132), (160, 4), (162, 229), (205, 289), (233, 232), (263, 268)]
theorem tsh_ok : (tshT.all fun p => decide (tsh Tryz.prog p.1 = some p.2)) = true := by kernel_rfl
theorem fld_ok : (fldT.all fun p => decide (fld Tryz.prog (p.1 / 64) (p.1 % 64) = some p.2)) = true := by kernel_rfl
noncomputable def strT : List Nat := [9, 10, 11]
noncomputable def strB (T : Nat) : Bool := match Tryz.prog.underlying T with
  | some .string => true
  | _ => false
theorem str_ok : (strT.all strB) = true := by kernel_rfl
theorem strL {T : TypeId} (h : inB T strT = true) : Tryz.prog.underlying T = some .string := by
  have h1 := List.all_eq_true.1 str_ok _ (inB_mem.1 h)
  unfold strB at h1
  split at h1
  · assumption
  · cases h1
noncomputable def sliB (T E : Nat) : Bool := match Tryz.prog.underlying T with
  | some (.slice E') => Nat.beq E' E
  | _ => false
theorem sli_ok : (sliT.all fun p => sliB p.1 p.2) = true := by kernel_rfl
theorem tshL {T : TypeId} {b : Bool} {n : Nat} (h : lk tshT T = some (b, n)) : tsh Tryz.prog T = some (b, n) := of_decide_eq_true (List.all_eq_true.1 tsh_ok _ (lk_mem h))
theorem fldL {T f o : Nat} (h : lk fldT (Nat.add (Nat.mul 64 T) f) = some o) (hf : Nat.blt f 64 = true) : fld Tryz.prog T f = some o := by
  have h1 := of_decide_eq_true (List.all_eq_true.1 fld_ok _ (lk_mem h))
  have hf := Nat.le_of_ble_eq_true hf
  rwa [show Nat.add (Nat.mul 64 T) f = 64 * T + f from rfl, show (64 * T + f) / 64 = T by omega, show (64 * T + f) % 64 = f by omega] at h1
theorem sliL {T E : TypeId} (h : lk sliT T = some E) : Tryz.prog.underlying T = some (.slice E) := by
  have h1 := List.all_eq_true.1 sli_ok _ (lk_mem h)
  unfold sliB at h1
  split at h1
  · rename_i h2; rw [h2, Nat.eq_of_beq_eq_true h1]
  · cases h1

section
variable {A : Amb} {s s' : St} {o : Oper}
theorem xlI {d : Nat} {x : Operand} {T ty : TypeId} {pos : String} {af : Array Edge} {g : Option (Nat × Bool)} {q wd i j n : Nat} {E : TypeId} {e t : Ty} {xs : List e.Den} {z : e.Den} {y' : t.Den} (hx : Evl A s x (.ept q wd i j)) (he : s.tab.ent q = some (.arr E e xs)) (hw : wd = e.wd) (hz : xs[i]? = some z) (hf : e.flat = true) (hT : tsh Tryz.prog T = some (false, n)) (hl : (leaves e z)[j]? = some (.dat t y')) (hn : Nat.blt d A.n = true) : Does A Tryz.prog ⟨some d, .load T x, ty, pos, af, g⟩ s (s.put d (lf (.dat t y'))) := by
  subst hw; exact Does.loadI hx he hz hf hT hl hn
theorem xlIA {d : Nat} {x : Operand} {T ty : TypeId} {pos : String} {af : Array Edge} {g : Option (Nat × Bool)} {q wd i j n : Nat} {E : TypeId} {e : Ty} {xs : List e.Den} {z : e.Den} (hx : Evl A s x (.ept q wd i j)) (he : s.tab.ent q = some (.arr E e xs)) (hw : wd = e.wd) (hz : xs[i]? = some z) (hf : e.flat = true) (hT : tsh Tryz.prog T = some (true, n)) (hl : Nat.ble (j + n) e.wd = true) (hn : Nat.blt d A.n = true) : Does A Tryz.prog ⟨some d, .load T x, ty, pos, af, g⟩ s (s.put d (ag (((leaves e z).drop j).take n))) := by
  subst hw; exact Does.loadIA hx he hz hf hT hl hn
theorem D_ (h : Does A Tryz.prog o s s' := by
    first
    | ((with_reducible apply Does.loadP); exact Evl.tmp rfl; rfl; exact tshL rfl; rfl; rfl)
    | ((with_reducible apply Does.fieldP); exact Evl.tmp rfl; exact fldL rfl rfl; rfl; rfl)
    | ((with_reducible apply Does.move); rfl; rfl)
    | ((with_reducible apply Does.assign); rfl; rfl)
    | ((with_reducible apply Does.extract); rfl; rfl; rfl)
    | ((with_reducible apply Does.loadPA); exact Evl.tmp rfl; rfl; exact tshL rfl; rfl; rfl)
    | ((with_reducible apply Does.moveC); (first | exact Evl.int rfl | exact Evl.bool | exact Evl.str rfl | exact Evl.val); rfl)
    | ((with_reducible apply Does.assignC); (first | exact Evl.int rfl | exact Evl.bool | exact Evl.str rfl | exact Evl.val); rfl)
    | ((with_reducible apply Does.lss); (first | exact Evl.tmp rfl | exact Evl.int rfl); (first | exact Evl.tmp rfl | exact Evl.int rfl); rfl)
    | ((with_reducible apply Does.eql); (first | exact Evl.tmp rfl | exact Evl.int rfl); (first | exact Evl.tmp rfl | exact Evl.int rfl); rfl)
    | ((with_reducible apply Does.neq); (first | exact Evl.tmp rfl | exact Evl.int rfl); (first | exact Evl.tmp rfl | exact Evl.int rfl); rfl)
    | ((with_reducible apply Does.leq); (first | exact Evl.tmp rfl | exact Evl.int rfl); (first | exact Evl.tmp rfl | exact Evl.int rfl); rfl)
    | ((with_reducible apply Does.gtr); (first | exact Evl.tmp rfl | exact Evl.int rfl); (first | exact Evl.tmp rfl | exact Evl.int rfl); rfl)
    | ((with_reducible apply Does.geq); (first | exact Evl.tmp rfl | exact Evl.int rfl); (first | exact Evl.tmp rfl | exact Evl.int rfl); rfl)
    | ((with_reducible apply Does.add); (first | exact Evl.tmp rfl | exact Evl.int rfl); (first | exact Evl.tmp rfl | exact Evl.int rfl); rfl; omega)
    | ((with_reducible apply Does.sub); (first | exact Evl.tmp rfl | exact Evl.int rfl); (first | exact Evl.tmp rfl | exact Evl.int rfl); rfl; omega)
    | ((with_reducible apply Does.not); exact Evl.tmp rfl; rfl)
    | ((with_reducible apply Does.pickF); exact Evl.tmp rfl; (first | exact Ev.tmp rfl | exact Evl.ev Evl.bool | exact Evl.ev (Evl.int rfl)); rfl)
    | ((with_reducible apply Does.pickT); exact Evl.tmp rfl; (first | exact Ev.tmp rfl | exact Evl.ev Evl.bool | exact Evl.ev (Evl.int rfl)); rfl)
    | ((with_reducible apply Does.loadE); exact Evl.tmp rfl; exact tshL rfl; rfl; rfl)
    | ((with_reducible apply Does.loadEA); exact Evl.tmp rfl; exact tshL rfl; rfl; rfl)
    | ((with_reducible apply Does.fieldE); exact Evl.tmp rfl; exact fldL rfl rfl; rfl)
    | ((with_reducible apply Does.fieldI); exact Evl.tmp rfl; exact fldL rfl rfl; rfl; rfl)
    | ((with_reducible apply Does.nilP); exact Evl.tmp rfl; rfl; rfl)
    | ((with_reducible apply Does.nilI); exact Evl.tmp rfl; rfl; rfl)
    | ((with_reducible apply Does.lenO); exact Evl.tmp rfl; rfl; rfl; exact sliL rfl)
    | ((with_reducible apply Does.len); exact Evl.tmp rfl; rfl; exact sliL rfl)
    | ((with_reducible apply Does.eqlS); (first | exact Evl.tmp rfl | exact Evl.str rfl); (first | exact Evl.tmp rfl | exact Evl.str rfl); rfl)
    | ((with_reducible apply Does.neqS); (first | exact Evl.tmp rfl | exact Evl.str rfl); (first | exact Evl.tmp rfl | exact Evl.str rfl); rfl)
    | ((with_reducible apply Does.storeP); exact Evl.tmp rfl; rfl; (first | exact Ev.tmp rfl | exact Evl.ev (Evl.int rfl) | exact Evl.ev Evl.bool | exact Evl.ev (Evl.str rfl) | exact Evl.ev (Evl.u8 _ rfl)); rfl; exact tshL rfl; rfl)
    | ((with_reducible apply Does.indexE); exact Evl.tmp rfl; (first | exact Evl.tmp rfl | exact Evl.int rfl); exact sliL rfl; exact tshL rfl; rfl; omega; assumption)
    | ((with_reducible apply Does.indexS); (first | exact Evl.tmp rfl | exact Evl.str rfl); (first | exact Evl.tmp rfl | exact Evl.int rfl); rfl; exact strL rfl; omega; assumption)
    | ((with_reducible apply Does.indexI); exact Evl.tmp rfl; rfl; (first | exact Evl.tmp rfl | exact Evl.int rfl); exact sliL rfl; exact tshL rfl; rfl; omega; (first | omega | (simp only [List.length_set]; omega)))
    | ((with_reducible apply xlI); exact Evl.tmp rfl; rfl; rfl; assumption; rfl; exact tshL rfl; rfl; rfl)
    | ((with_reducible apply xlIA); exact Evl.tmp rfl; rfl; rfl; assumption; rfl; exact tshL rfl; rfl; rfl)
    | ((with_reducible apply Does.eqlU); exact Evl.tmp rfl; exact Evl.tmp rfl; rfl)
    | ((with_reducible apply Does.neqU); exact Evl.tmp rfl; exact Evl.tmp rfl; rfl)) : Does A Tryz.prog o s s' := h
theorem xbx {T ty : TypeId} {d : Nat} {x : Operand} {pos : String} {af : Array Edge} {ops : Array Oper} {l : List Oper} {Q : Exit → St → Prop} (t : Nat) {b : Bool} {ls : List LV} (k : AL A Tryz.prog ops l Q (s.new d t (.ptr t 0) (.box T ls))) (hx : Ev A s x (b, ls) := by first | exact Ev.tmp rfl | exact Evl.ev (Evl.int rfl) | exact Evl.ev Evl.bool | exact Evl.ev (Evl.str rfl)) (hk : okLVs s.tab ls = true := by rfl) (hn : Nat.blt d A.n = true := by rfl) (hfr : Fresh s t := by exact Fresh.of rfl) (hk0 : A.k0 ≤ t := by exact nlr rfl) : AL A Tryz.prog ops (⟨some d, .box T x, ty, pos, af, none⟩ :: l) Q s := lc (Does.box t hx hk hn hfr hk0) k
theorem xal {T ty : TypeId} {d : Nat} {pos : String} {af : Array Edge} {g : Option (Nat × Bool)} (k : Nat) (t : Ty) {z : Value} (hz : zer Tryz.prog T = some z) (hzt : z.cells.toList = t.zeros := by rfl) (hn : Nat.blt d A.n = true := by rfl) (hfr : Fresh s k := by exact Fresh.of rfl) (hk0 : A.k0 ≤ k := by exact nlr rfl) : Does A Tryz.prog ⟨some d, .alloc T, ty, pos, af, g⟩ s (s.new d k (.ptr k 0) (.box T t.zlv)) := Does.alloc k t hz hzt hn hfr hk0
/-- One step. -/
theorem w_ {G G' : Prop} (k : G') (h : G' → G := by
    first
    | ((with_reducible apply lm); rfl; rfl)
    | ((with_reducible apply lgn); rfl; rfl; rfl)
    | ((with_reducible apply lc); exact D_)
    | ((with_reducible apply lgy); rfl; rfl; exact D_)
    | (with_reducible exact AL.nilS)
    | (with_reducible exact AC.sr)
    | (with_reducible exact AC.seq)
    | ((with_reducible apply AC.condT); exact Evl.tmp rfl)
    | ((with_reducible apply AC.condF); exact Evl.tmp rfl)
    | (with_reducible exact AC.skipS)
    | (with_reducible exact AC.block)
    | (with_reducible exact AC.region)) : G := h k
end

/-! ### Regions that draw their order, step by step -/
/-- Masks told by what lacks. -/
def rlm : Nat → List Nat → List Nat
  | _, [] => []
  | b, r :: rs => Nat.sub (Nat.sub b 1) r :: rlm (Nat.mul 2 b) rs
def chkG (l : List Oper) (plan : List Item) (deps : List (List Nat)) : Bool := Nat.beq l.length plan.length && (depsB l.toArray deps plan.length && planB plan deps && headB l.toArray plan.length)
def ActsH (A : Amb) (P : Program) (l0 : List Oper) (plan : List Item) (deps : List (List Nat)) (s0 : St) : List Oper → List Item → Nat → Prop
  | o :: l, it :: p, i => (∀ s, At plan deps s0 i s → Acts A P l0.toArray o s (actS s it)) ∧ ActsH A P l0 plan deps s0 l p (i + 1)
  | [], _, _ => chkG l0 plan deps = true
  | _ :: _, [], _ => chkG l0 plan deps = true
section
variable {A : Amb} {P : Program} {s s' s0 : St} {Q : Exit → St → Prop} {l0 l : List Oper} {o : Oper} {it : Item} {p plan : List Item} {deps : List (List Nat)} {i : Nat}
theorem ActsH.to : ∀ {l : List Oper} {p : List Item} {i : Nat}, ActsH A P l0 plan deps s0 l p i → ActsL A P l0.toArray plan deps s0 l p i ∧ chkG l0 plan deps = true
  | _ :: _, _ :: _, _, h => ⟨⟨h.1, (ActsH.to h.2).1⟩, (ActsH.to h.2).2⟩
  | [], _, _, h => ⟨trivial, h⟩
  | _ :: _, [], _, h => ⟨trivial, h⟩
theorem alv_ {q : Nat} (hs : At plan deps s0 i s) (h : (se plan deps s0 i q).isSome = true) : (s.tab.ent q).isSome = true := by
  obtain ⟨x, hx⟩ := Option.isSome_iff_exists.1 h
  rw [hs.n _ hx]; rfl
theorem DH_ (h : Does A Tryz.prog o s s' := by
    first
    | ((with_reducible apply Does.pickF); exact At.v ‹_› rfl; (first | exact At.w ‹_› rfl | exact Evl.ev Evl.bool | exact Evl.ev (Evl.int rfl)); rfl)
    | ((with_reducible apply Does.pickT); exact At.v ‹_› rfl; (first | exact At.w ‹_› rfl | exact Evl.ev Evl.bool | exact Evl.ev (Evl.int rfl)); rfl)
    | ((with_reducible apply Does.loadP); exact At.v ‹_› rfl; exact At.n ‹_› _ rfl; exact tshL rfl; rfl; rfl)
    | ((with_reducible apply Does.loadPA); exact At.v ‹_› rfl; exact At.n ‹_› _ rfl; exact tshL rfl; rfl; rfl)
    | ((with_reducible apply Does.move); exact At.k ‹_› rfl; rfl)
    | ((with_reducible apply Does.assign); exact At.k ‹_› rfl; rfl)
    | ((with_reducible apply Does.extract); exact At.k ‹_› rfl; rfl; rfl)
    | ((with_reducible apply Does.moveC); (first | exact Evl.int rfl | exact Evl.bool | exact Evl.str rfl | exact Evl.val); rfl)
    | ((with_reducible apply Does.assignC); (first | exact Evl.int rfl | exact Evl.bool | exact Evl.str rfl | exact Evl.val); rfl)
    | ((with_reducible apply Does.loadE); exact At.v ‹_› rfl; exact tshL rfl; rfl; rfl)
    | ((with_reducible apply Does.loadEA); exact At.v ‹_› rfl; exact tshL rfl; rfl; rfl)
    | ((with_reducible apply Does.fieldE); exact At.v ‹_› rfl; exact fldL rfl rfl; rfl)
    | ((with_reducible apply Does.len); exact At.v ‹_› rfl; rfl; exact sliL rfl)
    | ((with_reducible apply Does.lenO); exact At.v ‹_› rfl; exact At.n ‹_› _ rfl; rfl; exact sliL rfl)
    | ((with_reducible apply Does.lss); (first | exact At.v ‹_› rfl | exact Evl.int rfl); (first | exact At.v ‹_› rfl | exact Evl.int rfl); rfl)
    | ((with_reducible apply Does.eql); (first | exact At.v ‹_› rfl | exact Evl.int rfl); (first | exact At.v ‹_› rfl | exact Evl.int rfl); rfl)
    | ((with_reducible apply Does.neq); (first | exact At.v ‹_› rfl | exact Evl.int rfl); (first | exact At.v ‹_› rfl | exact Evl.int rfl); rfl)
    | ((with_reducible apply Does.leq); (first | exact At.v ‹_› rfl | exact Evl.int rfl); (first | exact At.v ‹_› rfl | exact Evl.int rfl); rfl)
    | ((with_reducible apply Does.gtr); (first | exact At.v ‹_› rfl | exact Evl.int rfl); (first | exact At.v ‹_› rfl | exact Evl.int rfl); rfl)
    | ((with_reducible apply Does.geq); (first | exact At.v ‹_› rfl | exact Evl.int rfl); (first | exact At.v ‹_› rfl | exact Evl.int rfl); rfl)
    | ((with_reducible apply Does.add); (first | exact At.v ‹_› rfl | exact Evl.int rfl); (first | exact At.v ‹_› rfl | exact Evl.int rfl); rfl; omega)
    | ((with_reducible apply Does.sub); (first | exact At.v ‹_› rfl | exact Evl.int rfl); (first | exact At.v ‹_› rfl | exact Evl.int rfl); rfl; omega)
    | ((with_reducible apply Does.not); exact At.v ‹_› rfl; rfl)
    | ((with_reducible apply Does.eqlS); (first | exact At.v ‹_› rfl | exact Evl.str rfl); (first | exact At.v ‹_› rfl | exact Evl.str rfl); rfl)
    | ((with_reducible apply Does.neqS); (first | exact At.v ‹_› rfl | exact Evl.str rfl); (first | exact At.v ‹_› rfl | exact Evl.str rfl); rfl)
    | ((with_reducible apply Does.eqlU); exact At.v ‹_› rfl; exact At.v ‹_› rfl; rfl)
    | ((with_reducible apply Does.neqU); exact At.v ‹_› rfl; exact At.v ‹_› rfl; rfl)
    | ((with_reducible apply Does.fieldP); exact At.v ‹_› rfl; exact fldL rfl rfl; exact alv_ ‹_› rfl; rfl)
    | ((with_reducible apply Does.nilP); exact At.v ‹_› rfl; exact alv_ ‹_› rfl; rfl)
    | ((with_reducible apply Does.indexS); (first | exact At.v ‹_› rfl | exact Evl.str rfl); (first | exact At.v ‹_› rfl | exact Evl.int rfl); rfl; exact strL rfl; omega; assumption)
    | ((with_reducible apply Does.indexE); exact At.v ‹_› rfl; (first | exact At.v ‹_› rfl | exact Evl.int rfl); exact sliL rfl; exact tshL rfl; rfl; omega; assumption)
    | ((with_reducible apply Does.storeP); exact At.v ‹_› rfl; exact At.n ‹_› _ rfl; (first | exact At.w ‹_› rfl | exact Evl.ev (Evl.int rfl) | exact Evl.ev Evl.bool); rfl; exact tshL rfl; rfl)) : Does A Tryz.prog o s s' := h
theorem zz (h : ∀ s, At plan deps s0 i s → Acts A P l0.toArray o s (actS s it)) (k : ActsH A P l0 plan deps s0 l p (i + 1)) : ActsH A P l0 plan deps s0 (o :: l) (it :: p) i := ⟨h, k⟩
theorem z_ (k : ActsH A Tryz.prog l0 plan deps s0 l p (i + 1)) (h : ∀ s, At plan deps s0 i s → Acts A Tryz.prog l0.toArray o s (actS s it) := by
    first
    | ((with_reducible apply dxm); rfl; rfl)
    | ((with_reducible apply dxf); exact fldL rfl rfl; rfl; rfl; rfl)
    | ((with_reducible apply dxl); exact tshL rfl; rfl; rfl; rfl; rfl; rfl)
    | ((with_reducible apply dxt); rfl; rfl)
    | ((with_reducible apply dxn); rfl; rfl; rfl)
    | ((with_reducible apply dxa); exact tshL rfl; rfl; rfl; rfl; rfl)
    | ((with_reducible apply dxo); rfl; rfl; rfl)
    | (intro _ _; (apply ac); exact DH_; rfl)
    | (intro _ _; (apply day); rfl; exact At.k ‹_› rfl; exact DH_; rfl)
    | (intro _ _; (apply Acts.un); rfl; rfl; exact At.k ‹_› rfl; rfl; rfl)) : ActsH A Tryz.prog l0 plan deps s0 (o :: l) (it :: p) i := ⟨h, k⟩
theorem zN (h : chkG l0 plan deps = true := by kernel_rfl) : ActsH A Tryz.prog l0 plan deps s0 [] [] i := h
theorem dW {id : Nat} {y : Code} (plan : List Item) (ms : List Nat) (H : ActsH A Tryz.prog l plan (dms (rlm 1 ms)) s0 l plan 0) (k : AC A Tryz.prog y Q (stD plan s0 fun _ => true)) : AC A Tryz.prog (.seq (.region id l.toArray true) y) Q s0 := by
  obtain ⟨h1, h2⟩ := H.to
  rw [chkG, Bool.and_eq_true] at h2
  exact dw plan _ mixed (Nat.eq_of_beq_eq_true h2.1) h2.2 h1 k
theorem dV {id : Nat} (plan : List Item) (ms : List Nat) (H : ActsH A Tryz.prog l plan (dms (rlm 1 ms)) s0 l plan 0) (k : Q .normal (stD plan s0 fun _ => true)) : AC A Tryz.prog (.region id l.toArray true) Q s0 := by
  obtain ⟨h1, h2⟩ := H.to
  rw [chkG, Bool.and_eq_true] at h2
  exact dv plan _ mixed (Nat.eq_of_beq_eq_true h2.1) h2.2 h1 k
end

/-! ### Calls and what makes memory, in short -/
section
variable {A : Amb} {s : St} {f : FuncId} {xs : List Operand} {tys : Array TypeId} {args : List (Bool × List LV)} {d k : Nat} {ty T : TypeId} {pos : String} {af : Array Edge} {g : Option (Nat × Bool)} {pv : PV} {U U' : Tab} {x y : Operand}
theorem evN : EvL A s [] [] := rfl
theorem evC {c : Bool × List LV} {cs : List (Bool × List LV)} (h : Ev A s x c) (k : EvL A s xs cs) : EvL A s (x :: xs) (c :: cs) := ⟨_, _, rfl, h, k⟩
theorem ebN : EvLB A s [] [] := rfl
theorem ebC {c : Bool × List LV} {cs : List (Bool × List LV)} (h : EvB A s x c) (k : EvLB A s xs cs) : EvLB A s (x :: xs) (c :: cs) := ⟨_, _, rfl, h, k⟩
theorem abN {e : Ty} : AbsL U e [] [] [] := ⟨rfl, rfl⟩
theorem abC {e : Ty} {c : Bool × List LV} {cs : List (Bool × List LV)} {z : e.Den} {zs : List e.Den} {u1 u2 : List Nat} (h : Abs U e c.2 z u1) (k : AbsL U e cs zs u2) : AbsL U e (c :: cs) (z :: zs) (u1 ++ u2) := ⟨_, _, _, _, rfl, h, k, rfl⟩
theorem dK (hc : FC Tryz.prog f args [] 0 (Pure pv)) (hE : Enters Tryz.prog f) (ha : EvL A s xs args := by repeat' first | exact evN | exact Ev.tmp rfl | exact At.w ‹_› rfl | exact Evl.ev (Evl.int rfl) | exact Evl.ev Evl.bool | exact Evl.ev (Evl.str rfl) | apply evC) (ht : pv.tags = [] := by rfl) (hn : Nat.blt d A.n = true := by rfl) : Does A Tryz.prog ⟨some d, .call ⟨.value (.func f), xs.toArray, tys⟩, ty, pos, af, g⟩ s (s.put d pv) := Does.call hc hE ha ht hn
theorem dB_ (hc : FC Tryz.prog f args [] 0 (Pure pv)) (hE : Enters Tryz.prog f) (ha : EvLB A s xs args := by repeat' first | exact ebN | exact Ev.b (Ev.tmp rfl) | exact Ev.b (At.w ‹_› rfl) | exact Ev.b (Evl.ev (Evl.int rfl)) | exact Ev.b (Evl.ev Evl.bool) | exact Ev.b (Evl.ev (Evl.str rfl)) | exact Evl.ob (Evl.tmp rfl) rfl | exact Evl.ob (At.v ‹_› rfl) (At.n ‹_› _ rfl) | apply ebC) (ht : pv.tags = [] := by rfl) (hf : pv.fl = true := by rfl) (hn : Nat.blt d A.n = true := by rfl) : Does A Tryz.prog ⟨some d, .call ⟨.value (.func f), xs.toArray, tys⟩, ty, pos, af, g⟩ s (s.put d pv) := Does.callB hc hE ha ht hf hn
theorem dO (t : Nat) {E : TypeId} {e : Ty} {zs : List e.Den} (hc : FC Tryz.prog f args [] 0 (Own1 E e zs)) (hE : Enters Tryz.prog f) (ha : EvL A s xs args := by repeat' first | exact evN | exact Ev.tmp rfl | exact At.w ‹_› rfl | exact Evl.ev (Evl.int rfl) | exact Evl.ev Evl.bool | exact Evl.ev (Evl.str rfl) | apply evC) (hn : Nat.blt d A.n = true := by rfl) (hfr : Fresh s t := by first | exact Fresh.of rfl | exact At.fr ‹_› _ rfl) (hk0 : A.k0 ≤ t := by exact nlr rfl) : Does A Tryz.prog ⟨some d, .call ⟨.value (.func f), xs.toArray, tys⟩, ty, pos, af, g⟩ s (s.mk_ d t [] E e zs) := Does.callO t hc hE ha hn hfr hk0
theorem dOB (t : Nat) {E : TypeId} {e : Ty} {zs : List e.Den} (hc : FC Tryz.prog f args [] 0 (Own1 E e zs)) (hE : Enters Tryz.prog f) (ha : EvLB A s xs args := by repeat' first | exact ebN | exact Ev.b (Ev.tmp rfl) | exact Ev.b (At.w ‹_› rfl) | exact Ev.b (Evl.ev (Evl.int rfl)) | exact Ev.b (Evl.ev Evl.bool) | exact Ev.b (Evl.ev (Evl.str rfl)) | exact Evl.ob (Evl.tmp rfl) rfl | exact Evl.ob (At.v ‹_› rfl) (At.n ‹_› _ rfl) | apply ebC) (hn : Nat.blt d A.n = true := by rfl) (hfr : Fresh s t := by first | exact Fresh.of rfl | exact At.fr ‹_› _ rfl) (hk0 : A.k0 ≤ t := by exact nlr rfl) : Does A Tryz.prog ⟨some d, .call ⟨.value (.func f), xs.toArray, tys⟩, ty, pos, af, g⟩ s (s.mk_ d t [] E e zs) := Does.callOB t hc hE ha hn hfr hk0
theorem dG (n : Nat) (hc : FC Tryz.prog f args [] 0 (Is pv U)) (hE : Enters Tryz.prog f) (ha : EvL A s xs args := by repeat' first | exact evN | exact Ev.tmp rfl | exact At.w ‹_› rfl | exact Evl.ev (Evl.int rfl) | exact Evl.ev Evl.bool | exact Evl.ev (Evl.str rfl) | apply evC) (hcl : closedB pv U = true := by rfl) (hn : Nat.blt d A.n = true := by rfl) (hfr : FrL s n (tabTags U) := by repeat' first | exact trivial | exact Fresh.of rfl | exact At.fr ‹_› _ rfl | apply And.intro) (hk0 : A.k0 ≤ n := by exact nlr rfl) : Does A Tryz.prog ⟨some d, .call ⟨.value (.func f), xs.toArray, tys⟩, ty, pos, af, g⟩ s (s.back d n pv U) := Does.callG n hc hE ha hcl hn hfr hk0
theorem dP (n : Nat) (ρ : List (Nat × Nat)) (hc : FC Tryz.prog f args U k (Is pv U')) (hE : Enters Tryz.prog f) (ha : EvL A s xs (args.map fun c => (c.1, c.2.map (LV.ren (rn ρ)))) := by repeat' first | exact evN | exact Ev.tmp rfl | exact At.w ‹_› rfl | exact Evl.ev (Evl.int rfl) | exact Evl.ev Evl.bool | exact Evl.ev (Evl.str rfl) | apply evC) (hT : HasE s ρ U := by repeat' first | exact rfl | exact trivial | exact At.n ‹_› _ rfl | apply And.intro) (hB : (dupB (U.map fun p => rn ρ p.1) && closedB pv U' && dupB (U'.map fun p => sg ρ k n p.1) && keptB U U' k && Nat.blt d A.n) = true := by rfl) (hfr : FrK s n k (tabTags U') := by repeat' first | exact trivial | exact Fresh.of rfl | exact At.fr ‹_› _ rfl | apply And.intro) (hk0 : A.k0 ≤ n := by exact nlr rfl) : Does A Tryz.prog ⟨some d, .call ⟨.value (.func f), xs.toArray, tys⟩, ty, pos, af, g⟩ s (s.backP d (sg ρ k n) (U.map fun p => rn ρ p.1) pv U') := Does.callP n ρ hc hE ha hT hB hfr hk0
theorem dA {q q2 : Nat} {E : TypeId} {e : Ty} {us ys : List e.Den} (t : Nat) (hE : elemB Tryz.prog E e.wd = true) (hx : Evl A s x (.ref q) := by first | exact Evl.tmp rfl | exact At.v ‹_› rfl) (he : s.tab.ent q = some (.arr E e us) := by first | exact rfl | exact At.n ‹_› _ rfl) (hy : Evl A s y (.ref q2) := by first | exact Evl.tmp rfl | exact At.v ‹_› rfl) (he2 : s.tab.ent q2 = some (.arr E e ys) := by first | exact rfl | exact At.n ‹_› _ rfl) (hne : Nat.beq q q2 = false := by rfl) (hT : Tryz.prog.underlying T = some (.slice E) := by exact sliL rfl) (hb : us.length + ys.length ≤ 1073741824 := by first | omega | (simp only [List.length_append, List.length_map, List.length_take, List.length_cons, List.length_nil]; omega) | (simp only [List.length_append, List.length_drop, List.length_take, List.length_cons, List.length_nil]; omega)) (hn : Nat.blt d A.n = true := by rfl) (hfr : Fresh s t := by first | exact Fresh.of rfl | exact At.fr ‹_› _ rfl) (hk0 : A.k0 ≤ t := by exact nlr rfl) : Does A Tryz.prog ⟨some d, .call { callee := .builtin .append, args := #[x, y], argTypes := #[T, T] }, ty, pos, af, g⟩ s (s.mk_ d t [q, q2] E e (us ++ ys)) := Does.append t hx he hy he2 hne hT hE hb hn hfr hk0
theorem dBs (t : Nat) {E : TypeId} {e : Ty} {n : Nat} {parts : Array (Nat × Operand)} {css : List (Bool × List LV)} {us : List e.Den} {used : List Nat} {bb : Bool} {z : Value} (hz : zer Tryz.prog E = some z) (hT : Tryz.prog.underlying T = some (.slice E) := by exact sliL rfl) (hE : tsh Tryz.prog E = some (bb, e.wd) := by exact tshL rfl) (hpn : parts.toList.map (·.1) = List.range n := by rfl) (hv : EvL A s (parts.toList.map (·.2)) css := by repeat' first | exact evN | exact Ev.tmp rfl | exact At.w ‹_› rfl | exact Evl.ev (Evl.int rfl) | exact Evl.ev Evl.bool | exact Evl.ev (Evl.str rfl) | apply evC) (hok : ∀ c ∈ css, okLVs s.tab c.2 = true := by exact List.all_eq_true.1 rfl) (hab : AbsL s.tab e css us used := by repeat' first | exact abN | exact ⟨rfl, rfl⟩ | apply abC) (hun : used.Nodup := by decide) (hsz : Nat.ble (n * e.wd) 16777216 = true := by rfl) (hn : Nat.blt d A.n = true := by rfl) (hfr : Fresh s t := by first | exact Fresh.of rfl | exact At.fr ‹_› _ rfl) (hk0 : A.k0 ≤ t := by exact nlr rfl) : Does A Tryz.prog ⟨some d, .buildSlice T n parts, ty, pos, af, g⟩ s (s.mk_ d t used E e us) := Does.buildSlice t hT hE hz hpn hv hok hab hun hsz hn hfr hk0
end
end Go.Proofs.YtjaadeknhofhpaaGreat

/- Abstract states: struct literals of types with maps; clearing the end of an own slice; an own slice cut short; keys that are structs. No program is named here. -/
namespace Go.Proofs.YtjaadeknhofhpaaGreat
open Go.RowKit

section
variable {A : Amb} {P : Program} {s : St} {x y z : Operand} {d : Nat} {T T' ty : TypeId} {pos : String} {af : Array Edge} {g : Option (Nat × Bool)}
/-- As bld, with the zero value's cells. -/
def bldV (P : Program) (T : TypeId) (offs : List (Nat × Nat)) (zs : List Value) : Prop :=
  ∃ fs, P.underlying T = some (.struct fs) ∧ (∀ w, (fs.mapM fun (f : Field) => do pure (f.offset, ← sizeOf f.type)).run P w = .ok offs.toArray w) ∧ zer P T = some (.agg zs.toArray)
end

theorem Res.zero {A : Amb} {P : Program} {s : St} {fn : Func} (hr : fn.results = #[]) : Res A P fn s (.tup []) := fun gh a w g => by
  refine ⟨.tuple #[], ?_, [], rfl, rfl⟩
  rw [results_eq, hr]; simp [Sem.bind_eq, Sem.run_bind]

/-! ### An own slice cut short -/
section
variable {A : Amb} {P : Program} {s : St} {x y z : Operand} {d : Nat} {T T' ty : TypeId} {pos : String} {af : Array Edge} {g : Option (Nat × Bool)}
variable {E : TypeId} {e : Ty} {xs : List e.Den} {q lo n : Nat}
end
end Go.Proofs.YtjaadeknhofhpaaGreat

/- Abstract states: shifts and bits of numbers; parts of one's own slices, read. No program is named here. -/
namespace Go.Proofs.YtjaadeknhofhpaaGreat
open Go.RowKit

section
variable {A : Amb} {P : Program} {s : St} {x y : Operand} {d : Nat} {T T' ty : TypeId} {pos : String} {af : Array Edge} {g : Option (Nat × Bool)}
theorem i64_bits (op : BinOp) (hop : op = .and ∨ op = .or) (m n : Nat) (hm : m < 9223372036854775808) (hn : n < 9223372036854775808) : bits op .i64 (m : Int) (n : Int) = ((if op = .and then m &&& n else m ||| n : Nat) : Int) := by
  have h1 : (BitVec.ofInt 64 (m : Int)).toNat = m := by rw [BitVec.ofInt_natCast, BitVec.toNat_ofNat]; exact Nat.mod_eq_of_lt (by omega)
  have h2 : (BitVec.ofInt 64 (n : Int)).toNat = n := by rw [BitVec.ofInt_natCast, BitVec.toNat_ofNat]; exact Nat.mod_eq_of_lt (by omega)
  rcases hop with rfl | rfl
  · have hx : m &&& n < 2 ^ 63 := Nat.and_lt_two_pow _ (by omega)
    show IntKind.i64.wrap ((BitVec.ofInt 64 (m : Int) &&& BitVec.ofInt 64 (n : Int)).toNat : Int) = _
    rw [BitVec.toNat_and, h1, h2, IntWalk.i64_in _ (by omega)]
    rfl
  · have hx : m ||| n < 2 ^ 63 := Nat.or_lt_two_pow (by omega) (by omega)
    show IntKind.i64.wrap ((BitVec.ofInt 64 (m : Int) ||| BitVec.ofInt 64 (n : Int)).toNat : Int) = _
    rw [BitVec.toNat_or, h1, h2, IntWalk.i64_in _ (by omega)]
    rfl
theorem Does.and {m n : Int} (hx : Evl A s x (dI m)) (hy : Evl A s y (dI n)) (hn : Nat.blt d A.n = true) (h0 : 0 ≤ m) (h00 : 0 ≤ n) : Does A P ⟨some d, .binOp .and T x y T', ty, pos, af, g⟩ s (s.put d (lf (dI ((m.toNat &&& n.toNat : Nat) : Int)))) :=
  Does.yields rfl hn fun gh a w r => by
    have h1 := hx.i r
    have h2 := hy.i r
    have k1 := (LVR.int (hx gh a w r)).2
    have k2 := (LVR.int (hy gh a w r)).2
    have hb := i64_bits .and (.inl rfl) m.toNat n.toNat (by omega) (by omega)
    rw [Int.toNat_of_nonneg h0, Int.toNat_of_nonneg h00] at hb
    have hb : bits .and .i64 m n = ((m.toNat &&& n.toNat : Nat) : Int) := hb
    have h3 : Op.intBits .and .i64 m n = pure (.int .i64 ((m.toNat &&& n.toNat : Nat) : Int)) := by rw [← hb]; rfl
    have hx2 : m.toNat &&& n.toNat ≤ m.toNat := Nat.and_le_left
    refine ⟨.int .i64 ((m.toNat &&& n.toNat : Nat) : Int), ?_, _, rfl, LVR.mkI (by omega)⟩
    simp only [execOp, h1, h2, eqGuard_at_int, binOp, h3]
    simp
theorem Does.or {m n : Int} (hx : Evl A s x (dI m)) (hy : Evl A s y (dI n)) (hn : Nat.blt d A.n = true) (h0 : 0 ≤ m) (h00 : 0 ≤ n) : Does A P ⟨some d, .binOp .or T x y T', ty, pos, af, g⟩ s (s.put d (lf (dI ((m.toNat ||| n.toNat : Nat) : Int)))) :=
  Does.yields rfl hn fun gh a w r => by
    have h1 := hx.i r
    have h2 := hy.i r
    have k1 := (LVR.int (hx gh a w r)).2
    have k2 := (LVR.int (hy gh a w r)).2
    have hb := i64_bits .or (.inr rfl) m.toNat n.toNat (by omega) (by omega)
    rw [Int.toNat_of_nonneg h0, Int.toNat_of_nonneg h00] at hb
    have hb : bits .or .i64 m n = ((m.toNat ||| n.toNat : Nat) : Int) := hb
    have h3 : Op.intBits .or .i64 m n = pure (.int .i64 ((m.toNat ||| n.toNat : Nat) : Int)) := by rw [← hb]; rfl
    have hx2 : m.toNat ||| n.toNat < 2 ^ 63 := Nat.or_lt_two_pow (by omega) (by omega)
    refine ⟨.int .i64 ((m.toNat ||| n.toNat : Nat) : Int), ?_, _, rfl, LVR.mkI (by omega)⟩
    simp only [execOp, h1, h2, eqGuard_at_int, binOp, h3]
    simp
end
end Go.Proofs.YtjaadeknhofhpaaGreat

/- Closed facts on maps and on structs that are compared. -/
namespace Go.Proofs.YtjaadeknhofhpaaGreat
open Go.RowKit

theorem eqt_55 : EqT Tryz.prog 2 55 true (.pr .int .bool) := EqT.struct Tryz.underlying55 (by kernel_rfl) (EqFs.cons (by decide) rfl tsh_3 (fun _ => rfl) (EqT.int und_3) (EqFs.one (by decide) rfl tsh_4 (fun _ => rfl) (EqT.bool und_4)))
theorem eqg_55 : (Tryz.prog.eqGuardType Tryz.prog.depth 55 = false) ∧ 2 ≤ 10000 := ⟨by kernel_rfl, by decide⟩
theorem key_9 : KeyL Tryz.prog 9 false .str := KeyL.str und_9
theorem zev_3 : ZeroV Tryz.prog 3 false .int := ⟨_, zer_3, rfl⟩
end Go.Proofs.YtjaadeknhofhpaaGreat

/- Abstract states: slices of numbers that the library sorts in place. No program is named here. -/
namespace Go.Proofs.YtjaadeknhofhpaaGreat
open Go.RowKit

def isort (xs : List Int) : List Int := xs.mergeSort fun x y => decide (x ≤ y)
theorem isort_perm (xs : List Int) : (isort xs).Perm xs := List.mergeSort_perm ..
theorem isort_len (xs : List Int) : (isort xs).length = xs.length := (isort_perm xs).length_eq
theorem isort_mem {xs : List Int} {x : Int} : x ∈ isort xs ↔ x ∈ xs := (isort_perm xs).mem_iff
theorem isort_sorted (xs : List Int) : (isort xs).Pairwise fun x y => x ≤ y := by
  have h := List.pairwise_mergeSort (le := fun x y : Int => decide (x ≤ y)) (fun a b c h1 h2 => by simp only [decide_eq_true_eq] at *; omega) (fun a b => by simp only [Bool.or_eq_true, decide_eq_true_eq]; omega) xs
  exact h.imp fun h => by simpa using h
theorem ownL_ints {w : World} : ∀ {xs : List Int} {fp : List Nat} {cs : List Value}, OwnL (Own .int w) fp cs xs → fp = [] ∧ cs = xs.map (Value.int .i64) ∧ ∀ x ∈ xs, -9223372036854775808 ≤ x ∧ x ≤ 9223372036854775807
  | [], fp, cs, h => ⟨h.1, h.2, fun x hx => by cases hx⟩
  | x :: xs, fp, cs, h => by
    obtain ⟨f1, f2, l, r, rfl, rfl, ⟨rfl, rfl, h1⟩, h2⟩ := h
    obtain ⟨rfl, rfl, h3⟩ := ownL_ints h2
    exact ⟨rfl, rfl, fun y hy => by rcases List.mem_cons.1 hy with rfl | hy; exact h1; exact h3 y hy⟩
theorem ownL_mk {w : World} : ∀ {xs : List Int}, (∀ x ∈ xs, -9223372036854775808 ≤ x ∧ x ≤ 9223372036854775807) → OwnL (Own .int w) [] (xs.map (Value.int .i64)) xs
  | [], _ => ⟨rfl, rfl⟩
  | x :: xs, h => ⟨[], [], [.int .i64 x], xs.map (Value.int .i64), rfl, rfl, ⟨rfl, rfl, h x (List.mem_cons_self ..)⟩, ownL_mk fun y hy => h y (List.mem_cons_of_mem _ hy)⟩
/-- What the library's contract says of sorting a row of numbers. -/
def SortsI (P : Program) (f : FuncId) : Prop := ∀ (blk cap : Nat) (zs : List Int) (w : World), Sort.Holds (Value.int .i64) w blk 0 zs.toArray → blk < w.heap.size → zs.length < 4611686018427387904 →
  Calls P f #[.slice (some ⟨blk, 0, none⟩) zs.length cap] w fun e w' => e = .returned (.tuple #[]) ∧ ∃ n os, w' = Sort.grow (Sort.putRow (Value.int .i64) (Sort.ahead w n) blk 0 (isort zs).toArray) os
def SortsNil (P : Program) (f : FuncId) : Prop := ∀ w : World, Calls P f #[.slice none 0 0] w fun e w' => e = .returned (.tuple #[]) ∧ Nw w w'
theorem FC.sortI {P : Program} {f : FuncId} {E : TypeId} (hS : SortsI P f) (hN : SortsNil P f) (xs : List Int) (hl : xs.length ≤ 1000000000) : FC P f [(false, [.ref 0])] [(0, some (.arr E .int xs))] 1 (Is (.tup []) [(0, some (.arr E .int (isort xs)))]) := fun gh w vs cx ha => by
  obtain ⟨v, vs', rfl, ⟨l, hl_, h1⟩, rfl⟩ := ha
  simp only [List.cons.injEq, and_true] at hl_
  subst hl_
  have hv : v = gh.h 0 := h1 ⟨_, rfl⟩
  subst hv
  have hO : Own (.sl E .int) w (gh.f 0) [gh.h 0] xs := cx.en 0 _ rfl
  have alq : ∀ (y : List Int) q, Tab.al [(0, some (Ent.arr E .int y))] q → q = 0 := fun y q ⟨e, he⟩ => by
    rw [Tab.ent_cons] at he
    split at he
    · assumption
    · cases he
  rcases hO with ⟨hf, hc, hx⟩ | ⟨g, cap, cur, fps, hf, hc, hb, hn, hcap, hsz, hL⟩
  · simp only [List.cons.injEq, and_true] at hc
    subst hx
    rw [hc]
    refine Calls.mono (hN w) fun e w' he => ?_
    obtain ⟨rfl, h2⟩ := he
    refine ⟨_, _, _, gh, rfl, ⟨rfl, rfl⟩, ⟨fun q e he => ?_, fun q q' hq hq' hne => absurd ((alq _ q hq).trans (alq _ q' hq').symm) hne, fun q hq => ?_, fun q hq g hg => ?_, fun g hg => Nat.lt_of_lt_of_le (cx.nl g hg) h2.size⟩, ⟨[], rfl, rfl⟩,
      ⟨h2.grw, fun g hg _ => Below.block h2 g hg, fun g hg => .inl hg, fun q hq g hg => ?_⟩, fun q _ _ => rfl⟩
    · rw [Tab.ent_cons] at he
      split at he
      · rename_i e0; subst e0; cases he
        exact .inl ⟨hf, by rw [hc], by simp [isort]⟩
      · cases he
    · rw [alq _ q hq, hf]; exact List.nodup_nil
    · rw [alq _ q hq, hf] at hg; cases hg
    · rw [alq _ q hq, hf] at hg; cases hg
  · simp only [List.cons.injEq, and_true] at hc
    rw [Nat.mul_one] at hL
    obtain ⟨rfl, ht, hr⟩ := ownL_ints hL
    have hg : g < w.heap.size := (Array.getElem?_eq_some_iff.1 hb).1
    rw [hc]
    have hm : xs.length ≤ 9223372036854775807 := by unfold maxLen at hcap; omega
    refine Calls.mono (hS g cap xs w (holds_of_blockI hb ht) hg (by omega)) fun e w' he => ?_
    obtain ⟨rfl, n, os, rfl⟩ := he
    obtain ⟨k1, k2, k3, k4, k5⟩ := grownBy_sortedI (w := w) (g := g) (n := n) (os := os) (isort xs).toArray
    have hlen := isort_len xs
    refine ⟨_, _, _, gh, rfl, ⟨rfl, rfl⟩, ⟨fun q e he => ?_, fun q q' hq hq' hne => absurd ((alq _ q hq).trans (alq _ q' hq').symm) hne, fun q hq => ?_, fun q hq g' hg' => ?_, fun g' hg' => Nat.lt_of_lt_of_le (cx.nl g' hg') k4⟩, ⟨[], rfl, rfl⟩,
      ⟨⟨k1, k2, k3, k4⟩, fun g' h1 h2 => ?_, fun g' h1 => .inl h1, fun q hq g' hg' => ?_⟩, fun q _ _ => rfl⟩
    · rw [Tab.ent_cons] at he
      split at he
      · rename_i e0; subst e0; cases he
        refine .inr ⟨g, cap, _, [], hf, by rw [hc, hlen], heap_sortedI _ hb, by omega, hcap, by simpa [Sort.putCells] using hsz, ?_⟩
        show OwnL (Own .int _) [] (List.take ((isort xs).length * 1) _) (isort xs)
        rw [Nat.mul_one, take_putCellsI cur (isort xs) (by have : cur.size = cap * 1 := hsz; omega)]
        exact ownL_mk fun x hx => hr x (isort_mem.1 hx)
      · cases he
    · rw [alq _ q hq]; exact cx.nd 0 ⟨_, rfl⟩
    · rw [alq _ q hq] at hg'; exact cx.no 0 ⟨_, rfl⟩ g' hg'
    · exact k5 g' h1 fun e0 => h2 0 ⟨_, rfl⟩ (by rw [hf]; cases e0; exact List.mem_cons_self ..)
    · rw [alq _ q hq] at hg'; exact .inr ⟨0, ⟨_, rfl⟩, hg'⟩
end Go.Proofs.YtjaadeknhofhpaaGreat
