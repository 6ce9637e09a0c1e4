/- Abstract states: parts of slices of one's own; copies; an own slice that is frozen. No program is named here. -/
import Derived.Test.YtbelopdphlllnaaAl
import Derived.Laws.CopyRow
import Derived.Test.YtbelopdphlllnaaAe
import Derived.DeepKeys3
import Derived.Test.YtbelopdphlllnaaAi
import Derived.Test.YtbelopdphlllnaaAs
set_option linter.unusedSimpArgs false
set_option linter.unusedVariables false
namespace Go.Proofs.Ytbelopdphlllnaa
open Go.RowKit

section
variable {A : Amb} {P : Program} {s : St} {x y : Operand} {d : Nat} {T T' ty : TypeId} {pos : String} {af : Array Edge} {g : Option (Nat × Bool)}
variable {E : TypeId} {e : Ty} {xs : List e.Den} {q lo n : Nat}
theorem SubR.all {h : Value} {w : World} {fp : List Nat} {wd : Nat} (hO : Own (.sl E e) w fp [h] xs) : SubR h wd 0 xs.length h := by
  rcases hO with ⟨_, h1, h2⟩ | ⟨b, cap, cur, fps, _, h1, _⟩
  · subst h2
    simp only [List.cons.injEq, and_true] at h1
    exact ⟨none, 0, 0, h1, by rw [h1]; rfl⟩
  · simp only [List.cons.injEq, and_true] at h1
    refine ⟨some ⟨b, 0, none⟩, xs.length, cap, h1, ?_⟩
    rw [h1]
    congr 1
    split
    · rfl
    · simp [Addr.add_lit]
theorem SubR.rep {h v : Value} {w : World} {fp : List Nat} (hO : Own (.sl E e) w fp [h] xs) (hs : SubR h e.wd lo n v) (hb : lo + n ≤ xs.length) : Rep (.sl E e) w [v] ((xs.take (lo + n)).drop lo) := by
  obtain ⟨B, m, c, rfl, rfl⟩ := hs
  have hR := hO.rep
  obtain ⟨B', c', k, _⟩ := hR
  have hR := hO.rep
  simp only [List.cons.injEq, Value.slice.injEq, and_true] at k
  obtain ⟨rfl, rfl, rfl⟩ := k
  have := hR.part (lo := lo) (hi := lo + n) (by omega) hb
  rwa [Nat.add_sub_cancel_left] at this
theorem Does.sliceO {lo hi : Option Operand} {l h : Option Int} {bb : Bool} (hx : Evl A s x (.ref q)) (he : s.tab.ent q = some (.arr E e xs)) (hlo : opI A s lo l) (hhi : opI A s hi h) {E' : TypeId} (hT : P.underlying T = some (.slice E')) (hE : tsh P E' = some (bb, e.wd)) (hn : Nat.blt d A.n = true)
    (h0 : 0 ≤ l.getD 0) (h1 : l.getD 0 ≤ h.getD xs.length) (h2 : h.getD xs.length ≤ xs.length) {a b : Nat} (ha : a = (l.getD 0).toNat) (hb : b = (h.getD xs.length).toNat - (l.getD 0).toNat) : Does A P ⟨some d, .slice T x lo hi none, ty, pos, af, g⟩ s (s.put d (lf (.sub q e.wd a b))) :=
  Does.yields rfl hn fun gh a' w r => by
    subst ha hb
    have hv : a'.eval x = gh.h q := hx gh a' w r ⟨_, he⟩
    have hO : Own (.sl E e) w (gh.f q) [gh.h q] xs := r.cx.en q _ he
    obtain ⟨B, c, k1, k2, k3⟩ := hO.rep.slv
    refine ⟨_, ?_, _, rfl, fun _ => ⟨B, xs.length, c, k1, rfl⟩⟩
    simp only [execOp, hv, k1, hlo.ev r, hhi.ev r, Option.map_none, Instr.sliceAt, Instr.slice, Go.Sem.run_bind, run_underlying hT, Result.andThen_ok, run_sliceBounds h0 h1 h2 k2, run_sizeOf hE]
    simp
theorem Evl.repSub (h : Evl A s x (.sub q e.wd lo n)) (he : s.tab.ent q = some (.arr E e xs)) (hb : lo + n ≤ xs.length) : RepEv A s x (.sl E e) ((xs.take (lo + n)).drop lo) := fun gh a w r => by
  have hO : Own (.sl E e) w (gh.f q) [gh.h q] xs := r.cx.en q _ he
  exact (h gh a w r ⟨_, he⟩).rep hO hb
/-! ### Copies of one-cell elements into a slice of one's own -/
def cpy {α : Type} (xs : List α) (lo n : Nat) (ys : List α) : List α := xs.take lo ++ ys.take (min ys.length n) ++ xs.drop (lo + min ys.length n)
theorem cpy_len {α : Type} {xs : List α} {lo n : Nat} {ys : List α} (h : lo + n ≤ xs.length) : (cpy xs lo n ys).length = xs.length := by
  simp [cpy]; omega
theorem take_splice {α : Type} {l : List α} {len lo : Nat} {cs : List α} (h : lo + cs.length ≤ len) (h2 : len ≤ l.length) : (l.take lo ++ cs ++ l.drop (lo + cs.length)).take len = (l.take len).take lo ++ cs ++ (l.take len).drop (lo + cs.length) := by
  have hA : (l.take lo ++ cs).length = lo + cs.length := by simp; omega
  rw [List.take_append, List.take_of_length_le (by omega), hA, List.take_take, Nat.min_eq_left (by omega), List.drop_take]
theorem OwnL.fp0 {w : World} (hf : e.flat = true) : ∀ {xs : List e.Den} {fp : List Nat} {cs : List Value}, OwnL (Own e w) fp cs xs → fp = []
  | [], _, _, h => h.1
  | _ :: _, _, _, ⟨f1, f2, c1, c2, h1, h2, h3, h4⟩ => by rw [h1, flat_own_fp hf h3, OwnL.fp0 hf h4]; rfl
theorem OwnL.takeN {w : World} (hw : e.wd = 1) (hf : e.flat = true) : ∀ {xs : List e.Den} {fp : List Nat} {cs : List Value} (k : Nat), OwnL (Own e w) fp cs xs → OwnL (Own e w) [] (cs.take k) (xs.take k)
  | [], _, _, k, h => by rw [h.2]; simp [OwnL]
  | x :: xs, _, _, 0, _ => by simp [OwnL]
  | x :: xs, _, _, k + 1, ⟨f1, f2, c1, c2, h1, h2, h3, h4⟩ => by
    have hl := h3.len
    rw [hw] at hl
    have hf1 := flat_own_fp hf h3
    subst hf1
    match c1, hl with
    | [c], _ =>
      rw [h2]
      exact ⟨[], [], [c], c2.take k, rfl, rfl, h3, OwnL.takeN hw hf k h4⟩
theorem OwnL.dropN {w : World} (hw : e.wd = 1) (hf : e.flat = true) : ∀ {xs : List e.Den} {fp : List Nat} {cs : List Value} (k : Nat), OwnL (Own e w) fp cs xs → OwnL (Own e w) [] (cs.drop k) (xs.drop k)
  | [], _, _, k, h => by rw [h.2]; simp [OwnL]
  | x :: xs, _, _, 0, h => by have := h.fp0 hf; subst this; exact h
  | x :: xs, _, _, k + 1, ⟨f1, f2, c1, c2, h1, h2, h3, h4⟩ => by
    have hl := h3.len
    rw [hw] at hl
    match c1, hl with
    | [c], _ =>
      rw [h2]
      exact OwnL.dropN hw hf k h4
theorem run_copy_puts {w : World} {dT sT ty elem : TypeId} {b o dLen dCap : Nat} {a : Addr} {sLen sCap : Nat} {cur : Array Value} {cs : List Value} (hu : P.underlying dT = some (.slice elem)) (hs : (P.info? elem).map (·.size) = some 1)
    (hg : w.heap[b]? = some (.cells cur E (0, 0))) (hn : cs.length = Nat.min sLen dLen) (hsrc : ∀ j v, cs[j]? = some v → w.cell? (a.add j) = some v) (hfit : o + cs.length ≤ cur.size) (h1 : ∀ v ∈ cs, v.oneCell' = true) :
    (Builtin.copy_ #[dT, sT] ty #[.slice (some ⟨b, o, none⟩) dLen dCap, .slice (some a) sLen sCap]).run P w = .ok (goInt cs.length) (puts w b o cs) := by
  have hl := run_loadCells_list (P := P) w a cs hsrc
  have hst := run_storeCells (P := P) (b := b) (E := E) cs o 0 w cur hg (by omega) h1
  cases hq : P.info? elem with
  | none => simp [hq] at hs
  | some i =>
    have hi : i.size = 1 := by simpa [hq] using hs
    simp [Builtin.copy_, run_underlying hu, Builtin.lenOf, Builtin.firstCells, sizeOf, typeInfo, hq, hi, ← hn, hl, hst]
def SubEv (A : Amb) (s : St) (x : Operand) (q wd lo n : Nat) : Prop := ∀ gh a w, Rg A s gh a w → SubR (gh.h q) wd lo n (a.eval x)
theorem Evl.subS (h : Evl A s x (.sub q e.wd lo n)) (he : s.tab.ent q = some (.arr E e xs)) : SubEv A s x q e.wd lo n := fun gh a w r => h gh a w r ⟨_, he⟩
theorem Evl.subR (h : Evl A s x (.ref q)) (he : s.tab.ent q = some (.arr E e xs)) : SubEv A s x q e.wd 0 xs.length := fun gh a w r => by
  have hO : Own (.sl E e) w (gh.f q) [gh.h q] xs := r.cx.en q _ he
  rw [show a.eval x = gh.h q from h gh a w r ⟨_, he⟩]
  exact SubR.all hO
theorem Does.copyO {T1 T2 elem : TypeId} {z : Value} {bytes : Nat} {ys : List e.Den} (hx : SubEv A s x q e.wd lo n) (he : s.tab.ent q = some (.arr E e xs)) (hb : lo + n ≤ xs.length) (hy : RepEv A s y (.sl E e) ys) (hw : e.wd = 1) (hf : e.flat = true)
    (hu : P.underlying T1 = some (.slice elem)) (hi : (P.info? elem).map (fun i => (i.zero, i.size, i.bytes)) = some (some z, 1, bytes)) (hn : Nat.blt d A.n = true) :
    Does A P ⟨some d, .call ⟨.builtin .copy, #[x, y], #[T1, T2]⟩, ty, pos, af, g⟩ s ⟨(d, lf (dI (min ys.length n : Nat))) :: s.tm, (q, some (.arr E e (cpy xs lo n ys))) :: s.tab⟩ := fun a w K Q r hK => by
  obtain ⟨gh, r⟩ := r
  have hs : (P.info? elem).map (·.size) = some 1 := by
    cases hq : P.info? elem with
    | none => rw [hq] at hi; simp at hi
    | some i => rw [hq] at hi; simp at hi; simp [hi.2.1]
  have hO : Own (.sl E e) w (gh.f q) [gh.h q] xs := r.cx.en q _ he
  have hO' := hO
  obtain ⟨B, m, c, q1, q2⟩ := hx gh a w r
  have hr := hy gh a w r
  obtain ⟨A', c2, hv2, h3, h4⟩ := hr.slv
  obtain ⟨B0, c0, z1, z2, z3⟩ := hO.rep.slv
  have hsz : (min ys.length n : Nat) ≤ 9223372036854775807 := by unfold maxLen at z3; omega
  by_cases hz : min ys.length n = 0
  · have hc : cpy xs lo n ys = xs := by simp [cpy, hz]
    have e0 : (execOp a.eval ⟨some d, .call ⟨.builtin .copy, #[x, y], #[T1, T2]⟩, ty, pos, af, g⟩).run P w = .ok (.value (goInt ((min ys.length n : Nat) : Int))) w := by
      have h5 := run_copy_none (P := P) w T1 T2 ty elem (if c = lo then B else B.map (·.add (lo * e.wd))) A' n (c - lo) ys.length c2 hu hs hz
      rw [hz]
      simp only [execOp, resolve, invoke, builtin, q2, hv2, Go.Sem.run_bind, Go.Sem.run_pure, Result.andThen_ok, List.map_toArray, List.map_cons, List.map_nil, h5]
      rfl
    unfold Oper.wp
    rw [e0, Oper.upon_value]
    refine hK _ _ ⟨gh, Rg.put (s := ⟨s.tm, (q, some (.arr E e (cpy xs lo n ys))) :: s.tab⟩) (r.mod he (Grw.refl w) (fun _ _ _ => rfl) ?_) (Nat.le_of_ble_eq_true hn) (pv := lf (dI (min ys.length n : Nat))) ⟨_, rfl, LVR.mkI (n := ((min ys.length n : Nat) : Int)) (by omega)⟩⟩
    rw [hc]
    exact hO'
  · rcases hO with ⟨_, _, h⟩ | ⟨b, cap, cur, fps, p2, p3, p4, p5, p6, p7, p8⟩
    · subst h; simp at hb; omega
    have hfp := p8.fp0 hf
    subst hfp
    simp only [List.cons.injEq, and_true] at p3
    rw [q1] at p3
    simp only [Value.slice.injEq] at p3
    obtain ⟨rfl, rfl, rfl⟩ := p3
    rw [if_neg (by omega)] at q2
    simp only [Option.map_some, Addr.add_lit, hw, Nat.mul_one, Nat.zero_add] at q2
    rw [hv2] at hr
    obtain ⟨_, hsrc⟩ := hr.src (M := 0) hf
    rcases hsrc with ⟨_, h0⟩ | ⟨ad, news, rfl, ⟨fp, n1, _, _⟩, n4⟩
    · omega
    have hnl := n1.len
    rw [hw, Nat.mul_one] at hnl
    have n5 := n1.takeN hw hf (min ys.length n)
    have hcl : (news.take (min ys.length n)).length = min ys.length n := by rw [List.length_take]; omega
    have hcs : cur.size = c := by rw [p7, hw, Nat.mul_one]
    have h5 := run_copy_puts (P := P) (w := w) (dT := T1) (sT := T2) (ty := ty) (o := lo) (dCap := c - lo) (sCap := c2) (sLen := ys.length) (dLen := n) (a := ad) (cs := news.take (min ys.length n)) hu hs p4 hcl
      (fun j v hj => n4 j v (by rw [List.getElem?_take] at hj; split at hj; exact hj; cases hj)) (by rw [hcl]; omega) (OwnL.one (fp := []) n5)
    have e0 : (execOp a.eval ⟨some d, .call ⟨.builtin .copy, #[x, y], #[T1, T2]⟩, ty, pos, af, g⟩).run P w = .ok (.value (goInt ((min ys.length n : Nat) : Int))) (puts w b lo (news.take (min ys.length n))) := by
      rw [hcl] at h5
      simp only [execOp, resolve, invoke, builtin, q2, hv2, Go.Sem.run_bind, Go.Sem.run_pure, Result.andThen_ok, List.map_toArray, List.map_cons, List.map_nil, h5]
    unfold Oper.wp
    rw [e0, Oper.upon_value]
    obtain ⟨cur', m1, m2, m3⟩ := puts_row b E (0, 0) (news.take (min ys.length n)) w lo cur p4 (by rw [hcl]; omega)
    refine hK _ _ ⟨gh, Rg.put (s := ⟨s.tm, (q, some (.arr E e (cpy xs lo n ys))) :: s.tab⟩) (r.mod he (puts_grw w b lo _) (fun g0 _ hg0 => puts_other w b lo _ g0 fun h => hg0 (by rw [p2, h]; simp)) ?_) (Nat.le_of_ble_eq_true hn) (pv := lf (dI (min ys.length n : Nat))) ⟨_, rfl, LVR.mkI (n := ((min ys.length n : Nat) : Int)) (by omega)⟩⟩
    have hcp := cpy_len (ys := ys) hb
    refine .inr ⟨b, c, cur', [], p2, by rw [q1, hcp], m1, by omega, p6, by rw [m2]; exact p7, ?_⟩
    rw [hw, Nat.mul_one] at p8 ⊢
    rw [hcp]
    have hlist : cur'.toList.take xs.length = (cur.toList.take xs.length).take lo ++ news.take (min ys.length n) ++ (cur.toList.take xs.length).drop (lo + min ys.length n) := by
      have h9 := take_splice (l := cur.toList) (len := xs.length) (lo := lo) (cs := news.take (min ys.length n)) (by rw [hcl]; omega) (by simp; omega)
      rw [m3, h9, hcl]
    rw [hlist]
    have keep : ∀ {cs : List Value} {zs : List e.Den}, OwnL (Own e w) [] cs zs → OwnL (Own e (puts w b lo (news.take (min ys.length n)))) [] cs zs := fun h => h.mono fun f c x hf' ho => ho.keep fun g hg => absurd (hf' g hg) (by simp)
    exact ((keep (p8.takeN hw hf lo)).append (keep n5)).append (keep (p8.dropN hw hf (lo + min ys.length n)))
/-- What is one's own is frozen: it reads as a datum from now on. -/
theorem Wk.freezeS (i : Nat) (hi : lk s.tm i = some (lf (.ref q))) (he : s.tab.ent q = some (.arr E e xs)) : Wk A s ⟨(i, lf (.dat (.sl E e) xs)) :: s.tm, (q, none) :: s.tab⟩ := fun a w r => by
  obtain ⟨gh, r⟩ := r
  obtain ⟨v, h1, l, h2, h3⟩ := r.tm i _ hi
  simp only [List.cons.injEq, and_true] at h2
  subst h2
  have hv : v = gh.h q := h3 ⟨_, he⟩
  have hO : Own (.sl E e) w (gh.f q) [gh.h q] xs := r.cx.en q _ he
  have hal : ∀ q', Tab.al ((q, none) :: s.tab) q' → q' ≠ q ∧ s.tab.al q' := fun q' ⟨e', h⟩ => by
    rw [Tab.ent_cons] at h
    by_cases e2 : q' = q
    · rw [if_pos e2] at h; cases h
    · rw [if_neg e2] at h; exact ⟨e2, e', h⟩
  have r2 := r.step (T := (q, none) :: s.tab) (gh' := ⟨gh.h, gh.f, fun g => gh.N g ∨ g ∈ gh.f q⟩) (w' := w) ⟨fun q' e' h => ?_, fun q1 q2 k1 k2 hne => r.cx.dj q1 q2 (hal q1 k1).2 (hal q2 k2).2 hne, fun q' h => r.cx.nd q' (hal q' h).2, fun q' h g hg hN => ?_, fun g hN => ?_⟩
    (fun q' h => .inl ⟨(hal q' h).2, rfl, fun _ => rfl⟩) (fun g hg => ⟨.inl hg, rfl⟩) (Grw.refl w) (fun _ _ _ => rfl) (fun g hN => ?_) (fun q' h g hg => .inr ⟨q', (hal q' h).2, hg⟩)
  · exact ⟨_, r2.know h1 (pv := lf (.dat (.sl E e) xs)) ⟨_, rfl, by rw [hv]; exact hO.rd fun g hg => .inr hg⟩⟩
  · rw [Tab.ent_cons] at h
    by_cases e2 : q' = q
    · rw [if_pos e2] at h; cases h
    · rw [if_neg e2] at h
      exact (r.cx.en q' e' h).mono (fun r' _ h' => ⟨(hal r' h').2, rfl⟩) (fun g hg => ⟨.inl hg, rfl⟩) rfl rfl fun _ _ => rfl
  · rcases hN with hN | hN
    · exact r.cx.no q' (hal q' h).2 g hg hN
    · exact r.cx.dj q' q (hal q' h).2 ⟨_, he⟩ (hal q' h).1 g hg hN
  · rcases hN with hN | hN
    · exact r.cx.nl g hN
    · exact Own.lt hO g hN
  · rcases hN with hN | hN
    · exact .inl hN
    · exact .inr (.inr ⟨q, ⟨_, he⟩, hN, fun hl => r.xn g hl (r.ox q ⟨_, he⟩ g hN hl)⟩)
end
end Go.Proofs.Ytbelopdphlllnaa

/- Abstract states: struct literals of types with maps; clearing the end of an own slice; an own slice cut short; keys that are structs. No program is named here. -/
namespace Go.Proofs.Ytbelopdphlllnaa
open Go.RowKit

section
variable {A : Amb} {P : Program} {s : St} {x y z : Operand} {d : Nat} {T T' ty : TypeId} {pos : String} {af : Array Edge} {g : Option (Nat × Bool)}
/-- As bld, with the zero value's cells. -/
def bldV (P : Program) (T : TypeId) (offs : List (Nat × Nat)) (zs : List Value) : Prop :=
  ∃ fs, P.underlying T = some (.struct fs) ∧ (∀ w, (fs.mapM fun (f : Field) => do pure (f.offset, ← sizeOf f.type)).run P w = .ok offs.toArray w) ∧ zer P T = some (.agg zs.toArray)
theorem bldV_of {fs : List Field} {offs : List (Nat × Nat)} {zs : List Value} (hu : P.underlying T = some (.struct fs.toArray)) (hp : plB P fs offs = true) (hz : zer P T = some (.agg zs.toArray)) : bldV P T offs zs :=
  ⟨_, hu, fun w => by
    rw [List.mapM_toArray]
    have := run_places (P := P) (w := w) hp
    simp only [map_eq_pure_bind, Go.Sem.run_bind, this, Result.andThen_ok, Go.Sem.run_pure], hz⟩
theorem vals_ok (al : Nat → Prop) (gh : Gh) (w : World) : ∀ zs : List Value, LVs al gh w (zs.map LV.val) zs
  | [] => rfl
  | z :: zs => ⟨z, zs, rfl, rfl, vals_ok al gh w zs⟩
theorem Does.buildV {zs : List Value} {offs : List (Nat × Nat)} {parts : Array (Nat × Operand)} {css : List (Bool × List LV)} {ls : List LV} (hb : bldV P T offs zs) (hv : EvL A s (parts.toList.map (·.2)) css) (hok : ∀ c ∈ css, okLVs s.tab c.2 = true)
    (hf : fillL offs (zs.map LV.val) ((parts.toList.map (·.1)).zip (css.map (·.2))) = some ls) (hn : Nat.blt d A.n = true) : Does A P ⟨some d, .build T parts, ty, pos, af, g⟩ s (s.put d (ag ls)) :=
  Does.yields rfl hn fun gh a w r => by
    obtain ⟨fs, h1, h2, h3⟩ := hb
    have hvs := hv.cms r
    have hlen := hvs.len
    generalize hV : (parts.toList.map (·.2)).map a.eval = vs at *
    have hpl : parts.toList.length = vs.length := by rw [← hV]; simp
    have hcells : ∀ (cs : List (Bool × List LV)) (vs : List Value), CmsR s.tab.al gh w cs vs → (∀ c ∈ cs, okLVs s.tab c.2 = true) → ∀ (i : Nat) (c : Bool × List LV) (v : Value), cs[i]? = some c → vs[i]? = some v → ∃ us, v.cells = us.toArray ∧ LVs s.tab.al gh w c.2 us := by
      intro cs
      induction cs with
      | nil => intro vs _ _ i c v h; simp at h
      | cons c cs ih =>
        rintro vs ⟨v, vs', rfl, k1, k2⟩ hok i c' v' hc hv'
        cases i with
        | zero =>
          simp at hc hv'
          subst hc; subst hv'
          have hc := hok c (List.mem_cons_self ..)
          obtain ⟨b, ls⟩ := c
          exact CmR.cells k1 fun hb => by
            subst hb
            obtain ⟨l, rfl, q1⟩ := k1
            simp only [okLVs, Bool.and_true] at hc
            obtain ⟨h3, h4⟩ := okLV_al hc
            exact q1.oneCell h4 h3 fun q ⟨e, he⟩ => (r.cx.en q e he).oneCell
        | succ i => exact ih vs' k2 (fun c hc => hok c (List.mem_cons_of_mem _ hc)) i c' v' (by simpa using hc) (by simpa using hv')
    have hzl : ((parts.toList.map (·.1)).zip (css.map (·.2))).length = vs.length := by rw [List.length_zip, List.length_map, List.length_map]; omega
    obtain ⟨cur', k1, k2⟩ := fillL_ok (al := s.tab.al) (gh := gh) (w := w) (cur := zs.toArray) hf hzl.symm (fun i p v hp hv' => by
      have hi := List.getElem?_zip_eq_some.1 hp
      have h5 := hi.2
      rw [List.getElem?_map] at h5
      obtain ⟨c', h6, h7⟩ := Option.map_eq_some_iff.1 h5
      rw [← h7]
      exact hcells css vs hvs hok i c' v h6 hv') (by simpa using vals_ok s.tab.al gh w zs)
    refine ⟨.agg cur', ?_, cur'.toList, by simp, k2⟩
    have hz : (((parts.toList.map (·.1)).zip (css.map (·.2))).map (·.1)).zip vs = (parts.map fun p => (p.1, a.eval p.2)).toList := by
      rw [List.map_fst_zip (by rw [List.length_map, List.length_map]; omega), Array.toList_map, ← hV, List.map_map]
      generalize parts.toList = pl
      induction pl with
      | nil => rfl
      | cons p ps ih => simp [ih]
    rw [hz] at k1
    simp only [execOp, Instr.build, Go.Sem.run_bind, run_zero h3, Result.andThen_ok, run_underlying h1, h2, Value.cells]
    rw [k1]
    simp
end

theorem Res.zero {A : Amb} {P : Program} {s : St} {fn : Func} (hr : fn.results = #[]) : Res A P fn s (.tup []) := fun gh a w g => by
  refine ⟨.tuple #[], ?_, [], rfl, rfl⟩
  rw [results_eq, hr]; simp [Sem.bind_eq, Sem.run_bind]

/-! ### An own slice cut short -/
section
variable {A : Amb} {P : Program} {s : St} {x y z : Operand} {d : Nat} {T T' ty : TypeId} {pos : String} {af : Array Edge} {g : Option (Nat × Bool)}
variable {E : TypeId} {e : Ty} {xs : List e.Den} {q lo n : Nat}
theorem OwnL.takeW {w : World} (hf : e.flat = true) : ∀ {xs : List e.Den} {fp : List Nat} {cs : List Value} (k : Nat), OwnL (Own e w) fp cs xs → OwnL (Own e w) [] (cs.take (k * e.wd)) (xs.take k)
  | [], _, _, k, h => by rw [h.2]; simp [OwnL]
  | x :: xs, _, _, 0, _ => by simp [OwnL]
  | x :: xs, _, _, k + 1, ⟨f1, f2, c1, c2, h1, h2, h3, h4⟩ => by
    have hl := h3.len
    have hf1 := flat_own_fp hf h3
    subst hf1
    rw [h2]
    refine ⟨[], [], c1, c2.take (k * e.wd), rfl, ?_, h3, OwnL.takeW hf k h4⟩
    rw [Nat.succ_mul, Nat.add_comm, ← hl, List.take_length_add_append]
theorem Wk.shorten (t i : Nat) (hi : lk s.tm i = some (lf (.sub q e.wd 0 n))) (he : s.tab.ent q = some (.arr E e xs)) (hn : n ≤ xs.length) (hf : e.flat = true) (hfr : Fresh s t) (hk0 : A.k0 ≤ t) :
    Wk A s ⟨(i, lf (.ref t)) :: s.tm, (t, some (.arr E e (xs.take n))) :: (q, none) :: s.tab⟩ := fun a w r => by
  obtain ⟨gh, r⟩ := r
  obtain ⟨v, h1, l, h2, h3⟩ := r.tm i _ hi
  simp only [List.cons.injEq, and_true] at h2
  subst h2
  obtain ⟨B, m, c, q1, q2⟩ := h3 ⟨_, he⟩
  have hO : Own (.sl E e) w (gh.f q) [gh.h q] xs := r.cx.en q _ he
  have hv : v = .slice B n c := by
    rw [q2]
    congr 1
    split
    · rfl
    · cases B with
      | none => rfl
      | some b => cases b; simp [Addr.add]
  have hO' : Own (.sl E e) w (gh.f q) [v] (xs.take n) := by
    rcases hO with ⟨k1, k2, k3⟩ | ⟨b, cap, cur, fps, p2, p3, p4, p5, p6, p7, p8⟩
    · subst k3
      simp only [List.cons.injEq, and_true] at k2
      rw [q1] at k2
      simp only [Value.slice.injEq] at k2
      obtain ⟨rfl, rfl, rfl⟩ := k2
      have : n = 0 := by simpa using hn
      subst this
      exact .inl ⟨k1, by rw [hv], by simp⟩
    · have hfp := p8.fp0 hf
      subst hfp
      simp only [List.cons.injEq, and_true] at p3
      rw [q1] at p3
      simp only [Value.slice.injEq] at p3
      obtain ⟨rfl, rfl, rfl⟩ := p3
      have hl : (xs.take n).length = n := by rw [List.length_take]; omega
      refine .inr ⟨b, c, cur, [], p2, by rw [hv, hl], p4, by rw [hl]; omega, p6, p7, ?_⟩
      rw [hl]
      have := p8.takeW hf n
      rwa [List.take_take, Nat.min_eq_left (Nat.mul_le_mul_right _ hn)] at this
  have r2 := r.make t hfr hk0 [q] (fun q' h => by rw [List.mem_singleton.1 h]; exact ⟨_, he⟩) (Grw.refl w) (fun _ _ _ => rfl) hO' (r.cx.nd q ⟨_, he⟩) (fun g hg => .inr ⟨q, List.mem_singleton.2 rfl, hg⟩)
  exact ⟨_, r2.know h1 (pv := lf (.ref t)) ⟨_, rfl, fun _ => by simp⟩⟩
theorem zeroCells_made (z : Array Value) (n : Nat) : Builtin.zeroCells z n = madeCells z (n * z.size) := rfl
/-- clear of the end of an own slice. -/
theorem Does.clearO {Tl E' : TypeId} {zv : Value} (hx : Evl A s x (.sub q e.wd lo n)) (he : s.tab.ent q = some (.arr E e xs)) (hb : lo + n = xs.length) (hT : P.underlying Tl = some (.slice E')) (hz : zer P E' = some zv) (hzc : zv.cells.toList = e.zeros) (hzo : e.zeros.all (·.oneCell') = true) (hf : e.flat = true) :
    Does A P ⟨none, .call ⟨.builtin .clear, #[x], #[Tl]⟩, ty, pos, af, g⟩ s ⟨s.tm, (q, some (.arr E e (xs.take lo ++ List.replicate n e.zero))) :: s.tab⟩ := fun a w K Q r hK => by
  obtain ⟨gh, r⟩ := r
  have hO : Own (.sl E e) w (gh.f q) [gh.h q] xs := r.cx.en q _ he
  have hO0 := hO
  obtain ⟨B, m, c, q1, q2⟩ := hx gh a w r ⟨_, he⟩
  have hzl : e.zeros.length = e.wd := (Ty.zero_rep e w).len
  have hzs : zv.cells = e.zeros.toArray := by rw [← hzc]
  rcases Nat.eq_zero_or_pos n with hn0 | hn0
  · subst hn0
    have hxs : xs.take lo ++ List.replicate 0 e.zero = xs := by rw [List.take_of_length_le (by omega)]; simp
    have e0 : (execOp a.eval ⟨none, .call ⟨.builtin .clear, #[x], #[Tl]⟩, ty, pos, af, g⟩).run P w = .ok (.value (.tuple #[])) w := by
      simp only [execOp, resolve, invoke, builtin, q2, Go.Sem.run_bind, Go.Sem.run_pure, Result.andThen_ok, List.map_toArray, List.map_cons, List.map_nil]
      generalize (if c = lo then B else B.map (·.add (lo * e.wd))) = BB
      cases BB <;> simp [Builtin.clear_, run_underlying hT]
    unfold Oper.wp
    rw [e0, Oper.upon_value]
    refine hK _ _ ⟨gh, r.mod he (Grw.refl w) (fun _ _ _ => rfl) ?_⟩
    rw [hxs]
    exact hO0
  · rcases hO with ⟨_, _, h⟩ | ⟨b, cap, cur, fps, p2, p3, p4, p5, p6, p7, p8⟩
    · subst h; simp at hb; omega
    have hfp := p8.fp0 hf
    subst hfp
    simp only [List.cons.injEq, and_true] at p3
    rw [q1] at p3
    simp only [Value.slice.injEq] at p3
    obtain ⟨rfl, rfl, rfl⟩ := p3
    rw [if_neg (by omega)] at q2
    simp only [Option.map_some, Addr.add_lit, Nat.zero_add] at q2
    have hzz : (Builtin.zeroCells zv.cells n).toList = (List.replicate n e.zeros).flatten := by
      have h2 := flatten_rep e.zeros n (by rw [hzl]; exact Ty.wd_pos e)
      rw [zeroCells_made, hzs, List.size_toArray, h2]
    have hfl : ((List.replicate n e.zeros).flatten).length = n * e.wd := by simp [hzl]
    have hwd := Nat.mul_le_mul_right e.wd p5
    have hle : lo * e.wd + n * e.wd = xs.length * e.wd := by rw [← hb, Nat.add_mul]
    have hst := run_storeCells (P := P) (b := b) (E := E) ((List.replicate n e.zeros).flatten) (lo * e.wd) 0 w cur p4 (by rw [hfl, p7]; omega) (fun v hv => by
      obtain ⟨l, hl, hv⟩ := List.mem_flatten.1 hv
      rw [List.eq_of_mem_replicate hl] at hv
      exact List.all_eq_true.1 hzo v hv)
    rw [Nat.add_zero] at hst
    have e0 : (execOp a.eval ⟨none, .call ⟨.builtin .clear, #[x], #[Tl]⟩, ty, pos, af, g⟩).run P w = .ok (.value (.tuple #[])) (puts w b (lo * e.wd) ((List.replicate n e.zeros).flatten)) := by
      obtain ⟨n, rfl⟩ : ∃ k, n = k + 1 := ⟨n - 1, by omega⟩
      simp only [execOp, resolve, invoke, builtin, q2, Go.Sem.run_bind, Go.Sem.run_pure, Result.andThen_ok, List.map_toArray, List.map_cons, List.map_nil]
      simp [Builtin.clear_, run_underlying hT, run_zero hz, hzz, hst]
    unfold Oper.wp
    rw [e0, Oper.upon_value]
    obtain ⟨cur', m1, m2, m3⟩ := puts_row b E (0, 0) ((List.replicate n e.zeros).flatten) w (lo * e.wd) cur p4 (by rw [hfl, p7]; omega)
    refine hK _ _ ⟨gh, r.mod he (puts_grw w b _ _) (fun g0 _ hg0 => puts_other w b _ _ g0 fun h => hg0 (by rw [p2, h]; simp)) ?_⟩
    have hl : (xs.take lo ++ List.replicate n e.zero).length = xs.length := by simp; omega
    refine .inr ⟨b, c, cur', [], p2, by rw [q1, hl], m1, by omega, p6, by rw [m2]; exact p7, ?_⟩
    rw [hl]
    have hlist : cur'.toList.take (xs.length * e.wd) = (cur.toList.take (xs.length * e.wd)).take (lo * e.wd) ++ (List.replicate n e.zeros).flatten := by
      have h9 := take_splice (l := cur.toList) (len := xs.length * e.wd) (lo := lo * e.wd) (cs := (List.replicate n e.zeros).flatten) (by rw [hfl]; omega) (by simp; omega)
      rw [m3, h9, hfl, List.drop_eq_nil_of_le (by simp; omega), List.append_nil]
    rw [hlist]
    have keep : ∀ {cs : List Value} {zs : List e.Den}, OwnL (Own e w) [] cs zs → OwnL (Own e (puts w b (lo * e.wd) ((List.replicate n e.zeros).flatten))) [] cs zs := fun h => h.mono fun f c x hf' ho => ho.keep fun g hg => absurd (hf' g hg) (by simp)
    exact (keep (p8.takeW hf lo)).append (OwnL.zeros e _ n)
end
end Go.Proofs.Ytbelopdphlllnaa

/- Closed facts on maps and on structs that are compared. -/
namespace Go.Proofs.Ytbelopdphlllnaa
open Go.RowKit

theorem eqt_131 : EqT Try.prog 2 131 true (.pr .int .bool) := EqT.struct Try.underlying131 (by kernel_rfl) (EqFs.cons (by decide) rfl tsh_3 (fun _ => rfl) (EqT.int und_3) (EqFs.one (by decide) rfl tsh_4 (fun _ => rfl) (EqT.bool und_4)))
theorem eqg_131 : (Try.prog.eqGuardType Try.prog.depth 131 = false) ∧ 2 ≤ 10000 := ⟨by kernel_rfl, by decide⟩
theorem zev_3 : ZeroV Try.prog 3 false .int := ⟨_, zer_3, rfl⟩
end Go.Proofs.Ytbelopdphlllnaa

/- Walks over abstract states: small words, copies. -/
namespace Go.Proofs.Ytbelopdphlllnaa
open Go.RowKit

set_option maxRecDepth 100000 in
set_option maxHeartbeats 4000000 in
theorem fc_impl_within (n : Int) (low : Int) (high : Int)  : FC Try.prog 58 [(false, [dI n]), (false, [dI low]), (false, [dI high])] [] 0 (Pure (lf (dB (decide (low ≤ n ∧ n ≤ high))))) := by
 refine FC.O_all fun O_ hO => FC.ren (FC.of Try.func58 rfl rfl fun A_ hn_ hk_ => ?_)
 obtain ⟨w0_, N0_, X_, n_, k0_, h0_, f0_⟩ := A_
 obtain rfl : n_ = 15 := hn_.trans Try.ntmps58
 obtain rfl : k0_ = 0 := hk_
 refine AC.fact (fact_int (x := .tmp 0) (Evl.tmp rfl)) fun hi1 => ?_
 refine AC.fact (fact_int (x := .tmp 1) (Evl.tmp rfl)) fun hi2 => ?_
 refine AC.fact (fact_int (x := .tmp 2) (Evl.tmp rfl)) fun hi3 => ?_
 refine AC.sr ?_
 refine AL.cons rfl (Does.assignC Evl.bool rfl) ?_
 refine AL.nilS ?_
 refine AC.sr ?_
 refine AL.cons rfl (Does.move rfl rfl) ?_
 refine AL.cons rfl (Does.move rfl rfl) ?_
 refine AL.cons rfl (Does.leq (Evl.tmp rfl) (Evl.tmp rfl) rfl) ?_
 refine AL.cons rfl (Does.move rfl rfl) ?_
 cases hb4 : (decide (low ≤ n))
 ·have _h := hb4
  have hb4' : ¬ (low ≤ n) := of_decide_eq_false hb4
  refine AL.guard_no (b := true) rfl rfl rfl ?_ rfl
  refine AL.guard_no (b := true) rfl rfl rfl ?_ rfl
  refine AL.guard_no (b := true) rfl rfl rfl ?_ rfl
  refine AL.cons rfl (Does.pickF (Evl.tmp rfl) (Evl.ev Evl.bool) rfl) ?_
  refine AL.cons rfl (Does.assign rfl rfl) ?_
  refine AL.nilS ?_
  refine AC.ret ?_
  subst hO
  have e5 : (false : Bool) = (decide (low ≤ n ∧ n ≤ high)) := by
   (rw [Bool.eq_iff_iff]; simp; omega)
  exact fin_pure (Res.one rfl (Rs.tmp rfl)) ((congrArg (fun z_ => lf (dB z_)) e5)) rfl
 ·have _h := hb4
  have hb4' : (low ≤ n) := of_decide_eq_true hb4
  refine AL.guard_yes rfl rfl rfl (Does.move rfl rfl) ?_
  refine AL.guard_yes rfl rfl rfl (Does.move rfl rfl) ?_
  refine AL.guard_yes rfl rfl rfl (Does.leq (Evl.tmp rfl) (Evl.tmp rfl) rfl) ?_
  refine AL.cons rfl (Does.pickT (Evl.tmp rfl) (Ev.tmp rfl) rfl) ?_
  refine AL.cons rfl (Does.assign rfl rfl) ?_
  refine AL.nilS ?_
  refine AC.ret ?_
  subst hO
  have e6 : (decide (n ≤ high) : Bool) = (decide (low ≤ n ∧ n ≤ high)) := by
   (simp_all; done)
  exact fin_pure (Res.one rfl (Rs.tmp rfl)) ((congrArg (fun z_ => lf (dB z_)) e6)) rfl

set_option maxRecDepth 100000 in
set_option maxHeartbeats 4000000 in
theorem fc_spec_l1In (n : Int) (lo : Int) (hi : Int)  : FC Try.prog 105 [(false, [dI n]), (false, [dI lo]), (false, [dI hi])] [] 0 (Pure (lf (dB (decide (lo ≤ n ∧ n ≤ hi))))) := by
 refine FC.O_all fun O_ hO => FC.ren (FC.of Try.func105 rfl rfl fun A_ hn_ hk_ => ?_)
 obtain ⟨w0_, N0_, X_, n_, k0_, h0_, f0_⟩ := A_
 obtain rfl : n_ = 15 := hn_.trans Try.ntmps105
 obtain rfl : k0_ = 0 := hk_
 refine AC.fact (fact_int (x := .tmp 0) (Evl.tmp rfl)) fun hi1 => ?_
 refine AC.fact (fact_int (x := .tmp 1) (Evl.tmp rfl)) fun hi2 => ?_
 refine AC.fact (fact_int (x := .tmp 2) (Evl.tmp rfl)) fun hi3 => ?_
 refine AC.sr ?_
 refine AL.cons rfl (Does.assignC Evl.bool rfl) ?_
 refine AL.nilS ?_
 refine AC.sr ?_
 refine AL.cons rfl (Does.move rfl rfl) ?_
 refine AL.cons rfl (Does.move rfl rfl) ?_
 refine AL.cons rfl (Does.geq (Evl.tmp rfl) (Evl.tmp rfl) rfl) ?_
 refine AL.cons rfl (Does.move rfl rfl) ?_
 cases hb4 : (decide (lo ≤ n))
 ·have _h := hb4
  have hb4' : ¬ (lo ≤ n) := of_decide_eq_false hb4
  refine AL.guard_no (b := true) rfl rfl rfl ?_ rfl
  refine AL.guard_no (b := true) rfl rfl rfl ?_ rfl
  refine AL.guard_no (b := true) rfl rfl rfl ?_ rfl
  refine AL.cons rfl (Does.pickF (Evl.tmp rfl) (Evl.ev Evl.bool) rfl) ?_
  refine AL.cons rfl (Does.assign rfl rfl) ?_
  refine AL.nilS ?_
  refine AC.ret ?_
  subst hO
  have e5 : (false : Bool) = (decide (lo ≤ n ∧ n ≤ hi)) := by
   (rw [Bool.eq_iff_iff]; simp; omega)
  exact fin_pure (Res.one rfl (Rs.tmp rfl)) ((congrArg (fun z_ => lf (dB z_)) e5)) rfl
 ·have _h := hb4
  have hb4' : (lo ≤ n) := of_decide_eq_true hb4
  refine AL.guard_yes rfl rfl rfl (Does.move rfl rfl) ?_
  refine AL.guard_yes rfl rfl rfl (Does.move rfl rfl) ?_
  refine AL.guard_yes rfl rfl rfl (Does.leq (Evl.tmp rfl) (Evl.tmp rfl) rfl) ?_
  refine AL.cons rfl (Does.pickT (Evl.tmp rfl) (Ev.tmp rfl) rfl) ?_
  refine AL.cons rfl (Does.assign rfl rfl) ?_
  refine AL.nilS ?_
  refine AC.ret ?_
  subst hO
  have e6 : (decide (n ≤ hi) : Bool) = (decide (lo ≤ n ∧ n ≤ hi)) := by
   (simp_all; done)
  exact fin_pure (Res.one rfl (Rs.tmp rfl)) ((congrArg (fun z_ => lf (dB z_)) e6)) rfl

def trBy (b : Int) (t : DTransition) : DTransition := (t.1.map fun x => x + b, t.2.map fun x => x + b)

end Go.Proofs.Ytbelopdphlllnaa

/- Walks over abstract states: orderings added to a graph. -/
namespace Go.Proofs.Ytbelopdphlllnaa
open Go.RowKit

theorem retB_dec {p : Prop} [Decidable p] {w : World} {e : Ending} {w' : World} (h : RetB p w e w') : RetB (decide p = true) w e w' := by
  obtain ⟨b, h1, h2, h3⟩ := h
  exact ⟨b, h1, by rw [h2, decide_eq_true_eq], h3⟩
/-- An ordering put in. -/
def addT (ts : List DTransition) (a b : Nat) (p : Int) : List DTransition := (ts.modify a fun t => (t.1, t.2 ++ [p])).modify b fun t => (t.1 ++ [p], t.2)
def bitS (b : Bool) : ByteArray := ⟨#[if b then 49 else 48]⟩
def addOrd (s : DSTG) (o : DOrdering) : DSTG := ((s.1.1 + 1, addT s.1.2 o.1.toNat o.2.1.toNat s.1.1), s.2.1, s.2.2.1, s.2.2.2 ++ bitS o.2.2)
theorem bsize1 (b : UInt8) : (⟨#[b]⟩ : ByteArray).size = 1 := rfl
set_option maxRecDepth 100000 in
set_option maxHeartbeats 4000000 in
theorem fc_impl_bit (b : Bool)  : FC Try.prog 113 [(false, [dB b])] [] 0 (Pure (lf (.dat .u8 (if b then 49 else 48)))) := by
 refine FC.O_all fun O_ hO => FC.ren (FC.of Try.func113 rfl rfl fun A_ hn_ hk_ => ?_)
 obtain ⟨w0_, N0_, X_, n_, k0_, h0_, f0_⟩ := A_
 obtain rfl : n_ = 4 := hn_.trans Try.ntmps113
 obtain rfl : k0_ = 0 := hk_
 refine AC.sr ?_
 refine AL.cons rfl (Does.assignC (Evl.u8 0 rfl) rfl) ?_
 refine AL.nilS ?_
 refine AC.seq ?_
 refine AC.sr ?_
 refine AL.cons rfl (Does.move rfl rfl) ?_
 refine AL.nilS ?_
 cases hb1 : (b)
 ·have _h := hb1
  refine AC.condF (Evl.tmp rfl) ?_
  refine AC.skipS ?_
  refine AC.sr ?_
  refine AL.cons rfl (Does.assignC (Evl.u8 48 rfl) rfl) ?_
  refine AL.nilS ?_
  refine AC.ret ?_
  subst hO
  have e2 : (48 : UInt8) = (if b then 49 else 48) := by
   simp_all
  exact fin_pure (Res.one rfl (Rs.tmp rfl)) ((congrArg (fun z_ => lf (.dat .u8 z_)) e2)) rfl
 ·have _h := hb1
  refine AC.condT (Evl.tmp rfl) ?_
  refine AC.sr ?_
  refine AL.cons rfl (Does.assignC (Evl.u8 49 rfl) rfl) ?_
  refine AL.nilS ?_
  refine AC.ret ?_
  subst hO
  have e3 : (49 : UInt8) = (if b then 49 else 48) := by
   simp_all
  exact fin_pure (Res.one rfl (Rs.tmp rfl)) ((congrArg (fun z_ => lf (.dat .u8 z_)) e3)) rfl

def zeroSTG : DSTG := ((0, []), [], [], ByteArray.empty)

/-- A graph if it is one. -/
def stgIfV (s : DSTG) [Decidable (StgOk s)] : DSTG × Bool := if StgOk s then (s, true) else (zeroSTG, false)
end Go.Proofs.Ytbelopdphlllnaa

/- Walks over abstract states: orderings added, the two functions. -/
namespace Go.Proofs.Ytbelopdphlllnaa
open Go.RowKit

/-- What an ordering must be. -/
def OrdOk (s : DSTG) (o : DOrdering) : Prop := StgOk s ∧ (0 ≤ o.1 ∧ o.1 < s.1.2.length) ∧ (0 ≤ o.2.1 ∧ o.2.1 < s.1.2.length) ∧ o.1 ≠ o.2.1
instance (s : DSTG) (o : DOrdering) [Decidable (StgOk s)] : Decidable (OrdOk s o) := inferInstanceAs (Decidable (_ ∧ _))
def addV (s : DSTG) (o : DOrdering) [Decidable (StgOk s)] [Decidable (StgOk (addOrd s o))] : DSTG × Bool := if OrdOk s o then stgIfV (addOrd s o) else (zeroSTG, false)
def l26V (s : DSTG) (o : DOrdering) [Decidable (StgOk s)] [Decidable (StgOk (addOrd s o))] : DSTG × Bool := if OrdOk s o then (addOrd s o, decide (StgOk (addOrd s o))) else (zeroSTG, false)
section
variable {s : DSTG} {o : DOrdering} [Decidable (StgOk s)] [Decidable (StgOk (addOrd s o))]
end
end Go.Proofs.Ytbelopdphlllnaa

/- Walks over abstract states: marks put in place, marks found again. -/
namespace Go.Proofs.Ytbelopdphlllnaa
open Go.RowKit

section
variable {α : Type _} (f : α → Int → α × Int)
def marks : List α → Int → List α × Int
  | [], k => ([], k)
  | x :: xs, k => ((f x k).1 :: (marks xs (f x k).2).1, (marks xs (f x k).2).2)
theorem marks_len (xs : List α) (k : Int) : (marks f xs k).1.length = xs.length := by
  induction xs generalizing k with
  | nil => rfl
  | cons x xs ih => simp [marks, ih]
theorem marks_app (xs ys : List α) (k : Int) : marks f (xs ++ ys) k = ((marks f xs k).1 ++ (marks f ys (marks f xs k).2).1, (marks f ys (marks f xs k).2).2) := by
  induction xs generalizing k with
  | nil => rfl
  | cons x xs ih => simp [marks, ih]
def mkA (a : List α) (k : Int) (i : Nat) : List α := (marks f (a.take i) k).1 ++ a.drop i
def mkC (a : List α) (k : Int) (i : Nat) : Int := (marks f (a.take i) k).2
theorem mkA_len (a : List α) (k : Int) (i : Nat) : (mkA f a k i).length = a.length := by
  simp [mkA, marks_len]; omega
theorem mkA_0 (a : List α) (k : Int) : mkA f a k 0 = a := by simp [mkA, marks]
theorem mkC_0 (a : List α) (k : Int) : mkC f a k 0 = k := by simp [mkC, marks]
theorem mkA_end {a : List α} {k : Int} {i : Nat} (h : a.length ≤ i) : mkA f a k i = (marks f a k).1 := by simp [mkA, List.take_of_length_le h, List.drop_eq_nil_of_le h]
theorem mkC_end {a : List α} {k : Int} {i : Nat} (h : a.length ≤ i) : mkC f a k i = (marks f a k).2 := by simp [mkC, List.take_of_length_le h]
variable {f}
theorem mkA_get {a : List α} {k : Int} {i : Nat} {x : α} (h : a[i]? = some x) : (mkA f a k i)[i]? = some x := by
  have hi := (List.getElem?_eq_some_iff.1 h).1
  have hl : (marks f (a.take i) k).1.length = i := by simp [marks_len]; omega
  unfold mkA
  rw [List.getElem?_append_right (by omega), hl, Nat.sub_self, List.getElem?_drop]
  exact h
theorem mkA_back {a : List α} {k : Int} {i : Nat} {x : α} (h : (mkA f a k i)[i]? = some x) : a[i]? = some x := by
  have hi := (List.getElem?_eq_some_iff.1 h).1
  rw [mkA_len] at hi
  have h2 := mkA_get (f := f) (k := k) (List.getElem?_eq_getElem hi)
  rw [h] at h2
  rw [List.getElem?_eq_getElem hi, ← h2]
theorem take_snoc2 {a : List α} {i : Nat} {x : α} (h : a[i]? = some x) : a.take (i + 1) = a.take i ++ [x] := by
  obtain ⟨h1, h2⟩ := List.getElem?_eq_some_iff.1 h
  rw [List.take_succ_eq_append_getElem h1, h2]
theorem mkC_succ {a : List α} {k : Int} {i : Nat} {x : α} (h : a[i]? = some x) : mkC f a k (i + 1) = (f x (mkC f a k i)).2 := by
  unfold mkC
  rw [take_snoc2 h, marks_app]
  rfl
theorem mkA_set {a : List α} {k : Int} {i : Nat} {x : α} (h : a[i]? = some x) : (mkA f a k i).set i (f x (mkC f a k i)).1 = mkA f a k (i + 1) := by
  obtain ⟨h1, h2⟩ := List.getElem?_eq_some_iff.1 h
  have hl : (marks f (a.take i) k).1.length = i := by simp [marks_len]; omega
  unfold mkA mkC
  rw [take_snoc2 h, marks_app, List.set_append_right _ _ (by omega), hl, Nat.sub_self, List.drop_eq_getElem_cons h1]
  simp only [List.set_cons_zero, marks, List.append_assoc]
  rfl
/-- How far the count goes. -/
theorem mkC_sum (c : α → Nat) (hc : ∀ x k, (f x k).2 = k + c x) (a : List α) (k : Int) : (marks f a k).2 = k + ((a.map c).sum : Nat) := by
  induction a generalizing k with
  | nil => simp [marks]
  | cons x xs ih => simp only [marks, ih, hc, List.map_cons, List.sum_cons]; omega
theorem mkC_le (c : α → Nat) (hc : ∀ x k, (f x k).2 = k + c x) (a : List α) (k : Int) (i : Nat) : k ≤ mkC f a k i ∧ mkC f a k i ≤ k + ((a.map c).sum : Nat) := by
  unfold mkC
  rw [mkC_sum c hc]
  have : ((a.take i).map c).sum ≤ (a.map c).sum := by
    conv => rhs; rw [← List.take_append_drop i a, List.map_append, List.sum_append]
    omega
  omega
/-- What is marked reads as marked. -/
theorem marks_at {a : List α} {k : Int} {i : Nat} {x : α} (h : a[i]? = some x) : (marks f a k).1[i]? = some (f x (mkC f a k i)).1 := by
  have h1 := mkA_set (f := f) (k := k) h
  have hi := (List.getElem?_eq_some_iff.1 h).1
  have hl : (marks f (a.take i) k).1.length = i := by simp [marks_len]; omega
  conv => lhs; rw [← List.take_append_drop i a, marks_app]
  simp only
  rw [List.getElem?_append_right (by omega), hl, Nat.sub_self, List.drop_eq_getElem_cons hi]
  obtain ⟨_, h2⟩ := List.getElem?_eq_some_iff.1 h
  simp [marks, mkC, h2]
end
@[reducible] def fI : Int → Int → Int × Int := fun _ k => (k, k + 1)
theorem fI_c : ∀ (x k : Int), (fI x k).2 = k + ((fun _ => 1 : Int → Nat) x : Nat) := fun _ _ => rfl
theorem sum_one {α : Type _} (a : List α) : (a.map fun _ => 1).sum = a.length := by
  induction a with
  | nil => rfl
  | cons x xs ih => simp [ih]; omega
theorem mkI_le (a : List Int) (k : Int) (i : Nat) : k ≤ mkC fI a k i ∧ mkC fI a k i ≤ k + a.length := by
  have := mkC_le _ fI_c a k i
  rw [sum_one] at this
  exact this

set_option maxRecDepth 100000 in
set_option maxHeartbeats 4000000 in
theorem fc_laws_markIntS (a : List Int) (k : Int) (hk : 0 ≤ k ∧ k + a.length ≤ 1000000000) : FC Try.prog 35 [(false, [.ref 0]), (false, [dI k])] [(0, some (.arr 3 .int a))] 1 (Is (lf (dI ((marks fI a k).2))) [(0, some (.arr 3 .int ((marks fI a k).1)))]) := by
 refine FC.O_all fun O_ hO => FC.ren (FC.of Try.func35 rfl rfl fun A_ hn_ hk_ => ?_)
 obtain ⟨w0_, N0_, X_, n_, k0_, h0_, f0_⟩ := A_
 obtain rfl : n_ = 19 := hn_.trans Try.ntmps35
 obtain rfl : k0_ = 1 := hk_
 refine AC.fact (fact_int (x := .tmp 1) (Evl.tmp rfl)) fun hi1 => ?_
 refine AC.sr ?_
 refine AL.cons rfl (Does.assignC (Evl.int rfl) rfl) ?_
 refine AL.nilS ?_
 refine AC.seq ?_
 refine AC.sr ?_
 refine AL.cons rfl (Does.assignC (Evl.int rfl) rfl) ?_
 refine AL.nilS ?_
 refine AC.block ?_
 refine AC.loopW (fun m_ s_ => ∃ (i : Nat), i ≤ a.length ∧ m_ = a.length - i ∧ s_ = ⟨[(0, lf (.ref 0)), (1, lf (dI (mkC fI a k i))), (4, lf (dI 0)), (5, lf (dI (i : Int)))], [(0, some (.arr 3 .int (mkA fI a k i)))]⟩) ⟨0, Nat.zero_le _, rfl, rfl⟩ ?_ ?_
 · exact Wk.of [(0, 0)] rfl ⟨rfl, (show some (lf (dI k)) = some (lf (dI (mkC fI a k 0))) from congrArg (fun z_ => some (lf (dI z_))) (by rw [mkC_0])), rfl, rfl, trivial⟩ ⟨(entE (mkA_0 fI a k)), trivial⟩ rfl rfl
 rintro m_ s_ ⟨i, hk3, hm4, rfl⟩
 have hml := mkA_len fI a k i
 have hmc := mkI_le a k i
 refine AC.seq ?_
 refine AC.sr ?_
 refine AL.cons rfl (Does.move rfl rfl) ?_
 refine AL.cons rfl (Does.move rfl rfl) ?_
 refine AL.cons rfl (Does.lenO (Evl.tmp rfl) rfl rfl und_72) ?_
 refine AL.cons rfl (Does.lss (Evl.tmp rfl) (Evl.tmp rfl) rfl) ?_
 refine AL.nilS ?_
 cases hb5 : (decide ((i : Int) < ((mkA fI a k i).length : Int)))
 ·have _h := hb5
  have hb5' : ¬ ((i : Int) < ((mkA fI a k i).length : Int)) := of_decide_eq_false hb5
  refine AC.condF (Evl.tmp rfl) ?_
  refine AC.exit ?_
  refine (?_ : AC _ _ _ _ _)
  refine AC.sr ?_
  refine AL.cons rfl (Does.move rfl rfl) ?_
  refine AL.cons rfl (Does.assign rfl rfl) ?_
  refine AL.nilS ?_
  refine AC.ret ?_
  subst hO
  have e6 : (mkC fI a k i : Int) = ((marks fI a k).2) := by
   (rw [mkC_end _ (by omega)]; done)
  exact fin_is _ _ [(0, 0)] (Res.one rfl (Rs.tmp rfl)) ((congrArg (fun z_ => lf (dI z_)) e6)) ⟨(entE (by (rw [mkA_end _ (by omega)]; done))), trivial⟩ rfl rfl
 ·have _h := hb5
  have hb5' : ((i : Int) < ((mkA fI a k i).length : Int)) := of_decide_eq_true hb5
  refine AC.condT (Evl.tmp rfl) ?_
  refine AC.skipS ?_
  refine AC.seq ?_
  refine AC.block ?_
  refine AC.sr ?_
  refine AL.cons rfl (Does.move rfl rfl) ?_
  refine AL.cons rfl (Does.move rfl rfl) ?_
  refine AL.cons rfl (Does.move rfl rfl) ?_
  refine AL.cons rfl (Does.indexI (e := .int) (Evl.tmp rfl) rfl (Evl.tmp rfl) und_72 tsh_3 rfl (by omega) (by first | omega | (simp only [List.length_set]; omega))) ?_
  obtain ⟨x7, hx8⟩ : ∃ z, (mkA fI a k i)[i]? = some z := ⟨_, List.getElem?_eq_getElem (by omega)⟩
  refine AL.cons rfl (Does.storeI (e := .int) (z' := mkC fI a k i) (Evl.tmp rfl) rfl hx8 rfl (Ev.tmp rfl) rfl tsh_3 rfl rfl) ?_
  refine AL.nilS ?_
  refine AC.region ?_
  refine AL.cons rfl (Does.move rfl rfl) ?_
  refine AL.cons rfl (Does.add (Evl.tmp rfl) (Evl.int rfl) rfl (by omega)) ?_
  refine AL.cons rfl (Does.assign rfl rfl) ?_
  refine AL.nil ?_
  refine (?_ : AC _ _ _ _ _)
  refine AC.region ?_
  refine AL.cons rfl (Does.move rfl rfl) ?_
  refine AL.cons rfl (Does.add (Evl.tmp rfl) (Evl.int rfl) rfl (by omega)) ?_
  refine AL.cons rfl (Does.assign rfl rfl) ?_
  refine AL.nil ?_
  refine lend ⟨i + 1, by omega, rfl, rfl⟩ (by omega) ?_
  exact Wk.of [(0, 0)] rfl ⟨rfl, (show some (lf (dI ((mkC fI a k i) + 1))) = some (lf (dI (mkC fI a k (i + 1)))) from congrArg (fun z_ => some (lf (dI z_))) (by rw [mkC_succ (mkA_back hx8)])), rfl, rfl, trivial⟩ ⟨(entE (mkA_set (mkA_back hx8))), trivial⟩ rfl rfl

theorem held_at {α : Type _} {f : α → Int → α × Int} {a l : List α} {k : Int} {i : Nat} {x : α} (hm : a = (marks f l k).1) (h : a[i]? = some x) : ∃ y, l[i]? = some y ∧ x = (f y (mkC f l k i)).1 := by
  subst hm
  have hi := (List.getElem?_eq_some_iff.1 h).1
  rw [marks_len] at hi
  have h1 := List.getElem?_eq_getElem hi
  rw [marks_at h1] at h
  exact ⟨_, h1, (Option.some.inj h).symm⟩
theorem mkI_succ {l : List Int} {k : Int} {i : Nat} (h : i < l.length) : mkC fI l k i + 1 = mkC fI l k (i + 1) := by rw [mkC_succ (List.getElem?_eq_getElem h)]

set_option maxRecDepth 100000 in
set_option maxHeartbeats 4000000 in
theorem fc_laws_heldIntS (a : List Int) (k : Int) (l : List Int) (hm : a = (marks fI l k).1) (hk : 0 ≤ k ∧ k + a.length ≤ 1000000000) : FC Try.prog 36 [(false, [.dat (.sl 3 .int) a]), (false, [dI k])] [] 0 (Pure (lf (dI ((marks fI l k).2)))) := by
 have hla : a.length = l.length := by rw [hm, marks_len]
 refine FC.O_all fun O_ hO => FC.ren (FC.of Try.func36 rfl rfl fun A_ hn_ hk_ => ?_)
 obtain ⟨w0_, N0_, X_, n_, k0_, h0_, f0_⟩ := A_
 obtain rfl : n_ = 21 := hn_.trans Try.ntmps36
 obtain rfl : k0_ = 0 := hk_
 refine AC.fact (fact_int (x := .tmp 1) (Evl.tmp rfl)) fun hi1 => ?_
 refine AC.sr ?_
 refine AL.cons rfl (Does.assignC (Evl.int rfl) rfl) ?_
 refine AL.nilS ?_
 refine AC.seq ?_
 refine AC.sr ?_
 refine AL.cons rfl (Does.assignC (Evl.int rfl) rfl) ?_
 refine AL.nilS ?_
 refine AC.block ?_
 refine AC.loopW (fun m_ s_ => ∃ (i : Nat), i ≤ a.length ∧ m_ = a.length - i ∧ s_ = ⟨[(0, lf (.dat (.sl 3 .int) a)), (1, lf (dI (mkC fI l k i))), (5, lf (dI (i : Int)))], []⟩) ⟨0, Nat.zero_le _, rfl, rfl⟩ ?_ ?_
 · exact Wk.of [] rfl ⟨rfl, (show some (lf (dI k)) = some (lf (dI (mkC fI l k 0))) from congrArg (fun z_ => some (lf (dI z_))) (by rw [mkC_0])), rfl, trivial⟩ trivial rfl rfl
 rintro m_ s_ ⟨i, hk3, hm4, rfl⟩
 have hmc := mkI_le l k i
 refine AC.seq ?_
 refine AC.sr ?_
 refine AL.cons rfl (Does.move rfl rfl) ?_
 refine AL.cons rfl (Does.move rfl rfl) ?_
 refine AL.fact (fact_len (x := .tmp 7) (Evl.tmp rfl)) fun hl5 => ?_
 refine AL.cons rfl (Does.len (Evl.tmp rfl) rfl und_72) ?_
 refine AL.cons rfl (Does.lss (Evl.tmp rfl) (Evl.tmp rfl) rfl) ?_
 refine AL.nilS ?_
 cases hb6 : (decide ((i : Int) < (a.length : Int)))
 ·have _h := hb6
  have hb6' : ¬ ((i : Int) < (a.length : Int)) := of_decide_eq_false hb6
  refine AC.condF (Evl.tmp rfl) ?_
  refine AC.exit ?_
  refine (?_ : AC _ _ _ _ _)
  refine AC.sr ?_
  refine AL.cons rfl (Does.move rfl rfl) ?_
  refine AL.cons rfl (Does.assign rfl rfl) ?_
  refine AL.nilS ?_
  refine AC.ret ?_
  subst hO
  have e7 : (mkC fI l k i : Int) = ((marks fI l k).2) := by
   (rw [mkC_end _ (by omega)]; done)
  exact fin_pure (Res.one rfl (Rs.tmp rfl)) ((congrArg (fun z_ => lf (dI z_)) e7)) rfl
 ·have _h := hb6
  have hb6' : ((i : Int) < (a.length : Int)) := of_decide_eq_true hb6
  refine AC.condT (Evl.tmp rfl) ?_
  refine AC.skipS ?_
  refine AC.seq ?_
  refine AC.block ?_
  refine AC.seq ?_
  refine AC.sr ?_
  refine AL.cons rfl (Does.move rfl rfl) ?_
  refine AL.cons rfl (Does.move rfl rfl) ?_
  obtain ⟨x8, hx9⟩ : ∃ z, a[i]? = some z := ⟨_, List.getElem?_eq_getElem (by omega)⟩
  have hvx8 : x8 = mkC fI l k i := by obtain ⟨_, _, h⟩ := held_at hm hx9; exact h
  refine AL.cons rfl (Does.indexE (Evl.tmp rfl) (Evl.tmp rfl) und_72 tsh_3 rfl (by omega) hx9) ?_
  refine AL.cons rfl (Does.loadE (Evl.tmp rfl) tsh_3 rfl rfl) ?_
  refine AL.fact (fact_int (x := .tmp 15) (Evl.tmp rfl)) fun hi10 => ?_
  refine AL.cons rfl (Does.move rfl rfl) ?_
  refine AL.cons rfl (Does.neq (Evl.tmp rfl) (Evl.tmp rfl) rfl) ?_
  refine AL.nilS ?_
  cases hb11 : (!decide (x8 = (mkC fI l k i)))
  ·have _h := hb11
   have hb11' : (x8 = (mkC fI l k i)) := nd_false hb11
   refine AC.condF (Evl.tmp rfl) ?_
   refine AC.skipS ?_
   refine AC.region ?_
   refine AL.cons rfl (Does.move rfl rfl) ?_
   refine AL.cons rfl (Does.add (Evl.tmp rfl) (Evl.int rfl) rfl (by omega)) ?_
   refine AL.cons rfl (Does.assign rfl rfl) ?_
   refine AL.nil ?_
   refine (?_ : AC _ _ _ _ _)
   refine AC.region ?_
   refine AL.cons rfl (Does.move rfl rfl) ?_
   refine AL.cons rfl (Does.add (Evl.tmp rfl) (Evl.int rfl) rfl (by omega)) ?_
   refine AL.cons rfl (Does.assign rfl rfl) ?_
   refine AL.nil ?_
   refine lend ⟨i + 1, by omega, rfl, rfl⟩ (by omega) ?_
   exact Wk.of [] rfl ⟨rfl, (show some (lf (dI ((mkC fI l k i) + 1))) = some (lf (dI (mkC fI l k (i + 1)))) from congrArg (fun z_ => some (lf (dI z_))) (mkI_succ (by omega))), rfl, trivial⟩ trivial rfl rfl
  ·have _h := hb11
   have hb11' : ¬ (x8 = (mkC fI l k i)) := nd_true hb11
   refine AC.condT (Evl.tmp rfl) ?_
   refine AC.sr ?_
   refine AL.cons rfl (Does.assignC (Evl.int rfl) rfl) ?_
   refine AL.nilS ?_
   refine AC.ret ?_
   subst hO
   have e13 : ((-1) : Int) = ((marks fI l k).2) := by
    (exfalso; omega)
   exact fin_pure (Res.one rfl (Rs.tmp rfl)) ((congrArg (fun z_ => lf (dI z_)) e13)) rfl

@[reducible] def fL : Int × Bool → Int → (Int × Bool) × Int := fun _ k => ((k, decide ((k + 1) % 3 = 0)), k + 2)
theorem sum_two {α : Type _} (a : List α) : (a.map fun _ => 2).sum = 2 * a.length := by
  induction a with
  | nil => rfl
  | cons x xs ih => simp [ih]; omega
end Go.Proofs.Ytbelopdphlllnaa

/- Walks over abstract states: marks in transitions. -/
namespace Go.Proofs.Ytbelopdphlllnaa
open Go.RowKit

@[reducible] def fT : List Int × List Int → Int → (List Int × List Int) × Int := fun t k => (((marks fI t.1 k).1, (marks fI t.2 (marks fI t.1 k).2).1), (marks fI t.2 (marks fI t.1 k).2).2)
def cT (t : List Int × List Int) : Nat := t.1.length + t.2.length
def tsum (a : List (List Int × List Int)) : Nat := (a.map cT).sum
end Go.Proofs.Ytbelopdphlllnaa

/- Walks over abstract states: the texts of marks. -/
namespace Go.Proofs.Ytbelopdphlllnaa
open Go.RowKit

/-- The digits of k. -/
def dg (k : Int) : Nat → ByteArray
  | 0 => (⟨#[]⟩ : ByteArray)
  | j + 1 => (⟨#[UInt8.ofNat ((48 + (k / 10 ^ j) % 10) : Int).toNat]⟩ : ByteArray) ++ dg k j
theorem dg_size (k : Int) (j : Nat) : (dg k j).size = j := by
  induction j with
  | zero => rfl
  | succ j ih => rw [dg, ByteArray.size_append, ih]; show 1 + j = _; omega
def mt (k : Int) : Nat → Nat → ByteArray
  | 0, j => dg k j
  | n + 1, j => if k / 10 ^ j ≤ 0 then dg k j else mt k n (j + 1)
def markT (k : Int) : ByteArray := if k ≤ 0 then (⟨#[109, 48]⟩ : ByteArray) else (⟨#[109]⟩ : ByteArray) ++ mt k 20 0
theorem pow10 (k : Int) (j : Nat) : k / 10 ^ j / 10 = k / 10 ^ (j + 1) := by
  rw [Int.pow_succ, Int.ediv_ediv_of_nonneg (Int.pow_nonneg (by decide))]
theorem div_big {k : Int} (h : k ≤ 9223372036854775807) (h0 : 0 ≤ k) : k / 10 ^ 20 = 0 := Int.ediv_eq_zero_of_lt h0 (by omega)
theorem mt_stop {k : Int} {n j : Nat} (h : k / 10 ^ j ≤ 0) : mt k n j = dg k j := by
  cases n with
  | zero => rfl
  | succ n => rw [mt, if_pos h]
theorem div_nn {k : Int} (h0 : 0 ≤ k) (j : Nat) : 0 ≤ k / 10 ^ j ∧ k / 10 ^ j ≤ k := ⟨Int.ediv_nonneg h0 (Int.pow_nonneg (by decide)), Int.ediv_le_self _ h0⟩

set_option maxRecDepth 100000 in
set_option maxHeartbeats 4000000 in
theorem fc_laws_markText (k : Int)  : FC Try.prog 117 [(false, [dI k])] [] 0 (Pure (lf (dS (markT k)))) := by
 refine FC.O_all fun O_ hO => FC.ren (FC.of Try.func117 rfl rfl fun A_ hn_ hk_ => ?_)
 obtain ⟨w0_, N0_, X_, n_, k0_, h0_, f0_⟩ := A_
 obtain rfl : n_ = 20 := hn_.trans Try.ntmps117
 obtain rfl : k0_ = 0 := hk_
 refine AC.fact (fact_int (x := .tmp 0) (Evl.tmp rfl)) fun hi1 => ?_
 refine AC.sr ?_
 refine AL.cons rfl (Does.assignC (Evl.str rfl) rfl) ?_
 refine AL.nilS ?_
 refine AC.seq ?_
 refine AC.sr ?_
 refine AL.cons rfl (Does.move rfl rfl) ?_
 refine AL.cons rfl (Does.leq (Evl.tmp rfl) (Evl.int rfl) rfl) ?_
 refine AL.nilS ?_
 cases hb2 : (decide (k ≤ 0))
 ·have _h := hb2
  have hb2' : ¬ (k ≤ 0) := of_decide_eq_false hb2
  refine AC.condF (Evl.tmp rfl) ?_
  refine AC.skipS ?_
  refine AC.sr ?_
  refine AL.cons rfl (Does.assignC (Evl.str rfl) rfl) ?_
  refine AL.nilS ?_
  refine AC.seq ?_
  refine AC.block ?_
  refine AC.loopW (fun m_ s_ => ∃ (j : Nat), j ≤ 20 ∧ m_ = 20 - j ∧ (mt k (20 - j) j = mt k 20 0) ∧ s_ = ⟨[(0, lf (dI (k / 10 ^ j))), (2, lf (dS (⟨#[]⟩ : ByteArray))), (3, lf (dS (dg k j)))], []⟩) ⟨0, Nat.zero_le _, rfl, rfl, rfl⟩ ?_ ?_
  · exact Wk.of [] rfl ⟨(show some (lf (dI k)) = some (lf (dI (k / 10 ^ 0))) from congrArg (fun z_ => some (lf (dI z_))) (by simp)), rfl, (show some (lf (dS (⟨#[]⟩ : ByteArray))) = some (lf (dS (dg k 0))) from congrArg (fun z_ => some (lf (dS z_))) (rfl)), trivial⟩ trivial rfl rfl
  rintro m_ s_ ⟨j, hk5, hm6, hf, rfl⟩
  have hdn := div_nn (k := k) (by omega) j
  have hds := dg_size k j
  have hj20 : j = 20 → k / 10 ^ j = 0 := fun h => by subst h; exact div_big (by omega) (by omega)
  refine AC.seq ?_
  refine AC.sr ?_
  refine AL.cons rfl (Does.move rfl rfl) ?_
  refine AL.cons rfl (Does.gtr (Evl.tmp rfl) (Evl.int rfl) rfl) ?_
  refine AL.nilS ?_
  cases hb7 : (decide (0 < (k / 10 ^ j)))
  ·have _h := hb7
   have hb7' : ¬ (0 < (k / 10 ^ j)) := of_decide_eq_false hb7
   refine AC.condF (Evl.tmp rfl) ?_
   refine AC.exit ?_
   refine (?_ : AC _ _ _ _ _)
   refine AC.sr ?_
   refine AL.cons rfl (Does.move rfl rfl) ?_
   refine AL.cons rfl (Does.addS (Evl.str rfl) (Evl.tmp rfl) rfl (by first | (simp only [bsize1]; omega) | (rw [dg_size]; simp only [bsize1]; omega) | (rw [dg_size]; show 1 + _ ≤ _; omega))) ?_
   refine AL.cons rfl (Does.assign rfl rfl) ?_
   refine AL.nilS ?_
   refine AC.ret ?_
   subst hO
   have e8 : ((⟨#[109]⟩ : ByteArray) ++ (dg k j) : ByteArray) = (markT k) := by
    (rw [markT, if_neg (by omega), ← hf, mt_stop (by omega)])
   exact fin_pure (Res.one rfl (Rs.tmp rfl)) ((congrArg (fun z_ => lf (dS z_)) e8)) rfl
  ·have _h := hb7
   have hb7' : (0 < (k / 10 ^ j)) := of_decide_eq_true hb7
   refine AC.condT (Evl.tmp rfl) ?_
   refine AC.skipS ?_
   refine AC.block ?_
   refine AC.sr ?_
   refine AL.cons rfl (Does.move rfl rfl) ?_
   refine AL.cons rfl (Does.rem (Evl.tmp rfl) (Evl.int rfl) rfl (by omega) (by omega)) ?_
   refine AL.cons rfl (Does.add (Evl.int rfl) (Evl.tmp rfl) rfl (by omega)) ?_
   refine AL.cons rfl (Does.toU8 (Evl.tmp rfl) und_3 und_5 (by omega) (by omega) rfl) ?_
   refine AL.cons rfl (Does.buildSlice 0 (e := .u8) und_156 tsh_5 zer_5 rfl ⟨_, _, rfl, (Ev.tmp rfl), rfl⟩ (List.all_eq_true.1 rfl) ⟨_, _, _, _, rfl, ⟨rfl, rfl⟩, ⟨rfl, rfl⟩, rfl⟩ (by decide) rfl rfl (Fresh.of rfl) (nlr rfl)) ?_
   refine AL.cons rfl (Does.ofBytes (ys := [UInt8.ofNat (48 + ((k / 10 ^ j) % 10)).toNat]) (Evl.repO (Evl.tmp rfl) rfl) und_156 und_5 und_9 rfl) ?_
   refine AL.cons rfl (Does.move rfl rfl) ?_
   refine AL.cons rfl (Does.addS (Evl.tmp rfl) (Evl.tmp rfl) rfl (by first | (simp only [bsize1]; omega) | (rw [dg_size]; simp only [bsize1]; omega) | (rw [dg_size]; show 1 + _ ≤ _; omega))) ?_
   refine AL.cons rfl (Does.assign rfl rfl) ?_
   refine AL.nilS ?_
   refine AC.region ?_
   refine AL.cons rfl (Does.move rfl rfl) ?_
   refine AL.cons rfl (Does.quo (Evl.tmp rfl) (Evl.int rfl) rfl (by omega) (by omega)) ?_
   refine AL.cons rfl (Does.assign rfl rfl) ?_
   refine AL.nil ?_
   refine lend ⟨j + 1, by omega, rfl, by rw [← hf, show 20 - j = (20 - (j + 1)) + 1 by omega, mt, if_neg (by omega)], rfl⟩ (by omega) ?_
   exact Wk.of [] rfl ⟨(show some (lf (dI ((k / 10 ^ j) / 10))) = some (lf (dI (k / 10 ^ (j + 1)))) from congrArg (fun z_ => some (lf (dI z_))) (pow10 k j)), rfl, (show some (lf (dS ((⟨#[UInt8.ofNat (48 + ((k / 10 ^ j) % 10)).toNat]⟩ : ByteArray) ++ (dg k j)))) = some (lf (dS (dg k (j + 1)))) from congrArg (fun z_ => some (lf (dS z_))) (rfl)), trivial⟩ trivial rfl rfl
 ·have _h := hb2
  have hb2' : (k ≤ 0) := of_decide_eq_true hb2
  refine AC.condT (Evl.tmp rfl) ?_
  refine AC.sr ?_
  refine AL.cons rfl (Does.assignC (Evl.str rfl) rfl) ?_
  refine AL.nilS ?_
  refine AC.ret ?_
  subst hO
  have e11 : ((⟨#[109, 48]⟩ : ByteArray) : ByteArray) = (markT k) := by
   (rw [markT, if_pos (by omega)]; done)
  exact fin_pure (Res.one rfl (Rs.tmp rfl)) ((congrArg (fun z_ => lf (dS z_)) e11)) rfl

end Go.Proofs.Ytbelopdphlllnaa
