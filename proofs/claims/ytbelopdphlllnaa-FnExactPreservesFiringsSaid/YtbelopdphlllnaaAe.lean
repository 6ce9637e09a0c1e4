/- Abstract states: the last operations; regions that draw, op by op. No program is named here. -/
import Derived.Test.YtbelopdphlllnaaAd
namespace Go.Proofs.Ytbelopdphlllnaa
open Go.RowKit

section
variable {A : Amb} {P : Program} {s : St} {x y z : Operand} {d : Nat} {T T' ty : TypeId} {pos : String} {af : Array Edge} {g : Option (Nat × Bool)}
theorem Does.pickT {c : Bool × List LV} (hx : Evl A s x (dB true)) (hy : Ev A s y c) (hn : Nat.blt d A.n = true) : Does A P ⟨some d, .pick x y z, ty, pos, af, g⟩ s (s.put d (.cm c.1 c.2)) :=
  Does.yields rfl hn fun gh a w r => ⟨a.eval y, by
    simp only [execOp, hx.b r, asBool, Go.Sem.run_bind, Go.Sem.run_pure, Result.andThen_ok, if_true], hy gh a w r⟩
theorem Does.pickF {c : Bool × List LV} (hx : Evl A s x (dB false)) (hy : Ev A s z c) (hn : Nat.blt d A.n = true) : Does A P ⟨some d, .pick x y z, ty, pos, af, g⟩ s (s.put d (.cm c.1 c.2)) :=
  Does.yields rfl hn fun gh a w r => ⟨a.eval z, by
    simp only [execOp, hx.b r, asBool, Go.Sem.run_bind, Go.Sem.run_pure, Result.andThen_ok, if_false, Bool.false_eq_true], hy gh a w r⟩

/-! Struct literals -/
def fillL (offs : List (Nat × Nat)) : List LV → List (Nat × List LV) → Option (List LV)
  | cs, [] => some cs
  | cs, (i, ls) :: rest => match offs[i]? with
    | some (off, sz) => match Nat.beq ls.length sz && Nat.ble (off + sz) cs.length with
      | true => fillL offs (splice cs off ls) rest
      | false => none
    | none => none
/-- What a struct literal of type T begins with: the places of its fields, its zero value. -/
def bld (P : Program) (T : TypeId) (offs : List (Nat × Nat)) (t : Ty) : Prop :=
  ∃ fs, P.underlying T = some (.struct fs) ∧ (∀ w, (fs.mapM fun (f : Field) => do pure (f.offset, ← sizeOf f.type)).run P w = .ok offs.toArray w) ∧ zer P T = some (.agg t.zeros.toArray)
def plB (P : Program) : List Field → List (Nat × Nat) → Bool
  | [], [] => true
  | f :: fs, (o, s) :: ps => Nat.beq f.offset o && (match P.info? f.type with
    | some i => Nat.beq i.size s
    | none => false) && plB P fs ps
  | _, _ => false
theorem run_places {P : Program} {w : World} : ∀ {fs : List Field} {offs : List (Nat × Nat)}, plB P fs offs = true → (fs.mapM fun (f : Field) => (do pure (f.offset, ← sizeOf f.type) : Sem (Nat × Nat))).run P w = .ok offs w
  | [], [], _ => by simp
  | [], _ :: _, h => by cases h
  | _ :: _, [], h => by cases h
  | f :: fs, (o, s) :: ps, h => by
    simp only [plB, Bool.and_eq_true] at h
    have h1 := Nat.eq_of_beq_eq_true h.1.1
    have ih := run_places (P := P) (w := w) h.2
    have h2 := h.1.2
    cases hi : P.info? f.type with
    | none => rw [hi] at h2; cases h2
    | some i =>
      rw [hi] at h2
      have h3 := Nat.eq_of_beq_eq_true h2
      subst h1; subst h3
      simp only [List.mapM_cons, Go.Sem.run_bind, sizeOf, typeInfo, hi, Go.Sem.run_pure, Result.andThen_ok, run_program]
      simp only [sizeOf, typeInfo] at ih
      rw [ih]
      simp
theorem bld_of {P : Program} {T : TypeId} {fs : List Field} {offs : List (Nat × Nat)} {t : Ty} (hu : P.underlying T = some (.struct fs.toArray)) (hp : plB P fs offs = true) (hz : zer P T = some (.agg t.zeros.toArray)) : bld P T offs t :=
  ⟨_, hu, fun w => by
    rw [List.mapM_toArray]
    have := run_places (P := P) (w := w) hp
    simp only [map_eq_pure_bind, Go.Sem.run_bind, this, Result.andThen_ok, Go.Sem.run_pure], hz⟩
theorem fillL_ok {al : Nat → Prop} {gh : Gh} {w : World} {offs : List (Nat × Nat)} : ∀ {ps : List (Nat × List LV)} {vs : List Value} {cs ls : List LV} {cur : Array Value}, fillL offs cs ps = some ls → vs.length = ps.length →
    (∀ (i : Nat) (p : Nat × List LV) (v : Value), ps[i]? = some p → vs[i]? = some v → ∃ us, v.cells = us.toArray ∧ LVs al gh w p.2 us) → LVs al gh w cs cur.toList →
    ∃ cur', Instr.fill (offs.toArray[·]?) cur ((ps.map (·.1)).zip vs) = some cur' ∧ LVs al gh w ls cur'.toList
  | [], vs, cs, ls, cur, h, hl, _, hc => by
    have : vs = [] := List.eq_nil_of_length_eq_zero (by simpa using hl)
    subst this
    cases h
    exact ⟨cur, rfl, hc⟩
  | (i, l) :: ps, [], _, _, _, _, hl, _, _ => by simp at hl
  | (i, l) :: ps, v :: vs, cs, ls, cur, h, hl, hv, hc => by
    obtain ⟨us, h1, h2⟩ := hv 0 (i, l) v rfl rfl
    unfold fillL at h
    cases ho : offs[i]? with
    | none => rw [ho] at h; cases h
    | some p =>
      obtain ⟨off, sz⟩ := p
      rw [ho] at h
      simp only at h
      cases hb : Nat.beq l.length sz && Nat.ble (off + sz) cs.length with
      | false => rw [hb] at h; cases h
      | true =>
        rw [hb] at h
        simp only [Bool.and_eq_true] at hb
        have e1 := Nat.eq_of_beq_eq_true hb.1
        have e2 := Nat.le_of_ble_eq_true hb.2
        have h2' : LVs al gh w l us := h2
        have e3 := h2'.len
        have e4 := hc.len
        have hsp := hc.splice h2' (off := off)
        have hf := foldl_set us off cur 0 (by simp at e4; omega)
        generalize hF : List.foldl (fun (cs : Array Value) (p : Value × Nat) => cs.setIfInBounds (off + p.2) p.1) cur (us.zipIdx 0) = F at hf
        have hF2 : F.toList = cur.toList.take off ++ us ++ cur.toList.drop (off + us.length) := by simpa using hf
        rw [← hF2] at hsp
        obtain ⟨cur', k1, k2⟩ := fillL_ok (ps := ps) (vs := vs) h (by simpa using hl) (fun j p v hp hv' => hv (j + 1) p v (by simpa using hp) (by simpa using hv')) hsp
        refine ⟨cur', ?_, k2⟩
        have hcs : v.cells.size = sz := by rw [h1]; simp; omega
        have hfit : off + v.cells.size ≤ cur.size := by rw [hcs]; simp at e4; omega
        show (match offs.toArray[i]? with
          | none => none
          | some (off, size) => if (decide (v.cells.size ≠ size) || decide (off + v.cells.size > cur.size)) = true then none else Instr.fill _ (v.cells.zipIdx.foldl (fun cs (x : Value × Nat) => match x with | (c, j) => cs.setIfInBounds (off + j) c) cur) _) = some cur'
        rw [show offs.toArray[i]? = some (off, sz) by simpa using ho]
        have hcond : (decide (v.cells.size ≠ sz) || decide (off + v.cells.size > cur.size)) = false := by
          simp only [Bool.or_eq_false_iff, decide_eq_false_iff_not, ne_eq, Decidable.not_not, Nat.not_lt]
          exact ⟨hcs, by omega⟩
        have hF3 : v.cells.zipIdx.foldl (fun cs (x : Value × Nat) => match x with | (c, j) => cs.setIfInBounds (off + j) c) cur = F := by
          rw [← hF, ← Array.foldl_toList, Array.toList_zipIdx, h1]
        simp only [hcond, hF3]
        exact k1
theorem Does.build {t : Ty} {offs : List (Nat × Nat)} {parts : Array (Nat × Operand)} {css : List (Bool × List LV)} {ls : List LV} (hb : bld P T offs t) (hv : EvL A s (parts.toList.map (·.2)) css) (hok : ∀ c ∈ css, okLVs s.tab c.2 = true)
    (hf : fillL offs t.zlv ((parts.toList.map (·.1)).zip (css.map (·.2))) = some ls) (hn : Nat.blt d A.n = true) : Does A P ⟨some d, .build T parts, ty, pos, af, g⟩ s (s.put d (ag ls)) :=
  Does.yields rfl hn fun gh a w r => by
    obtain ⟨fs, h1, h2, h3⟩ := hb
    have hvs := hv.cms r
    have hlen := hvs.len
    generalize hV : (parts.toList.map (·.2)).map a.eval = vs at *
    have hpl : parts.toList.length = vs.length := by rw [← hV]; simp
    have hcells : ∀ (cs : List (Bool × List LV)) (vs : List Value), CmsR s.tab.al gh w cs vs → (∀ c ∈ cs, okLVs s.tab c.2 = true) → ∀ (i : Nat) (c : Bool × List LV) (v : Value), cs[i]? = some c → vs[i]? = some v → ∃ us, v.cells = us.toArray ∧ LVs s.tab.al gh w c.2 us := by
      intro cs
      induction cs with
      | nil => intro vs _ _ i c v h; simp at h
      | cons c cs ih =>
        rintro vs ⟨v, vs', rfl, k1, k2⟩ hok i c' v' hc hv'
        cases i with
        | zero =>
          simp at hc hv'
          subst hc; subst hv'
          have hc := hok c (List.mem_cons_self ..)
          obtain ⟨b, ls⟩ := c
          exact CmR.cells k1 fun hb => by
            subst hb
            obtain ⟨l, rfl, q1⟩ := k1
            simp only [okLVs, Bool.and_true] at hc
            obtain ⟨h3, h4⟩ := okLV_al hc
            exact q1.oneCell h4 h3 fun q ⟨e, he⟩ => (r.cx.en q e he).oneCell
        | succ i => exact ih vs' k2 (fun c hc => hok c (List.mem_cons_of_mem _ hc)) i c' v' (by simpa using hc) (by simpa using hv')
    have hzl : ((parts.toList.map (·.1)).zip (css.map (·.2))).length = vs.length := by rw [List.length_zip, List.length_map, List.length_map]; omega
    obtain ⟨cur', k1, k2⟩ := fillL_ok (al := s.tab.al) (gh := gh) (w := w) (cur := t.zeros.toArray) hf hzl.symm (fun i p v hp hv' => by
      have hi := List.getElem?_zip_eq_some.1 hp
      have h5 := hi.2
      rw [List.getElem?_map] at h5
      obtain ⟨c', h6, h7⟩ := Option.map_eq_some_iff.1 h5
      rw [← h7]
      exact hcells css vs hvs hok i c' v h6 hv') (by simpa using Ty.zlv_ok s.tab.al gh w t)
    refine ⟨.agg cur', ?_, cur'.toList, by simp, k2⟩
    have hz : (((parts.toList.map (·.1)).zip (css.map (·.2))).map (·.1)).zip vs = (parts.map fun p => (p.1, a.eval p.2)).toList := by
      rw [List.map_fst_zip (by rw [List.length_map, List.length_map]; omega), Array.toList_map, ← hV, List.map_map]
      generalize parts.toList = pl
      induction pl with
      | nil => rfl
      | cons p ps ih => simp [ih]
    rw [hz] at k1
    simp only [execOp, Instr.build, Go.Sem.run_bind, run_zero h3, Result.andThen_ok, run_underlying h1, h2, Value.cells]
    rw [k1]
    simp
end

/-! ### Regions that draw: operation by operation -/
def ActsL (A : Amb) (P : Program) (ops : Array Oper) (plan : List Item) (deps : List (List Nat)) (s0 : St) : List Oper → List Item → Nat → Prop
  | o :: l, it :: p, i => (∀ s, At plan deps s0 i s → Acts A P ops o s (actS s it)) ∧ ActsL A P ops plan deps s0 l p (i + 1)
  | [], _, _ => True
  | _ :: _, [], _ => True
theorem ActsL.get {A : Amb} {P : Program} {ops : Array Oper} {plan : List Item} {deps : List (List Nat)} {s0 : St} : ∀ {l : List Oper} {p : List Item} {k : Nat}, ActsL A P ops plan deps s0 l p k → ∀ i o it, l[i]? = some o → p[i]? = some it → ∀ s, At plan deps s0 (k + i) s → Acts A P ops o s (actS s it)
  | [], _, _, _, i, o, it, h, _ => by simp at h
  | _ :: _, [], _, _, i, o, it, _, h => by simp at h
  | o' :: l, it' :: p, k, ⟨h1, h2⟩, 0, o, it, ho, hi => by
    simp at ho hi
    subst ho; subst hi
    exact h1
  | o' :: l, it' :: p, k, ⟨h1, h2⟩, i + 1, o, it, ho, hi => by
    have := ActsL.get h2 i o it (by simpa using ho) (by simpa using hi)
    rwa [show k + 1 + i = k + (i + 1) by omega] at this
theorem AC.drawL {A : Amb} {P : Program} {s0 : St} {id : Nat} {l : List Oper} {Q : Exit → St → Prop} (plan : List Item) (deps : List (List Nat)) (hm : P.follows .mixedOrders = true) (hn : l.length = plan.length) (hB : (depsB l.toArray deps plan.length && planB plan deps && headB l.toArray plan.length) = true)
    (H : ActsL A P l.toArray plan deps s0 l plan 0) (k : Q .normal (stD plan s0 fun _ => true)) : AC A P (.region id l.toArray true) Q s0 :=
  AC.draw plan deps hm hn hB (fun i o it ho hi s hs => ActsL.get H i o it ho hi s (by rwa [Nat.zero_add])) k

/-! ### Small words for the walks -/
theorem fact_len {A : Amb} {s : St} {x : Operand} {E : TypeId} {e : Ty} {l : List e.Den} (h : Evl A s x (.dat (.sl E e) l)) : ∀ gh a w, Rg A s gh a w → l.length ≤ 9223372036854775807 := fun gh a w r => by
  have := fact_sl h gh a w r
  unfold maxLen at this; omega
theorem AC.condT {A : Amb} {P : Program} {s : St} {Q : Exit → St → Prop} {c : Operand} {x y : Code} (hc : Evl A s c (dB true)) (h : AC A P x Q s) : AC A P (.cond c x y) Q s := AC.cond hc (fun _ => h) fun h => by cases h
theorem AC.condF {A : Amb} {P : Program} {s : St} {Q : Exit → St → Prop} {c : Operand} {x y : Code} (hc : Evl A s c (dB false)) (h : AC A P y Q s) : AC A P (.cond c x y) Q s := AC.cond hc (fun h => by cases h) fun _ => h

/-! ### The end of a call -/
@[reducible] def RenO (O : PV → Tab → Prop) (k : Nat) : PV → Tab → Prop := fun p T0 => ∃ pv T' ρ, p = pv.ren (rn ρ) ∧ HasE ⟨[], T0⟩ ρ T' ∧ dupB (T'.map fun x => rn ρ x.1) = true ∧ idB ρ k = true ∧ O pv T'
theorem FC.ren {P : Program} {f : FuncId} {args : List (Bool × List LV)} {T : Tab} {k : Nat} {O : PV → Tab → Prop} (h : FC P f args T k (RenO O k)) : FC P f args T k O := fun gh w vs cx ha =>
  Calls.mono (h gh w vs cx ha) fun e w' he => by
    obtain ⟨v, pv0, T0, gh', h1, ⟨pv, T', ρ, rfl, hE, hi, hid, hO⟩, cx', hp, fr, hk⟩ := he
    have hal : ∀ q, T'.al q → T0.al (rn ρ q) := fun q ⟨e, h⟩ => ⟨_, hE.get h⟩
    have hinj : ∀ q q', T'.al q → T'.al q' → rn ρ q = rn ρ q' → q = q' := fun q q' h1 h2 h => dupB_inj hi h1 h2 h
    refine ⟨v, pv, T', gh'.via (rn ρ), h1, hO, ⟨fun q e h => ?_, fun q q' h1 h2 hne => cx'.dj _ _ (hal q h1) (hal q' h2) fun h => hne (hinj q q' h1 h2 h), fun q h => cx'.nd _ (hal q h), fun q h => cx'.no _ (hal q h), cx'.nl⟩,
      (PVR.ren.1 hp).mono (fun q _ h' => ⟨hal q h', rfl⟩) (fun g hg => ⟨hg, rfl⟩), ⟨fr.gw, fr.kp, fr.nn, fun q h => fr.ox _ (hal q h)⟩, fun q hq h => ?_⟩
    · exact (EntR.ren.1 (cx'.en _ _ (hE.get h))).mono (fun r' _ h' => ⟨hal r' h', rfl⟩) (fun g hg => ⟨hg, rfl⟩) rfl rfl fun _ _ => rfl
    · have hq' := idB_spec hid q hq
      have := hk (rn ρ q) (by rw [hq']; exact hq) (hal q h)
      rw [hq'] at this
      show gh'.h (rn ρ q) = _
      rw [hq']
      exact this
section
variable {A : Amb} {P : Program} {fn : Func} {s : St} {O : PV → Tab → Prop} {k : Nat}
theorem fin_ret (pv : PV) (T' : Tab) (ρ : List (Nat × Nat)) (h1 : Res A P fn s (pv.ren (rn ρ))) (h2 : HasE ⟨[], s.tab⟩ ρ T') (h3 : dupB (T'.map fun x => rn ρ x.1) = true) (h4 : idB ρ k = true) (h5 : O pv T') : fin A P fn (RenO O k) .ret s :=
  ⟨_, h1, pv, T', ρ, rfl, h2, h3, h4, h5⟩
theorem idB_nil : ∀ k, idB [] k = true
  | 0 => rfl
  | k + 1 => by simp [idB, rn, lk, idB_nil k]
theorem fin_pure {pv pv0 : PV} (h : Res A P fn s pv0) (e : pv0 = pv) (ht : pv.tags = []) : fin A P fn (RenO (Pure pv) k) .ret s := by
  subst e
  exact fin_ret pv0 [] [] (by rw [PV.ren_id ht]; exact h) trivial rfl (idB_nil k) ⟨rfl, rfl⟩
theorem fin_own {q : Nat} {E : TypeId} {e : Ty} {xs zs : List e.Den} (h : Res A P fn s (lf (.ref q))) (he : s.tab.ent q = some (.arr E e xs)) (hx : xs = zs) : fin A P fn (RenO (Own1 E e zs) 0) .ret s := by
  subst hx
  refine fin_ret (lf (.ref 0)) [(0, some (.arr E e xs))] [(0, q)] h ⟨?_, trivial⟩ rfl rfl ⟨rfl, rfl⟩
  exact he
theorem Rs.cell {a t q n : Nat} {E : TypeId} {cs : List LV} (h : lk s.tm a = some (lf (.ptr q 0))) (he : s.tab.ent q = some (.box E cs)) (hT : tsh P t = some (true, n)) (hl : cs.length = n) : Rs A P s (.cell a t) (true, cs) := fun gh ac w r => by
  obtain ⟨g, h1, h2⟩ := Evl.tmp h gh ac w r ⟨_, he⟩
  obtain ⟨g', cur, h3, h4, h5, h6⟩ := r.cx.en q _ he
  rw [h1] at h3
  cases h3
  refine ⟨.agg cur, ?_, cur.toList, by simp, h6⟩
  have hr := run_loadVar_agg (w := w) hT g 0 cur.toList (by rw [h6.len]; exact hl) fun j u hj => by
    simp only [World.cell?, h5]
    simpa using hj
  have h2 : ac.tmps.getD a undef = .pointer (some ⟨g, 0, none⟩) := h2
  simp only [resv, h2, asAddr, Go.Sem.run_bind, Go.Sem.run_pure, Result.andThen_ok, hr]
end
theorem loop_end {A : Amb} {I : Nat → St → Prop} {m : Nat} {s1 : St} (m' : Nat) (s2 : St) (h1 : m' < m) (h2 : Wk A s1 s2) (h3 : I m' s2) : ∃ m' s2, m' < m ∧ Wk A s1 s2 ∧ I m' s2 := ⟨m', s2, h1, h2, h3⟩
theorem nd_true {p : Prop} [Decidable p] (h : (!decide p) = true) : ¬ p := by simpa using h
theorem nd_false {p : Prop} [Decidable p] (h : (!decide p) = false) : p := by simpa using h
theorem take_snoc {α : Type _} {l : List α} {k : Nat} {x : α} (h : l[k]? = some x) : l.take (k + 1) = l.take k ++ [x] := by
  obtain ⟨h1, h2⟩ := List.getElem?_eq_some_iff.1 h
  rw [List.take_succ_eq_append_getElem h1, h2]
theorem take_end {α : Type _} {l : List α} {k : Nat} (h : l.length ≤ k) : l.take k = l := List.take_of_length_le h

/-! ### From contracts in the elder form -/
theorem FC.ofB {P : Program} {f : FuncId} {args : List (Bool × List LV)} {b : Bool} (h : ∀ (gh : Gh) (w : World) (vs : List Value), CmsR (Tab.al []) gh w args vs → Calls P f vs.toArray w (RetB (b = true) w)) : FC P f args [] 0 (Pure (lf (dB b))) := fun gh w vs cx ha =>
  Calls.mono (h gh w vs ha) fun e w' he => by
    obtain ⟨b', rfl, h1, h2⟩ := he
    have hb : b' = b := by cases b' <;> cases b <;> simp_all
    subst hb
    exact ⟨_, _, [], gh, rfl, ⟨rfl, rfl⟩, tombless al_nil gh w' fun g hg => Nat.lt_of_lt_of_le (cx.nl g hg) h2.size, ⟨_, rfl, LVR.mkB⟩, ⟨h2.grw, fun g hg _ => Below.block h2 g hg, fun g hg => .inl hg, fun q hq => absurd hq (al_nil q)⟩, fun q hq => absurd hq (by omega)⟩
theorem CmsR.agg1 {al : Nat → Prop} {gh : Gh} {w : World} {t : Ty} {x : t.Den} {vs : List Value} (h : CmsR al gh w [(true, leaves t x)] vs) : ∃ us, vs = [.agg us.toArray] ∧ Rep t w us x := by
  obtain ⟨v, vs', rfl, ⟨us, rfl, h1⟩, h2⟩ := h
  rw [show vs' = [] from h2]
  exact ⟨us, rfl, (LVs.rd h1).rep⟩
end Go.Proofs.Ytbelopdphlllnaa
