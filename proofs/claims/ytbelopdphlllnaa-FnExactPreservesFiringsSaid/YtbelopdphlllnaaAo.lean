/- Abstract states: operations on numbers, truth values, texts; variables in memory. No program is named here. -/
import Derived.Test.YtbelopdphlllnaaAc
namespace Go.Proofs.Ytbelopdphlllnaa
open Go.RowKit

section
variable {A : Amb} {P : Program} {s : St} {x y : Operand} {d : Nat} {T T' ty : TypeId} {pos : String} {af : Array Edge} {g : Option (Nat × Bool)}
theorem Evl.i {m : Int} (h : Evl A s x (dI m)) {gh : Gh} {a : Act} {w : World} (r : Rg A s gh a w) : a.eval x = .int .i64 m := (LVR.int (h gh a w r)).1
theorem Evl.b {m : Bool} (h : Evl A s x (dB m)) {gh : Gh} {a : Act} {w : World} (r : Rg A s gh a w) : a.eval x = .bool m := LVR.bool (h gh a w r)
theorem Evl.st {m : ByteArray} (h : Evl A s x (dS m)) {gh : Gh} {a : Act} {w : World} (r : Rg A s gh a w) : a.eval x = .string m := (LVR.str (h gh a w r)).1
theorem Evl.u {m : UInt8} (h : Evl A s x (.dat .u8 m)) {gh : Gh} {a : Act} {w : World} (r : Rg A s gh a w) : a.eval x = .int .u8 m.toNat := LVR.u8 (h gh a w r)

theorem Does.move {t : Nat} {pv : PV} (h : lk s.tm t = some pv) (hn : Nat.blt d A.n = true) : Does A P ⟨some d, .move (.tmp t), ty, pos, af, g⟩ s (s.put d pv) :=
  Does.yields rfl hn fun gh a w r => by
    obtain ⟨v, h1, h2⟩ := r.tm t pv h
    have e : a.eval (.tmp t) = v := by
      show a.tmps.getD t undef = v
      rw [Array.getD_eq_getD_getElem?, h1]; rfl
    exact ⟨v, by show Result.ok (Next.value (a.eval (.tmp t))) w = _; rw [e], h2⟩
theorem Does.assign {t : Nat} {pv : PV} (h : lk s.tm t = some pv) (hn : Nat.blt d A.n = true) : Does A P ⟨some d, .assign (.tmp t), ty, pos, af, g⟩ s (s.put d pv) :=
  Does.yields rfl hn fun gh a w r => by
    obtain ⟨v, h1, h2⟩ := r.tm t pv h
    have e : a.eval (.tmp t) = v := by
      show a.tmps.getD t undef = v
      rw [Array.getD_eq_getD_getElem?, h1]; rfl
    exact ⟨v, by show Result.ok (Next.value (a.eval (.tmp t))) w = _; rw [e], h2⟩
theorem Does.moveC {l : LV} (h : Evl A s x l) (hn : Nat.blt d A.n = true) : Does A P ⟨some d, .move x, ty, pos, af, g⟩ s (s.put d (lf l)) :=
  Does.yields rfl hn fun gh a w r => ⟨a.eval x, rfl, l, rfl, h gh a w r⟩
theorem Does.assignC {l : LV} (h : Evl A s x l) (hn : Nat.blt d A.n = true) : Does A P ⟨some d, .assign x, ty, pos, af, g⟩ s (s.put d (lf l)) :=
  Does.yields rfl hn fun gh a w r => ⟨a.eval x, rfl, l, rfl, h gh a w r⟩
theorem Does.extract {t i : Nat} {cs : List (Bool × List LV)} {b : Bool} {ls : List LV} (h : lk s.tm t = some (.tup cs)) (hi : cs[i]? = some (b, ls)) (hn : Nat.blt d A.n = true) :
    Does A P ⟨some d, .extract (.tmp t) i, ty, pos, af, g⟩ s (s.put d (.cm b ls)) :=
  Does.yields rfl hn fun gh a w r => by
    obtain ⟨v, h1, vs, rfl, h2⟩ := r.tm t _ h
    have e : a.eval (.tmp t) = .tuple vs.toArray := by
      show a.tmps.getD t undef = _
      rw [Array.getD_eq_getD_getElem?, h1]; rfl
    have hg : ∀ (cs : List (Bool × List LV)) (vs : List Value) (i : Nat), CmsR s.tab.al gh w cs vs → cs[i]? = some (b, ls) → ∃ v, vs[i]? = some v ∧ CmR s.tab.al gh w (b, ls) v := by
      intro cs
      induction cs with
      | nil => intro vs i _ h; simp at h
      | cons c cs ih =>
        rintro vs i ⟨v, vs', rfl, k1, k2⟩ hi
        cases i with
        | zero => simp at hi; subst hi; exact ⟨v, rfl, k1⟩
        | succ i =>
          obtain ⟨v', k3, k4⟩ := ih vs' i k2 (by simpa using hi)
          exact ⟨v', by simpa using k3, k4⟩
    obtain ⟨v, k1, k2⟩ := hg cs vs i h2 hi
    exact ⟨v, by simp only [execOp, e, Instr.extract]; simp [k1, Go.Sem.run_bind], k2⟩

theorem Does.lss {m n : Int} (hx : Evl A s x (dI m)) (hy : Evl A s y (dI n)) (hn : Nat.blt d A.n = true) : Does A P ⟨some d, .binOp .lss T x y T', ty, pos, af, g⟩ s (s.put d (lf (dB (decide (m < n))))) :=
  Does.yields rfl hn fun gh a w r => ⟨.bool (decide (m < n)), by
    have h1 := hx.i r
    have h2 := hy.i r
    simp only [execOp, h1, h2, eqGuard_at_int, binOp, Op.intCmp]
    simp, _, rfl, LVR.mkB⟩

theorem Does.leq {m n : Int} (hx : Evl A s x (dI m)) (hy : Evl A s y (dI n)) (hn : Nat.blt d A.n = true) : Does A P ⟨some d, .binOp .leq T x y T', ty, pos, af, g⟩ s (s.put d (lf (dB (decide (m ≤ n))))) :=
  Does.yields rfl hn fun gh a w r => ⟨.bool (decide (m ≤ n)), by
    have h1 := hx.i r
    have h2 := hy.i r
    simp only [execOp, h1, h2, eqGuard_at_int, binOp, Op.intCmp]
    simp, _, rfl, LVR.mkB⟩

theorem Does.gtr {m n : Int} (hx : Evl A s x (dI m)) (hy : Evl A s y (dI n)) (hn : Nat.blt d A.n = true) : Does A P ⟨some d, .binOp .gtr T x y T', ty, pos, af, g⟩ s (s.put d (lf (dB (decide (n < m))))) :=
  Does.yields rfl hn fun gh a w r => ⟨.bool (decide (n < m)), by
    have h1 := hx.i r
    have h2 := hy.i r
    simp only [execOp, h1, h2, eqGuard_at_int, binOp, Op.intCmp]
    simp, _, rfl, LVR.mkB⟩

theorem Does.geq {m n : Int} (hx : Evl A s x (dI m)) (hy : Evl A s y (dI n)) (hn : Nat.blt d A.n = true) : Does A P ⟨some d, .binOp .geq T x y T', ty, pos, af, g⟩ s (s.put d (lf (dB (decide (n ≤ m))))) :=
  Does.yields rfl hn fun gh a w r => ⟨.bool (decide (n ≤ m)), by
    have h1 := hx.i r
    have h2 := hy.i r
    simp only [execOp, h1, h2, eqGuard_at_int, binOp, Op.intCmp]
    simp, _, rfl, LVR.mkB⟩

theorem Does.eql {m n : Int} (hx : Evl A s x (dI m)) (hy : Evl A s y (dI n)) (hn : Nat.blt d A.n = true) : Does A P ⟨some d, .binOp .eql T x y T', ty, pos, af, g⟩ s (s.put d (lf (dB (decide (m = n))))) :=
  Does.yields rfl hn fun gh a w r => ⟨.bool (decide (m = n)), by
    have h1 := hx.i r
    have h2 := hy.i r
    simp only [execOp, h1, h2, eqGuard_at_int, binOp, Op.intCmp]
    simp; rfl, _, rfl, LVR.mkB⟩

theorem Does.neq {m n : Int} (hx : Evl A s x (dI m)) (hy : Evl A s y (dI n)) (hn : Nat.blt d A.n = true) : Does A P ⟨some d, .binOp .neq T x y T', ty, pos, af, g⟩ s (s.put d (lf (dB (!decide (m = n))))) :=
  Does.yields rfl hn fun gh a w r => ⟨.bool (!decide (m = n)), by
    have h1 := hx.i r
    have h2 := hy.i r
    simp only [execOp, h1, h2, eqGuard_at_int, binOp, Op.intCmp]
    simp; rfl, _, rfl, LVR.mkB⟩

theorem Does.add {m n : Int} (hx : Evl A s x (dI m)) (hy : Evl A s y (dI n)) (hn : Nat.blt d A.n = true) (hb : -9223372036854775808 ≤ m + n ∧ m + n ≤ 9223372036854775807) : Does A P ⟨some d, .binOp .add T x y T', ty, pos, af, g⟩ s (s.put d (lf (dI (m + n)))) :=
  Does.yields rfl hn fun gh a w r => ⟨.int .i64 (m + n), by
    have h1 := hx.i r
    have h2 := hy.i r
    have h3 : IntKind.i64.wrap (m + n) = m + n := IntWalk.i64_in _ (by omega)
    simp only [execOp, h1, h2, eqGuard_at_int, binOp, Op.intArith, h3]
    simp, _, rfl, LVR.mkI hb⟩

theorem Does.sub {m n : Int} (hx : Evl A s x (dI m)) (hy : Evl A s y (dI n)) (hn : Nat.blt d A.n = true) (hb : -9223372036854775808 ≤ m - n ∧ m - n ≤ 9223372036854775807) : Does A P ⟨some d, .binOp .sub T x y T', ty, pos, af, g⟩ s (s.put d (lf (dI (m - n)))) :=
  Does.yields rfl hn fun gh a w r => ⟨.int .i64 (m - n), by
    have h1 := hx.i r
    have h2 := hy.i r
    have h3 : IntKind.i64.wrap (m - n) = m - n := IntWalk.i64_in _ (by omega)
    simp only [execOp, h1, h2, eqGuard_at_int, binOp, Op.intArith, h3]
    simp, _, rfl, LVR.mkI hb⟩

theorem u8_inj {a b : UInt8} : ((a.toNat : Int) == (b.toNat : Int)) = decide (a = b) := by
  rw [Bool.eq_iff_iff]
  simp only [beq_iff_eq, decide_eq_true_eq]
  constructor
  · intro h; exact UInt8.toNat_inj.1 (by omega)
  · rintro rfl; rfl
theorem Does.eqlU {m n : UInt8} (hx : Evl A s x (.dat .u8 m)) (hy : Evl A s y (.dat .u8 n)) (hn : Nat.blt d A.n = true) : Does A P ⟨some d, .binOp .eql T x y T', ty, pos, af, g⟩ s (s.put d (lf (dB (decide (m = n))))) :=
  Does.yields rfl hn fun gh a w r => ⟨.bool (decide (m = n)), by
    have h1 := hx.u r
    have h2 := hy.u r
    simp only [execOp, h1, h2, eqGuard_at_int, binOp, Op.intCmp]
    simp [u8_inj, bne, UInt8.lt_iff_toNat_lt, UInt8.le_iff_toNat_le], _, rfl, LVR.mkB⟩

theorem Does.neqU {m n : UInt8} (hx : Evl A s x (.dat .u8 m)) (hy : Evl A s y (.dat .u8 n)) (hn : Nat.blt d A.n = true) : Does A P ⟨some d, .binOp .neq T x y T', ty, pos, af, g⟩ s (s.put d (lf (dB (!decide (m = n))))) :=
  Does.yields rfl hn fun gh a w r => ⟨.bool (!decide (m = n)), by
    have h1 := hx.u r
    have h2 := hy.u r
    simp only [execOp, h1, h2, eqGuard_at_int, binOp, Op.intCmp]
    simp [u8_inj, bne, UInt8.lt_iff_toNat_lt, UInt8.le_iff_toNat_le], _, rfl, LVR.mkB⟩

theorem str_inj {a b : ByteArray} : (a.toList == b.toList) = decide (a = b) := by
  rw [Bool.eq_iff_iff]
  simp only [beq_iff_eq, decide_eq_true_eq]
  constructor
  · intro h
    rw [ByteArray.toList_eq, ByteArray.toList_eq] at h
    cases a; cases b
    simpa using h
  · rintro rfl; rfl
theorem Does.eqlS {m n : ByteArray} (hx : Evl A s x (dS m)) (hy : Evl A s y (dS n)) (hn : Nat.blt d A.n = true) : Does A P ⟨some d, .binOp .eql T x y T', ty, pos, af, g⟩ s (s.put d (lf (dB (decide (m = n))))) :=
  Does.yields rfl hn fun gh a w r => ⟨.bool (decide (m = n)), by
    have h1 := hx.st r
    have h2 := hy.st r
    simp only [execOp, h1, h2, eqGuard_at_string, binOp, Op.stringOp]
    simp [str_inj], _, rfl, LVR.mkB⟩

theorem Does.addS {m n : ByteArray} (hx : Evl A s x (dS m)) (hy : Evl A s y (dS n)) (hn : Nat.blt d A.n = true) (hb : m.size + n.size ≤ 9223372036854775807) : Does A P ⟨some d, .binOp .add T x y T', ty, pos, af, g⟩ s (s.put d (lf (dS (m ++ n)))) :=
  Does.yields rfl hn fun gh a w r => ⟨.string (m ++ n), by
    have h1 := hx.st r
    have h2 := hy.st r
    simp only [execOp, h1, h2, eqGuard_at_string, binOp]
    simp [Go.Sem.run_bind, run_string_add_sum w m n hb], _, rfl, LVR.mkS (by unfold maxLen; simpa using hb)⟩
theorem Does.neqB {m n : Bool} (hx : Evl A s x (dB m)) (hy : Evl A s y (dB n)) (hn : Nat.blt d A.n = true) (hT : P.underlying T = some .bool) : Does A P ⟨some d, .binOp .neq T x y T', ty, pos, af, g⟩ s (s.put d (lf (dB (!(m == n))))) :=
  Does.yields rfl hn fun gh a w r => ⟨.bool (!(m == n)), by
    have h1 := hx.b r
    have h2 := hy.b r
    simp only [execOp, h1, h2, eqGuard_at_bool]
    simp [run_neq_bool _ _ _ _ hT, Go.Sem.run_bind], _, rfl, LVR.mkB⟩
theorem Does.not {m : Bool} (hx : Evl A s x (dB m)) (hn : Nat.blt d A.n = true) : Does A P ⟨some d, .unOp .not T x, ty, pos, af, g⟩ s (s.put d (lf (dB (!m)))) :=
  Does.yields rfl hn fun gh a w r => ⟨.bool (!m), by
    have h1 := hx.b r
    simp only [execOp, h1, unary_not]
    simp, _, rfl, LVR.mkB⟩
theorem Does.indexS {m : ByteArray} {i : Int} {c : UInt8} (hx : Evl A s x (dS m)) (hy : Evl A s y (dI i)) (hn : Nat.blt d A.n = true) (hT : P.underlying T = some .string) (h0 : 0 ≤ i) (hc : m[i.toNat]? = some c) :
    Does A P ⟨some d, .index T x y, ty, pos, af, g⟩ s (s.put d (lf (.dat .u8 c))) :=
  Does.yields rfl hn fun gh a w r => ⟨.int .u8 c.toNat, by
    have h1 := hx.st r
    have h2 := hy.i r
    simp only [execOp, h1, h2, Instr.index, asIntOf]
    simp [run_underlying hT, h0, hc, Go.Sem.run_bind], _, rfl, LVR.mkU⟩
theorem Does.len {E : TypeId} {e : Ty} {l : List e.Den} (hx : Evl A s x (.dat (.sl E e) l)) (hn : Nat.blt d A.n = true) (hT : P.underlying T = some (.slice E)) : Does A P ⟨some d, .call ⟨.builtin .len, #[x], #[T]⟩, ty, pos, af, g⟩ s (s.put d (lf (dI l.length))) :=
  Does.yields rfl hn fun gh a w r => by
    obtain ⟨B, c, h1, h2, h3⟩ := (Rd.rep (hx gh a w r)).slv
    have hE : P.elem T = E := by simp [Program.elem, hT]
    refine ⟨.int .i64 l.length, ?_, _, rfl, LVR.mkI (by unfold maxLen at h3; omega)⟩
    simp only [execOp, resolve, invoke, builtin]
    simp [Go.Sem.run_bind, h1, run_len_slice w T ty B l.length c (by rw [hE]; exact hT), goInt]
theorem Does.lenO {q : Nat} {E E' : TypeId} {e : Ty} {l : List e.Den} (hx : Evl A s x (.ref q)) (he : s.tab.ent q = some (.arr E e l)) (hn : Nat.blt d A.n = true) (hT : P.underlying T = some (.slice E')) :
    Does A P ⟨some d, .call ⟨.builtin .len, #[x], #[T]⟩, ty, pos, af, g⟩ s (s.put d (lf (dI l.length))) :=
  Does.yields rfl hn fun gh a w r => by
    have h0 : a.eval x = gh.h q := hx gh a w r ⟨_, he⟩
    have hO : Own (.sl E e) w (gh.f q) [gh.h q] l := r.cx.en q _ he
    obtain ⟨B, c, h1, h2, h3⟩ := hO.rep.slv
    have hE : P.elem T = E' := by simp [Program.elem, hT]
    refine ⟨.int .i64 l.length, ?_, _, rfl, LVR.mkI (by unfold maxLen at h3; omega)⟩
    simp only [execOp, resolve, invoke, builtin]
    simp [Go.Sem.run_bind, h0, h1, run_len_slice w T ty B l.length c (by rw [hE]; exact hT), goInt]
end
end Go.Proofs.Ytbelopdphlllnaa
