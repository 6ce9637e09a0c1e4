/- Abstract states: bytes and strings turned into each other. No program is named here. -/
import Derived.Test.YtbelopdphlllnaaAh
namespace Go.Proofs.Ytbelopdphlllnaa
open Go.RowKit

section
variable {A : Amb} {P : Program} {s : St} {x y : Operand} {d : Nat} {T T' ty : TypeId} {pos : String} {af : Array Edge} {g : Option (Nat × Bool)}
variable {T' E : TypeId}
theorem run_nil_string (w : World) (T T' E : TypeId) (c : Nat) (hs : P.underlying T = some (.slice E)) (he : P.underlying E = some (.int .u8)) (hd : P.underlying T' = some .string) :
    (convert T T' (.slice none 0 c)).run P w = .ok (.string ByteArray.empty) w := by
  rw [run_convert_bytes_string w T T' E none 0 c hs he hd]
  simp [Conv.bytesToString, Go.Sem.run_pure]
theorem bytes_string {ys : List UInt8} {a : Act} {w : World} (hy : Rep (.sl E .u8) w [a.eval x] ys) (hs : P.underlying T = some (.slice E)) (he : P.underlying E = some (.int .u8)) (hd : P.underlying T' = some .string) :
    (convert T T' (a.eval x)).run P w = .ok (.string ⟨ys.toArray⟩) w := by
  obtain ⟨B, c, hv, h1, h2⟩ := hy.slv
  rw [hv] at hy ⊢
  cases ys with
  | nil =>
    cases B with
    | none => exact run_nil_string w T T' E c hs he hd
    | some b => exact run_convert_bytes_back w T T' E b c [] hs he hd (by simp)
  | cons z zs =>
    obtain ⟨b, o, ds, rfl, _, _⟩ := hy.at_ (i := 0) (x := z) rfl
    refine run_convert_bytes_back w T T' E ⟨b, o, none⟩ c (z :: zs) hs he hd fun j hj => ?_
    obtain ⟨b', o', ds, e1, e2, e3⟩ := hy.at_ (List.getElem?_eq_getElem hj)
    simp only [Option.some.injEq, Addr.mk.injEq] at e1
    obtain ⟨rfl, rfl, _⟩ := e1
    have e4 : ds = _ := e2
    have := e3 0 _ (by rw [e4]; rfl)
    have e5 : (⟨b, o, none⟩ : Addr).add j = ⟨b, o + j * Ty.u8.wd + 0, none⟩ := by rw [Addr.add_lit]; simp [Ty.wd]
    rw [e5]; exact this
theorem Does.ofBytes {ys : List UInt8} (hy : RepEv A s x (.sl E .u8) ys) (hs : P.underlying T = some (.slice E)) (he : P.underlying E = some (.int .u8)) (hd : P.underlying T' = some .string) (hn : Nat.blt d A.n = true) :
    Does A P ⟨some d, .convert T T' x, ty, pos, af, g⟩ s (s.put d (lf (dS ⟨ys.toArray⟩))) :=
  Does.yields rfl hn fun gh a w r => by
    have h := hy gh a w r
    obtain ⟨B, c, hv, h1, h2⟩ := h.slv
    refine ⟨_, ?_, _, rfl, LVR.mkS (x := ⟨ys.toArray⟩) ?_⟩
    · simp only [execOp, Go.Sem.run_bind]
      rw [bytes_string h hs he hd]
      rfl
    · show ys.toArray.size ≤ maxLen
      simp; omega
theorem Does.toU8 {n : Int} (hx : Evl A s x (dI n)) (hs : P.underlying T = some (.int .i64)) (hd : P.underlying T' = some (.int .u8)) (h0 : 0 ≤ n) (h1 : n < 256) (hn : Nat.blt d A.n = true) :
    Does A P ⟨some d, .convert T T' x, ty, pos, af, g⟩ s (s.put d (lf (.dat .u8 (UInt8.ofNat n.toNat)))) :=
  Does.yields rfl hn fun gh a w r => by
    have h2 := hx.i r
    have e1 : (UInt8.ofNat n.toNat).toNat = n.toNat := by
      rw [UInt8.toNat_ofNat']
      exact Nat.mod_eq_of_lt (by omega)
    have e2 : IntKind.u8.wrap n = n := by
      simp [IntKind.wrap, IntKind.bits, IntKind.signed]
      omega
    have e3 : ((UInt8.ofNat n.toNat).toNat : Int) = n := by rw [e1]; omega
    have h3 : LVR s.tab.al gh w (.dat .u8 (UInt8.ofNat n.toNat)) (.int .u8 n) := by
      have := LVR.mkU (al := s.tab.al) (gh := gh) (w := w) (x := UInt8.ofNat n.toNat)
      rwa [e3] at this
    refine ⟨.int .u8 n, ?_, _, rfl, h3⟩
    simp only [execOp, h2, convert, run_underlying hs, run_underlying hd, Go.Sem.run_bind, Result.andThen_ok, Conv.intToInt, e2]
    simp
end
end Go.Proofs.Ytbelopdphlllnaa
