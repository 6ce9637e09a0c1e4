/- Closed facts on the types and functions of the program. -/
import Derived.Test.YtjaadeknhofhpaaGreatProg
import Derived.Test.YtjaadeknhofhpaaGreatAe
import Derived.Test.YtjaadeknhofhpaaGreatOwn
set_option linter.unusedSimpArgs false
set_option linter.unusedVariables false
set_option linter.unusedSectionVars false
namespace Go.Proofs.YtjaadeknhofhpaaGreat
open Go.RowKit

theorem mixed : Tryz.prog.follows .mixedOrders = true := by kernel_rfl
theorem und_3 : Tryz.prog.underlying 3 = some (.int .i64) := by kernel_rfl
theorem tsh_3 : tsh Tryz.prog 3 = some (false, 1) := by kernel_rfl
theorem zer_3 : zer Tryz.prog 3 = some (.int .i64 0) := by kernel_rfl
theorem elb_3 : elemB Tryz.prog 3 1 = true := by kernel_rfl
theorem mki_3 : (Tryz.prog.info? 3).map (fun i => (i.zero, i.size, i.bytes)) = some (some (.int .i64 0), 1, 8) := by kernel_rfl
theorem und_4 : Tryz.prog.underlying 4 = some .bool := by kernel_rfl
theorem tsh_4 : tsh Tryz.prog 4 = some (false, 1) := by kernel_rfl
theorem mki_4 : (Tryz.prog.info? 4).map (fun i => (i.zero, i.size, i.bytes)) = some (some (.bool false), 1, 1) := by kernel_rfl
theorem und_5 : Tryz.prog.underlying 5 = some (.int .u8) := by kernel_rfl
theorem tsh_5 : tsh Tryz.prog 5 = some (false, 1) := by kernel_rfl
theorem zer_5 : zer Tryz.prog 5 = some (.int .u8 0) := by kernel_rfl
theorem mki_5 : (Tryz.prog.info? 5).map (fun i => (i.zero, i.size, i.bytes)) = some (some (.int .u8 0), 1, 1) := by kernel_rfl
theorem und_9 : Tryz.prog.underlying 9 = some .string := by kernel_rfl
theorem tsh_9 : tsh Tryz.prog 9 = some (false, 1) := by kernel_rfl
theorem zer_9 : zer Tryz.prog 9 = some (.string ByteArray.empty) := by kernel_rfl
theorem elb_9 : elemB Tryz.prog 9 1 = true := by kernel_rfl
theorem mki_9 : (Tryz.prog.info? 9).map (fun i => (i.zero, i.size, i.bytes)) = some (some (.string ByteArray.empty), 1, 16) := by kernel_rfl
theorem und_22 : Tryz.prog.underlying 22 = some (.slice 5) := by kernel_rfl
theorem und_26 : Tryz.prog.underlying 26 = some (.slice 90) := by kernel_rfl
theorem zer_29 : zer Tryz.prog 29 = some (.agg #[.int .i64 0, .slice none 0 0, .slice none 0 0, .slice none 0 0, .string ByteArray.empty]) := by kernel_rfl
theorem und_49 : Tryz.prog.underlying 49 = some (.slice 9) := by kernel_rfl
theorem zer_49 : zer Tryz.prog 49 = some (.slice none 0 0) := by kernel_rfl
theorem tsh_52 : tsh Tryz.prog 52 = some (true, 3) := by kernel_rfl
theorem zer_52 : zer Tryz.prog 52 = some (.agg #[.slice none 0 0, .slice none 0 0, .slice none 0 0]) := by kernel_rfl
theorem bld_52 : bld Tryz.prog 52 [(0, 1), (1, 1), (2, 1)] (.pr (.sl 90 (.pr .str .int)) (.pr (.sl 9 .str) (.sl 106 (.pr .int (.pr .int (.pr .bool .int)))))) := bld_of Tryz.underlying52 (by kernel_rfl) zer_52
theorem tsh_55 : tsh Tryz.prog 55 = some (true, 2) := by kernel_rfl
theorem zer_55 : zer Tryz.prog 55 = some (.agg #[.int .i64 0, .bool false]) := by kernel_rfl
theorem bld_55 : bld Tryz.prog 55 [(0, 1), (1, 1)] (.pr .int .bool) := bld_of Tryz.underlying55 (by kernel_rfl) zer_55
theorem und_79 : Tryz.prog.underlying 79 = some (.slice 95) := by kernel_rfl
theorem zer_90 : zer Tryz.prog 90 = some (.agg #[.string ByteArray.empty, .int .i64 0]) := by kernel_rfl
theorem elb_90 : elemB Tryz.prog 90 2 = true := by kernel_rfl
theorem und_95 : Tryz.prog.underlying 95 = some (.slice 3) := by kernel_rfl
theorem tsh_95 : tsh Tryz.prog 95 = some (false, 1) := by kernel_rfl
theorem zer_95 : zer Tryz.prog 95 = some (.slice none 0 0) := by kernel_rfl
theorem mki_95 : (Tryz.prog.info? 95).map (fun i => (i.zero, i.size, i.bytes)) = some (some (.slice none 0 0), 1, 24) := by kernel_rfl
theorem zer_106 : zer Tryz.prog 106 = some (.agg #[.int .i64 0, .int .i64 0, .bool false, .int .i64 0]) := by kernel_rfl
theorem elb_106 : elemB Tryz.prog 106 4 = true := by kernel_rfl
theorem bld_106 : bld Tryz.prog 106 [(0, 1), (1, 1), (2, 1), (3, 1)] (.pr .int (.pr .int (.pr .bool .int))) := bld_of Tryz.underlying106 (by kernel_rfl) zer_106
theorem und_160 : Tryz.prog.underlying 160 = some (.slice 4) := by kernel_rfl
theorem tsh_164 : tsh Tryz.prog 164 = some (true, 2) := by kernel_rfl
theorem zer_164 : zer Tryz.prog 164 = some (.agg #[.slice none 0 0, .slice none 0 0]) := by kernel_rfl
theorem bld_164 : bld Tryz.prog 164 [(0, 1), (1, 1)] (.pr (.sl 9 .str) (.sl 229 (.pr .int (.pr .int .int)))) := bld_of Tryz.underlying164 (by kernel_rfl) zer_164
theorem und_182 : Tryz.prog.underlying 182 = some (.map 9 95) := by kernel_rfl
theorem zer_198 : zer Tryz.prog 198 = some (.agg #[.slice none 0 0, .slice none 0 0]) := by kernel_rfl
theorem zer_229 : zer Tryz.prog 229 = some (.agg #[.int .i64 0, .int .i64 0, .int .i64 0]) := by kernel_rfl
theorem elb_229 : elemB Tryz.prog 229 3 = true := by kernel_rfl
theorem bld_229 : bld Tryz.prog 229 [(0, 1), (1, 1), (2, 1)] (.pr .int (.pr .int .int)) := bld_of Tryz.underlying229 (by kernel_rfl) zer_229
theorem tsh_232 : tsh Tryz.prog 232 = some (true, 3) := by kernel_rfl
theorem fld_232_0 : fld Tryz.prog 232 0 = some 0 := by kernel_rfl
theorem fld_232_1 : fld Tryz.prog 232 1 = some 1 := by kernel_rfl
theorem fld_232_2 : fld Tryz.prog 232 2 = some 2 := by kernel_rfl
theorem zer_232 : zer Tryz.prog 232 = some (.agg #[.string ByteArray.empty, .slice none 0 0, .int .i64 0]) := by kernel_rfl
theorem elb_232 : elemB Tryz.prog 232 3 = true := by kernel_rfl
theorem bld_232 : bld Tryz.prog 232 [(0, 1), (1, 1), (2, 1)] (.pr .str (.pr (.sl 3 .int) .int)) := bld_of Tryz.underlying232 (by kernel_rfl) zer_232
theorem und_233 : Tryz.prog.underlying 233 = some (.slice 232) := by kernel_rfl
theorem und_253 : Tryz.prog.underlying 253 = some (.int .u64) := by kernel_rfl
theorem tsh_255 : tsh Tryz.prog 255 = some (true, 6) := by kernel_rfl
theorem zer_255 : zer Tryz.prog 255 = some (.agg #[.slice none 0 0, .slice none 0 0, .slice none 0 0, .int .i64 0, .int .i64 0, .bool false]) := by kernel_rfl
theorem bld_255 : bld Tryz.prog 255 [(0, 2), (2, 1), (3, 1), (4, 1), (5, 1)] (.pr (.pr (.sl 9 .str) (.sl 229 (.pr .int (.pr .int .int)))) (.pr (.sl 229 (.pr .int (.pr .int .int))) (.pr .int (.pr .int .bool)))) := bld_of Tryz.underlying255 (by kernel_rfl) zer_255
theorem zer_289 : zer Tryz.prog 289 = some (.agg #[.int .i64 0, .int .i64 0]) := by kernel_rfl
theorem elb_289 : elemB Tryz.prog 289 2 = true := by kernel_rfl
theorem bld_289 : bld Tryz.prog 289 [(0, 1), (1, 1)] (.pr .int .int) := bld_of Tryz.underlying289 (by kernel_rfl) zer_289
theorem und_359 : Tryz.prog.underlying 359 = some (.map 9 3) := by kernel_rfl
theorem enters_30 : Enters Tryz.prog 30 := fun args W => run_enter Tryz.func30 (by kernel_rfl) rfl args W
theorem enters_31 : Enters Tryz.prog 31 := fun args W => run_enter Tryz.func31 (by kernel_rfl) rfl args W
theorem enters_32 : Enters Tryz.prog 32 := fun args W => run_enter Tryz.func32 (by kernel_rfl) rfl args W
theorem enters_33 : Enters Tryz.prog 33 := fun args W => run_enter Tryz.func33 (by kernel_rfl) rfl args W
theorem enters_34 : Enters Tryz.prog 34 := fun args W => run_enter Tryz.func34 (by kernel_rfl) rfl args W
theorem enters_62 : Enters Tryz.prog 62 := fun args W => run_enter Tryz.func62 (by kernel_rfl) rfl args W
theorem enters_77 : Enters Tryz.prog 77 := fun args W => run_enter Tryz.func77 (by kernel_rfl) rfl args W
theorem enters_79 : Enters Tryz.prog 79 := fun args W => run_enter Tryz.func79 (by kernel_rfl) rfl args W
theorem enters_84 : Enters Tryz.prog 84 := fun args W => run_enter Tryz.func84 (by kernel_rfl) rfl args W
theorem enters_88 : Enters Tryz.prog 88 := fun args W => run_enter Tryz.func88 (by kernel_rfl) rfl args W
theorem enters_90 : Enters Tryz.prog 90 := fun args W => run_enter Tryz.func90 (by kernel_rfl) rfl args W
theorem enters_106 : Enters Tryz.prog 106 := fun args W => run_enter Tryz.func106 (by kernel_rfl) rfl args W
theorem enters_107 : Enters Tryz.prog 107 := fun args W => run_enter Tryz.func107 (by kernel_rfl) rfl args W
theorem enters_108 : Enters Tryz.prog 108 := fun args W => run_enter Tryz.func108 (by kernel_rfl) rfl args W
theorem enters_112 : Enters Tryz.prog 112 := fun args W => run_enter Tryz.func112 (by kernel_rfl) rfl args W
theorem enters_113 : Enters Tryz.prog 113 := fun args W => run_enter Tryz.func113 (by kernel_rfl) rfl args W
theorem enters_114 : Enters Tryz.prog 114 := fun args W => run_enter Tryz.func114 (by kernel_rfl) rfl args W
theorem enters_115 : Enters Tryz.prog 115 := fun args W => run_enter Tryz.func115 (by kernel_rfl) rfl args W
theorem enters_124 : Enters Tryz.prog 124 := fun args W => run_enter Tryz.func124 (by kernel_rfl) rfl args W
theorem enters_142 : Enters Tryz.prog 142 := fun args W => run_enter Tryz.func142 (by kernel_rfl) rfl args W
theorem enters_151 : Enters Tryz.prog 151 := fun args W => run_enter Tryz.func151 (by kernel_rfl) rfl args W
theorem enters_152 : Enters Tryz.prog 152 := fun args W => run_enter Tryz.func152 (by kernel_rfl) rfl args W
theorem enters_153 : Enters Tryz.prog 153 := fun args W => run_enter Tryz.func153 (by kernel_rfl) rfl args W
theorem enters_154 : Enters Tryz.prog 154 := fun args W => run_enter Tryz.func154 (by kernel_rfl) rfl args W
theorem enters_164 : Enters Tryz.prog 164 := fun args W => run_enter Tryz.func164 (by kernel_rfl) rfl args W
theorem enters_167 : Enters Tryz.prog 167 := fun args W => run_enter Tryz.func167 (by kernel_rfl) rfl args W
theorem enters_169 : Enters Tryz.prog 169 := fun args W => run_enter Tryz.func169 (by kernel_rfl) rfl args W
theorem enters_171 : Enters Tryz.prog 171 := fun args W => run_enter Tryz.func171 (by kernel_rfl) rfl args W
theorem enters_174 : Enters Tryz.prog 174 := fun args W => run_enter Tryz.func174 (by kernel_rfl) rfl args W
theorem enters_175 : Enters Tryz.prog 175 := fun args W => run_enter Tryz.func175 (by kernel_rfl) rfl args W
theorem enters_176 : Enters Tryz.prog 176 := fun args W => run_enter Tryz.func176 (by kernel_rfl) rfl args W
theorem enters_177 : Enters Tryz.prog 177 := fun args W => run_enter Tryz.func177 (by kernel_rfl) rfl args W
theorem enters_178 : Enters Tryz.prog 178 := fun args W => run_enter Tryz.func178 (by kernel_rfl) rfl args W
theorem enters_179 : Enters Tryz.prog 179 := fun args W => run_enter Tryz.func179 (by kernel_rfl) rfl args W
theorem enters_180 : Enters Tryz.prog 180 := fun args W => run_enter Tryz.func180 (by kernel_rfl) rfl args W
theorem enters_181 : Enters Tryz.prog 181 := fun args W => run_enter Tryz.func181 (by kernel_rfl) rfl args W
theorem enters_182 : Enters Tryz.prog 182 := fun args W => run_enter Tryz.func182 (by kernel_rfl) rfl args W
theorem enters_183 : Enters Tryz.prog 183 := fun args W => run_enter Tryz.func183 (by kernel_rfl) rfl args W
theorem enters_207 : Enters Tryz.prog 207 := fun args W => run_enter Tryz.func207 (by kernel_rfl) rfl args W
theorem enters_208 : Enters Tryz.prog 208 := fun args W => run_enter Tryz.func208 (by kernel_rfl) rfl args W
theorem enters_209 : Enters Tryz.prog 209 := fun args W => run_enter Tryz.func209 (by kernel_rfl) rfl args W
theorem enters_210 : Enters Tryz.prog 210 := fun args W => run_enter Tryz.func210 (by kernel_rfl) rfl args W
theorem enters_211 : Enters Tryz.prog 211 := fun args W => run_enter Tryz.func211 (by kernel_rfl) rfl args W
theorem enters_215 : Enters Tryz.prog 215 := fun args W => run_enter Tryz.func215 (by kernel_rfl) rfl args W
theorem enters_216 : Enters Tryz.prog 216 := fun args W => run_enter Tryz.func216 (by kernel_rfl) rfl args W
theorem enters_217 : Enters Tryz.prog 217 := fun args W => run_enter Tryz.func217 (by kernel_rfl) rfl args W
theorem enters_218 : Enters Tryz.prog 218 := fun args W => run_enter Tryz.func218 (by kernel_rfl) rfl args W
theorem enters_219 : Enters Tryz.prog 219 := fun args W => run_enter Tryz.func219 (by kernel_rfl) rfl args W
theorem enters_220 : Enters Tryz.prog 220 := fun args W => run_enter Tryz.func220 (by kernel_rfl) rfl args W
theorem enters_224 : Enters Tryz.prog 224 := fun args W => run_enter Tryz.func224 (by kernel_rfl) rfl args W
theorem enters_230 : Enters Tryz.prog 230 := fun args W => run_enter Tryz.func230 (by kernel_rfl) rfl args W
theorem enters_231 : Enters Tryz.prog 231 := fun args W => run_enter Tryz.func231 (by kernel_rfl) rfl args W
theorem enters_248 : Enters Tryz.prog 248 := fun args W => run_enter Tryz.func248 (by kernel_rfl) rfl args W
theorem enters_252 : Enters Tryz.prog 252 := fun args W => run_enter Tryz.func252 (by kernel_rfl) rfl args W
theorem enters_253 : Enters Tryz.prog 253 := fun args W => run_enter Tryz.func253 (by kernel_rfl) rfl args W
theorem enters_254 : Enters Tryz.prog 254 := fun args W => run_enter Tryz.func254 (by kernel_rfl) rfl args W
theorem enters_255 : Enters Tryz.prog 255 := fun args W => run_enter Tryz.func255 (by kernel_rfl) rfl args W
theorem enters_256 : Enters Tryz.prog 256 := fun args W => run_enter Tryz.func256 (by kernel_rfl) rfl args W
theorem enters_258 : Enters Tryz.prog 258 := fun args W => run_enter Tryz.func258 (by kernel_rfl) rfl args W
theorem enters_269 : Enters Tryz.prog 269 := fun args W => run_enter Tryz.func269 (by kernel_rfl) rfl args W
theorem enters_270 : Enters Tryz.prog 270 := fun args W => run_enter Tryz.func270 (by kernel_rfl) rfl args W
theorem enters_271 : Enters Tryz.prog 271 := fun args W => run_enter Tryz.func271 (by kernel_rfl) rfl args W
theorem enters_272 : Enters Tryz.prog 272 := fun args W => run_enter Tryz.func272 (by kernel_rfl) rfl args W
theorem enters_281 : Enters Tryz.prog 281 := fun args W => run_enter Tryz.func281 (by kernel_rfl) rfl args W
theorem enters_287 : Enters Tryz.prog 287 := fun args W => run_enter Tryz.func287 (by kernel_rfl) rfl args W
theorem enters_288 : Enters Tryz.prog 288 := fun args W => run_enter Tryz.func288 (by kernel_rfl) rfl args W
theorem enters_289 : Enters Tryz.prog 289 := fun args W => run_enter Tryz.func289 (by kernel_rfl) rfl args W
theorem enters_291 : Enters Tryz.prog 291 := fun args W => run_enter Tryz.func291 (by kernel_rfl) rfl args W
theorem enters_292 : Enters Tryz.prog 292 := fun args W => run_enter Tryz.func292 (by kernel_rfl) rfl args W
theorem enters_294 : Enters Tryz.prog 294 := fun args W => run_enter Tryz.func294 (by kernel_rfl) rfl args W
theorem enters_307 : Enters Tryz.prog 307 := fun args W => run_enter Tryz.func307 (by kernel_rfl) rfl args W
theorem enters_308 : Enters Tryz.prog 308 := fun args W => run_enter Tryz.func308 (by kernel_rfl) rfl args W
theorem enters_309 : Enters Tryz.prog 309 := fun args W => run_enter Tryz.func309 (by kernel_rfl) rfl args W
theorem enters_343 : Enters Tryz.prog 343 := fun args W => run_enter Tryz.func343 (by kernel_rfl) rfl args W
theorem enters_349 : Enters Tryz.prog 349 := fun args W => run_enter Tryz.func349 (by kernel_rfl) rfl args W
theorem enters_351 : Enters Tryz.prog 351 := fun args W => run_enter Tryz.func351 (by kernel_rfl) rfl args W
end Go.Proofs.YtjaadeknhofhpaaGreat

/- Abstract states: answers that own several slices. No program is named here. -/
namespace Go.Proofs.YtjaadeknhofhpaaGreat
open Go.RowKit

@[reducible] def Is (pv : PV) (T : Tab) : PV → Tab → Prop := fun p T' => p = pv ∧ T' = T
def FrL (s : St) (n : Nat) : List Nat → Prop
  | [] => True
  | q :: l => Fresh s (n + q) ∧ FrL s n l
theorem FrL.get {s : St} {n : Nat} {l : List Nat} (h : FrL s n l) : ∀ q ∈ l, Fresh s (n + q) := by
  induction l with
  | nil => simp
  | cons q l ih =>
    intro r hr
    rcases List.mem_cons.1 hr with rfl | hr
    · exact h.1
    · exact ih h.2 r hr
section
variable {A : Amb} {P : Program} {s : St}
variable {f : FuncId} {xs : List Operand} {tys : Array TypeId} {args : List (Bool × List LV)} {d : Nat} {ty : TypeId} {pos : String} {af : Array Edge} {g : Option (Nat × Bool)} {pv : PV} {T : Tab}
theorem Does.callG (n : Nat) (hc : FC P f args [] 0 (Is pv T)) (hE : Enters P f) (ha : EvL A s xs args) (hcl : closedB pv T = true) (hn : Nat.blt d A.n = true) (hfr : FrL s n (tabTags T)) (hk0 : A.k0 ≤ n) :
    Does A P ⟨some d, .call ⟨.value (.func f), xs.toArray, tys⟩, ty, pos, af, g⟩ s (s.back d n pv T) :=
  fun a w K Q r hK => DoesT.call n hc hE ha (by rintro _ _ ⟨rfl, rfl⟩; exact hcl) (by rintro _ _ ⟨rfl, rfl⟩ q ⟨e, hq⟩; exact hfr.get q (tabTags_spec hq).1) hk0 hn a w K Q r (by
    rintro s' a' w' ⟨_, _, ⟨rfl, rfl⟩, rfl⟩ r'
    exact hK _ _ r')
theorem Does.callGB (n : Nat) (hc : FC P f args [] 0 (Is pv T)) (hE : Enters P f) (ha : EvLB A s xs args) (hcl : closedB pv T = true) (hf : (pv.fl && T.fl) = true) (hn : Nat.blt d A.n = true) (hfr : FrL s n (tabTags T)) (hk0 : A.k0 ≤ n) :
    Does A P ⟨some d, .call ⟨.value (.func f), xs.toArray, tys⟩, ty, pos, af, g⟩ s (s.back d n pv T) :=
  fun a w K Q r hK => DoesT.callB n hc hE ha (by rintro _ _ ⟨rfl, rfl⟩; exact hcl) (by rintro _ _ ⟨rfl, rfl⟩; simpa using hf) (by rintro _ _ ⟨rfl, rfl⟩ q ⟨e, hq⟩; exact hfr.get q (tabTags_spec hq).1) hk0 hn a w K Q r (by
    rintro s' a' w' ⟨_, _, ⟨rfl, rfl⟩, rfl⟩ r'
    exact hK _ _ r')
theorem fin_is {fn : Func} {k : Nat} (pv : PV) (T' : Tab) (ρ : List (Nat × Nat)) {pv0 : PV} (h1 : Res A P fn s pv0) (h0 : pv0 = pv.ren (rn ρ)) (h2 : HasE ⟨[], s.tab⟩ ρ T') (h3 : dupB (T'.map fun x => rn ρ x.1) = true) (h4 : idB ρ k = true) : fin A P fn (RenO (Is pv T') k) .ret s :=
  fin_ret pv T' ρ (h0 ▸ h1) h2 h3 h4 ⟨rfl, rfl⟩
end
/-! Frozen answers -/
def LV.thaw (T : Tab) : LV → LV
  | .ref q => match T.ent q with
    | some (.arr E e xs) => .dat (.sl E e) xs
    | _ => .ref q
  | l => l
def PV.thaw (T : Tab) : PV → PV
  | .cm b ls => .cm b (ls.map (LV.thaw T))
  | .tup cs => .tup (cs.map fun c => (c.1, c.2.map (LV.thaw T)))
section
variable {T : Tab} {gh : Gh} {w : World}
theorem LVR.thaw (cx : Cx T gh w) {l : LV} {v : Value} (h : LVR T.al gh w l v) : LVR (Tab.al []) ⟨gh.h, gh.f, fun g => gh.N g ∨ ∃ q, T.al q ∧ g ∈ gh.f q⟩ w (l.thaw T) v := by
  have hm : ∀ l, LVR T.al gh w l v → LVR (Tab.al []) ⟨gh.h, gh.f, fun g => gh.N g ∨ ∃ q, T.al q ∧ g ∈ gh.f q⟩ w l v := fun l h => h.mono (fun q _ h => absurd h (al_nil q)) fun g hg => ⟨.inl hg, rfl⟩
  cases l with
  | ref q =>
    simp only [LV.thaw]
    split
    · rename_i E e xs he
      have hv : v = gh.h q := h ⟨_, he⟩
      have hO : Own (.sl E e) w (gh.f q) [gh.h q] xs := cx.en q _ he
      rw [hv]
      exact hO.rd fun g hg => .inr ⟨q, ⟨_, he⟩, hg⟩
    · exact hm _ h
  | _ => exact hm _ h
theorem LVs.thaw (cx : Cx T gh w) {ls : List LV} {vs : List Value} (h : LVs T.al gh w ls vs) : LVs (Tab.al []) ⟨gh.h, gh.f, fun g => gh.N g ∨ ∃ q, T.al q ∧ g ∈ gh.f q⟩ w (ls.map (LV.thaw T)) vs := by
  induction ls generalizing vs with
  | nil => exact h
  | cons l ls ih => obtain ⟨v, vs', rfl, h1, h2⟩ := h; exact ⟨v, _, rfl, h1.thaw cx, ih h2⟩
theorem CmR.thaw (cx : Cx T gh w) {c : Bool × List LV} {v : Value} (h : CmR T.al gh w c v) : CmR (Tab.al []) ⟨gh.h, gh.f, fun g => gh.N g ∨ ∃ q, T.al q ∧ g ∈ gh.f q⟩ w (c.1, c.2.map (LV.thaw T)) v := by
  obtain ⟨b, ls⟩ := c
  cases b with
  | true => obtain ⟨vs, rfl, h1⟩ := h; exact ⟨vs, rfl, h1.thaw cx⟩
  | false => obtain ⟨l, rfl, h1⟩ := h; exact ⟨_, rfl, h1.thaw cx⟩
theorem PVR.thaw (cx : Cx T gh w) {pv : PV} {v : Value} (h : PVR T.al gh w pv v) : PVR (Tab.al []) ⟨gh.h, gh.f, fun g => gh.N g ∨ ∃ q, T.al q ∧ g ∈ gh.f q⟩ w (pv.thaw T) v := by
  cases pv with
  | cm b ls => exact CmR.thaw cx (c := (b, ls)) h
  | tup cs =>
    obtain ⟨vs, rfl, h1⟩ := h
    refine ⟨vs, rfl, ?_⟩
    induction cs generalizing vs with
    | nil => exact h1
    | cons c cs ih => obtain ⟨v, vs', rfl, h2, h3⟩ := h1; exact ⟨v, _, rfl, h2.thaw cx, ih _ h3⟩
end
theorem FC.frozenG {P : Program} {f : FuncId} {args : List (Bool × List LV)} {pv : PV} {T : Tab} (h : FC P f args [] 0 (Is pv T)) : FC P f args [] 0 (Pure (pv.thaw T)) := fun gh w vs cx ha =>
  Calls.mono (h gh w vs cx ha) fun e' w' he => by
    obtain ⟨v, pv', T', gh', rfl, ⟨rfl, rfl⟩, cx', hp, fr, _⟩ := he
    refine ⟨v, _, [], _, rfl, ⟨rfl, rfl⟩, tombless al_nil _ _ fun g hg => ?_, hp.thaw cx', ⟨fr.gw, fr.kp, fun g hg => ?_, fun q hq => absurd hq (al_nil q)⟩, fun q hq => absurd hq (by omega)⟩
    · rcases hg with hg | ⟨q, hq, hg⟩
      · exact cx'.nl g hg
      · exact cx'.lt hq g hg
    · rcases hg with hg | ⟨q, hq, hg⟩
      · exact fr.nn g hg
      · rcases fr.ox q hq g hg with h | ⟨q', h, _⟩
        · exact .inr (.inl h)
        · exact absurd h (al_nil q')

theorem Acts.of1 {A : Amb} {P : Program} {ops : Array Oper} {o : Oper} {s s1 s' : St} (hg : o.guard = none) (h : Does A P o s s1) (e : s1 = s') : Acts A P ops o s s' := e ▸ Acts.of hg h
theorem Acts.yes1 {A : Amb} {P : Program} {ops : Array Oper} {o : Oper} {s s1 s' : St} {j d : Nat} {b : Bool} (hg : o.guard = some (j, b)) (hd : (ops[j]?).bind (·.dst) = some d) (hb : lk s.tm d = some (lf (dB b))) (h : Does A P o s s1) (e : s1 = s') : Acts A P ops o s s' := e ▸ Acts.yes hg hd hb h
/-! A nil slice as one's own -/
section
variable {A : Amb} {s : St}
theorem Wk.nilS (t i : Nat) (E : TypeId) (e : Ty) (hi : lk s.tm i = some (lf (.val (.slice none 0 0)))) (hfr : Fresh s t) (hk0 : A.k0 ≤ t) : Wk A s ⟨(i, lf (.ref t)) :: s.tm, (t, some (.arr E e [])) :: s.tab⟩ := fun a w r => by
  obtain ⟨gh, r⟩ := r
  obtain ⟨v, h1, l, h2, h3⟩ := r.tm i _ hi
  simp only [List.cons.injEq, and_true] at h2
  subst h2
  have hv : v = .slice none 0 0 := h3
  have r2 := r.make t hfr hk0 [] (by simp) (Grw.refl w) (fun _ _ _ => rfl) (E := E) (e := e) (xs := []) (hv := .slice none 0 0) (fp := []) (.inl ⟨rfl, rfl, rfl⟩) List.nodup_nil (by simp)
  exact ⟨_, r2.know h1 (pv := lf (.ref t)) ⟨_, rfl, fun _ => by simp [hv]⟩⟩
theorem Wk.nilC (t : Nat) {p off : Nat} {E' : TypeId} {cs : List LV} (E : TypeId) (e : Ty) (hp : s.tab.ent p = some (.box E' cs)) (ho : cs[off]? = some (.val (.slice none 0 0))) (hfr : Fresh s t) (hk0 : A.k0 ≤ t) :
    Wk A s ⟨s.tm, (p, some (.box E' (splice cs off [.ref t]))) :: (t, some (.arr E e [])) :: s.tab⟩ := fun a w r => by
  obtain ⟨gh, r⟩ := r
  have hne : p ≠ t := fun h => hfr.al ⟨_, h ▸ hp⟩
  obtain ⟨g, cur, h1, h2, h3, h4⟩ := r.cx.en p _ hp
  obtain ⟨v, h5, h6⟩ := h4.nth ho
  have hv : v = .slice none 0 0 := h6
  have r2 := r.make t hfr hk0 [] (by simp) (Grw.refl w) (fun _ _ _ => rfl) (E := E) (e := e) (xs := []) (hv := .slice none 0 0) (fp := []) (.inl ⟨rfl, rfl, rfl⟩) List.nodup_nil (by simp)
  have hp' : Tab.ent ((t, some (.arr E e [])) :: (tombs [] ++ s.tab)) p = some (.box E' cs) := by rw [Tab.ent_cons, if_neg hne]; exact hp
  obtain ⟨g', cur', k1, k2, k3, k4⟩ := r2.cx.en p _ hp'
  simp only [if_neg hne] at k1 k2
  rw [h1] at k1
  cases k1
  rw [h3] at k3
  cases k3
  have hD : LVs (Tab.al ((t, some (.arr E e [])) :: (tombs [] ++ s.tab))) ⟨fun q => if q = t then .slice none 0 0 else gh.h q, fun q => if q = t then [] else gh.f q, gh.N⟩ w [.ref t] [v] := ⟨v, [], rfl, fun _ => by simp [hv], rfl⟩
  have hS := k4.splice hD (off := off)
  have hsame : cur.toList.take off ++ [v] ++ cur.toList.drop (off + [v].length) = cur.toList := by
    have hl := (List.getElem?_eq_some_iff.1 h5)
    obtain ⟨hl, hl2⟩ := hl
    conv => rhs; rw [← List.take_append_drop (off + 1) cur.toList, List.take_succ_eq_append_getElem hl, hl2]
    rfl
  rw [hsame] at hS
  exact ⟨_, r2.mod hp' (Grw.refl w) (fun _ _ _ => rfl) ⟨g, cur, by simp only [if_neg hne]; exact h1, by simp only [if_neg hne]; exact h2, h3, hS⟩⟩
end
end Go.Proofs.YtjaadeknhofhpaaGreat

/- Abstract states: own slices whose elements own slices, opened cell by cell. No program is named here. -/
namespace Go.Proofs.YtjaadeknhofhpaaGreat
open Go.RowKit

section
variable {al : Nat → Prop} {gh : Gh} {w : World}
theorem LOs.app {l1 l2 : List LV} {f1 f2 : List Nat} {c1 c2 : List Value} (h : LOs al gh w l1 f1 c1) (k : LOs al gh w l2 f2 c2) : LOs al gh w (l1 ++ l2) (f1 ++ f2) (c1 ++ c2) := by
  induction l1 generalizing f1 c1 with
  | nil => obtain ⟨rfl, rfl⟩ := h; exact k
  | cons l ls ih => obtain ⟨fa, fb, v, cs', rfl, rfl, h1, h2⟩ := h; exact ⟨fa, fb ++ f2, v, cs' ++ c2, by rw [List.append_assoc], rfl, h1, ih h2⟩
theorem LOs.split {l1 l2 : List LV} {f : List Nat} {c : List Value} (h : LOs al gh w (l1 ++ l2) f c) : ∃ f1 f2 c1 c2, f = f1 ++ f2 ∧ c = c1 ++ c2 ∧ LOs al gh w l1 f1 c1 ∧ LOs al gh w l2 f2 c2 := by
  induction l1 generalizing f c with
  | nil => exact ⟨[], f, [], c, rfl, rfl, ⟨rfl, rfl⟩, h⟩
  | cons l ls ih =>
    obtain ⟨fa, fb, v, cs', rfl, rfl, h1, h2⟩ := h
    obtain ⟨g1, g2, d1, d2, rfl, rfl, h3, h4⟩ := ih h2
    exact ⟨fa ++ g1, g2, v :: d1, d2, by rw [List.append_assoc], rfl, ⟨fa, g1, v, d1, rfl, rfl, h1, h3⟩, h4⟩
theorem LOs.len {ls : List LV} {f : List Nat} {cs : List Value} (h : LOs al gh w ls f cs) : cs.length = ls.length := by
  induction ls generalizing f cs with
  | nil => rw [h.2]; rfl
  | cons l ls ih => obtain ⟨f1, f2, v, cs', rfl, rfl, h1, h2⟩ := h; simp [ih h2]
/-- The cell at p. -/
theorem LOs.parts {ls : List LV} {f : List Nat} {cs : List Value} (h : LOs al gh w ls f cs) {p : Nat} {l : LV} (hl : ls[p]? = some l) :
    ∃ fa f1 fb ca v cb, f = fa ++ (f1 ++ fb) ∧ cs = ca ++ v :: cb ∧ ca.length = p ∧ LOs al gh w (ls.take p) fa ca ∧ LO al gh w l f1 v ∧ LOs al gh w (ls.drop (p + 1)) fb cb := by
  obtain ⟨hlt, hl2⟩ := List.getElem?_eq_some_iff.1 hl
  have e : ls = ls.take p ++ l :: ls.drop (p + 1) := by
    conv => lhs; rw [← List.take_append_drop p ls, List.drop_eq_getElem_cons hlt, hl2]
  rw [e] at h
  obtain ⟨fa, f2, ca, c2, rfl, rfl, h1, h2⟩ := LOs.split h
  obtain ⟨f1, fb, v, cb, rfl, rfl, h3, h4⟩ := h2
  refine ⟨fa, f1, fb, ca, v, cb, rfl, rfl, ?_, h1, h3, h4⟩
  rw [h1.len, List.length_take]; omega
theorem LOs.put {ls : List LV} {p : Nat} {l : LV} {fa f1 fb : List Nat} {ca cb : List Value} {v : Value} (hp : p < ls.length) (h1 : LOs al gh w (ls.take p) fa ca) (h2 : LO al gh w l f1 v) (h3 : LOs al gh w (ls.drop (p + 1)) fb cb) :
    LOs al gh w (ls.set p l) (fa ++ (f1 ++ fb)) (ca ++ v :: cb) := by
  rw [List.set_eq_take_append_cons_drop, if_pos hp]
  exact h1.app ⟨f1, fb, v, cb, rfl, rfl, h2, h3⟩
theorem Own.los : ∀ {t : Ty} {f : List Nat} {cs : List Value} {x : t.Den}, Own t w f cs x → LOs al gh w (leaves t x) f cs
  | .int, f, cs, x, h => by have h1 := h.1; have h2 := h.2.1; subst h1; subst h2; exact ⟨[], [], _, [], rfl, rfl, h, rfl, rfl⟩
  | .bool, f, cs, x, h => by have h1 := h.1; have h2 := h.2; subst h1; subst h2; exact ⟨[], [], _, [], rfl, rfl, h, rfl, rfl⟩
  | .str, f, cs, x, h => by have h1 := h.1; have h2 := h.2.1; subst h1; subst h2; exact ⟨[], [], _, [], rfl, rfl, h, rfl, rfl⟩
  | .u8, f, cs, x, h => by have h1 := h.1; have h2 := h.2; subst h1; subst h2; exact ⟨[], [], _, [], rfl, rfl, h, rfl, rfl⟩
  | .vl, f, cs, x, h => by have h1 := h.1; have h2 := h.2; subst h1; subst h2; exact ⟨[], [], _, [], rfl, rfl, h, rfl, rfl⟩
  | .sl E e, f, cs, x, h => by
    have hl := h.len
    match cs, hl with
    | [v], _ => exact ⟨f, [], v, [], by simp, rfl, h, rfl, rfl⟩
  | .pr a b, _, _, _, ⟨f1, f2, l, r, rfl, rfl, h2, h3⟩ => LOs.app (Own.los h2) (Own.los h3)
theorem LOs.own : ∀ {t : Ty} {f : List Nat} {cs : List Value} {x : t.Den}, LOs al gh w (leaves t x) f cs → Own t w f cs x
  | .int, f, cs, x, ⟨f1, f2, v, cs', h1, h2, h3, h4, h5⟩ => by subst h1; subst h2; subst h4; subst h5; rw [List.append_nil]; exact h3
  | .bool, f, cs, x, ⟨f1, f2, v, cs', h1, h2, h3, h4, h5⟩ => by subst h1; subst h2; subst h4; subst h5; rw [List.append_nil]; exact h3
  | .str, f, cs, x, ⟨f1, f2, v, cs', h1, h2, h3, h4, h5⟩ => by subst h1; subst h2; subst h4; subst h5; rw [List.append_nil]; exact h3
  | .u8, f, cs, x, ⟨f1, f2, v, cs', h1, h2, h3, h4, h5⟩ => by subst h1; subst h2; subst h4; subst h5; rw [List.append_nil]; exact h3
  | .vl, f, cs, x, ⟨f1, f2, v, cs', h1, h2, h3, h4, h5⟩ => by subst h1; subst h2; subst h4; subst h5; rw [List.append_nil]; exact h3
  | .sl E e, f, cs, x, ⟨f1, f2, v, cs', h1, h2, h3, h4, h5⟩ => by subst h1; subst h2; subst h4; subst h5; rw [List.append_nil]; exact h3
  | .pr a b, f, cs, x, h => by
    obtain ⟨f1, f2, c1, c2, rfl, rfl, h1, h2⟩ := LOs.split h
    exact ⟨f1, f2, c1, c2, rfl, rfl, LOs.own h1, LOs.own h2⟩
/-- The cells of all elements. -/
def cellsL (e : Ty) (xs : List e.Den) : List LV := xs.flatMap (leaves e)
theorem OwnL.los {e : Ty} : ∀ {xs : List e.Den} {f : List Nat} {cs : List Value}, OwnL (Own e w) f cs xs → LOs al gh w (cellsL e xs) f cs
  | [], _, _, h => h
  | x :: xs, _, _, ⟨f1, f2, c1, c2, rfl, rfl, h3, h4⟩ => by
    show LOs al gh w (leaves e x ++ cellsL e xs) _ _
    exact (Own.los h3).app (OwnL.los h4)
theorem LOs.ownL {e : Ty} : ∀ {xs : List e.Den} {f : List Nat} {cs : List Value}, LOs al gh w (cellsL e xs) f cs → OwnL (Own e w) f cs xs
  | [], _, _, h => h
  | x :: xs, _, _, h => by
    have h : LOs al gh w (leaves e x ++ cellsL e xs) _ _ := h
    obtain ⟨f1, f2, c1, c2, rfl, rfl, h1, h2⟩ := LOs.split h
    exact ⟨f1, f2, c1, c2, rfl, rfl, LOs.own h1, LOs.ownL h2⟩
theorem cellsL_len (e : Ty) (xs : List e.Den) : (cellsL e xs).length = xs.length * e.wd := by
  induction xs with
  | nil => simp [cellsL]
  | cons x xs ih =>
    show (leaves e x ++ cellsL e xs).length = _
    rw [List.length_append, leaves_len, ih, List.length_cons, Nat.add_mul, Nat.one_mul, Nat.add_comm]
theorem cellsL_get {e : Ty} {xs : List e.Den} {i j : Nat} {x : e.Den} {l : LV} (hx : xs[i]? = some x) (hl : (leaves e x)[j]? = some l) : (cellsL e xs)[i * e.wd + j]? = some l := by
  induction xs generalizing i with
  | nil => simp at hx
  | cons y ys ih =>
    show (leaves e y ++ cellsL e ys)[_]? = _
    have hj : j < e.wd := by rw [← leaves_len e x]; exact (List.getElem?_eq_some_iff.1 hl).1
    cases i with
    | zero =>
      simp at hx
      subst hx
      rw [Nat.zero_mul, Nat.zero_add, List.getElem?_append_left (by rw [leaves_len]; exact hj)]
      exact hl
    | succ i =>
      rw [List.getElem?_append_right (by rw [leaves_len, Nat.add_mul]; omega), leaves_len]
      rw [show (i + 1) * e.wd + j - e.wd = i * e.wd + j by rw [Nat.add_mul]; omega]
      exact ih (by simpa using hx)
theorem cellsL_set {e : Ty} {xs : List e.Den} {i j : Nat} {x x' : e.Den} {l : LV} (hx : xs[i]? = some x) (hl : leaves e x' = (leaves e x).set j l) (hj : j < e.wd) : cellsL e (xs.set i x') = (cellsL e xs).set (i * e.wd + j) l := by
  induction xs generalizing i with
  | nil => simp at hx
  | cons y ys ih =>
    cases i with
    | zero =>
      simp at hx
      subst hx
      show leaves e x' ++ cellsL e ys = (leaves e y ++ cellsL e ys).set _ l
      rw [Nat.zero_mul, Nat.zero_add, List.set_append_left _ _ (by rw [leaves_len]; exact hj), hl]
    | succ i =>
      show leaves e y ++ cellsL e (ys.set i x') = (leaves e y ++ cellsL e ys).set _ l
      rw [List.set_append_right _ _ (by rw [leaves_len, Nat.add_mul]; omega), leaves_len, ih (by simpa using hx)]
      congr 2
      rw [Nat.add_mul]; omega
end

theorem cellsL_tags (e : Ty) : ∀ (xs : List e.Den), lvsTags (cellsL e xs) = []
  | [] => rfl
  | x :: xs => by rw [show cellsL e (x :: xs) = leaves e x ++ cellsL e xs from rfl, lvsTags_app, leaves_tags, cellsL_tags e xs]; rfl
section
variable {A : Amb} {P : Program} {s : St} {x y : Operand} {d : Nat} {T T' ty : TypeId} {pos : String} {af : Array Edge} {g : Option (Nat × Bool)}
theorem Wk.open {q : Nat} {E : TypeId} {e : Ty} {xs : List e.Den} (he : s.tab.ent q = some (.arr E e xs)) (hl : 0 < xs.length) : Wk A s ⟨s.tm, (q, some (.obx E e.wd xs.length (cellsL e xs) [])) :: s.tab⟩ := fun a w r => by
  obtain ⟨gh, r⟩ := r
  have hO : Own (.sl E e) w (gh.f q) [gh.h q] xs := r.cx.en q _ he
  rcases hO with ⟨_, _, h⟩ | ⟨b, cap, cur, fps, h2, h3, h4, h5, h6, h7, h8⟩
  · subst h; simp at hl
  · simp only [List.cons.injEq, and_true] at h3
    exact ⟨gh, r.mod he (Grw.refl w) (fun _ _ _ => rfl) ⟨cellsL_tags e xs, b, cap, cur, fps, h3, h2, h4, h5, h6, h7, cellsL_len e xs, h8.los⟩⟩
theorem Wk.close {q n : Nat} {E : TypeId} {e : Ty} {ls : List LV} {ov : List (Nat × LV)} (xs : List e.Den) (he : s.tab.ent q = some (.obx E e.wd n ls ov)) (hn : n = xs.length) (hl : ovr ls ov = cellsL e xs) : Wk A s ⟨s.tm, (q, some (.arr E e xs)) :: s.tab⟩ := fun a w r => by
  subst hn
  obtain ⟨gh, r⟩ := r
  obtain ⟨h00, g, cap, cur, fps, h1, h2, h3, h4, h5, h6, h7, h8⟩ := r.cx.en q _ he
  refine ⟨gh, r.mod he (Grw.refl w) (fun _ _ _ => rfl) ?_⟩
  refine .inr ⟨g, cap, cur, fps, h2, by rw [h1], h3, h4, h5, h6, (hl ▸ h8).ownL⟩
/-- The cell p for itself: the tag t. -/
theorem Wk.splitX (t : Nat) {q wd n p : Nat} {E E' : TypeId} {e' : Ty} {ys : List e'.Den} {ls : List LV} {ov : List (Nat × LV)} (he : s.tab.ent q = some (.obx E wd n ls ov)) (hl : (ovr ls ov)[p]? = some (.dat (.sl E' e') ys)) (hfr : Fresh s t) (hk0 : A.k0 ≤ t) :
    Wk A s ⟨s.tm, (t, some (.arr E' e' ys)) :: (q, some (.obx E wd n ls ((p, .ref t) :: ov))) :: s.tab⟩ := fun a w r => by
  obtain ⟨gh, r⟩ := r
  have hq : s.tab.al q := ⟨_, he⟩
  have hqt : q ≠ t := fun h => hfr.al (h ▸ hq)
  obtain ⟨h00, g, cap, cur, fps, h1, h2, h3, h4, h5, h6, h7, h8⟩ := r.cx.en q _ he
  obtain ⟨fa, f1, fb, ca, v, cb, k1, k2, k3, k4, k5, k6⟩ := h8.parts hl
  have hO : Own (.sl E' e') w f1 [v] ys := k5
  have hpl : p < (ovr ls ov).length := (List.getElem?_eq_some_iff.1 hl).1
  have hnd := r.cx.nd q hq
  rw [h2, k1] at hnd
  have hnd1 := (List.nodup_cons.1 hnd)
  have hnd2 := List.nodup_append.1 hnd1.2
  have hnd3 := List.nodup_append.1 hnd2.2.1
  let gh' : Gh := ⟨fun r => if r = t then v else gh.h r, fun r => if r = t then f1 else if r = q then g :: (fa ++ fb) else gh.f r, gh.N⟩
  have hal : ∀ r, Tab.al ((t, some (.arr E' e' ys)) :: (q, some (.obx E wd n ls ((p, .ref t) :: ov))) :: s.tab) r → r = t ∨ (r ≠ t ∧ s.tab.al r) := fun r' h => by
    by_cases e1 : r' = t
    · exact .inl e1
    · refine .inr ⟨e1, ?_⟩
      obtain ⟨e2, h⟩ := h
      rw [Tab.ent_cons, if_neg e1, Tab.ent_cons] at h
      by_cases e3 : r' = q
      · rw [e3]; exact hq
      · rw [if_neg e3] at h; exact ⟨_, h⟩
  have hsub1 : ∀ x ∈ f1, x ∈ gh.f q := fun x hx => by rw [h2, k1]; simp [hx]
  have hsubq : ∀ x ∈ g :: (fa ++ fb), x ∈ gh.f q := fun x hx => by
    rw [h2, k1]
    simp only [List.mem_cons, List.mem_append] at hx ⊢
    rcases hx with h | h | h <;> simp [h]
  have hdis : ∀ x ∈ f1, x ∉ g :: (fa ++ fb) := fun x hx hm => by
    rcases List.mem_cons.1 hm with rfl | hm
    · exact hnd1.1 (List.mem_append_right _ (List.mem_append_left _ hx))
    · rcases List.mem_append.1 hm with hm | hm
      · exact hnd2.2.2 x hm x (List.mem_append_left _ hx) rfl
      · exact hnd3.2.2 x hx x hm rfl
  have hf' : ∀ r', r' ≠ t → ∀ x ∈ gh'.f r', x ∈ gh.f r' := fun r' e1 x hx => by
    simp only [gh', if_neg e1] at hx
    by_cases e2 : r' = q
    · rw [if_pos e2] at hx; rw [e2]; exact hsubq x hx
    · rw [if_neg e2] at hx; exact hx
  have hft : gh'.f t = f1 := by simp [gh']
  have hfq : gh'.f q = g :: (fa ++ fb) := by simp [gh', hqt]
  have r2 := r.step (T := (t, some (.arr E' e' ys)) :: (q, some (.obx E wd n ls ((p, .ref t) :: ov))) :: s.tab) (gh' := gh') (w' := w) ?_ ?_ (fun g hg => ⟨hg, rfl⟩) (Grw.refl w) (fun _ _ _ => rfl) (fun g hg => .inl hg) ?_
  · exact ⟨gh', r2⟩
  · refine ⟨fun r' e2 h => ?_, fun a b ha hb hne x hx hx' => ?_, fun r' h => ?_, fun r' h x hx => ?_, r.cx.nl⟩
    · rw [Tab.ent_cons] at h
      by_cases e1 : r' = t
      · rw [if_pos e1] at h
        cases h
        subst e1
        show Own (.sl E' e') w (gh'.f r') [gh'.h r'] ys
        simpa [gh'] using hO
      · rw [if_neg e1, Tab.ent_cons] at h
        by_cases e3 : r' = q
        · rw [if_pos e3] at h
          cases h
          subst e3
          refine ⟨h00, g, cap, cur, fa ++ fb, by simp [gh', e1, h1], hfq, h3, h4, h5, h6, by simpa [ovr] using h7, ?_⟩
          rw [k2]
          have hm : ∀ (l : List LV) (f : List Nat) (c : List Value), (∀ r' ∈ lvsTags l, r' ≠ t) → LOs s.tab.al gh w l f c → LOs (Tab.al ((t, some (.arr E' e' ys)) :: (r', some (.obx E wd n ls ((p, .ref t) :: ov))) :: s.tab)) gh' w l f c := fun l f c hlt h => h.mono (fun r2 hr2 ha => by
            rcases hal r2 ha with h9 | ⟨h9, h10⟩
            · exact absurd h9 (hlt r2 hr2)
            · exact ⟨h10, by simp [gh', h9]⟩) fun _ _ => rfl
          have htag : ∀ r2 ∈ lvsTags (ovr ls ov), r2 ≠ t := fun r2 hr2 h => hfr.en r' _ he (by show t ∈ ovTags ov; rw [← h]; exact ovr_tags h00 r2 hr2)
          have hput := LOs.put (p := p) (l := .ref t) (f1 := []) (v := v) hpl (hm _ _ _ (fun r2 hr2 => htag r2 (lvsTags_take p r2 hr2)) k4) ⟨rfl, Rep.one hO.rep v (by simp), fun _ => by simp [gh']⟩ (hm _ _ _ (fun r2 hr2 => htag r2 (lvsTags_drop _ r2 hr2)) k6)
          simpa [ovr] using hput
        · rw [if_neg e3] at h
          have h9 := r.cx.en r' e2 h
          refine h9.mono (fun r2 hr2 ha => ?_) (fun g hg => ⟨hg, rfl⟩) (by simp [gh', e1]) (by simp [gh', e1, e3]) fun _ _ => rfl
          rcases hal r2 ha with h10 | ⟨h10, h11⟩
          · exact absurd (h10 ▸ hr2) (hfr.en r' e2 h)
          · exact ⟨h11, by simp [gh', h10]⟩
    · rcases hal a ha with ha | ⟨ha, ka⟩ <;> rcases hal b hb with hb | ⟨hb, kb⟩
      · exact hne (ha.trans hb.symm)
      · subst ha
        rw [hft] at hx
        by_cases e3 : b = q
        · subst e3; rw [hfq] at hx'; exact hdis x hx hx'
        · exact r.cx.dj q b hq kb (fun h => e3 h.symm) x (hsub1 x hx) (hf' b hb x hx')
      · subst hb
        rw [hft] at hx'
        by_cases e3 : a = q
        · subst e3; rw [hfq] at hx; exact hdis x hx' hx
        · exact r.cx.dj q a hq ka (fun h => e3 h.symm) x (hsub1 x hx') (hf' a ha x hx)
      · exact r.cx.dj a b ka kb hne x (hf' a ha x hx) (hf' b hb x hx')
    · rcases hal r' h with h | ⟨h, k⟩
      · subst h; rw [hft]; exact hnd3.1
      · by_cases e3 : r' = q
        · subst e3
          rw [hfq]
          refine List.nodup_cons.2 ⟨fun hm => hnd1.1 (by
            rcases List.mem_append.1 hm with hm | hm
            · exact List.mem_append_left _ hm
            · exact List.mem_append_right _ (List.mem_append_right _ hm)), List.nodup_append.2 ⟨hnd2.1, hnd3.2.1, fun a ha b hb => hnd2.2.2 a ha b (List.mem_append_right _ hb)⟩⟩
        · have : gh'.f r' = gh.f r' := by simp [gh', h, e3]
          rw [this]; exact r.cx.nd r' k
    · rcases hal r' h with h | ⟨h, k⟩
      · subst h; rw [hft] at hx; exact r.cx.no q hq x (hsub1 x hx)
      · exact r.cx.no r' k x (hf' r' h x hx)
  · intro r' h
    rcases hal r' h with h | ⟨h, k⟩
    · exact .inr ⟨h ▸ hfr, h ▸ hk0⟩
    · exact .inl ⟨k, by simp [gh', h], fun _ => rfl⟩
  · intro r' h x hx
    rcases hal r' h with h | ⟨h, k⟩
    · subst h; rw [hft] at hx; exact .inr ⟨q, hq, hsub1 x hx⟩
    · exact .inr ⟨r', k, hf' r' h x hx⟩
/-- The cell p back into its array. -/
theorem Wk.joinX {q t wd n p : Nat} {E E' : TypeId} {e' : Ty} {ys : List e'.Den} {ls : List LV} {ov : List (Nat × LV)} (he : s.tab.ent q = some (.obx E wd n ls ov)) (hl : (ovr ls ov)[p]? = some (.ref t)) (ht : s.tab.ent t = some (.arr E' e' ys)) :
    Wk A s ⟨s.tm, (q, some (.obx E wd n ls ((p, .dat (.sl E' e') ys) :: ov))) :: (t, none) :: s.tab⟩ := fun a w r => by
  obtain ⟨gh, r⟩ := r
  have hq : s.tab.al q := ⟨_, he⟩
  have hta : s.tab.al t := ⟨_, ht⟩
  have hqt : q ≠ t := fun h => by rw [h, ht] at he; cases he
  obtain ⟨h00, g, cap, cur, fps, h1, h2, h3, h4, h5, h6, h7, h8⟩ := r.cx.en q _ he
  obtain ⟨fa, f1, fb, ca, v, cb, k1, k2, k3, k4, k5, k6⟩ := h8.parts hl
  obtain ⟨rfl, hone, hv⟩ := k5
  have hv := hv hta
  have hO : Own (.sl E' e') w (gh.f t) [gh.h t] ys := r.cx.en t _ ht
  have hpl : p < (ovr ls ov).length := (List.getElem?_eq_some_iff.1 hl).1
  rw [List.nil_append] at k1
  have hndq := r.cx.nd q hq
  rw [h2, k1] at hndq
  let gh' : Gh := ⟨gh.h, fun r => if r = q then g :: (fa ++ (gh.f t ++ fb)) else gh.f r, gh.N⟩
  have hal : ∀ r, Tab.al ((q, some (.obx E wd n ls ((p, .dat (.sl E' e') ys) :: ov))) :: (t, none) :: s.tab) r → r ≠ t ∧ s.tab.al r := fun r' h => by
    obtain ⟨e2, h⟩ := h
    rw [Tab.ent_cons] at h
    by_cases e1 : r' = q
    · rw [e1]; exact ⟨hqt, hq⟩
    · rw [if_neg e1, Tab.ent_cons] at h
      by_cases e3 : r' = t
      · rw [if_pos e3] at h; cases h
      · rw [if_neg e3] at h; exact ⟨e3, _, h⟩
  have hfq : gh'.f q = g :: (fa ++ (gh.f t ++ fb)) := by simp [gh']
  have hmem : ∀ r', ∀ x ∈ gh'.f r', x ∈ gh.f r' ∨ (r' = q ∧ x ∈ gh.f t) := fun r' x hx => by
    by_cases e1 : r' = q
    · subst e1
      rw [hfq] at hx
      rw [h2, k1]
      simp only [List.mem_cons, List.mem_append] at hx ⊢
      rcases hx with h | h | h | h
      · exact .inl (.inl h)
      · exact .inl (.inr (.inl h))
      · exact .inr ⟨trivial, h⟩
      · exact .inl (.inr (.inr h))
    · simp only [gh', if_neg e1] at hx; exact .inl hx
  have r2 := r.step (T := (q, some (.obx E wd n ls ((p, .dat (.sl E' e') ys) :: ov))) :: (t, none) :: s.tab) (gh' := gh') (w' := w) ?_ ?_ (fun g hg => ⟨hg, rfl⟩) (Grw.refl w) (fun _ _ _ => rfl) (fun g hg => .inl hg) ?_
  · exact ⟨gh', r2⟩
  · refine ⟨fun r' e2 h => ?_, fun a b ha hb hne x hx hx' => ?_, fun r' h => ?_, fun r' h x hx => ?_, r.cx.nl⟩
    · rw [Tab.ent_cons] at h
      by_cases e1 : r' = q
      · rw [if_pos e1] at h
        cases h
        subst e1
        refine ⟨h00, g, cap, cur, fa ++ (gh.f t ++ fb), h1, hfq, h3, h4, h5, h6, by simpa [ovr] using h7, ?_⟩
        rw [k2]
        have hm : ∀ (l : List LV) (f : List Nat) (c : List Value), LOs s.tab.al gh w l f c → LOs (Tab.al ((r', some (.obx E wd n ls ((p, .dat (.sl E' e') ys) :: ov))) :: (t, none) :: s.tab)) gh' w l f c := fun l f c h => h.mono (fun r2 hr2 ha => ⟨(hal r2 ha).2, rfl⟩) fun _ _ => rfl
        rw [← hv] at hO
        exact LOs.put hpl (hm _ _ _ k4) hO (hm _ _ _ k6)
      · rw [if_neg e1, Tab.ent_cons] at h
        by_cases e3 : r' = t
        · rw [if_pos e3] at h; cases h
        · rw [if_neg e3] at h
          exact (r.cx.en r' e2 h).mono (fun r2 hr2 ha => ⟨(hal r2 ha).2, rfl⟩) (fun g hg => ⟨hg, rfl⟩) rfl (by simp [gh', e1]) fun _ _ => rfl
    · obtain ⟨ha1, ha2⟩ := hal a ha
      obtain ⟨hb1, hb2⟩ := hal b hb
      rcases hmem a x hx with h | ⟨rfl, h⟩ <;> rcases hmem b x hx' with h' | ⟨rfl, h'⟩
      · exact r.cx.dj a b ha2 hb2 hne x h h'
      · exact r.cx.dj a t ha2 hta ha1 x h h'
      · exact r.cx.dj b t hb2 hta hb1 x h' h
      · exact hne rfl
    · obtain ⟨h9, h10⟩ := hal r' h
      by_cases e1 : r' = q
      · subst e1
        rw [hfq]
        have hn1 := List.nodup_cons.1 hndq
        have hn2 := List.nodup_append.1 hn1.2
        have hdj : ∀ x ∈ gh.f t, x ∉ gh.f r' := fun x hx hx' => r.cx.dj t r' hta hq (fun h => h9 h.symm) x hx hx'
        rw [h2, k1] at hdj
        refine List.nodup_cons.2 ⟨fun hm => ?_, List.nodup_append.2 ⟨hn2.1, List.nodup_append.2 ⟨r.cx.nd t hta, hn2.2.1, fun a ha b hb e => by subst e; exact hdj a ha (by simp [hb])⟩, fun a ha b hb e => ?_⟩⟩
        · simp only [List.mem_append] at hm
          rcases hm with hm | hm | hm
          · exact hn1.1 (List.mem_append_left _ hm)
          · exact hdj g hm (by simp)
          · exact hn1.1 (List.mem_append_right _ hm)
        · subst e
          rcases List.mem_append.1 hb with hb | hb
          · exact hdj a hb (by simp [ha])
          · exact hn2.2.2 a ha a hb rfl
      · have : gh'.f r' = gh.f r' := by simp [gh', e1]
        rw [this]; exact r.cx.nd r' h10
    · obtain ⟨h9, h10⟩ := hal r' h
      rcases hmem r' x hx with h' | ⟨rfl, h'⟩
      · exact r.cx.no r' h10 x h'
      · exact r.cx.no t hta x h'
  · intro r' h
    obtain ⟨h9, h10⟩ := hal r' h
    exact .inl ⟨h10, rfl, fun _ => rfl⟩
  · intro r' h x hx
    obtain ⟨h9, h10⟩ := hal r' h
    rcases hmem r' x hx with h' | ⟨rfl, h'⟩
    · exact .inr ⟨r', h10, h'⟩
    · exact .inr ⟨t, hta, h'⟩
theorem Does.indexX {q wd n : Nat} {E E' : TypeId} {ls : List LV} {ov : List (Nat × LV)} {i : Int} {bb : Bool} (hx : Evl A s x (.ref q)) (he : s.tab.ent q = some (.obx E wd n ls ov)) (hy : Evl A s y (dI i)) (hT : P.underlying T = some (.slice E')) (hE : tsh P E' = some (bb, wd)) (hn : Nat.blt d A.n = true)
    (h0 : 0 ≤ i) (h1 : i < n) : Does A P ⟨some d, .indexAddr T x y, ty, pos, af, g⟩ s (s.put d (lf (.ept q wd i.toNat 0))) :=
  Does.yields rfl hn fun gh a w r => by
    have hi := hy.i r
    have hv : a.eval x = gh.h q := hx gh a w r ⟨_, he⟩
    obtain ⟨h00, g, cap, cur, fps, k1, k2, k3, k4, k5, k6, k7, k8⟩ := r.cx.en q _ he
    refine ⟨.pointer (some ⟨g, 0 + i.toNat * wd, none⟩), ?_, _, rfl, fun _ => ⟨g, n, cap, k1, by simp⟩⟩
    simp only [execOp, hv, k1, hi, Go.Sem.run_bind, run_indexAt hT hE h0 h1]
    simp
theorem obx_cell {gh : Gh} {a : Act} {w : World} (r : Rg A s gh a w) {q wd n p : Nat} {E : TypeId} {ls : List LV} {ov : List (Nat × LV)} {l : LV} (he : s.tab.ent q = some (.obx E wd n ls ov)) (hl : (ovr ls ov)[p]? = some l) {g m c : Nat} (hh : gh.h q = .slice (some ⟨g, 0, none⟩) m c) :
    ∃ f v, LO s.tab.al gh w l f v ∧ w.cell? ⟨g, p, none⟩ = some v := by
  obtain ⟨h00, g', cap, cur, fps, h1, h2, h3, h4, h5, h6, h7, h8⟩ := r.cx.en q _ he
  rw [hh] at h1
  simp only [Value.slice.injEq, Option.some.injEq, Addr.mk.injEq, and_true] at h1
  obtain ⟨rfl, _, _⟩ := h1
  obtain ⟨fa, f1, fb, ca, v, cb, k1, k2, k3, k4, k5, k6⟩ := h8.parts hl
  refine ⟨f1, v, k5, ?_⟩
  have : (cur.toList.take (n * wd))[p]? = some v := by
    rw [k2, List.getElem?_append_right (by omega), k3, Nat.sub_self]; rfl
  rw [List.getElem?_take] at this
  split at this
  · simp only [World.cell?, h3]
    simpa using this
  · cases this
theorem Does.loadX {q wd i j n m t : Nat} {E : TypeId} {ls : List LV} {ov : List (Nat × LV)} {E' : TypeId} {e' : Ty} {ys : List e'.Den} (hx : Evl A s x (.ept q wd i j)) (he : s.tab.ent q = some (.obx E wd n ls ov)) (hl : (ovr ls ov)[i * wd + j]? = some (.ref t)) (ht : s.tab.ent t = some (.arr E' e' ys)) (hT : tsh P T = some (false, m)) (hn : Nat.blt d A.n = true) :
    Does A P ⟨some d, .load T x, ty, pos, af, g⟩ s (s.put d (lf (.ref t))) :=
  Does.yields rfl hn fun gh a w r => by
    obtain ⟨g, m', c, h1, h2⟩ := hx gh a w r ⟨_, he⟩
    obtain ⟨f, v, k1, k2⟩ := obx_cell r he hl h1
    refine ⟨v, ?_, _, rfl, fun h => k1.2.2 h⟩
    simp only [execOp, h2, Instr.loadAt, Instr.sureAddr, Go.Sem.run_bind, Go.Sem.run_pure, Result.andThen_ok, run_loadVar_one hT _ v k2]
/-- A cell that held a tag is written: it holds another one. -/
theorem Does.storeX {q wd i j n t t' : Nat} {E E' : TypeId} {e' : Ty} {ys : List e'.Den} {ls : List LV} {ov : List (Nat × LV)} (hx : Evl A s x (.ept q wd i j)) (he : s.tab.ent q = some (.obx E wd n ls ov)) (hl : (ovr ls ov)[i * wd + j]? = some (.ref t)) (hy : Evl A s y (.ref t')) (ht : s.tab.ent t' = some (.arr E' e' ys)) (hT : tsh P T = some (false, 1)) :
    Does A P ⟨none, .store T x y, ty, pos, af, g⟩ s ⟨s.tm, (q, some (.obx E wd n ls ((i * wd + j, .ref t') :: ov))) :: s.tab⟩ := fun a w K Q r hK => by
  obtain ⟨gh, r⟩ := r
  obtain ⟨g, m', c, h1, h2⟩ := hx gh a w r ⟨_, he⟩
  have hv : a.eval y = gh.h t' := hy gh a w r ⟨_, ht⟩
  have hone : (gh.h t').oneCell' = true := (r.cx.en t' _ ht).oneCell
  obtain ⟨h00, g', cap, cur, fps, p1, p2, p3, p4, p5, p6, p7, p8⟩ := r.cx.en q _ he
  rw [h1] at p1
  simp only [Value.slice.injEq, Option.some.injEq, Addr.mk.injEq, and_true] at p1
  obtain ⟨rfl, rfl, rfl⟩ := p1
  obtain ⟨fa, f1, fb, ca, v, cb, k1, k2, k3, k4, k5, k6⟩ := p8.parts hl
  obtain ⟨rfl, _, _⟩ := k5
  have hpl : i * wd + j < (ovr ls ov).length := (List.getElem?_eq_some_iff.1 hl).1
  have hcap : m' * wd ≤ cur.size := by rw [p6]; exact Nat.mul_le_mul_right _ p4
  have hcells : (a.eval y).cells = [a.eval y].toArray := by
    rw [hv]; cases hq : gh.h t' <;> first | rfl | (rw [hq] at hone; simp [Value.oneCell'] at hone)
  have h10 := run_storeVar (P := P) (w := w) (b := g) (o := i * wd + j) hT (a.eval y) [a.eval y] hcells rfl p3 (by omega) (by rw [hv]; simpa using hone)
  have e0 : (execOp a.eval ⟨none, .store T x y, ty, pos, af, ‹_›⟩).run P w = .ok .skip (puts w g (i * wd + j) [a.eval y]) := by
    simp only [execOp, h2, Instr.storeAt, Instr.sureAddr, Go.Sem.run_bind, Go.Sem.run_pure, Result.andThen_ok, h10]
  unfold Oper.wp
  rw [e0, Oper.upon_skip]
  obtain ⟨cur', m1, m2, m3⟩ := puts_row g E (0, 0) [a.eval y] w (i * wd + j) cur p3 (by simp; omega)
  have hoth : ∀ g0, g0 ≠ g → (puts w g (i * wd + j) [a.eval y]).heap[g0]? = w.heap[g0]? := fun g0 h => puts_other _ _ _ _ _ h
  have hN : (g :: fps).Nodup := by rw [← p2]; exact r.cx.nd q ⟨_, he⟩
  refine hK _ _ ⟨gh, r.mod he (puts_grw _ _ _ _) (fun g0 _ hg0 => hoth g0 fun h => hg0 (by rw [p2, h]; simp)) ⟨h00, g, c, cur', fps, h1, p2, m1, p4, p5, by rw [m2]; exact p6, by simpa [ovr] using p7, ?_⟩⟩
  have hkeep : ∀ (l : List LV) (f : List Nat) (c : List Value), (∀ x ∈ f, x ∈ fps) → LOs s.tab.al gh w l f c → LOs s.tab.al gh (puts w g (i * wd + j) [a.eval y]) l f c := fun l f c hf h => h.mono (fun _ _ h => ⟨h, rfl⟩) fun x hx => hoth x fun h => (List.nodup_cons.1 hN).1 (h ▸ hf x hx)
  have hput := LOs.put (p := i * wd + j) (l := .ref t') (f1 := []) (v := a.eval y) hpl (hkeep _ _ _ (fun x hx => by rw [k1]; simp [hx]) k4) ⟨rfl, by rw [hv]; exact hone, fun _ => hv⟩ (hkeep _ _ _ (fun x hx => by rw [k1]; simp [hx]) k6)
  rw [k1]
  have e2 : cur'.toList.take (m' * wd) = ca ++ a.eval y :: cb := by
    have hcl : (ca ++ v :: cb).length = m' * wd := by rw [← k2]; simp; omega
    have e3 : cur.toList = ca ++ v :: cb ++ cur.toList.drop (m' * wd) := by rw [← k2, List.take_append_drop]
    rw [m3]
    generalize cur.toList.drop (m' * wd) = rest at e3
    rw [e3, ← k3]
    have t1 : (ca ++ v :: cb ++ rest).take ca.length = ca := by rw [List.append_assoc, List.take_left]
    have t2 : (ca ++ v :: cb ++ rest).drop (ca.length + [a.eval y].length) = cb ++ rest := by
      rw [List.append_assoc]
      show (ca ++ (v :: cb ++ rest)).drop (ca.length + 1) = _
      rw [List.drop_length_add_append]
      rfl
    rw [t1, t2]
    have hl2 : (ca ++ a.eval y :: cb).length = m' * wd := by simpa using hcl
    rw [show ca ++ [a.eval y] ++ (cb ++ rest) = (ca ++ a.eval y :: cb) ++ rest by simp, ← hl2, List.take_left]
  rw [e2]
  exact hput
end

/-! nil slices as data; the numbers in a struct -/
def NilLe : List LV → List LV → Prop
  | [], ls' => ls' = []
  | l :: ls, ls' => ∃ l' r, ls' = l' :: r ∧ (l = l' ∨ ∃ E e, l = .val (.slice none 0 0) ∧ l' = .dat (.sl E e) []) ∧ NilLe ls r
section
variable {A : Amb} {s : St}
theorem fact_ag {x : Operand} {ls : List LV} {i : Nat} {n : Int} (h : Ev A s x (true, ls)) (hi : ls[i]? = some (dI n)) : ∀ gh a w, Rg A s gh a w → -9223372036854775808 ≤ n ∧ n ≤ 9223372036854775807 := fun gh a w r => by
  obtain ⟨vs, h1, h2⟩ := h gh a w r
  obtain ⟨v, _, h3⟩ := h2.get hi
  exact (LVR.int h3).2
end
theorem FC.O_all {P : Program} {f : FuncId} {args : List (Bool × List LV)} {T : Tab} {k : Nat} {O : PV → Tab → Prop} (h : ∀ O', O' = O → FC P f args T k O') : FC P f args T k O := h O rfl
theorem FC.go {P : Program} {f n : Nat} {fn : Func} {c : Code} {args : List (Bool × List LV)} {T : Tab} {k : Nat} {O : PV → Tab → Prop} (hf : P.funcs[f]? = some fn) (hb : fn.body = some c) (hl : Nat.ble args.length fn.ntmps = true) (hn : fn.ntmps = n)
    (h : ∀ O', O' = O → ∀ w0 N0 X h0 f0, AC ⟨w0, N0, X, n, k, h0, f0⟩ P c (fin ⟨w0, N0, X, n, k, h0, f0⟩ P fn (RenO O' k)) ⟨argsTm 0 args, T⟩) : FC P f args T k O :=
  FC.O_all fun O' hO => FC.ren (FC.of hf hb hl fun A ha hk => by
    obtain ⟨w0, N0, X, n', k', h0, f0⟩ := A
    obtain rfl : n' = n := ha.trans hn
    obtain rfl : k' = k := hk
    exact h O' hO w0 N0 X h0 f0)
/-! Short forms, for printed walks. -/
section
variable {A : Amb} {P : Program} {s s' : St} {Q : Exit → St → Prop} {ops : Array Oper} {l : List Oper} {op : Op} {d : Option Nat} {e : Nat} {ty : TypeId} {pos : String} {af : Array Edge}
theorem lc (h : Does A P ⟨d, op, ty, pos, af, none⟩ s s') (k : AL A P ops l Q s') : AL A P ops (⟨d, op, ty, pos, af, none⟩ :: l) Q s := AL.cons rfl h k
theorem lm {t : Nat} {pv : PV} (h : lk s.tm t = some pv) (hn : Nat.blt e A.n = true) (k : AL A P ops l Q (s.put e pv)) : AL A P ops (⟨some e, .move (.tmp t), ty, pos, af, none⟩ :: l) Q s := AL.cons rfl (Does.move h hn) k
theorem ac {s2 : St} (h : Does A P ⟨d, op, ty, pos, af, none⟩ s s') (e : s' = s2) : Acts A P ops ⟨d, op, ty, pos, af, none⟩ s s2 := Acts.of1 rfl h e
theorem am {t : Nat} {pv : PV} {s2 : St} (h : lk s.tm t = some pv) (hn : Nat.blt e A.n = true) (he : s.put e pv = s2) : Acts A P ops ⟨some e, .move (.tmp t), ty, pos, af, none⟩ s s2 := Acts.of1 rfl (Does.move h hn) he
end
/-! Short forms, for regions that draw. -/
@[reducible] def lI (x : Int) : PV := lf (dI x)
@[reducible] def lB (x : Bool) : PV := lf (dB x)
@[reducible] def lP (q o : Nat) : PV := lf (.ptr q o)
@[reducible] def lR (q : Nat) : PV := lf (.ref q)
@[reducible] def io (d : Nat) (p : PV) : Item := ⟨some d, p, []⟩
/-- The places of the bits of a number. -/
def dm : Nat → Nat → Nat → List Nat
  | 0, _, _ => []
  | f + 1, i, m => bif Nat.beq m 0 then [] else bif Nat.beq (Nat.mod m 2) 1 then i :: dm f (i + 1) (Nat.div m 2) else dm f (i + 1) (Nat.div m 2)
def dms (l : List Nat) : List (List Nat) := l.map (dm 200 0)
def sv (plan : List Item) (deps : List (List Nat)) (s0 : St) (i t : Nat) : Option PV := match slotB plan deps i t with
  | true => lk (pTm plan (depD deps i) 0 s0.tm) t
  | false => none
def se (plan : List Item) (deps : List (List Nat)) (s0 : St) (i q : Nat) : Option Ent := match entB plan deps i q with
  | true => (pTb plan (depD deps i) 0 s0.tab).ent q
  | false => none
section
variable {A : Amb} {P : Program} {s s' s0 : St} {Q : Exit → St → Prop} {ops : Array Oper} {l : List Oper} {op : Op} {e t i : Nat} {ty T : TypeId} {pos : String} {af : Array Edge} {plan : List Item} {deps : List (List Nat)}
theorem At.k {pv : PV} (hs : At plan deps s0 i s) (h : sv plan deps s0 i t = some pv) : lk s.tm t = some pv := by
  unfold sv at h
  split at h
  · rename_i h2; rw [hs.tm t h2]; exact h
  · cases h
theorem At.n {x : Ent} (hs : At plan deps s0 i s) (q : Nat) (h : se plan deps s0 i q = some x) : s.tab.ent q = some x := by
  unfold se at h
  split at h
  · rename_i h2; rw [hs.en q h2]; exact h
  · cases h
theorem At.v {x : LV} (hs : At plan deps s0 i s) (h : sv plan deps s0 i t = some (lf x)) : Evl A s (.tmp t) x := Evl.tmp (hs.k h)
theorem At.w {b : Bool} {ls : List LV} (hs : At plan deps s0 i s) (h : sv plan deps s0 i t = some (.cm b ls)) : Ev A s (.tmp t) (b, ls) := Ev.tmp (hs.k h)
theorem dxm {pv : PV} (h : sv plan deps s0 i t = some pv) (hn : Nat.blt e A.n = true) : ∀ s, At plan deps s0 i s → Acts A P ops ⟨some e, .move (.tmp t), ty, pos, af, none⟩ s (actS s ⟨some e, pv, []⟩) := fun _ hs => am (hs.k h) hn rfl
theorem dxt {pv : PV} (h : sv plan deps s0 i t = some pv) (hn : Nat.blt e A.n = true) : ∀ s, At plan deps s0 i s → Acts A P ops ⟨some e, .assign (.tmp t), ty, pos, af, none⟩ s (actS s ⟨some e, pv, []⟩) := fun _ hs => ac (Does.assign (hs.k h) hn) rfl
theorem dxf {q off o f : Nat} {pv : PV} (hf : fld P T f = some o) (h : sv plan deps s0 i t = some (lf (.ptr q off))) (ha : ((se plan deps s0 i q).isSome && Nat.blt e A.n) = true) (hp : lf (.ptr q (off + o)) = pv) : ∀ s, At plan deps s0 i s → Acts A P ops ⟨some e, .fieldAddr T (.tmp t) f, ty, pos, af, none⟩ s (actS s ⟨some e, pv, []⟩) := fun s hs => by
  subst hp
  simp only [Bool.and_eq_true] at ha
  obtain ⟨x, hx⟩ := Option.isSome_iff_exists.1 ha.1
  exact ac (Does.fieldP (hs.v h) hf (by rw [hs.n _ hx]; rfl) ha.2) rfl
theorem dxn {q off : Nat} {pv : PV} (h : sv plan deps s0 i t = some (lf (.ptr q off))) (ha : ((se plan deps s0 i q).isSome && Nat.blt e A.n) = true) (hp : lf (.ptr q off) = pv) : ∀ s, At plan deps s0 i s → Acts A P ops ⟨some e, .nilCheck (.tmp t), ty, pos, af, none⟩ s (actS s ⟨some e, pv, []⟩) := fun s hs => by
  subst hp
  simp only [Bool.and_eq_true] at ha
  obtain ⟨x, hx⟩ := Option.isSome_iff_exists.1 ha.1
  exact ac (Does.nilP (hs.v h) (by rw [hs.n _ hx]; rfl) ha.2) rfl
theorem dxl {q off n : Nat} {E : TypeId} {cs : List LV} {pv : PV} {x : LV} (hT : tsh P T = some (false, n)) (h : sv plan deps s0 i t = some (lf (.ptr q off))) (he : se plan deps s0 i q = some (.box E cs)) (hl : cs[off]? = some x) (hn : Nat.blt e A.n = true) (hp : lf x = pv) :
    ∀ s, At plan deps s0 i s → Acts A P ops ⟨some e, .load T (.tmp t), ty, pos, af, none⟩ s (actS s ⟨some e, pv, []⟩) := fun s hs => by
  subst hp
  exact ac (Does.loadP (hs.v h) (hs.n _ he) hT hl hn) rfl
theorem dxa {q off n : Nat} {E : TypeId} {cs : List LV} {pv : PV} (hT : tsh P T = some (true, n)) (h : sv plan deps s0 i t = some (lf (.ptr q off))) (he : se plan deps s0 i q = some (.box E cs)) (hl : (Nat.ble (off + n) cs.length && Nat.blt e A.n) = true) (hp : ag ((cs.drop off).take n) = pv) :
    ∀ s, At plan deps s0 i s → Acts A P ops ⟨some e, .load T (.tmp t), ty, pos, af, none⟩ s (actS s ⟨some e, pv, []⟩) := fun s hs => by
  subst hp
  simp only [Bool.and_eq_true] at hl
  exact ac (Does.loadPA (hs.v h) (hs.n _ he) hT hl.1 hl.2) rfl
theorem dxo {j d : Nat} {b : Bool} (hd : (ops[j]?).bind (·.dst) = some d) (hb : sv plan deps s0 i d = some (lf (dB (!b)))) (hn : Nat.blt e A.n = true) : ∀ s, At plan deps s0 i s → Acts A P ops ⟨some e, op, ty, pos, af, some (j, b)⟩ s (actS s ⟨some e, lf (.val undef), []⟩) := fun _ hs =>
  Acts.no rfl hd (hs.k hb) rfl hn
theorem day {s2 : St} {j d : Nat} {b : Bool} (hd : (ops[j]?).bind (·.dst) = some d) (hb : lk s.tm d = some (lf (dB b))) (h : Does A P ⟨some e, op, ty, pos, af, some (j, b)⟩ s s') (he : s' = s2) : Acts A P ops ⟨some e, op, ty, pos, af, some (j, b)⟩ s s2 := Acts.yes1 rfl hd hb h he
theorem lgn {j d : Nat} {b : Bool} (hd : (ops[j]?).bind (·.dst) = some d) (hb : lk s.tm d = some (lf (dB (!b)))) (hn : Nat.blt e A.n = true) (k : AL A P ops l Q (s.put e (lf (.val undef)))) : AL A P ops (⟨some e, op, ty, pos, af, some (j, b)⟩ :: l) Q s := AL.guard_no rfl hd hb k hn
theorem lgy {d' : Option Nat} {j d : Nat} {b : Bool} (hd : (ops[j]?).bind (·.dst) = some d) (hb : lk s.tm d = some (lf (dB b))) (h : Does A P ⟨d', op, ty, pos, af, some (j, b)⟩ s s') (k : AL A P ops l Q s') : AL A P ops (⟨d', op, ty, pos, af, some (j, b)⟩ :: l) Q s := AL.guard_yes rfl hd hb h k
theorem dw {id : Nat} {y : Code} (plan : List Item) (ms : List Nat) (hm : P.follows .mixedOrders = true) (hn : l.length = plan.length) (hB : (depsB l.toArray (dms ms) plan.length && planB plan (dms ms) && headB l.toArray plan.length) = true)
    (H : ActsL A P l.toArray plan (dms ms) s0 l plan 0) (k : AC A P y Q (stD plan s0 fun _ => true)) : AC A P (.seq (.region id l.toArray true) y) Q s0 := AC.seq (AC.drawL plan (dms ms) hm hn hB H k)
theorem dv {id : Nat} (plan : List Item) (ms : List Nat) (hm : P.follows .mixedOrders = true) (hn : l.length = plan.length) (hB : (depsB l.toArray (dms ms) plan.length && planB plan (dms ms) && headB l.toArray plan.length) = true)
    (H : ActsL A P l.toArray plan (dms ms) s0 l plan 0) (k : Q .normal (stD plan s0 fun _ => true)) : AC A P (.region id l.toArray true) Q s0 := AC.drawL plan (dms ms) hm hn hB H k
end
end Go.Proofs.YtjaadeknhofhpaaGreat
