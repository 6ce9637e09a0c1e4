/- Closed facts on the types and functions of the program. -/
import Derived.Test.YtbelopdphlllnaaProg
import Derived.Test.YtbelopdphlllnaaAe
import Derived.Test.YtbelopdphlllnaaSz
set_option linter.unusedSimpArgs false
set_option linter.unusedVariables false
namespace Go.Proofs.Ytbelopdphlllnaa
open Go.RowKit

theorem mixed : Try.prog.follows .mixedOrders = true := by kernel_rfl
theorem und_3 : Try.prog.underlying 3 = some (.int .i64) := by kernel_rfl
theorem tsh_3 : tsh Try.prog 3 = some (false, 1) := by kernel_rfl
theorem zer_3 : zer Try.prog 3 = some (.int .i64 0) := by kernel_rfl
theorem elb_3 : elemB Try.prog 3 1 = true := by kernel_rfl
theorem mki_3 : (Try.prog.info? 3).map (fun i => (i.zero, i.size, i.bytes)) = some (some (.int .i64 0), 1, 8) := by kernel_rfl
theorem und_4 : Try.prog.underlying 4 = some .bool := by kernel_rfl
theorem tsh_4 : tsh Try.prog 4 = some (false, 1) := by kernel_rfl
theorem mki_4 : (Try.prog.info? 4).map (fun i => (i.zero, i.size, i.bytes)) = some (some (.bool false), 1, 1) := by kernel_rfl
theorem und_5 : Try.prog.underlying 5 = some (.int .u8) := by kernel_rfl
theorem tsh_5 : tsh Try.prog 5 = some (false, 1) := by kernel_rfl
theorem zer_5 : zer Try.prog 5 = some (.int .u8 0) := by kernel_rfl
theorem und_9 : Try.prog.underlying 9 = some .string := by kernel_rfl
theorem tsh_9 : tsh Try.prog 9 = some (false, 1) := by kernel_rfl
theorem zer_9 : zer Try.prog 9 = some (.string ByteArray.empty) := by kernel_rfl
theorem elb_9 : elemB Try.prog 9 1 = true := by kernel_rfl
theorem und_29 : Try.prog.underlying 29 = some (.slice 129) := by kernel_rfl
theorem tsh_29 : tsh Try.prog 29 = some (false, 1) := by kernel_rfl
theorem und_67 : Try.prog.underlying 67 = some (.slice 9) := by kernel_rfl
theorem tsh_67 : tsh Try.prog 67 = some (false, 1) := by kernel_rfl
theorem tsh_70 : tsh Try.prog 70 = some (true, 3) := by kernel_rfl
theorem und_72 : Try.prog.underlying 72 = some (.slice 3) := by kernel_rfl
theorem tsh_72 : tsh Try.prog 72 = some (false, 1) := by kernel_rfl
theorem mki_72 : (Try.prog.info? 72).map (fun i => (i.zero, i.size, i.bytes)) = some (some (.slice none 0 0), 1, 24) := by kernel_rfl
theorem und_75 : Try.prog.underlying 75 = some (.slice 170) := by kernel_rfl
theorem tsh_75 : tsh Try.prog 75 = some (false, 1) := by kernel_rfl
theorem tsh_77 : tsh Try.prog 77 = some (true, 3) := by kernel_rfl
theorem fld_77_0 : fld Try.prog 77 0 = some 0 := by kernel_rfl
theorem fld_77_1 : fld Try.prog 77 1 = some 1 := by kernel_rfl
theorem fld_77_2 : fld Try.prog 77 2 = some 2 := by kernel_rfl
theorem zer_77 : zer Try.prog 77 = some (.agg #[.slice none 0 0, .slice none 0 0, .slice none 0 0]) := by kernel_rfl
theorem bld_77 : bld Try.prog 77 [(0, 1), (1, 1), (2, 1)] (.pr (.sl 129 (.pr .str .int)) (.pr (.sl 9 .str) (.sl 170 (.pr .int (.pr .int (.pr .bool .int)))))) := bld_of Try.underlying77 (by kernel_rfl) zer_77
theorem tsh_129 : tsh Try.prog 129 = some (true, 2) := by kernel_rfl
theorem fld_129_0 : fld Try.prog 129 0 = some 0 := by kernel_rfl
theorem fld_129_1 : fld Try.prog 129 1 = some 1 := by kernel_rfl
theorem zer_129 : zer Try.prog 129 = some (.agg #[.string ByteArray.empty, .int .i64 0]) := by kernel_rfl
theorem elb_129 : elemB Try.prog 129 2 = true := by kernel_rfl
theorem bld_129 : bld Try.prog 129 [(0, 1), (1, 1)] (.pr .str .int) := bld_of Try.underlying129 (by kernel_rfl) zer_129
theorem tsh_131 : tsh Try.prog 131 = some (true, 2) := by kernel_rfl
theorem fld_131_0 : fld Try.prog 131 0 = some 0 := by kernel_rfl
theorem fld_131_1 : fld Try.prog 131 1 = some 1 := by kernel_rfl
theorem zer_131 : zer Try.prog 131 = some (.agg #[.int .i64 0, .bool false]) := by kernel_rfl
theorem bld_131 : bld Try.prog 131 [(0, 1), (1, 1)] (.pr .int .bool) := bld_of Try.underlying131 (by kernel_rfl) zer_131
theorem und_156 : Try.prog.underlying 156 = some (.slice 5) := by kernel_rfl
theorem tsh_170 : tsh Try.prog 170 = some (true, 4) := by kernel_rfl
theorem fld_170_0 : fld Try.prog 170 0 = some 0 := by kernel_rfl
theorem fld_170_1 : fld Try.prog 170 1 = some 1 := by kernel_rfl
theorem fld_170_2 : fld Try.prog 170 2 = some 2 := by kernel_rfl
theorem fld_170_3 : fld Try.prog 170 3 = some 3 := by kernel_rfl
theorem zer_170 : zer Try.prog 170 = some (.agg #[.int .i64 0, .int .i64 0, .bool false, .int .i64 0]) := by kernel_rfl
theorem elb_170 : elemB Try.prog 170 4 = true := by kernel_rfl
theorem bld_170 : bld Try.prog 170 [(0, 1), (1, 1), (2, 1), (3, 1)] (.pr .int (.pr .int (.pr .bool .int))) := bld_of Try.underlying170 (by kernel_rfl) zer_170
theorem und_175 : Try.prog.underlying 175 = some (.map 182 3) := by kernel_rfl
theorem tsh_175 : tsh Try.prog 175 = some (false, 1) := by kernel_rfl
theorem und_176 : Try.prog.underlying 176 = some (.slice 182) := by kernel_rfl
theorem tsh_176 : tsh Try.prog 176 = some (false, 1) := by kernel_rfl
theorem fld_178_0 : fld Try.prog 178 0 = some 0 := by kernel_rfl
theorem fld_178_1 : fld Try.prog 178 1 = some 3 := by kernel_rfl
theorem fld_178_2 : fld Try.prog 178 2 = some 4 := by kernel_rfl
theorem fld_178_3 : fld Try.prog 178 3 = some 7 := by kernel_rfl
theorem fld_178_4 : fld Try.prog 178 4 = some 8 := by kernel_rfl
theorem tsh_182 : tsh Try.prog 182 = some (true, 2) := by kernel_rfl
theorem fld_182_0 : fld Try.prog 182 0 = some 0 := by kernel_rfl
theorem fld_182_1 : fld Try.prog 182 1 = some 1 := by kernel_rfl
theorem zer_182 : zer Try.prog 182 = some (.agg #[.int .i64 0, .bool false]) := by kernel_rfl
theorem elb_182 : elemB Try.prog 182 2 = true := by kernel_rfl
theorem bld_182 : bld Try.prog 182 [(0, 1), (1, 1)] (.pr .int .bool) := bld_of Try.underlying182 (by kernel_rfl) zer_182
theorem fld_213_0 : fld Try.prog 213 0 = some 0 := by kernel_rfl
theorem fld_213_1 : fld Try.prog 213 1 = some 3 := by kernel_rfl
theorem fld_213_2 : fld Try.prog 213 2 = some 4 := by kernel_rfl
theorem fld_213_3 : fld Try.prog 213 3 = some 5 := by kernel_rfl
theorem zer_213 : zer Try.prog 213 = some (.agg #[.slice none 0 0, .slice none 0 0, .slice none 0 0, .string ByteArray.empty, .slice none 0 0, .slice none 0 0, .slice none 0 0, .slice none 0 0]) := by kernel_rfl
theorem bld_213 : bld Try.prog 213 [(0, 3), (3, 1), (4, 1), (5, 3)] (.pr (.pr (.sl 129 (.pr .str .int)) (.pr (.sl 9 .str) (.sl 170 (.pr .int (.pr .int (.pr .bool .int)))))) (.pr .str (.pr (.sl 3 .int) (.pr (.sl 129 (.pr .str .int)) (.pr (.sl 9 .str) (.sl 170 (.pr .int (.pr .int (.pr .bool .int))))))))) := bld_of Try.underlying213 (by kernel_rfl) zer_213
theorem und_223 : Try.prog.underlying 223 = some (.slice 268) := by kernel_rfl
theorem und_261 : Try.prog.underlying 261 = some (.slice 4) := by kernel_rfl
theorem und_266 : Try.prog.underlying 266 = some (.slice 72) := by kernel_rfl
theorem tsh_268 : tsh Try.prog 268 = some (true, 2) := by kernel_rfl
theorem fld_268_0 : fld Try.prog 268 0 = some 0 := by kernel_rfl
theorem fld_268_1 : fld Try.prog 268 1 = some 1 := by kernel_rfl
theorem zer_268 : zer Try.prog 268 = some (.agg #[.int .i64 0, .int .i64 0]) := by kernel_rfl
theorem elb_268 : elemB Try.prog 268 2 = true := by kernel_rfl
theorem bld_268 : bld Try.prog 268 [(0, 1), (1, 1)] (.pr .int .int) := bld_of Try.underlying268 (by kernel_rfl) zer_268
theorem und_281 : Try.prog.underlying 281 = some (.int .u64) := by kernel_rfl
theorem enters_28 : Enters Try.prog 28 := fun args W => run_enter Try.func28 (by kernel_rfl) rfl args W
theorem enters_29 : Enters Try.prog 29 := fun args W => run_enter Try.func29 (by kernel_rfl) rfl args W
theorem enters_30 : Enters Try.prog 30 := fun args W => run_enter Try.func30 (by kernel_rfl) rfl args W
theorem enters_31 : Enters Try.prog 31 := fun args W => run_enter Try.func31 (by kernel_rfl) rfl args W
theorem enters_32 : Enters Try.prog 32 := fun args W => run_enter Try.func32 (by kernel_rfl) rfl args W
theorem enters_33 : Enters Try.prog 33 := fun args W => run_enter Try.func33 (by kernel_rfl) rfl args W
theorem enters_34 : Enters Try.prog 34 := fun args W => run_enter Try.func34 (by kernel_rfl) rfl args W
theorem enters_35 : Enters Try.prog 35 := fun args W => run_enter Try.func35 (by kernel_rfl) rfl args W
theorem enters_36 : Enters Try.prog 36 := fun args W => run_enter Try.func36 (by kernel_rfl) rfl args W
theorem enters_37 : Enters Try.prog 37 := fun args W => run_enter Try.func37 (by kernel_rfl) rfl args W
theorem enters_38 : Enters Try.prog 38 := fun args W => run_enter Try.func38 (by kernel_rfl) rfl args W
theorem enters_39 : Enters Try.prog 39 := fun args W => run_enter Try.func39 (by kernel_rfl) rfl args W
theorem enters_58 : Enters Try.prog 58 := fun args W => run_enter Try.func58 (by kernel_rfl) rfl args W
theorem enters_64 : Enters Try.prog 64 := fun args W => run_enter Try.func64 (by kernel_rfl) rfl args W
theorem enters_67 : Enters Try.prog 67 := fun args W => run_enter Try.func67 (by kernel_rfl) rfl args W
theorem enters_75 : Enters Try.prog 75 := fun args W => run_enter Try.func75 (by kernel_rfl) rfl args W
theorem enters_78 : Enters Try.prog 78 := fun args W => run_enter Try.func78 (by kernel_rfl) rfl args W
theorem enters_81 : Enters Try.prog 81 := fun args W => run_enter Try.func81 (by kernel_rfl) rfl args W
theorem enters_82 : Enters Try.prog 82 := fun args W => run_enter Try.func82 (by kernel_rfl) rfl args W
theorem enters_83 : Enters Try.prog 83 := fun args W => run_enter Try.func83 (by kernel_rfl) rfl args W
theorem enters_84 : Enters Try.prog 84 := fun args W => run_enter Try.func84 (by kernel_rfl) rfl args W
theorem enters_96 : Enters Try.prog 96 := fun args W => run_enter Try.func96 (by kernel_rfl) rfl args W
theorem enters_105 : Enters Try.prog 105 := fun args W => run_enter Try.func105 (by kernel_rfl) rfl args W
theorem enters_109 : Enters Try.prog 109 := fun args W => run_enter Try.func109 (by kernel_rfl) rfl args W
theorem enters_112 : Enters Try.prog 112 := fun args W => run_enter Try.func112 (by kernel_rfl) rfl args W
theorem enters_113 : Enters Try.prog 113 := fun args W => run_enter Try.func113 (by kernel_rfl) rfl args W
theorem enters_117 : Enters Try.prog 117 := fun args W => run_enter Try.func117 (by kernel_rfl) rfl args W
theorem enters_119 : Enters Try.prog 119 := fun args W => run_enter Try.func119 (by kernel_rfl) rfl args W
theorem enters_124 : Enters Try.prog 124 := fun args W => run_enter Try.func124 (by kernel_rfl) rfl args W
theorem enters_125 : Enters Try.prog 125 := fun args W => run_enter Try.func125 (by kernel_rfl) rfl args W
theorem enters_126 : Enters Try.prog 126 := fun args W => run_enter Try.func126 (by kernel_rfl) rfl args W
theorem enters_127 : Enters Try.prog 127 := fun args W => run_enter Try.func127 (by kernel_rfl) rfl args W
theorem enters_128 : Enters Try.prog 128 := fun args W => run_enter Try.func128 (by kernel_rfl) rfl args W
theorem enters_130 : Enters Try.prog 130 := fun args W => run_enter Try.func130 (by kernel_rfl) rfl args W
theorem enters_131 : Enters Try.prog 131 := fun args W => run_enter Try.func131 (by kernel_rfl) rfl args W
theorem enters_132 : Enters Try.prog 132 := fun args W => run_enter Try.func132 (by kernel_rfl) rfl args W
theorem enters_133 : Enters Try.prog 133 := fun args W => run_enter Try.func133 (by kernel_rfl) rfl args W
theorem enters_134 : Enters Try.prog 134 := fun args W => run_enter Try.func134 (by kernel_rfl) rfl args W
theorem enters_135 : Enters Try.prog 135 := fun args W => run_enter Try.func135 (by kernel_rfl) rfl args W
theorem enters_136 : Enters Try.prog 136 := fun args W => run_enter Try.func136 (by kernel_rfl) rfl args W
theorem enters_157 : Enters Try.prog 157 := fun args W => run_enter Try.func157 (by kernel_rfl) rfl args W
theorem enters_165 : Enters Try.prog 165 := fun args W => run_enter Try.func165 (by kernel_rfl) rfl args W
theorem enters_166 : Enters Try.prog 166 := fun args W => run_enter Try.func166 (by kernel_rfl) rfl args W
theorem enters_167 : Enters Try.prog 167 := fun args W => run_enter Try.func167 (by kernel_rfl) rfl args W
theorem enters_168 : Enters Try.prog 168 := fun args W => run_enter Try.func168 (by kernel_rfl) rfl args W
theorem enters_169 : Enters Try.prog 169 := fun args W => run_enter Try.func169 (by kernel_rfl) rfl args W
theorem enters_170 : Enters Try.prog 170 := fun args W => run_enter Try.func170 (by kernel_rfl) rfl args W
theorem enters_171 : Enters Try.prog 171 := fun args W => run_enter Try.func171 (by kernel_rfl) rfl args W
theorem enters_172 : Enters Try.prog 172 := fun args W => run_enter Try.func172 (by kernel_rfl) rfl args W
theorem enters_173 : Enters Try.prog 173 := fun args W => run_enter Try.func173 (by kernel_rfl) rfl args W
theorem enters_174 : Enters Try.prog 174 := fun args W => run_enter Try.func174 (by kernel_rfl) rfl args W
theorem enters_175 : Enters Try.prog 175 := fun args W => run_enter Try.func175 (by kernel_rfl) rfl args W
theorem enters_176 : Enters Try.prog 176 := fun args W => run_enter Try.func176 (by kernel_rfl) rfl args W
theorem enters_177 : Enters Try.prog 177 := fun args W => run_enter Try.func177 (by kernel_rfl) rfl args W
theorem enters_178 : Enters Try.prog 178 := fun args W => run_enter Try.func178 (by kernel_rfl) rfl args W
theorem enters_179 : Enters Try.prog 179 := fun args W => run_enter Try.func179 (by kernel_rfl) rfl args W
theorem enters_180 : Enters Try.prog 180 := fun args W => run_enter Try.func180 (by kernel_rfl) rfl args W
theorem enters_181 : Enters Try.prog 181 := fun args W => run_enter Try.func181 (by kernel_rfl) rfl args W
theorem enters_182 : Enters Try.prog 182 := fun args W => run_enter Try.func182 (by kernel_rfl) rfl args W
theorem enters_183 : Enters Try.prog 183 := fun args W => run_enter Try.func183 (by kernel_rfl) rfl args W
theorem enters_211 : Enters Try.prog 211 := fun args W => run_enter Try.func211 (by kernel_rfl) rfl args W
theorem enters_212 : Enters Try.prog 212 := fun args W => run_enter Try.func212 (by kernel_rfl) rfl args W
theorem enters_213 : Enters Try.prog 213 := fun args W => run_enter Try.func213 (by kernel_rfl) rfl args W
theorem enters_214 : Enters Try.prog 214 := fun args W => run_enter Try.func214 (by kernel_rfl) rfl args W
theorem enters_215 : Enters Try.prog 215 := fun args W => run_enter Try.func215 (by kernel_rfl) rfl args W
theorem enters_216 : Enters Try.prog 216 := fun args W => run_enter Try.func216 (by kernel_rfl) rfl args W
theorem enters_217 : Enters Try.prog 217 := fun args W => run_enter Try.func217 (by kernel_rfl) rfl args W
theorem enters_218 : Enters Try.prog 218 := fun args W => run_enter Try.func218 (by kernel_rfl) rfl args W
theorem enters_219 : Enters Try.prog 219 := fun args W => run_enter Try.func219 (by kernel_rfl) rfl args W
theorem enters_220 : Enters Try.prog 220 := fun args W => run_enter Try.func220 (by kernel_rfl) rfl args W
theorem enters_221 : Enters Try.prog 221 := fun args W => run_enter Try.func221 (by kernel_rfl) rfl args W
theorem enters_222 : Enters Try.prog 222 := fun args W => run_enter Try.func222 (by kernel_rfl) rfl args W
theorem enters_223 : Enters Try.prog 223 := fun args W => run_enter Try.func223 (by kernel_rfl) rfl args W
theorem enters_224 : Enters Try.prog 224 := fun args W => run_enter Try.func224 (by kernel_rfl) rfl args W
theorem enters_225 : Enters Try.prog 225 := fun args W => run_enter Try.func225 (by kernel_rfl) rfl args W
theorem enters_238 : Enters Try.prog 238 := fun args W => run_enter Try.func238 (by kernel_rfl) rfl args W
theorem enters_239 : Enters Try.prog 239 := fun args W => run_enter Try.func239 (by kernel_rfl) rfl args W
end Go.Proofs.Ytbelopdphlllnaa

/- Abstract states: answers that own several slices. No program is named here. -/
namespace Go.Proofs.Ytbelopdphlllnaa
open Go.RowKit

@[reducible] def Is (pv : PV) (T : Tab) : PV → Tab → Prop := fun p T' => p = pv ∧ T' = T
def FrL (s : St) (n : Nat) : List Nat → Prop
  | [] => True
  | q :: l => Fresh s (n + q) ∧ FrL s n l
theorem FrL.get {s : St} {n : Nat} {l : List Nat} (h : FrL s n l) : ∀ q ∈ l, Fresh s (n + q) := by
  induction l with
  | nil => simp
  | cons q l ih =>
    intro r hr
    rcases List.mem_cons.1 hr with rfl | hr
    · exact h.1
    · exact ih h.2 r hr
section
variable {A : Amb} {P : Program} {s : St}
variable {f : FuncId} {xs : List Operand} {tys : Array TypeId} {args : List (Bool × List LV)} {d : Nat} {ty : TypeId} {pos : String} {af : Array Edge} {g : Option (Nat × Bool)} {pv : PV} {T : Tab}
theorem Does.callG (n : Nat) (hc : FC P f args [] 0 (Is pv T)) (hE : Enters P f) (ha : EvL A s xs args) (hcl : closedB pv T = true) (hn : Nat.blt d A.n = true) (hfr : FrL s n (tabTags T)) (hk0 : A.k0 ≤ n) :
    Does A P ⟨some d, .call ⟨.value (.func f), xs.toArray, tys⟩, ty, pos, af, g⟩ s (s.back d n pv T) :=
  fun a w K Q r hK => DoesT.call n hc hE ha (by rintro _ _ ⟨rfl, rfl⟩; exact hcl) (by rintro _ _ ⟨rfl, rfl⟩ q ⟨e, hq⟩; exact hfr.get q (tabTags_spec hq).1) hk0 hn a w K Q r (by
    rintro s' a' w' ⟨_, _, ⟨rfl, rfl⟩, rfl⟩ r'
    exact hK _ _ r')
theorem Does.callGB (n : Nat) (hc : FC P f args [] 0 (Is pv T)) (hE : Enters P f) (ha : EvLB A s xs args) (hcl : closedB pv T = true) (hf : (pv.fl && T.fl) = true) (hn : Nat.blt d A.n = true) (hfr : FrL s n (tabTags T)) (hk0 : A.k0 ≤ n) :
    Does A P ⟨some d, .call ⟨.value (.func f), xs.toArray, tys⟩, ty, pos, af, g⟩ s (s.back d n pv T) :=
  fun a w K Q r hK => DoesT.callB n hc hE ha (by rintro _ _ ⟨rfl, rfl⟩; exact hcl) (by rintro _ _ ⟨rfl, rfl⟩; simpa using hf) (by rintro _ _ ⟨rfl, rfl⟩ q ⟨e, hq⟩; exact hfr.get q (tabTags_spec hq).1) hk0 hn a w K Q r (by
    rintro s' a' w' ⟨_, _, ⟨rfl, rfl⟩, rfl⟩ r'
    exact hK _ _ r')
theorem fin_is {fn : Func} {k : Nat} (pv : PV) (T' : Tab) (ρ : List (Nat × Nat)) {pv0 : PV} (h1 : Res A P fn s pv0) (h0 : pv0 = pv.ren (rn ρ)) (h2 : HasE ⟨[], s.tab⟩ ρ T') (h3 : dupB (T'.map fun x => rn ρ x.1) = true) (h4 : idB ρ k = true) : fin A P fn (RenO (Is pv T') k) .ret s :=
  fin_ret pv T' ρ (h0 ▸ h1) h2 h3 h4 ⟨rfl, rfl⟩
end
/-! Frozen answers -/
def LV.thaw (T : Tab) : LV → LV
  | .ref q => match T.ent q with
    | some (.arr E e xs) => .dat (.sl E e) xs
    | _ => .ref q
  | l => l
def PV.thaw (T : Tab) : PV → PV
  | .cm b ls => .cm b (ls.map (LV.thaw T))
  | .tup cs => .tup (cs.map fun c => (c.1, c.2.map (LV.thaw T)))
section
variable {T : Tab} {gh : Gh} {w : World}
theorem LVR.thaw (cx : Cx T gh w) {l : LV} {v : Value} (h : LVR T.al gh w l v) : LVR (Tab.al []) ⟨gh.h, gh.f, fun g => gh.N g ∨ ∃ q, T.al q ∧ g ∈ gh.f q⟩ w (l.thaw T) v := by
  have hm : ∀ l, LVR T.al gh w l v → LVR (Tab.al []) ⟨gh.h, gh.f, fun g => gh.N g ∨ ∃ q, T.al q ∧ g ∈ gh.f q⟩ w l v := fun l h => h.mono (fun q _ h => absurd h (al_nil q)) fun g hg => ⟨.inl hg, rfl⟩
  cases l with
  | ref q =>
    simp only [LV.thaw]
    split
    · rename_i E e xs he
      have hv : v = gh.h q := h ⟨_, he⟩
      have hO : Own (.sl E e) w (gh.f q) [gh.h q] xs := cx.en q _ he
      rw [hv]
      exact hO.rd fun g hg => .inr ⟨q, ⟨_, he⟩, hg⟩
    · exact hm _ h
  | _ => exact hm _ h
theorem LVs.thaw (cx : Cx T gh w) {ls : List LV} {vs : List Value} (h : LVs T.al gh w ls vs) : LVs (Tab.al []) ⟨gh.h, gh.f, fun g => gh.N g ∨ ∃ q, T.al q ∧ g ∈ gh.f q⟩ w (ls.map (LV.thaw T)) vs := by
  induction ls generalizing vs with
  | nil => exact h
  | cons l ls ih => obtain ⟨v, vs', rfl, h1, h2⟩ := h; exact ⟨v, _, rfl, h1.thaw cx, ih h2⟩
theorem CmR.thaw (cx : Cx T gh w) {c : Bool × List LV} {v : Value} (h : CmR T.al gh w c v) : CmR (Tab.al []) ⟨gh.h, gh.f, fun g => gh.N g ∨ ∃ q, T.al q ∧ g ∈ gh.f q⟩ w (c.1, c.2.map (LV.thaw T)) v := by
  obtain ⟨b, ls⟩ := c
  cases b with
  | true => obtain ⟨vs, rfl, h1⟩ := h; exact ⟨vs, rfl, h1.thaw cx⟩
  | false => obtain ⟨l, rfl, h1⟩ := h; exact ⟨_, rfl, h1.thaw cx⟩
theorem PVR.thaw (cx : Cx T gh w) {pv : PV} {v : Value} (h : PVR T.al gh w pv v) : PVR (Tab.al []) ⟨gh.h, gh.f, fun g => gh.N g ∨ ∃ q, T.al q ∧ g ∈ gh.f q⟩ w (pv.thaw T) v := by
  cases pv with
  | cm b ls => exact CmR.thaw cx (c := (b, ls)) h
  | tup cs =>
    obtain ⟨vs, rfl, h1⟩ := h
    refine ⟨vs, rfl, ?_⟩
    induction cs generalizing vs with
    | nil => exact h1
    | cons c cs ih => obtain ⟨v, vs', rfl, h2, h3⟩ := h1; exact ⟨v, _, rfl, h2.thaw cx, ih _ h3⟩
end
theorem Acts.of1 {A : Amb} {P : Program} {ops : Array Oper} {o : Oper} {s s1 s' : St} (hg : o.guard = none) (h : Does A P o s s1) (e : s1 = s') : Acts A P ops o s s' := e ▸ Acts.of hg h
theorem Acts.yes1 {A : Amb} {P : Program} {ops : Array Oper} {o : Oper} {s s1 s' : St} {j d : Nat} {b : Bool} (hg : o.guard = some (j, b)) (hd : (ops[j]?).bind (·.dst) = some d) (hb : lk s.tm d = some (lf (dB b))) (h : Does A P o s s1) (e : s1 = s') : Acts A P ops o s s' := e ▸ Acts.yes hg hd hb h
/-! A nil slice as one's own -/
section
variable {A : Amb} {s : St}
theorem Wk.nilS (t i : Nat) (E : TypeId) (e : Ty) (hi : lk s.tm i = some (lf (.val (.slice none 0 0)))) (hfr : Fresh s t) (hk0 : A.k0 ≤ t) : Wk A s ⟨(i, lf (.ref t)) :: s.tm, (t, some (.arr E e [])) :: s.tab⟩ := fun a w r => by
  obtain ⟨gh, r⟩ := r
  obtain ⟨v, h1, l, h2, h3⟩ := r.tm i _ hi
  simp only [List.cons.injEq, and_true] at h2
  subst h2
  have hv : v = .slice none 0 0 := h3
  have r2 := r.make t hfr hk0 [] (by simp) (Grw.refl w) (fun _ _ _ => rfl) (E := E) (e := e) (xs := []) (hv := .slice none 0 0) (fp := []) (.inl ⟨rfl, rfl, rfl⟩) List.nodup_nil (by simp)
  exact ⟨_, r2.know h1 (pv := lf (.ref t)) ⟨_, rfl, fun _ => by simp [hv]⟩⟩
theorem Wk.nilC (t : Nat) {p off : Nat} {E' : TypeId} {cs : List LV} (E : TypeId) (e : Ty) (hp : s.tab.ent p = some (.box E' cs)) (ho : cs[off]? = some (.val (.slice none 0 0))) (hfr : Fresh s t) (hk0 : A.k0 ≤ t) :
    Wk A s ⟨s.tm, (p, some (.box E' (splice cs off [.ref t]))) :: (t, some (.arr E e [])) :: s.tab⟩ := fun a w r => by
  obtain ⟨gh, r⟩ := r
  have hne : p ≠ t := fun h => hfr.al ⟨_, h ▸ hp⟩
  obtain ⟨g, cur, h1, h2, h3, h4⟩ := r.cx.en p _ hp
  obtain ⟨v, h5, h6⟩ := h4.nth ho
  have hv : v = .slice none 0 0 := h6
  have r2 := r.make t hfr hk0 [] (by simp) (Grw.refl w) (fun _ _ _ => rfl) (E := E) (e := e) (xs := []) (hv := .slice none 0 0) (fp := []) (.inl ⟨rfl, rfl, rfl⟩) List.nodup_nil (by simp)
  have hp' : Tab.ent ((t, some (.arr E e [])) :: (tombs [] ++ s.tab)) p = some (.box E' cs) := by rw [Tab.ent_cons, if_neg hne]; exact hp
  obtain ⟨g', cur', k1, k2, k3, k4⟩ := r2.cx.en p _ hp'
  simp only [if_neg hne] at k1 k2
  rw [h1] at k1
  cases k1
  rw [h3] at k3
  cases k3
  have hD : LVs (Tab.al ((t, some (.arr E e [])) :: (tombs [] ++ s.tab))) ⟨fun q => if q = t then .slice none 0 0 else gh.h q, fun q => if q = t then [] else gh.f q, gh.N⟩ w [.ref t] [v] := ⟨v, [], rfl, fun _ => by simp [hv], rfl⟩
  have hS := k4.splice hD (off := off)
  have hsame : cur.toList.take off ++ [v] ++ cur.toList.drop (off + [v].length) = cur.toList := by
    have hl := (List.getElem?_eq_some_iff.1 h5)
    obtain ⟨hl, hl2⟩ := hl
    conv => rhs; rw [← List.take_append_drop (off + 1) cur.toList, List.take_succ_eq_append_getElem hl, hl2]
    rfl
  rw [hsame] at hS
  exact ⟨_, r2.mod hp' (Grw.refl w) (fun _ _ _ => rfl) ⟨g, cur, by simp only [if_neg hne]; exact h1, by simp only [if_neg hne]; exact h2, h3, hS⟩⟩
end
end Go.Proofs.Ytbelopdphlllnaa

/- Abstract states: own slices whose elements own slices, opened cell by cell. No program is named here. -/
namespace Go.Proofs.Ytbelopdphlllnaa
open Go.RowKit

section
variable {al : Nat → Prop} {gh : Gh} {w : World}
theorem LOs.app {l1 l2 : List LV} {f1 f2 : List Nat} {c1 c2 : List Value} (h : LOs al gh w l1 f1 c1) (k : LOs al gh w l2 f2 c2) : LOs al gh w (l1 ++ l2) (f1 ++ f2) (c1 ++ c2) := by
  induction l1 generalizing f1 c1 with
  | nil => obtain ⟨rfl, rfl⟩ := h; exact k
  | cons l ls ih => obtain ⟨fa, fb, v, cs', rfl, rfl, h1, h2⟩ := h; exact ⟨fa, fb ++ f2, v, cs' ++ c2, by rw [List.append_assoc], rfl, h1, ih h2⟩
theorem LOs.split {l1 l2 : List LV} {f : List Nat} {c : List Value} (h : LOs al gh w (l1 ++ l2) f c) : ∃ f1 f2 c1 c2, f = f1 ++ f2 ∧ c = c1 ++ c2 ∧ LOs al gh w l1 f1 c1 ∧ LOs al gh w l2 f2 c2 := by
  induction l1 generalizing f c with
  | nil => exact ⟨[], f, [], c, rfl, rfl, ⟨rfl, rfl⟩, h⟩
  | cons l ls ih =>
    obtain ⟨fa, fb, v, cs', rfl, rfl, h1, h2⟩ := h
    obtain ⟨g1, g2, d1, d2, rfl, rfl, h3, h4⟩ := ih h2
    exact ⟨fa ++ g1, g2, v :: d1, d2, by rw [List.append_assoc], rfl, ⟨fa, g1, v, d1, rfl, rfl, h1, h3⟩, h4⟩
theorem LOs.len {ls : List LV} {f : List Nat} {cs : List Value} (h : LOs al gh w ls f cs) : cs.length = ls.length := by
  induction ls generalizing f cs with
  | nil => rw [h.2]; rfl
  | cons l ls ih => obtain ⟨f1, f2, v, cs', rfl, rfl, h1, h2⟩ := h; simp [ih h2]
/-- The cell at p. -/
theorem LOs.parts {ls : List LV} {f : List Nat} {cs : List Value} (h : LOs al gh w ls f cs) {p : Nat} {l : LV} (hl : ls[p]? = some l) :
    ∃ fa f1 fb ca v cb, f = fa ++ (f1 ++ fb) ∧ cs = ca ++ v :: cb ∧ ca.length = p ∧ LOs al gh w (ls.take p) fa ca ∧ LO al gh w l f1 v ∧ LOs al gh w (ls.drop (p + 1)) fb cb := by
  obtain ⟨hlt, hl2⟩ := List.getElem?_eq_some_iff.1 hl
  have e : ls = ls.take p ++ l :: ls.drop (p + 1) := by
    conv => lhs; rw [← List.take_append_drop p ls, List.drop_eq_getElem_cons hlt, hl2]
  rw [e] at h
  obtain ⟨fa, f2, ca, c2, rfl, rfl, h1, h2⟩ := LOs.split h
  obtain ⟨f1, fb, v, cb, rfl, rfl, h3, h4⟩ := h2
  refine ⟨fa, f1, fb, ca, v, cb, rfl, rfl, ?_, h1, h3, h4⟩
  rw [h1.len, List.length_take]; omega
theorem LOs.put {ls : List LV} {p : Nat} {l : LV} {fa f1 fb : List Nat} {ca cb : List Value} {v : Value} (hp : p < ls.length) (h1 : LOs al gh w (ls.take p) fa ca) (h2 : LO al gh w l f1 v) (h3 : LOs al gh w (ls.drop (p + 1)) fb cb) :
    LOs al gh w (ls.set p l) (fa ++ (f1 ++ fb)) (ca ++ v :: cb) := by
  rw [List.set_eq_take_append_cons_drop, if_pos hp]
  exact h1.app ⟨f1, fb, v, cb, rfl, rfl, h2, h3⟩
theorem Own.los : ∀ {t : Ty} {f : List Nat} {cs : List Value} {x : t.Den}, Own t w f cs x → LOs al gh w (leaves t x) f cs
  | .int, f, cs, x, h => by have h1 := h.1; have h2 := h.2.1; subst h1; subst h2; exact ⟨[], [], _, [], rfl, rfl, h, rfl, rfl⟩
  | .bool, f, cs, x, h => by have h1 := h.1; have h2 := h.2; subst h1; subst h2; exact ⟨[], [], _, [], rfl, rfl, h, rfl, rfl⟩
  | .str, f, cs, x, h => by have h1 := h.1; have h2 := h.2.1; subst h1; subst h2; exact ⟨[], [], _, [], rfl, rfl, h, rfl, rfl⟩
  | .u8, f, cs, x, h => by have h1 := h.1; have h2 := h.2; subst h1; subst h2; exact ⟨[], [], _, [], rfl, rfl, h, rfl, rfl⟩
  | .sl E e, f, cs, x, h => by
    have hl := h.len
    match cs, hl with
    | [v], _ => exact ⟨f, [], v, [], by simp, rfl, h, rfl, rfl⟩
  | .pr a b, _, _, _, ⟨f1, f2, l, r, rfl, rfl, h2, h3⟩ => LOs.app (Own.los h2) (Own.los h3)
theorem LOs.own : ∀ {t : Ty} {f : List Nat} {cs : List Value} {x : t.Den}, LOs al gh w (leaves t x) f cs → Own t w f cs x
  | .int, f, cs, x, ⟨f1, f2, v, cs', h1, h2, h3, h4, h5⟩ => by subst h1; subst h2; subst h4; subst h5; rw [List.append_nil]; exact h3
  | .bool, f, cs, x, ⟨f1, f2, v, cs', h1, h2, h3, h4, h5⟩ => by subst h1; subst h2; subst h4; subst h5; rw [List.append_nil]; exact h3
  | .str, f, cs, x, ⟨f1, f2, v, cs', h1, h2, h3, h4, h5⟩ => by subst h1; subst h2; subst h4; subst h5; rw [List.append_nil]; exact h3
  | .u8, f, cs, x, ⟨f1, f2, v, cs', h1, h2, h3, h4, h5⟩ => by subst h1; subst h2; subst h4; subst h5; rw [List.append_nil]; exact h3
  | .sl E e, f, cs, x, ⟨f1, f2, v, cs', h1, h2, h3, h4, h5⟩ => by subst h1; subst h2; subst h4; subst h5; rw [List.append_nil]; exact h3
  | .pr a b, f, cs, x, h => by
    obtain ⟨f1, f2, c1, c2, rfl, rfl, h1, h2⟩ := LOs.split h
    exact ⟨f1, f2, c1, c2, rfl, rfl, LOs.own h1, LOs.own h2⟩
/-- The cells of all elements. -/
def cellsL (e : Ty) (xs : List e.Den) : List LV := xs.flatMap (leaves e)
theorem OwnL.los {e : Ty} : ∀ {xs : List e.Den} {f : List Nat} {cs : List Value}, OwnL (Own e w) f cs xs → LOs al gh w (cellsL e xs) f cs
  | [], _, _, h => h
  | x :: xs, _, _, ⟨f1, f2, c1, c2, rfl, rfl, h3, h4⟩ => by
    show LOs al gh w (leaves e x ++ cellsL e xs) _ _
    exact (Own.los h3).app (OwnL.los h4)
theorem LOs.ownL {e : Ty} : ∀ {xs : List e.Den} {f : List Nat} {cs : List Value}, LOs al gh w (cellsL e xs) f cs → OwnL (Own e w) f cs xs
  | [], _, _, h => h
  | x :: xs, _, _, h => by
    have h : LOs al gh w (leaves e x ++ cellsL e xs) _ _ := h
    obtain ⟨f1, f2, c1, c2, rfl, rfl, h1, h2⟩ := LOs.split h
    exact ⟨f1, f2, c1, c2, rfl, rfl, LOs.own h1, LOs.ownL h2⟩
theorem cellsL_len (e : Ty) (xs : List e.Den) : (cellsL e xs).length = xs.length * e.wd := by
  induction xs with
  | nil => simp [cellsL]
  | cons x xs ih =>
    show (leaves e x ++ cellsL e xs).length = _
    rw [List.length_append, leaves_len, ih, List.length_cons, Nat.add_mul, Nat.one_mul, Nat.add_comm]
theorem cellsL_get {e : Ty} {xs : List e.Den} {i j : Nat} {x : e.Den} {l : LV} (hx : xs[i]? = some x) (hl : (leaves e x)[j]? = some l) : (cellsL e xs)[i * e.wd + j]? = some l := by
  induction xs generalizing i with
  | nil => simp at hx
  | cons y ys ih =>
    show (leaves e y ++ cellsL e ys)[_]? = _
    have hj : j < e.wd := by rw [← leaves_len e x]; exact (List.getElem?_eq_some_iff.1 hl).1
    cases i with
    | zero =>
      simp at hx
      subst hx
      rw [Nat.zero_mul, Nat.zero_add, List.getElem?_append_left (by rw [leaves_len]; exact hj)]
      exact hl
    | succ i =>
      rw [List.getElem?_append_right (by rw [leaves_len, Nat.add_mul]; omega), leaves_len]
      rw [show (i + 1) * e.wd + j - e.wd = i * e.wd + j by rw [Nat.add_mul]; omega]
      exact ih (by simpa using hx)
theorem cellsL_set {e : Ty} {xs : List e.Den} {i j : Nat} {x x' : e.Den} {l : LV} (hx : xs[i]? = some x) (hl : leaves e x' = (leaves e x).set j l) (hj : j < e.wd) : cellsL e (xs.set i x') = (cellsL e xs).set (i * e.wd + j) l := by
  induction xs generalizing i with
  | nil => simp at hx
  | cons y ys ih =>
    cases i with
    | zero =>
      simp at hx
      subst hx
      show leaves e x' ++ cellsL e ys = (leaves e y ++ cellsL e ys).set _ l
      rw [Nat.zero_mul, Nat.zero_add, List.set_append_left _ _ (by rw [leaves_len]; exact hj), hl]
    | succ i =>
      show leaves e y ++ cellsL e (ys.set i x') = (leaves e y ++ cellsL e ys).set _ l
      rw [List.set_append_right _ _ (by rw [leaves_len, Nat.add_mul]; omega), leaves_len, ih (by simpa using hx)]
      congr 2
      rw [Nat.add_mul]; omega
end

theorem cellsL_tags (e : Ty) : ∀ (xs : List e.Den), lvsTags (cellsL e xs) = []
  | [] => rfl
  | x :: xs => by rw [show cellsL e (x :: xs) = leaves e x ++ cellsL e xs from rfl, lvsTags_app, leaves_tags, cellsL_tags e xs]; rfl
section
variable {A : Amb} {P : Program} {s : St} {x y : Operand} {d : Nat} {T T' ty : TypeId} {pos : String} {af : Array Edge} {g : Option (Nat × Bool)}
theorem Wk.open {q : Nat} {E : TypeId} {e : Ty} {xs : List e.Den} (he : s.tab.ent q = some (.arr E e xs)) (hl : 0 < xs.length) : Wk A s ⟨s.tm, (q, some (.obx E e.wd xs.length (cellsL e xs) [])) :: s.tab⟩ := fun a w r => by
  obtain ⟨gh, r⟩ := r
  have hO : Own (.sl E e) w (gh.f q) [gh.h q] xs := r.cx.en q _ he
  rcases hO with ⟨_, _, h⟩ | ⟨b, cap, cur, fps, h2, h3, h4, h5, h6, h7, h8⟩
  · subst h; simp at hl
  · simp only [List.cons.injEq, and_true] at h3
    exact ⟨gh, r.mod he (Grw.refl w) (fun _ _ _ => rfl) ⟨cellsL_tags e xs, b, cap, cur, fps, h3, h2, h4, h5, h6, h7, cellsL_len e xs, h8.los⟩⟩
theorem Wk.close {q n : Nat} {E : TypeId} {e : Ty} {ls : List LV} {ov : List (Nat × LV)} (xs : List e.Den) (he : s.tab.ent q = some (.obx E e.wd n ls ov)) (hn : n = xs.length) (hl : ovr ls ov = cellsL e xs) : Wk A s ⟨s.tm, (q, some (.arr E e xs)) :: s.tab⟩ := fun a w r => by
  subst hn
  obtain ⟨gh, r⟩ := r
  obtain ⟨h00, g, cap, cur, fps, h1, h2, h3, h4, h5, h6, h7, h8⟩ := r.cx.en q _ he
  refine ⟨gh, r.mod he (Grw.refl w) (fun _ _ _ => rfl) ?_⟩
  refine .inr ⟨g, cap, cur, fps, h2, by rw [h1], h3, h4, h5, h6, (hl ▸ h8).ownL⟩
/-- The cell p for itself: the tag t. -/
theorem Wk.splitX (t : Nat) {q wd n p : Nat} {E E' : TypeId} {e' : Ty} {ys : List e'.Den} {ls : List LV} {ov : List (Nat × LV)} (he : s.tab.ent q = some (.obx E wd n ls ov)) (hl : (ovr ls ov)[p]? = some (.dat (.sl E' e') ys)) (hfr : Fresh s t) (hk0 : A.k0 ≤ t) :
    Wk A s ⟨s.tm, (t, some (.arr E' e' ys)) :: (q, some (.obx E wd n ls ((p, .ref t) :: ov))) :: s.tab⟩ := fun a w r => by
  obtain ⟨gh, r⟩ := r
  have hq : s.tab.al q := ⟨_, he⟩
  have hqt : q ≠ t := fun h => hfr.al (h ▸ hq)
  obtain ⟨h00, g, cap, cur, fps, h1, h2, h3, h4, h5, h6, h7, h8⟩ := r.cx.en q _ he
  obtain ⟨fa, f1, fb, ca, v, cb, k1, k2, k3, k4, k5, k6⟩ := h8.parts hl
  have hO : Own (.sl E' e') w f1 [v] ys := k5
  have hpl : p < (ovr ls ov).length := (List.getElem?_eq_some_iff.1 hl).1
  have hnd := r.cx.nd q hq
  rw [h2, k1] at hnd
  have hnd1 := (List.nodup_cons.1 hnd)
  have hnd2 := List.nodup_append.1 hnd1.2
  have hnd3 := List.nodup_append.1 hnd2.2.1
  let gh' : Gh := ⟨fun r => if r = t then v else gh.h r, fun r => if r = t then f1 else if r = q then g :: (fa ++ fb) else gh.f r, gh.N⟩
  have hal : ∀ r, Tab.al ((t, some (.arr E' e' ys)) :: (q, some (.obx E wd n ls ((p, .ref t) :: ov))) :: s.tab) r → r = t ∨ (r ≠ t ∧ s.tab.al r) := fun r' h => by
    by_cases e1 : r' = t
    · exact .inl e1
    · refine .inr ⟨e1, ?_⟩
      obtain ⟨e2, h⟩ := h
      rw [Tab.ent_cons, if_neg e1, Tab.ent_cons] at h
      by_cases e3 : r' = q
      · rw [e3]; exact hq
      · rw [if_neg e3] at h; exact ⟨_, h⟩
  have hsub1 : ∀ x ∈ f1, x ∈ gh.f q := fun x hx => by rw [h2, k1]; simp [hx]
  have hsubq : ∀ x ∈ g :: (fa ++ fb), x ∈ gh.f q := fun x hx => by
    rw [h2, k1]
    simp only [List.mem_cons, List.mem_append] at hx ⊢
    rcases hx with h | h | h <;> simp [h]
  have hdis : ∀ x ∈ f1, x ∉ g :: (fa ++ fb) := fun x hx hm => by
    rcases List.mem_cons.1 hm with rfl | hm
    · exact hnd1.1 (List.mem_append_right _ (List.mem_append_left _ hx))
    · rcases List.mem_append.1 hm with hm | hm
      · exact hnd2.2.2 x hm x (List.mem_append_left _ hx) rfl
      · exact hnd3.2.2 x hx x hm rfl
  have hf' : ∀ r', r' ≠ t → ∀ x ∈ gh'.f r', x ∈ gh.f r' := fun r' e1 x hx => by
    simp only [gh', if_neg e1] at hx
    by_cases e2 : r' = q
    · rw [if_pos e2] at hx; rw [e2]; exact hsubq x hx
    · rw [if_neg e2] at hx; exact hx
  have hft : gh'.f t = f1 := by simp [gh']
  have hfq : gh'.f q = g :: (fa ++ fb) := by simp [gh', hqt]
  have r2 := r.step (T := (t, some (.arr E' e' ys)) :: (q, some (.obx E wd n ls ((p, .ref t) :: ov))) :: s.tab) (gh' := gh') (w' := w) ?_ ?_ (fun g hg => ⟨hg, rfl⟩) (Grw.refl w) (fun _ _ _ => rfl) (fun g hg => .inl hg) ?_
  · exact ⟨gh', r2⟩
  · refine ⟨fun r' e2 h => ?_, fun a b ha hb hne x hx hx' => ?_, fun r' h => ?_, fun r' h x hx => ?_, r.cx.nl⟩
    · rw [Tab.ent_cons] at h
      by_cases e1 : r' = t
      · rw [if_pos e1] at h
        cases h
        subst e1
        show Own (.sl E' e') w (gh'.f r') [gh'.h r'] ys
        simpa [gh'] using hO
      · rw [if_neg e1, Tab.ent_cons] at h
        by_cases e3 : r' = q
        · rw [if_pos e3] at h
          cases h
          subst e3
          refine ⟨h00, g, cap, cur, fa ++ fb, by simp [gh', e1, h1], hfq, h3, h4, h5, h6, by simpa [ovr] using h7, ?_⟩
          rw [k2]
          have hm : ∀ (l : List LV) (f : List Nat) (c : List Value), (∀ r' ∈ lvsTags l, r' ≠ t) → LOs s.tab.al gh w l f c → LOs (Tab.al ((t, some (.arr E' e' ys)) :: (r', some (.obx E wd n ls ((p, .ref t) :: ov))) :: s.tab)) gh' w l f c := fun l f c hlt h => h.mono (fun r2 hr2 ha => by
            rcases hal r2 ha with h9 | ⟨h9, h10⟩
            · exact absurd h9 (hlt r2 hr2)
            · exact ⟨h10, by simp [gh', h9]⟩) fun _ _ => rfl
          have htag : ∀ r2 ∈ lvsTags (ovr ls ov), r2 ≠ t := fun r2 hr2 h => hfr.en r' _ he (by show t ∈ ovTags ov; rw [← h]; exact ovr_tags h00 r2 hr2)
          have hput := LOs.put (p := p) (l := .ref t) (f1 := []) (v := v) hpl (hm _ _ _ (fun r2 hr2 => htag r2 (lvsTags_take p r2 hr2)) k4) ⟨rfl, Rep.one hO.rep v (by simp), fun _ => by simp [gh']⟩ (hm _ _ _ (fun r2 hr2 => htag r2 (lvsTags_drop _ r2 hr2)) k6)
          simpa [ovr] using hput
        · rw [if_neg e3] at h
          have h9 := r.cx.en r' e2 h
          refine h9.mono (fun r2 hr2 ha => ?_) (fun g hg => ⟨hg, rfl⟩) (by simp [gh', e1]) (by simp [gh', e1, e3]) fun _ _ => rfl
          rcases hal r2 ha with h10 | ⟨h10, h11⟩
          · exact absurd (h10 ▸ hr2) (hfr.en r' e2 h)
          · exact ⟨h11, by simp [gh', h10]⟩
    · rcases hal a ha with ha | ⟨ha, ka⟩ <;> rcases hal b hb with hb | ⟨hb, kb⟩
      · exact hne (ha.trans hb.symm)
      · subst ha
        rw [hft] at hx
        by_cases e3 : b = q
        · subst e3; rw [hfq] at hx'; exact hdis x hx hx'
        · exact r.cx.dj q b hq kb (fun h => e3 h.symm) x (hsub1 x hx) (hf' b hb x hx')
      · subst hb
        rw [hft] at hx'
        by_cases e3 : a = q
        · subst e3; rw [hfq] at hx; exact hdis x hx' hx
        · exact r.cx.dj q a hq ka (fun h => e3 h.symm) x (hsub1 x hx') (hf' a ha x hx)
      · exact r.cx.dj a b ka kb hne x (hf' a ha x hx) (hf' b hb x hx')
    · rcases hal r' h with h | ⟨h, k⟩
      · subst h; rw [hft]; exact hnd3.1
      · by_cases e3 : r' = q
        · subst e3
          rw [hfq]
          refine List.nodup_cons.2 ⟨fun hm => hnd1.1 (by
            rcases List.mem_append.1 hm with hm | hm
            · exact List.mem_append_left _ hm
            · exact List.mem_append_right _ (List.mem_append_right _ hm)), List.nodup_append.2 ⟨hnd2.1, hnd3.2.1, fun a ha b hb => hnd2.2.2 a ha b (List.mem_append_right _ hb)⟩⟩
        · have : gh'.f r' = gh.f r' := by simp [gh', h, e3]
          rw [this]; exact r.cx.nd r' k
    · rcases hal r' h with h | ⟨h, k⟩
      · subst h; rw [hft] at hx; exact r.cx.no q hq x (hsub1 x hx)
      · exact r.cx.no r' k x (hf' r' h x hx)
  · intro r' h
    rcases hal r' h with h | ⟨h, k⟩
    · exact .inr ⟨h ▸ hfr, h ▸ hk0⟩
    · exact .inl ⟨k, by simp [gh', h], fun _ => rfl⟩
  · intro r' h x hx
    rcases hal r' h with h | ⟨h, k⟩
    · subst h; rw [hft] at hx; exact .inr ⟨q, hq, hsub1 x hx⟩
    · exact .inr ⟨r', k, hf' r' h x hx⟩
/-- The cell p back into its array. -/
theorem Wk.joinX {q t wd n p : Nat} {E E' : TypeId} {e' : Ty} {ys : List e'.Den} {ls : List LV} {ov : List (Nat × LV)} (he : s.tab.ent q = some (.obx E wd n ls ov)) (hl : (ovr ls ov)[p]? = some (.ref t)) (ht : s.tab.ent t = some (.arr E' e' ys)) :
    Wk A s ⟨s.tm, (q, some (.obx E wd n ls ((p, .dat (.sl E' e') ys) :: ov))) :: (t, none) :: s.tab⟩ := fun a w r => by
  obtain ⟨gh, r⟩ := r
  have hq : s.tab.al q := ⟨_, he⟩
  have hta : s.tab.al t := ⟨_, ht⟩
  have hqt : q ≠ t := fun h => by rw [h, ht] at he; cases he
  obtain ⟨h00, g, cap, cur, fps, h1, h2, h3, h4, h5, h6, h7, h8⟩ := r.cx.en q _ he
  obtain ⟨fa, f1, fb, ca, v, cb, k1, k2, k3, k4, k5, k6⟩ := h8.parts hl
  obtain ⟨rfl, hone, hv⟩ := k5
  have hv := hv hta
  have hO : Own (.sl E' e') w (gh.f t) [gh.h t] ys := r.cx.en t _ ht
  have hpl : p < (ovr ls ov).length := (List.getElem?_eq_some_iff.1 hl).1
  rw [List.nil_append] at k1
  have hndq := r.cx.nd q hq
  rw [h2, k1] at hndq
  let gh' : Gh := ⟨gh.h, fun r => if r = q then g :: (fa ++ (gh.f t ++ fb)) else gh.f r, gh.N⟩
  have hal : ∀ r, Tab.al ((q, some (.obx E wd n ls ((p, .dat (.sl E' e') ys) :: ov))) :: (t, none) :: s.tab) r → r ≠ t ∧ s.tab.al r := fun r' h => by
    obtain ⟨e2, h⟩ := h
    rw [Tab.ent_cons] at h
    by_cases e1 : r' = q
    · rw [e1]; exact ⟨hqt, hq⟩
    · rw [if_neg e1, Tab.ent_cons] at h
      by_cases e3 : r' = t
      · rw [if_pos e3] at h; cases h
      · rw [if_neg e3] at h; exact ⟨e3, _, h⟩
  have hfq : gh'.f q = g :: (fa ++ (gh.f t ++ fb)) := by simp [gh']
  have hmem : ∀ r', ∀ x ∈ gh'.f r', x ∈ gh.f r' ∨ (r' = q ∧ x ∈ gh.f t) := fun r' x hx => by
    by_cases e1 : r' = q
    · subst e1
      rw [hfq] at hx
      rw [h2, k1]
      simp only [List.mem_cons, List.mem_append] at hx ⊢
      rcases hx with h | h | h | h
      · exact .inl (.inl h)
      · exact .inl (.inr (.inl h))
      · exact .inr ⟨trivial, h⟩
      · exact .inl (.inr (.inr h))
    · simp only [gh', if_neg e1] at hx; exact .inl hx
  have r2 := r.step (T := (q, some (.obx E wd n ls ((p, .dat (.sl E' e') ys) :: ov))) :: (t, none) :: s.tab) (gh' := gh') (w' := w) ?_ ?_ (fun g hg => ⟨hg, rfl⟩) (Grw.refl w) (fun _ _ _ => rfl) (fun g hg => .inl hg) ?_
  · exact ⟨gh', r2⟩
  · refine ⟨fun r' e2 h => ?_, fun a b ha hb hne x hx hx' => ?_, fun r' h => ?_, fun r' h x hx => ?_, r.cx.nl⟩
    · rw [Tab.ent_cons] at h
      by_cases e1 : r' = q
      · rw [if_pos e1] at h
        cases h
        subst e1
        refine ⟨h00, g, cap, cur, fa ++ (gh.f t ++ fb), h1, hfq, h3, h4, h5, h6, by simpa [ovr] using h7, ?_⟩
        rw [k2]
        have hm : ∀ (l : List LV) (f : List Nat) (c : List Value), LOs s.tab.al gh w l f c → LOs (Tab.al ((r', some (.obx E wd n ls ((p, .dat (.sl E' e') ys) :: ov))) :: (t, none) :: s.tab)) gh' w l f c := fun l f c h => h.mono (fun r2 hr2 ha => ⟨(hal r2 ha).2, rfl⟩) fun _ _ => rfl
        rw [← hv] at hO
        exact LOs.put hpl (hm _ _ _ k4) hO (hm _ _ _ k6)
      · rw [if_neg e1, Tab.ent_cons] at h
        by_cases e3 : r' = t
        · rw [if_pos e3] at h; cases h
        · rw [if_neg e3] at h
          exact (r.cx.en r' e2 h).mono (fun r2 hr2 ha => ⟨(hal r2 ha).2, rfl⟩) (fun g hg => ⟨hg, rfl⟩) rfl (by simp [gh', e1]) fun _ _ => rfl
    · obtain ⟨ha1, ha2⟩ := hal a ha
      obtain ⟨hb1, hb2⟩ := hal b hb
      rcases hmem a x hx with h | ⟨rfl, h⟩ <;> rcases hmem b x hx' with h' | ⟨rfl, h'⟩
      · exact r.cx.dj a b ha2 hb2 hne x h h'
      · exact r.cx.dj a t ha2 hta ha1 x h h'
      · exact r.cx.dj b t hb2 hta hb1 x h' h
      · exact hne rfl
    · obtain ⟨h9, h10⟩ := hal r' h
      by_cases e1 : r' = q
      · subst e1
        rw [hfq]
        have hn1 := List.nodup_cons.1 hndq
        have hn2 := List.nodup_append.1 hn1.2
        have hdj : ∀ x ∈ gh.f t, x ∉ gh.f r' := fun x hx hx' => r.cx.dj t r' hta hq (fun h => h9 h.symm) x hx hx'
        rw [h2, k1] at hdj
        refine List.nodup_cons.2 ⟨fun hm => ?_, List.nodup_append.2 ⟨hn2.1, List.nodup_append.2 ⟨r.cx.nd t hta, hn2.2.1, fun a ha b hb e => by subst e; exact hdj a ha (by simp [hb])⟩, fun a ha b hb e => ?_⟩⟩
        · simp only [List.mem_append] at hm
          rcases hm with hm | hm | hm
          · exact hn1.1 (List.mem_append_left _ hm)
          · exact hdj g hm (by simp)
          · exact hn1.1 (List.mem_append_right _ hm)
        · subst e
          rcases List.mem_append.1 hb with hb | hb
          · exact hdj a hb (by simp [ha])
          · exact hn2.2.2 a ha a hb rfl
      · have : gh'.f r' = gh.f r' := by simp [gh', e1]
        rw [this]; exact r.cx.nd r' h10
    · obtain ⟨h9, h10⟩ := hal r' h
      rcases hmem r' x hx with h' | ⟨rfl, h'⟩
      · exact r.cx.no r' h10 x h'
      · exact r.cx.no t hta x h'
  · intro r' h
    obtain ⟨h9, h10⟩ := hal r' h
    exact .inl ⟨h10, rfl, fun _ => rfl⟩
  · intro r' h x hx
    obtain ⟨h9, h10⟩ := hal r' h
    rcases hmem r' x hx with h' | ⟨rfl, h'⟩
    · exact .inr ⟨r', h10, h'⟩
    · exact .inr ⟨t, hta, h'⟩
theorem Does.indexX {q wd n : Nat} {E E' : TypeId} {ls : List LV} {ov : List (Nat × LV)} {i : Int} {bb : Bool} (hx : Evl A s x (.ref q)) (he : s.tab.ent q = some (.obx E wd n ls ov)) (hy : Evl A s y (dI i)) (hT : P.underlying T = some (.slice E')) (hE : tsh P E' = some (bb, wd)) (hn : Nat.blt d A.n = true)
    (h0 : 0 ≤ i) (h1 : i < n) : Does A P ⟨some d, .indexAddr T x y, ty, pos, af, g⟩ s (s.put d (lf (.ept q wd i.toNat 0))) :=
  Does.yields rfl hn fun gh a w r => by
    have hi := hy.i r
    have hv : a.eval x = gh.h q := hx gh a w r ⟨_, he⟩
    obtain ⟨h00, g, cap, cur, fps, k1, k2, k3, k4, k5, k6, k7, k8⟩ := r.cx.en q _ he
    refine ⟨.pointer (some ⟨g, 0 + i.toNat * wd, none⟩), ?_, _, rfl, fun _ => ⟨g, n, cap, k1, by simp⟩⟩
    simp only [execOp, hv, k1, hi, Go.Sem.run_bind, run_indexAt hT hE h0 h1]
    simp
theorem obx_cell {gh : Gh} {a : Act} {w : World} (r : Rg A s gh a w) {q wd n p : Nat} {E : TypeId} {ls : List LV} {ov : List (Nat × LV)} {l : LV} (he : s.tab.ent q = some (.obx E wd n ls ov)) (hl : (ovr ls ov)[p]? = some l) {g m c : Nat} (hh : gh.h q = .slice (some ⟨g, 0, none⟩) m c) :
    ∃ f v, LO s.tab.al gh w l f v ∧ w.cell? ⟨g, p, none⟩ = some v := by
  obtain ⟨h00, g', cap, cur, fps, h1, h2, h3, h4, h5, h6, h7, h8⟩ := r.cx.en q _ he
  rw [hh] at h1
  simp only [Value.slice.injEq, Option.some.injEq, Addr.mk.injEq, and_true] at h1
  obtain ⟨rfl, _, _⟩ := h1
  obtain ⟨fa, f1, fb, ca, v, cb, k1, k2, k3, k4, k5, k6⟩ := h8.parts hl
  refine ⟨f1, v, k5, ?_⟩
  have : (cur.toList.take (n * wd))[p]? = some v := by
    rw [k2, List.getElem?_append_right (by omega), k3, Nat.sub_self]; rfl
  rw [List.getElem?_take] at this
  split at this
  · simp only [World.cell?, h3]
    simpa using this
  · cases this
theorem Does.loadX {q wd i j n m t : Nat} {E : TypeId} {ls : List LV} {ov : List (Nat × LV)} {E' : TypeId} {e' : Ty} {ys : List e'.Den} (hx : Evl A s x (.ept q wd i j)) (he : s.tab.ent q = some (.obx E wd n ls ov)) (hl : (ovr ls ov)[i * wd + j]? = some (.ref t)) (ht : s.tab.ent t = some (.arr E' e' ys)) (hT : tsh P T = some (false, m)) (hn : Nat.blt d A.n = true) :
    Does A P ⟨some d, .load T x, ty, pos, af, g⟩ s (s.put d (lf (.ref t))) :=
  Does.yields rfl hn fun gh a w r => by
    obtain ⟨g, m', c, h1, h2⟩ := hx gh a w r ⟨_, he⟩
    obtain ⟨f, v, k1, k2⟩ := obx_cell r he hl h1
    refine ⟨v, ?_, _, rfl, fun h => k1.2.2 h⟩
    simp only [execOp, h2, Instr.loadAt, Instr.sureAddr, Go.Sem.run_bind, Go.Sem.run_pure, Result.andThen_ok, run_loadVar_one hT _ v k2]
/-- A cell that held a tag is written: it holds another one. -/
theorem Does.storeX {q wd i j n t t' : Nat} {E E' : TypeId} {e' : Ty} {ys : List e'.Den} {ls : List LV} {ov : List (Nat × LV)} (hx : Evl A s x (.ept q wd i j)) (he : s.tab.ent q = some (.obx E wd n ls ov)) (hl : (ovr ls ov)[i * wd + j]? = some (.ref t)) (hy : Evl A s y (.ref t')) (ht : s.tab.ent t' = some (.arr E' e' ys)) (hT : tsh P T = some (false, 1)) :
    Does A P ⟨none, .store T x y, ty, pos, af, g⟩ s ⟨s.tm, (q, some (.obx E wd n ls ((i * wd + j, .ref t') :: ov))) :: s.tab⟩ := fun a w K Q r hK => by
  obtain ⟨gh, r⟩ := r
  obtain ⟨g, m', c, h1, h2⟩ := hx gh a w r ⟨_, he⟩
  have hv : a.eval y = gh.h t' := hy gh a w r ⟨_, ht⟩
  have hone : (gh.h t').oneCell' = true := (r.cx.en t' _ ht).oneCell
  obtain ⟨h00, g', cap, cur, fps, p1, p2, p3, p4, p5, p6, p7, p8⟩ := r.cx.en q _ he
  rw [h1] at p1
  simp only [Value.slice.injEq, Option.some.injEq, Addr.mk.injEq, and_true] at p1
  obtain ⟨rfl, rfl, rfl⟩ := p1
  obtain ⟨fa, f1, fb, ca, v, cb, k1, k2, k3, k4, k5, k6⟩ := p8.parts hl
  obtain ⟨rfl, _, _⟩ := k5
  have hpl : i * wd + j < (ovr ls ov).length := (List.getElem?_eq_some_iff.1 hl).1
  have hcap : m' * wd ≤ cur.size := by rw [p6]; exact Nat.mul_le_mul_right _ p4
  have hcells : (a.eval y).cells = [a.eval y].toArray := by
    rw [hv]; cases hq : gh.h t' <;> first | rfl | (rw [hq] at hone; simp [Value.oneCell'] at hone)
  have h10 := run_storeVar (P := P) (w := w) (b := g) (o := i * wd + j) hT (a.eval y) [a.eval y] hcells rfl p3 (by omega) (by rw [hv]; simpa using hone)
  have e0 : (execOp a.eval ⟨none, .store T x y, ty, pos, af, ‹_›⟩).run P w = .ok .skip (puts w g (i * wd + j) [a.eval y]) := by
    simp only [execOp, h2, Instr.storeAt, Instr.sureAddr, Go.Sem.run_bind, Go.Sem.run_pure, Result.andThen_ok, h10]
  unfold Oper.wp
  rw [e0, Oper.upon_skip]
  obtain ⟨cur', m1, m2, m3⟩ := puts_row g E (0, 0) [a.eval y] w (i * wd + j) cur p3 (by simp; omega)
  have hoth : ∀ g0, g0 ≠ g → (puts w g (i * wd + j) [a.eval y]).heap[g0]? = w.heap[g0]? := fun g0 h => puts_other _ _ _ _ _ h
  have hN : (g :: fps).Nodup := by rw [← p2]; exact r.cx.nd q ⟨_, he⟩
  refine hK _ _ ⟨gh, r.mod he (puts_grw _ _ _ _) (fun g0 _ hg0 => hoth g0 fun h => hg0 (by rw [p2, h]; simp)) ⟨h00, g, c, cur', fps, h1, p2, m1, p4, p5, by rw [m2]; exact p6, by simpa [ovr] using p7, ?_⟩⟩
  have hkeep : ∀ (l : List LV) (f : List Nat) (c : List Value), (∀ x ∈ f, x ∈ fps) → LOs s.tab.al gh w l f c → LOs s.tab.al gh (puts w g (i * wd + j) [a.eval y]) l f c := fun l f c hf h => h.mono (fun _ _ h => ⟨h, rfl⟩) fun x hx => hoth x fun h => (List.nodup_cons.1 hN).1 (h ▸ hf x hx)
  have hput := LOs.put (p := i * wd + j) (l := .ref t') (f1 := []) (v := a.eval y) hpl (hkeep _ _ _ (fun x hx => by rw [k1]; simp [hx]) k4) ⟨rfl, by rw [hv]; exact hone, fun _ => hv⟩ (hkeep _ _ _ (fun x hx => by rw [k1]; simp [hx]) k6)
  rw [k1]
  have e2 : cur'.toList.take (m' * wd) = ca ++ a.eval y :: cb := by
    have hcl : (ca ++ v :: cb).length = m' * wd := by rw [← k2]; simp; omega
    have e3 : cur.toList = ca ++ v :: cb ++ cur.toList.drop (m' * wd) := by rw [← k2, List.take_append_drop]
    rw [m3]
    generalize cur.toList.drop (m' * wd) = rest at e3
    rw [e3, ← k3]
    have t1 : (ca ++ v :: cb ++ rest).take ca.length = ca := by rw [List.append_assoc, List.take_left]
    have t2 : (ca ++ v :: cb ++ rest).drop (ca.length + [a.eval y].length) = cb ++ rest := by
      rw [List.append_assoc]
      show (ca ++ (v :: cb ++ rest)).drop (ca.length + 1) = _
      rw [List.drop_length_add_append]
      rfl
    rw [t1, t2]
    have hl2 : (ca ++ a.eval y :: cb).length = m' * wd := by simpa using hcl
    rw [show ca ++ [a.eval y] ++ (cb ++ rest) = (ca ++ a.eval y :: cb) ++ rest by simp, ← hl2, List.take_left]
  rw [e2]
  exact hput
end

/-! nil slices as data; the numbers in a struct -/
def NilLe : List LV → List LV → Prop
  | [], ls' => ls' = []
  | l :: ls, ls' => ∃ l' r, ls' = l' :: r ∧ (l = l' ∨ ∃ E e, l = .val (.slice none 0 0) ∧ l' = .dat (.sl E e) []) ∧ NilLe ls r
section
variable {A : Amb} {s : St}
theorem fact_ag {x : Operand} {ls : List LV} {i : Nat} {n : Int} (h : Ev A s x (true, ls)) (hi : ls[i]? = some (dI n)) : ∀ gh a w, Rg A s gh a w → -9223372036854775808 ≤ n ∧ n ≤ 9223372036854775807 := fun gh a w r => by
  obtain ⟨vs, h1, h2⟩ := h gh a w r
  obtain ⟨v, _, h3⟩ := h2.get hi
  exact (LVR.int h3).2
end
theorem FC.O_all {P : Program} {f : FuncId} {args : List (Bool × List LV)} {T : Tab} {k : Nat} {O : PV → Tab → Prop} (h : ∀ O', O' = O → FC P f args T k O') : FC P f args T k O := h O rfl
end Go.Proofs.Ytbelopdphlllnaa

/- Abstract states: bytes and strings turned into each other. No program is named here. -/
namespace Go.Proofs.Ytbelopdphlllnaa
open Go.RowKit

section
variable {A : Amb} {P : Program} {s : St} {x y : Operand} {d : Nat} {T T' ty : TypeId} {pos : String} {af : Array Edge} {g : Option (Nat × Bool)}
variable {T' E : TypeId}
theorem run_nil_string (w : World) (T T' E : TypeId) (c : Nat) (hs : P.underlying T = some (.slice E)) (he : P.underlying E = some (.int .u8)) (hd : P.underlying T' = some .string) :
    (convert T T' (.slice none 0 c)).run P w = .ok (.string ByteArray.empty) w := by
  rw [run_convert_bytes_string w T T' E none 0 c hs he hd]
  simp [Conv.bytesToString, Go.Sem.run_pure]
theorem bytes_string {ys : List UInt8} {a : Act} {w : World} (hy : Rep (.sl E .u8) w [a.eval x] ys) (hs : P.underlying T = some (.slice E)) (he : P.underlying E = some (.int .u8)) (hd : P.underlying T' = some .string) :
    (convert T T' (a.eval x)).run P w = .ok (.string ⟨ys.toArray⟩) w := by
  obtain ⟨B, c, hv, h1, h2⟩ := hy.slv
  rw [hv] at hy ⊢
  cases ys with
  | nil =>
    cases B with
    | none => exact run_nil_string w T T' E c hs he hd
    | some b => exact run_convert_bytes_back w T T' E b c [] hs he hd (by simp)
  | cons z zs =>
    obtain ⟨b, o, ds, rfl, _, _⟩ := hy.at_ (i := 0) (x := z) rfl
    refine run_convert_bytes_back w T T' E ⟨b, o, none⟩ c (z :: zs) hs he hd fun j hj => ?_
    obtain ⟨b', o', ds, e1, e2, e3⟩ := hy.at_ (List.getElem?_eq_getElem hj)
    simp only [Option.some.injEq, Addr.mk.injEq] at e1
    obtain ⟨rfl, rfl, _⟩ := e1
    have e4 : ds = _ := e2
    have := e3 0 _ (by rw [e4]; rfl)
    have e5 : (⟨b, o, none⟩ : Addr).add j = ⟨b, o + j * Ty.u8.wd + 0, none⟩ := by rw [Addr.add_lit]; simp [Ty.wd]
    rw [e5]; exact this
theorem Does.ofBytes {ys : List UInt8} (hy : RepEv A s x (.sl E .u8) ys) (hs : P.underlying T = some (.slice E)) (he : P.underlying E = some (.int .u8)) (hd : P.underlying T' = some .string) (hn : Nat.blt d A.n = true) :
    Does A P ⟨some d, .convert T T' x, ty, pos, af, g⟩ s (s.put d (lf (dS ⟨ys.toArray⟩))) :=
  Does.yields rfl hn fun gh a w r => by
    have h := hy gh a w r
    obtain ⟨B, c, hv, h1, h2⟩ := h.slv
    refine ⟨_, ?_, _, rfl, LVR.mkS (x := ⟨ys.toArray⟩) ?_⟩
    · simp only [execOp, Go.Sem.run_bind]
      rw [bytes_string h hs he hd]
      rfl
    · show ys.toArray.size ≤ maxLen
      simp; omega
theorem Does.toU8 {n : Int} (hx : Evl A s x (dI n)) (hs : P.underlying T = some (.int .i64)) (hd : P.underlying T' = some (.int .u8)) (h0 : 0 ≤ n) (h1 : n < 256) (hn : Nat.blt d A.n = true) :
    Does A P ⟨some d, .convert T T' x, ty, pos, af, g⟩ s (s.put d (lf (.dat .u8 (UInt8.ofNat n.toNat)))) :=
  Does.yields rfl hn fun gh a w r => by
    have h2 := hx.i r
    have e1 : (UInt8.ofNat n.toNat).toNat = n.toNat := by
      rw [UInt8.toNat_ofNat']
      exact Nat.mod_eq_of_lt (by omega)
    have e2 : IntKind.u8.wrap n = n := by
      simp [IntKind.wrap, IntKind.bits, IntKind.signed]
      omega
    have e3 : ((UInt8.ofNat n.toNat).toNat : Int) = n := by rw [e1]; omega
    have h3 : LVR s.tab.al gh w (.dat .u8 (UInt8.ofNat n.toNat)) (.int .u8 n) := by
      have := LVR.mkU (al := s.tab.al) (gh := gh) (w := w) (x := UInt8.ofNat n.toNat)
      rwa [e3] at this
    refine ⟨.int .u8 n, ?_, _, rfl, h3⟩
    simp only [execOp, h2, convert, run_underlying hs, run_underlying hd, Go.Sem.run_bind, Result.andThen_ok, Conv.intToInt, e2]
    simp
/-! Byte rows of one's own -/
end
end Go.Proofs.Ytbelopdphlllnaa
