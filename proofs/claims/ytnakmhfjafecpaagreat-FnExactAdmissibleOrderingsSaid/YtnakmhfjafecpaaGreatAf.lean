/- Closed facts on the types and functions of the program. -/
import Derived.Test.YtnakmhfjafecpaaGreatProg
import Derived.Test.YtnakmhfjafecpaaGreatAe
import Derived.Test.YtnakmhfjafecpaaGreatOwn
set_option linter.unusedSimpArgs false
set_option linter.unusedVariables false
set_option linter.unusedSectionVars false
namespace Go.Proofs.YtnakmhfjafecpaaGreat
open Go.RowKit

theorem mixed : Tryz.prog.follows .mixedOrders = true := by kernel_rfl
theorem und_3 : Tryz.prog.underlying 3 = some (.int .i64) := by kernel_rfl
theorem tsh_3 : tsh Tryz.prog 3 = some (false, 1) := by kernel_rfl
theorem zer_3 : zer Tryz.prog 3 = some (.int .i64 0) := by kernel_rfl
theorem elb_3 : elemB Tryz.prog 3 1 = true := by kernel_rfl
theorem und_4 : Tryz.prog.underlying 4 = some .bool := by kernel_rfl
theorem tsh_4 : tsh Tryz.prog 4 = some (false, 1) := by kernel_rfl
theorem zer_4 : zer Tryz.prog 4 = some (.bool false) := by kernel_rfl
theorem und_5 : Tryz.prog.underlying 5 = some (.int .u8) := by kernel_rfl
theorem tsh_5 : tsh Tryz.prog 5 = some (false, 1) := by kernel_rfl
theorem zer_5 : zer Tryz.prog 5 = some (.int .u8 0) := by kernel_rfl
theorem mki_5 : (Tryz.prog.info? 5).map (fun i => (i.zero, i.size, i.bytes)) = some (some (.int .u8 0), 1, 1) := by kernel_rfl
theorem und_9 : Tryz.prog.underlying 9 = some .string := by kernel_rfl
theorem tsh_9 : tsh Tryz.prog 9 = some (false, 1) := by kernel_rfl
theorem zer_9 : zer Tryz.prog 9 = some (.string ByteArray.empty) := by kernel_rfl
theorem elb_9 : elemB Tryz.prog 9 1 = true := by kernel_rfl
theorem mki_9 : (Tryz.prog.info? 9).map (fun i => (i.zero, i.size, i.bytes)) = some (some (.string ByteArray.empty), 1, 16) := by kernel_rfl
theorem tsh_28 : tsh Tryz.prog 28 = some (true, 5) := by kernel_rfl
theorem und_30 : Tryz.prog.underlying 30 = some (.slice 106) := by kernel_rfl
theorem und_33 : Tryz.prog.underlying 33 = some (.slice 159) := by kernel_rfl
theorem tsh_33 : tsh Tryz.prog 33 = some (false, 1) := by kernel_rfl
theorem tsh_35 : tsh Tryz.prog 35 = some (true, 2) := by kernel_rfl
theorem fld_35_0 : fld Tryz.prog 35 0 = some 0 := by kernel_rfl
theorem fld_35_1 : fld Tryz.prog 35 1 = some 1 := by kernel_rfl
theorem zer_35 : zer Tryz.prog 35 = some (.agg #[.int .i64 0, .slice none 0 0]) := by kernel_rfl
theorem bld_35 : bld Tryz.prog 35 [(0, 1), (1, 1)] (.pr .int (.sl 159 (.pr (.sl 3 .int) (.sl 3 .int)))) := bld_of Tryz.underlying35 (by kernel_rfl) zer_35
theorem und_36 : Tryz.prog.underlying 36 = some (.slice 145) := by kernel_rfl
theorem tsh_36 : tsh Tryz.prog 36 = some (false, 1) := by kernel_rfl
theorem und_37 : Tryz.prog.underlying 37 = some (.slice 61) := by kernel_rfl
theorem tsh_37 : tsh Tryz.prog 37 = some (false, 1) := by kernel_rfl
theorem tsh_39 : tsh Tryz.prog 39 = some (true, 5) := by kernel_rfl
theorem fld_39_0 : fld Tryz.prog 39 0 = some 0 := by kernel_rfl
theorem fld_39_1 : fld Tryz.prog 39 1 = some 2 := by kernel_rfl
theorem fld_39_2 : fld Tryz.prog 39 2 = some 3 := by kernel_rfl
theorem fld_39_3 : fld Tryz.prog 39 3 = some 4 := by kernel_rfl
theorem zer_39 : zer Tryz.prog 39 = some (.agg #[.int .i64 0, .slice none 0 0, .slice none 0 0, .slice none 0 0, .string ByteArray.empty]) := by kernel_rfl
theorem bld_39 : bld Tryz.prog 39 [(0, 2), (2, 1), (3, 1), (4, 1)] (.pr (.pr .int (.sl 159 (.pr (.sl 3 .int) (.sl 3 .int)))) (.pr (.sl 145 (.pr .str .int)) (.pr (.sl 61 (.pr .int .bool)) .str))) := bld_of Tryz.underlying39 (by kernel_rfl) zer_39
theorem und_46 : Tryz.prog.underlying 46 = some (.slice 9) := by kernel_rfl
theorem tsh_46 : tsh Tryz.prog 46 = some (false, 1) := by kernel_rfl
theorem und_57 : Tryz.prog.underlying 57 = some (.slice 179) := by kernel_rfl
theorem tsh_57 : tsh Tryz.prog 57 = some (false, 1) := by kernel_rfl
theorem tsh_59 : tsh Tryz.prog 59 = some (true, 3) := by kernel_rfl
theorem fld_59_1 : fld Tryz.prog 59 1 = some 1 := by kernel_rfl
theorem zer_59 : zer Tryz.prog 59 = some (.agg #[.slice none 0 0, .slice none 0 0, .slice none 0 0]) := by kernel_rfl
theorem bld_59 : bld Tryz.prog 59 [(0, 1), (1, 1), (2, 1)] (.pr (.sl 145 (.pr .str .int)) (.pr (.sl 9 .str) (.sl 179 (.pr .int (.pr .int (.pr .bool .int)))))) := bld_of Tryz.underlying59 (by kernel_rfl) zer_59
theorem tsh_61 : tsh Tryz.prog 61 = some (true, 2) := by kernel_rfl
theorem fld_61_0 : fld Tryz.prog 61 0 = some 0 := by kernel_rfl
theorem fld_61_1 : fld Tryz.prog 61 1 = some 1 := by kernel_rfl
theorem zer_61 : zer Tryz.prog 61 = some (.agg #[.int .i64 0, .bool false]) := by kernel_rfl
theorem elb_61 : elemB Tryz.prog 61 2 = true := by kernel_rfl
theorem und_77 : Tryz.prog.underlying 77 = some (.slice 85) := by kernel_rfl
theorem tsh_85 : tsh Tryz.prog 85 = some (true, 3) := by kernel_rfl
theorem fld_85_0 : fld Tryz.prog 85 0 = some 0 := by kernel_rfl
theorem fld_85_1 : fld Tryz.prog 85 1 = some 1 := by kernel_rfl
theorem fld_85_2 : fld Tryz.prog 85 2 = some 2 := by kernel_rfl
theorem zer_85 : zer Tryz.prog 85 = some (.agg #[.int .i64 0, .int .i64 0, .bool false]) := by kernel_rfl
theorem elb_85 : elemB Tryz.prog 85 3 = true := by kernel_rfl
theorem bld_85 : bld Tryz.prog 85 [(0, 1), (1, 1), (2, 1)] (.pr .int (.pr .int .bool)) := bld_of Tryz.underlying85 (by kernel_rfl) zer_85
theorem und_96 : Tryz.prog.underlying 96 = some (.slice 226) := by kernel_rfl
theorem tsh_96 : tsh Tryz.prog 96 = some (false, 1) := by kernel_rfl
theorem tsh_98 : tsh Tryz.prog 98 = some (true, 2) := by kernel_rfl
theorem fld_98_0 : fld Tryz.prog 98 0 = some 0 := by kernel_rfl
theorem zer_98 : zer Tryz.prog 98 = some (.agg #[.slice none 0 0, .slice none 0 0]) := by kernel_rfl
theorem bld_98 : bld Tryz.prog 98 [(0, 1), (1, 1)] (.pr (.sl 9 .str) (.sl 226 (.pr .int (.pr .int .int)))) := bld_of Tryz.underlying98 (by kernel_rfl) zer_98
theorem und_106 : Tryz.prog.underlying 106 = some (.slice 3) := by kernel_rfl
theorem tsh_106 : tsh Tryz.prog 106 = some (false, 1) := by kernel_rfl
theorem zer_106 : zer Tryz.prog 106 = some (.slice none 0 0) := by kernel_rfl
theorem elb_106 : elemB Tryz.prog 106 1 = true := by kernel_rfl
theorem und_143 : Tryz.prog.underlying 143 = some (.slice 4) := by kernel_rfl
theorem tsh_145 : tsh Tryz.prog 145 = some (true, 2) := by kernel_rfl
theorem zer_145 : zer Tryz.prog 145 = some (.agg #[.string ByteArray.empty, .int .i64 0]) := by kernel_rfl
theorem elb_145 : elemB Tryz.prog 145 2 = true := by kernel_rfl
theorem tsh_155 : tsh Tryz.prog 155 = some (true, 6) := by kernel_rfl
theorem fld_155_0 : fld Tryz.prog 155 0 = some 0 := by kernel_rfl
theorem zer_155 : zer Tryz.prog 155 = some (.agg #[.slice none 0 0, .slice none 0 0, .slice none 0 0, .int .i64 0, .int .i64 0, .bool false]) := by kernel_rfl
theorem bld_155 : bld Tryz.prog 155 [(0, 2), (2, 1), (3, 1), (4, 1), (5, 1)] (.pr (.pr (.sl 9 .str) (.sl 226 (.pr .int (.pr .int .int)))) (.pr (.sl 226 (.pr .int (.pr .int .int))) (.pr .int (.pr .int .bool)))) := bld_of Tryz.underlying155 (by kernel_rfl) zer_155
theorem tsh_159 : tsh Tryz.prog 159 = some (true, 2) := by kernel_rfl
theorem fld_159_0 : fld Tryz.prog 159 0 = some 0 := by kernel_rfl
theorem fld_159_1 : fld Tryz.prog 159 1 = some 1 := by kernel_rfl
theorem zer_159 : zer Tryz.prog 159 = some (.agg #[.slice none 0 0, .slice none 0 0]) := by kernel_rfl
theorem elb_159 : elemB Tryz.prog 159 2 = true := by kernel_rfl
theorem bld_159 : bld Tryz.prog 159 [(0, 1), (1, 1)] (.pr (.sl 3 .int) (.sl 3 .int)) := bld_of Tryz.underlying159 (by kernel_rfl) zer_159
theorem tsh_179 : tsh Tryz.prog 179 = some (true, 4) := by kernel_rfl
theorem fld_179_0 : fld Tryz.prog 179 0 = some 0 := by kernel_rfl
theorem fld_179_2 : fld Tryz.prog 179 2 = some 2 := by kernel_rfl
theorem fld_179_3 : fld Tryz.prog 179 3 = some 3 := by kernel_rfl
theorem zer_179 : zer Tryz.prog 179 = some (.agg #[.int .i64 0, .int .i64 0, .bool false, .int .i64 0]) := by kernel_rfl
theorem elb_179 : elemB Tryz.prog 179 4 = true := by kernel_rfl
theorem bld_179 : bld Tryz.prog 179 [(0, 1), (1, 1), (2, 1), (3, 1)] (.pr .int (.pr .int (.pr .bool .int))) := bld_of Tryz.underlying179 (by kernel_rfl) zer_179
theorem und_209 : Tryz.prog.underlying 209 = some (.slice 5) := by kernel_rfl
theorem tsh_226 : tsh Tryz.prog 226 = some (true, 3) := by kernel_rfl
theorem zer_226 : zer Tryz.prog 226 = some (.agg #[.int .i64 0, .int .i64 0, .int .i64 0]) := by kernel_rfl
theorem elb_226 : elemB Tryz.prog 226 3 = true := by kernel_rfl
theorem bld_226 : bld Tryz.prog 226 [(0, 1), (1, 1), (2, 1)] (.pr .int (.pr .int .int)) := bld_of Tryz.underlying226 (by kernel_rfl) zer_226
theorem und_282 : Tryz.prog.underlying 282 = some (.map 9 3) := by kernel_rfl
theorem und_340 : Tryz.prog.underlying 340 = some (.map 9 4) := by kernel_rfl
theorem enters_11 : Enters Tryz.prog 11 := fun args W => run_enter Tryz.func11 (by kernel_rfl) rfl args W
theorem enters_13 : Enters Tryz.prog 13 := fun args W => run_enter Tryz.func13 (by kernel_rfl) rfl args W
theorem enters_16 : Enters Tryz.prog 16 := fun args W => run_enter Tryz.func16 (by kernel_rfl) rfl args W
theorem enters_17 : Enters Tryz.prog 17 := fun args W => run_enter Tryz.func17 (by kernel_rfl) rfl args W
theorem enters_35 : Enters Tryz.prog 35 := fun args W => run_enter Tryz.func35 (by kernel_rfl) rfl args W
theorem enters_36 : Enters Tryz.prog 36 := fun args W => run_enter Tryz.func36 (by kernel_rfl) rfl args W
theorem enters_37 : Enters Tryz.prog 37 := fun args W => run_enter Tryz.func37 (by kernel_rfl) rfl args W
theorem enters_38 : Enters Tryz.prog 38 := fun args W => run_enter Tryz.func38 (by kernel_rfl) rfl args W
theorem enters_39 : Enters Tryz.prog 39 := fun args W => run_enter Tryz.func39 (by kernel_rfl) rfl args W
theorem enters_52 : Enters Tryz.prog 52 := fun args W => run_enter Tryz.func52 (by kernel_rfl) rfl args W
theorem enters_53 : Enters Tryz.prog 53 := fun args W => run_enter Tryz.func53 (by kernel_rfl) rfl args W
theorem enters_57 : Enters Tryz.prog 57 := fun args W => run_enter Tryz.func57 (by kernel_rfl) rfl args W
theorem enters_62 : Enters Tryz.prog 62 := fun args W => run_enter Tryz.func62 (by kernel_rfl) rfl args W
theorem enters_63 : Enters Tryz.prog 63 := fun args W => run_enter Tryz.func63 (by kernel_rfl) rfl args W
theorem enters_64 : Enters Tryz.prog 64 := fun args W => run_enter Tryz.func64 (by kernel_rfl) rfl args W
theorem enters_65 : Enters Tryz.prog 65 := fun args W => run_enter Tryz.func65 (by kernel_rfl) rfl args W
theorem enters_89 : Enters Tryz.prog 89 := fun args W => run_enter Tryz.func89 (by kernel_rfl) rfl args W
theorem enters_90 : Enters Tryz.prog 90 := fun args W => run_enter Tryz.func90 (by kernel_rfl) rfl args W
theorem enters_91 : Enters Tryz.prog 91 := fun args W => run_enter Tryz.func91 (by kernel_rfl) rfl args W
theorem enters_92 : Enters Tryz.prog 92 := fun args W => run_enter Tryz.func92 (by kernel_rfl) rfl args W
theorem enters_93 : Enters Tryz.prog 93 := fun args W => run_enter Tryz.func93 (by kernel_rfl) rfl args W
theorem enters_95 : Enters Tryz.prog 95 := fun args W => run_enter Tryz.func95 (by kernel_rfl) rfl args W
theorem enters_106 : Enters Tryz.prog 106 := fun args W => run_enter Tryz.func106 (by kernel_rfl) rfl args W
theorem enters_107 : Enters Tryz.prog 107 := fun args W => run_enter Tryz.func107 (by kernel_rfl) rfl args W
theorem enters_108 : Enters Tryz.prog 108 := fun args W => run_enter Tryz.func108 (by kernel_rfl) rfl args W
theorem enters_109 : Enters Tryz.prog 109 := fun args W => run_enter Tryz.func109 (by kernel_rfl) rfl args W
theorem enters_110 : Enters Tryz.prog 110 := fun args W => run_enter Tryz.func110 (by kernel_rfl) rfl args W
theorem enters_113 : Enters Tryz.prog 113 := fun args W => run_enter Tryz.func113 (by kernel_rfl) rfl args W
theorem enters_114 : Enters Tryz.prog 114 := fun args W => run_enter Tryz.func114 (by kernel_rfl) rfl args W
theorem enters_115 : Enters Tryz.prog 115 := fun args W => run_enter Tryz.func115 (by kernel_rfl) rfl args W
theorem enters_116 : Enters Tryz.prog 116 := fun args W => run_enter Tryz.func116 (by kernel_rfl) rfl args W
theorem enters_117 : Enters Tryz.prog 117 := fun args W => run_enter Tryz.func117 (by kernel_rfl) rfl args W
theorem enters_120 : Enters Tryz.prog 120 := fun args W => run_enter Tryz.func120 (by kernel_rfl) rfl args W
theorem enters_121 : Enters Tryz.prog 121 := fun args W => run_enter Tryz.func121 (by kernel_rfl) rfl args W
theorem enters_145 : Enters Tryz.prog 145 := fun args W => run_enter Tryz.func145 (by kernel_rfl) rfl args W
theorem enters_149 : Enters Tryz.prog 149 := fun args W => run_enter Tryz.func149 (by kernel_rfl) rfl args W
theorem enters_154 : Enters Tryz.prog 154 := fun args W => run_enter Tryz.func154 (by kernel_rfl) rfl args W
theorem enters_158 : Enters Tryz.prog 158 := fun args W => run_enter Tryz.func158 (by kernel_rfl) rfl args W
theorem enters_163 : Enters Tryz.prog 163 := fun args W => run_enter Tryz.func163 (by kernel_rfl) rfl args W
theorem enters_164 : Enters Tryz.prog 164 := fun args W => run_enter Tryz.func164 (by kernel_rfl) rfl args W
theorem enters_165 : Enters Tryz.prog 165 := fun args W => run_enter Tryz.func165 (by kernel_rfl) rfl args W
theorem enters_166 : Enters Tryz.prog 166 := fun args W => run_enter Tryz.func166 (by kernel_rfl) rfl args W
theorem enters_167 : Enters Tryz.prog 167 := fun args W => run_enter Tryz.func167 (by kernel_rfl) rfl args W
theorem enters_168 : Enters Tryz.prog 168 := fun args W => run_enter Tryz.func168 (by kernel_rfl) rfl args W
theorem enters_169 : Enters Tryz.prog 169 := fun args W => run_enter Tryz.func169 (by kernel_rfl) rfl args W
theorem enters_170 : Enters Tryz.prog 170 := fun args W => run_enter Tryz.func170 (by kernel_rfl) rfl args W
theorem enters_174 : Enters Tryz.prog 174 := fun args W => run_enter Tryz.func174 (by kernel_rfl) rfl args W
theorem enters_175 : Enters Tryz.prog 175 := fun args W => run_enter Tryz.func175 (by kernel_rfl) rfl args W
theorem enters_176 : Enters Tryz.prog 176 := fun args W => run_enter Tryz.func176 (by kernel_rfl) rfl args W
theorem enters_178 : Enters Tryz.prog 178 := fun args W => run_enter Tryz.func178 (by kernel_rfl) rfl args W
theorem enters_184 : Enters Tryz.prog 184 := fun args W => run_enter Tryz.func184 (by kernel_rfl) rfl args W
theorem enters_185 : Enters Tryz.prog 185 := fun args W => run_enter Tryz.func185 (by kernel_rfl) rfl args W
theorem enters_186 : Enters Tryz.prog 186 := fun args W => run_enter Tryz.func186 (by kernel_rfl) rfl args W
theorem enters_187 : Enters Tryz.prog 187 := fun args W => run_enter Tryz.func187 (by kernel_rfl) rfl args W
theorem enters_188 : Enters Tryz.prog 188 := fun args W => run_enter Tryz.func188 (by kernel_rfl) rfl args W
theorem enters_190 : Enters Tryz.prog 190 := fun args W => run_enter Tryz.func190 (by kernel_rfl) rfl args W
theorem enters_191 : Enters Tryz.prog 191 := fun args W => run_enter Tryz.func191 (by kernel_rfl) rfl args W
theorem enters_192 : Enters Tryz.prog 192 := fun args W => run_enter Tryz.func192 (by kernel_rfl) rfl args W
theorem enters_193 : Enters Tryz.prog 193 := fun args W => run_enter Tryz.func193 (by kernel_rfl) rfl args W
theorem enters_218 : Enters Tryz.prog 218 := fun args W => run_enter Tryz.func218 (by kernel_rfl) rfl args W
theorem enters_220 : Enters Tryz.prog 220 := fun args W => run_enter Tryz.func220 (by kernel_rfl) rfl args W
theorem enters_224 : Enters Tryz.prog 224 := fun args W => run_enter Tryz.func224 (by kernel_rfl) rfl args W
theorem enters_226 : Enters Tryz.prog 226 := fun args W => run_enter Tryz.func226 (by kernel_rfl) rfl args W
theorem enters_227 : Enters Tryz.prog 227 := fun args W => run_enter Tryz.func227 (by kernel_rfl) rfl args W
theorem enters_228 : Enters Tryz.prog 228 := fun args W => run_enter Tryz.func228 (by kernel_rfl) rfl args W
theorem enters_229 : Enters Tryz.prog 229 := fun args W => run_enter Tryz.func229 (by kernel_rfl) rfl args W
theorem enters_230 : Enters Tryz.prog 230 := fun args W => run_enter Tryz.func230 (by kernel_rfl) rfl args W
theorem enters_242 : Enters Tryz.prog 242 := fun args W => run_enter Tryz.func242 (by kernel_rfl) rfl args W
theorem enters_243 : Enters Tryz.prog 243 := fun args W => run_enter Tryz.func243 (by kernel_rfl) rfl args W
theorem enters_244 : Enters Tryz.prog 244 := fun args W => run_enter Tryz.func244 (by kernel_rfl) rfl args W
theorem enters_245 : Enters Tryz.prog 245 := fun args W => run_enter Tryz.func245 (by kernel_rfl) rfl args W
theorem enters_246 : Enters Tryz.prog 246 := fun args W => run_enter Tryz.func246 (by kernel_rfl) rfl args W
theorem enters_247 : Enters Tryz.prog 247 := fun args W => run_enter Tryz.func247 (by kernel_rfl) rfl args W
theorem enters_254 : Enters Tryz.prog 254 := fun args W => run_enter Tryz.func254 (by kernel_rfl) rfl args W
theorem enters_255 : Enters Tryz.prog 255 := fun args W => run_enter Tryz.func255 (by kernel_rfl) rfl args W
theorem enters_275 : Enters Tryz.prog 275 := fun args W => run_enter Tryz.func275 (by kernel_rfl) rfl args W
theorem enters_276 : Enters Tryz.prog 276 := fun args W => run_enter Tryz.func276 (by kernel_rfl) rfl args W
theorem enters_277 : Enters Tryz.prog 277 := fun args W => run_enter Tryz.func277 (by kernel_rfl) rfl args W
theorem enters_283 : Enters Tryz.prog 283 := fun args W => run_enter Tryz.func283 (by kernel_rfl) rfl args W
theorem enters_284 : Enters Tryz.prog 284 := fun args W => run_enter Tryz.func284 (by kernel_rfl) rfl args W
theorem enters_285 : Enters Tryz.prog 285 := fun args W => run_enter Tryz.func285 (by kernel_rfl) rfl args W
theorem enters_286 : Enters Tryz.prog 286 := fun args W => run_enter Tryz.func286 (by kernel_rfl) rfl args W
theorem enters_298 : Enters Tryz.prog 298 := fun args W => run_enter Tryz.func298 (by kernel_rfl) rfl args W
theorem enters_299 : Enters Tryz.prog 299 := fun args W => run_enter Tryz.func299 (by kernel_rfl) rfl args W
theorem enters_301 : Enters Tryz.prog 301 := fun args W => run_enter Tryz.func301 (by kernel_rfl) rfl args W
theorem enters_302 : Enters Tryz.prog 302 := fun args W => run_enter Tryz.func302 (by kernel_rfl) rfl args W
theorem enters_303 : Enters Tryz.prog 303 := fun args W => run_enter Tryz.func303 (by kernel_rfl) rfl args W
theorem enters_304 : Enters Tryz.prog 304 := fun args W => run_enter Tryz.func304 (by kernel_rfl) rfl args W
theorem enters_305 : Enters Tryz.prog 305 := fun args W => run_enter Tryz.func305 (by kernel_rfl) rfl args W
theorem enters_306 : Enters Tryz.prog 306 := fun args W => run_enter Tryz.func306 (by kernel_rfl) rfl args W
theorem enters_322 : Enters Tryz.prog 322 := fun args W => run_enter Tryz.func322 (by kernel_rfl) rfl args W
theorem enters_323 : Enters Tryz.prog 323 := fun args W => run_enter Tryz.func323 (by kernel_rfl) rfl args W
theorem enters_324 : Enters Tryz.prog 324 := fun args W => run_enter Tryz.func324 (by kernel_rfl) rfl args W
theorem enters_325 : Enters Tryz.prog 325 := fun args W => run_enter Tryz.func325 (by kernel_rfl) rfl args W
end Go.Proofs.YtnakmhfjafecpaaGreat

/- Abstract states: answers that own several slices. No program is named here. -/
namespace Go.Proofs.YtnakmhfjafecpaaGreat
open Go.RowKit

@[reducible] def Is (pv : PV) (T : Tab) : PV → Tab → Prop := fun p T' => p = pv ∧ T' = T
def FrL (s : St) (n : Nat) : List Nat → Prop
  | [] => True
  | q :: l => Fresh s (n + q) ∧ FrL s n l
theorem FrL.get {s : St} {n : Nat} {l : List Nat} (h : FrL s n l) : ∀ q ∈ l, Fresh s (n + q) := by
  induction l with
  | nil => simp
  | cons q l ih =>
    intro r hr
    rcases List.mem_cons.1 hr with rfl | hr
    · exact h.1
    · exact ih h.2 r hr
section
variable {A : Amb} {P : Program} {s : St}
variable {f : FuncId} {xs : List Operand} {tys : Array TypeId} {args : List (Bool × List LV)} {d : Nat} {ty : TypeId} {pos : String} {af : Array Edge} {g : Option (Nat × Bool)} {pv : PV} {T : Tab}
theorem Does.callG (n : Nat) (hc : FC P f args [] 0 (Is pv T)) (hE : Enters P f) (ha : EvL A s xs args) (hcl : closedB pv T = true) (hn : Nat.blt d A.n = true) (hfr : FrL s n (tabTags T)) (hk0 : A.k0 ≤ n) :
    Does A P ⟨some d, .call ⟨.value (.func f), xs.toArray, tys⟩, ty, pos, af, g⟩ s (s.back d n pv T) :=
  fun a w K Q r hK => DoesT.call n hc hE ha (by rintro _ _ ⟨rfl, rfl⟩; exact hcl) (by rintro _ _ ⟨rfl, rfl⟩ q ⟨e, hq⟩; exact hfr.get q (tabTags_spec hq).1) hk0 hn a w K Q r (by
    rintro s' a' w' ⟨_, _, ⟨rfl, rfl⟩, rfl⟩ r'
    exact hK _ _ r')
theorem Does.callGB (n : Nat) (hc : FC P f args [] 0 (Is pv T)) (hE : Enters P f) (ha : EvLB A s xs args) (hcl : closedB pv T = true) (hf : (pv.fl && T.fl) = true) (hn : Nat.blt d A.n = true) (hfr : FrL s n (tabTags T)) (hk0 : A.k0 ≤ n) :
    Does A P ⟨some d, .call ⟨.value (.func f), xs.toArray, tys⟩, ty, pos, af, g⟩ s (s.back d n pv T) :=
  fun a w K Q r hK => DoesT.callB n hc hE ha (by rintro _ _ ⟨rfl, rfl⟩; exact hcl) (by rintro _ _ ⟨rfl, rfl⟩; simpa using hf) (by rintro _ _ ⟨rfl, rfl⟩ q ⟨e, hq⟩; exact hfr.get q (tabTags_spec hq).1) hk0 hn a w K Q r (by
    rintro s' a' w' ⟨_, _, ⟨rfl, rfl⟩, rfl⟩ r'
    exact hK _ _ r')
theorem fin_is {fn : Func} {k : Nat} (pv : PV) (T' : Tab) (ρ : List (Nat × Nat)) {pv0 : PV} (h1 : Res A P fn s pv0) (h0 : pv0 = pv.ren (rn ρ)) (h2 : HasE ⟨[], s.tab⟩ ρ T') (h3 : dupB (T'.map fun x => rn ρ x.1) = true) (h4 : idB ρ k = true) : fin A P fn (RenO (Is pv T') k) .ret s :=
  fin_ret pv T' ρ (h0 ▸ h1) h2 h3 h4 ⟨rfl, rfl⟩
end
/-! Frozen answers -/
def LV.thaw (T : Tab) : LV → LV
  | .ref q => match T.ent q with
    | some (.arr E e xs) => .dat (.sl E e) xs
    | _ => .ref q
  | l => l
def PV.thaw (T : Tab) : PV → PV
  | .cm b ls => .cm b (ls.map (LV.thaw T))
  | .tup cs => .tup (cs.map fun c => (c.1, c.2.map (LV.thaw T)))
section
variable {T : Tab} {gh : Gh} {w : World}
theorem LVR.thaw (cx : Cx T gh w) {l : LV} {v : Value} (h : LVR T.al gh w l v) : LVR (Tab.al []) ⟨gh.h, gh.f, fun g => gh.N g ∨ ∃ q, T.al q ∧ g ∈ gh.f q⟩ w (l.thaw T) v := by
  have hm : ∀ l, LVR T.al gh w l v → LVR (Tab.al []) ⟨gh.h, gh.f, fun g => gh.N g ∨ ∃ q, T.al q ∧ g ∈ gh.f q⟩ w l v := fun l h => h.mono (fun q _ h => absurd h (al_nil q)) fun g hg => ⟨.inl hg, rfl⟩
  cases l with
  | ref q =>
    simp only [LV.thaw]
    split
    · rename_i E e xs he
      have hv : v = gh.h q := h ⟨_, he⟩
      have hO : Own (.sl E e) w (gh.f q) [gh.h q] xs := cx.en q _ he
      rw [hv]
      exact hO.rd fun g hg => .inr ⟨q, ⟨_, he⟩, hg⟩
    · exact hm _ h
  | _ => exact hm _ h
theorem LVs.thaw (cx : Cx T gh w) {ls : List LV} {vs : List Value} (h : LVs T.al gh w ls vs) : LVs (Tab.al []) ⟨gh.h, gh.f, fun g => gh.N g ∨ ∃ q, T.al q ∧ g ∈ gh.f q⟩ w (ls.map (LV.thaw T)) vs := by
  induction ls generalizing vs with
  | nil => exact h
  | cons l ls ih => obtain ⟨v, vs', rfl, h1, h2⟩ := h; exact ⟨v, _, rfl, h1.thaw cx, ih h2⟩
theorem CmR.thaw (cx : Cx T gh w) {c : Bool × List LV} {v : Value} (h : CmR T.al gh w c v) : CmR (Tab.al []) ⟨gh.h, gh.f, fun g => gh.N g ∨ ∃ q, T.al q ∧ g ∈ gh.f q⟩ w (c.1, c.2.map (LV.thaw T)) v := by
  obtain ⟨b, ls⟩ := c
  cases b with
  | true => obtain ⟨vs, rfl, h1⟩ := h; exact ⟨vs, rfl, h1.thaw cx⟩
  | false => obtain ⟨l, rfl, h1⟩ := h; exact ⟨_, rfl, h1.thaw cx⟩
theorem PVR.thaw (cx : Cx T gh w) {pv : PV} {v : Value} (h : PVR T.al gh w pv v) : PVR (Tab.al []) ⟨gh.h, gh.f, fun g => gh.N g ∨ ∃ q, T.al q ∧ g ∈ gh.f q⟩ w (pv.thaw T) v := by
  cases pv with
  | cm b ls => exact CmR.thaw cx (c := (b, ls)) h
  | tup cs =>
    obtain ⟨vs, rfl, h1⟩ := h
    refine ⟨vs, rfl, ?_⟩
    induction cs generalizing vs with
    | nil => exact h1
    | cons c cs ih => obtain ⟨v, vs', rfl, h2, h3⟩ := h1; exact ⟨v, _, rfl, h2.thaw cx, ih _ h3⟩
end
theorem FC.frozenG {P : Program} {f : FuncId} {args : List (Bool × List LV)} {pv : PV} {T : Tab} (h : FC P f args [] 0 (Is pv T)) : FC P f args [] 0 (Pure (pv.thaw T)) := fun gh w vs cx ha =>
  Calls.mono (h gh w vs cx ha) fun e' w' he => by
    obtain ⟨v, pv', T', gh', rfl, ⟨rfl, rfl⟩, cx', hp, fr, _⟩ := he
    refine ⟨v, _, [], _, rfl, ⟨rfl, rfl⟩, tombless al_nil _ _ fun g hg => ?_, hp.thaw cx', ⟨fr.gw, fr.kp, fun g hg => ?_, fun q hq => absurd hq (al_nil q)⟩, fun q hq => absurd hq (by omega)⟩
    · rcases hg with hg | ⟨q, hq, hg⟩
      · exact cx'.nl g hg
      · exact cx'.lt hq g hg
    · rcases hg with hg | ⟨q, hq, hg⟩
      · exact fr.nn g hg
      · rcases fr.ox q hq g hg with h | ⟨q', h, _⟩
        · exact .inr (.inl h)
        · exact absurd h (al_nil q')

theorem Acts.of1 {A : Amb} {P : Program} {ops : Array Oper} {o : Oper} {s s1 s' : St} (hg : o.guard = none) (h : Does A P o s s1) (e : s1 = s') : Acts A P ops o s s' := e ▸ Acts.of hg h
theorem Acts.yes1 {A : Amb} {P : Program} {ops : Array Oper} {o : Oper} {s s1 s' : St} {j d : Nat} {b : Bool} (hg : o.guard = some (j, b)) (hd : (ops[j]?).bind (·.dst) = some d) (hb : lk s.tm d = some (lf (dB b))) (h : Does A P o s s1) (e : s1 = s') : Acts A P ops o s s' := e ▸ Acts.yes hg hd hb h
/-! A nil slice as one's own -/
section
variable {A : Amb} {s : St}
theorem Wk.nilS (t i : Nat) (E : TypeId) (e : Ty) (hi : lk s.tm i = some (lf (.val (.slice none 0 0)))) (hfr : Fresh s t) (hk0 : A.k0 ≤ t) : Wk A s ⟨(i, lf (.ref t)) :: s.tm, (t, some (.arr E e [])) :: s.tab⟩ := fun a w r => by
  obtain ⟨gh, r⟩ := r
  obtain ⟨v, h1, l, h2, h3⟩ := r.tm i _ hi
  simp only [List.cons.injEq, and_true] at h2
  subst h2
  have hv : v = .slice none 0 0 := h3
  have r2 := r.make t hfr hk0 [] (by simp) (Grw.refl w) (fun _ _ _ => rfl) (E := E) (e := e) (xs := []) (hv := .slice none 0 0) (fp := []) (.inl ⟨rfl, rfl, rfl⟩) List.nodup_nil (by simp)
  exact ⟨_, r2.know h1 (pv := lf (.ref t)) ⟨_, rfl, fun _ => by simp [hv]⟩⟩
theorem Wk.nilC (t : Nat) {p off : Nat} {E' : TypeId} {cs : List LV} (E : TypeId) (e : Ty) (hp : s.tab.ent p = some (.box E' cs)) (ho : cs[off]? = some (.val (.slice none 0 0))) (hfr : Fresh s t) (hk0 : A.k0 ≤ t) :
    Wk A s ⟨s.tm, (p, some (.box E' (splice cs off [.ref t]))) :: (t, some (.arr E e [])) :: s.tab⟩ := fun a w r => by
  obtain ⟨gh, r⟩ := r
  have hne : p ≠ t := fun h => hfr.al ⟨_, h ▸ hp⟩
  obtain ⟨g, cur, h1, h2, h3, h4⟩ := r.cx.en p _ hp
  obtain ⟨v, h5, h6⟩ := h4.nth ho
  have hv : v = .slice none 0 0 := h6
  have r2 := r.make t hfr hk0 [] (by simp) (Grw.refl w) (fun _ _ _ => rfl) (E := E) (e := e) (xs := []) (hv := .slice none 0 0) (fp := []) (.inl ⟨rfl, rfl, rfl⟩) List.nodup_nil (by simp)
  have hp' : Tab.ent ((t, some (.arr E e [])) :: (tombs [] ++ s.tab)) p = some (.box E' cs) := by rw [Tab.ent_cons, if_neg hne]; exact hp
  obtain ⟨g', cur', k1, k2, k3, k4⟩ := r2.cx.en p _ hp'
  simp only [if_neg hne] at k1 k2
  rw [h1] at k1
  cases k1
  rw [h3] at k3
  cases k3
  have hD : LVs (Tab.al ((t, some (.arr E e [])) :: (tombs [] ++ s.tab))) ⟨fun q => if q = t then .slice none 0 0 else gh.h q, fun q => if q = t then [] else gh.f q, gh.N⟩ w [.ref t] [v] := ⟨v, [], rfl, fun _ => by simp [hv], rfl⟩
  have hS := k4.splice hD (off := off)
  have hsame : cur.toList.take off ++ [v] ++ cur.toList.drop (off + [v].length) = cur.toList := by
    have hl := (List.getElem?_eq_some_iff.1 h5)
    obtain ⟨hl, hl2⟩ := hl
    conv => rhs; rw [← List.take_append_drop (off + 1) cur.toList, List.take_succ_eq_append_getElem hl, hl2]
    rfl
  rw [hsame] at hS
  exact ⟨_, r2.mod hp' (Grw.refl w) (fun _ _ _ => rfl) ⟨g, cur, by simp only [if_neg hne]; exact h1, by simp only [if_neg hne]; exact h2, h3, hS⟩⟩
end
end Go.Proofs.YtnakmhfjafecpaaGreat
