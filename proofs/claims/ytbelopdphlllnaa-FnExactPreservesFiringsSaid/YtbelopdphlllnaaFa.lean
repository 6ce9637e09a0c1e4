/- Closed facts on the types and functions of the program. -/
import Derived.Test.YtbelopdphlllnaaProg
import Derived.Test.YtbelopdphlllnaaAe
import Derived.Test.YtbelopdphlllnaaTypes
namespace Go.Proofs.Ytbelopdphlllnaa
open Go.RowKit

theorem mixed : Try.prog.follows .mixedOrders = true := by kernel_rfl
theorem und_3 : Try.prog.underlying 3 = some (.int .i64) := by kernel_rfl
theorem tsh_3 : tsh Try.prog 3 = some (false, 1) := by kernel_rfl
theorem zer_3 : zer Try.prog 3 = some (.int .i64 0) := by kernel_rfl
theorem elb_3 : elemB Try.prog 3 1 = true := by kernel_rfl
theorem und_4 : Try.prog.underlying 4 = some .bool := by kernel_rfl
theorem tsh_4 : tsh Try.prog 4 = some (false, 1) := by kernel_rfl
theorem und_5 : Try.prog.underlying 5 = some (.int .u8) := by kernel_rfl
theorem tsh_5 : tsh Try.prog 5 = some (false, 1) := by kernel_rfl
theorem zer_5 : zer Try.prog 5 = some (.int .u8 0) := by kernel_rfl
theorem mki_5 : (Try.prog.info? 5).map (fun i => (i.zero, i.size, i.bytes)) = some (some (.int .u8 0), 1, 1) := by kernel_rfl
theorem und_9 : Try.prog.underlying 9 = some .string := by kernel_rfl
theorem tsh_9 : tsh Try.prog 9 = some (false, 1) := by kernel_rfl
theorem zer_9 : zer Try.prog 9 = some (.string ByteArray.empty) := by kernel_rfl
theorem elb_9 : elemB Try.prog 9 1 = true := by kernel_rfl
theorem mki_9 : (Try.prog.info? 9).map (fun i => (i.zero, i.size, i.bytes)) = some (some (.string ByteArray.empty), 1, 16) := by kernel_rfl
theorem und_29 : Try.prog.underlying 29 = some (.slice 129) := by kernel_rfl
theorem tsh_29 : tsh Try.prog 29 = some (false, 1) := by kernel_rfl
theorem tsh_41 : tsh Try.prog 41 = some (true, 5) := by kernel_rfl
theorem und_45 : Try.prog.underlying 45 = some (.slice 146) := by kernel_rfl
theorem tsh_45 : tsh Try.prog 45 = some (false, 1) := by kernel_rfl
theorem tsh_47 : tsh Try.prog 47 = some (true, 2) := by kernel_rfl
theorem fld_47_1 : fld Try.prog 47 1 = some 1 := by kernel_rfl
theorem und_48 : Try.prog.underlying 48 = some (.slice 131) := by kernel_rfl
theorem tsh_48 : tsh Try.prog 48 = some (false, 1) := by kernel_rfl
theorem tsh_50 : tsh Try.prog 50 = some (true, 5) := by kernel_rfl
theorem fld_50_0 : fld Try.prog 50 0 = some 0 := by kernel_rfl
theorem fld_50_1 : fld Try.prog 50 1 = some 2 := by kernel_rfl
theorem fld_50_2 : fld Try.prog 50 2 = some 3 := by kernel_rfl
theorem fld_50_3 : fld Try.prog 50 3 = some 4 := by kernel_rfl
theorem zer_50 : zer Try.prog 50 = some (.agg #[.int .i64 0, .slice none 0 0, .slice none 0 0, .slice none 0 0, .string ByteArray.empty]) := by kernel_rfl
theorem und_67 : Try.prog.underlying 67 = some (.slice 9) := by kernel_rfl
theorem tsh_67 : tsh Try.prog 67 = some (false, 1) := by kernel_rfl
theorem und_72 : Try.prog.underlying 72 = some (.slice 3) := by kernel_rfl
theorem tsh_72 : tsh Try.prog 72 = some (false, 1) := by kernel_rfl
theorem und_75 : Try.prog.underlying 75 = some (.slice 170) := by kernel_rfl
theorem tsh_75 : tsh Try.prog 75 = some (false, 1) := by kernel_rfl
theorem tsh_77 : tsh Try.prog 77 = some (true, 3) := by kernel_rfl
theorem fld_77_1 : fld Try.prog 77 1 = some 1 := by kernel_rfl
theorem fld_77_2 : fld Try.prog 77 2 = some 2 := by kernel_rfl
theorem zer_77 : zer Try.prog 77 = some (.agg #[.slice none 0 0, .slice none 0 0, .slice none 0 0]) := by kernel_rfl
theorem bld_77 : bld Try.prog 77 [(0, 1), (1, 1), (2, 1)] (.pr (.sl 129 (.pr .str .int)) (.pr (.sl 9 .str) (.sl 170 (.pr .int (.pr .int (.pr .bool .int)))))) := bld_of Try.underlying77 (by kernel_rfl) zer_77
theorem tsh_129 : tsh Try.prog 129 = some (true, 2) := by kernel_rfl
theorem zer_129 : zer Try.prog 129 = some (.agg #[.string ByteArray.empty, .int .i64 0]) := by kernel_rfl
theorem elb_129 : elemB Try.prog 129 2 = true := by kernel_rfl
theorem tsh_131 : tsh Try.prog 131 = some (true, 2) := by kernel_rfl
theorem fld_131_0 : fld Try.prog 131 0 = some 0 := by kernel_rfl
theorem fld_131_1 : fld Try.prog 131 1 = some 1 := by kernel_rfl
theorem zer_131 : zer Try.prog 131 = some (.agg #[.int .i64 0, .bool false]) := by kernel_rfl
theorem tsh_146 : tsh Try.prog 146 = some (true, 2) := by kernel_rfl
theorem fld_146_0 : fld Try.prog 146 0 = some 0 := by kernel_rfl
theorem fld_146_1 : fld Try.prog 146 1 = some 1 := by kernel_rfl
theorem zer_146 : zer Try.prog 146 = some (.agg #[.slice none 0 0, .slice none 0 0]) := by kernel_rfl
theorem und_156 : Try.prog.underlying 156 = some (.slice 5) := by kernel_rfl
theorem tsh_170 : tsh Try.prog 170 = some (true, 4) := by kernel_rfl
theorem fld_170_0 : fld Try.prog 170 0 = some 0 := by kernel_rfl
theorem fld_170_1 : fld Try.prog 170 1 = some 1 := by kernel_rfl
theorem fld_170_2 : fld Try.prog 170 2 = some 2 := by kernel_rfl
theorem fld_170_3 : fld Try.prog 170 3 = some 3 := by kernel_rfl
theorem zer_170 : zer Try.prog 170 = some (.agg #[.int .i64 0, .int .i64 0, .bool false, .int .i64 0]) := by kernel_rfl
theorem elb_170 : elemB Try.prog 170 4 = true := by kernel_rfl
theorem bld_170 : bld Try.prog 170 [(0, 1), (1, 1), (2, 1), (3, 1)] (.pr .int (.pr .int (.pr .bool .int))) := bld_of Try.underlying170 (by kernel_rfl) zer_170
theorem und_186 : Try.prog.underlying 186 = some (.slice 229) := by kernel_rfl
theorem tsh_186 : tsh Try.prog 186 = some (false, 1) := by kernel_rfl
theorem tsh_188 : tsh Try.prog 188 = some (true, 2) := by kernel_rfl
theorem fld_188_0 : fld Try.prog 188 0 = some 0 := by kernel_rfl
theorem fld_188_1 : fld Try.prog 188 1 = some 1 := by kernel_rfl
theorem zer_188 : zer Try.prog 188 = some (.agg #[.slice none 0 0, .slice none 0 0]) := by kernel_rfl
theorem bld_188 : bld Try.prog 188 [(0, 1), (1, 1)] (.pr (.sl 9 .str) (.sl 229 (.pr .int (.pr .int .int)))) := bld_of Try.underlying188 (by kernel_rfl) zer_188
theorem tsh_229 : tsh Try.prog 229 = some (true, 3) := by kernel_rfl
theorem fld_229_0 : fld Try.prog 229 0 = some 0 := by kernel_rfl
theorem fld_229_1 : fld Try.prog 229 1 = some 1 := by kernel_rfl
theorem fld_229_2 : fld Try.prog 229 2 = some 2 := by kernel_rfl
theorem zer_229 : zer Try.prog 229 = some (.agg #[.int .i64 0, .int .i64 0, .int .i64 0]) := by kernel_rfl
theorem elb_229 : elemB Try.prog 229 3 = true := by kernel_rfl
theorem bld_229 : bld Try.prog 229 [(0, 1), (1, 1), (2, 1)] (.pr .int (.pr .int .int)) := bld_of Try.underlying229 (by kernel_rfl) zer_229
theorem tsh_231 : tsh Try.prog 231 = some (true, 6) := by kernel_rfl
theorem fld_231_0 : fld Try.prog 231 0 = some 0 := by kernel_rfl
theorem fld_231_1 : fld Try.prog 231 1 = some 2 := by kernel_rfl
theorem fld_231_2 : fld Try.prog 231 2 = some 3 := by kernel_rfl
theorem fld_231_3 : fld Try.prog 231 3 = some 4 := by kernel_rfl
theorem fld_231_4 : fld Try.prog 231 4 = some 5 := by kernel_rfl
theorem zer_231 : zer Try.prog 231 = some (.agg #[.slice none 0 0, .slice none 0 0, .slice none 0 0, .int .i64 0, .int .i64 0, .bool false]) := by kernel_rfl
theorem bld_231 : bld Try.prog 231 [(0, 2), (2, 1), (3, 1), (4, 1), (5, 1)] (.pr (.pr (.sl 9 .str) (.sl 229 (.pr .int (.pr .int .int)))) (.pr (.sl 229 (.pr .int (.pr .int .int))) (.pr .int (.pr .int .bool)))) := bld_of Try.underlying231 (by kernel_rfl) zer_231
theorem und_274 : Try.prog.underlying 274 = some (.map 9 3) := by kernel_rfl
theorem und_275 : Try.prog.underlying 275 = some (.map 9 4) := by kernel_rfl
theorem enters_14 : Enters Try.prog 14 := fun args W => run_enter Try.func14 (by kernel_rfl) rfl args W
theorem enters_16 : Enters Try.prog 16 := fun args W => run_enter Try.func16 (by kernel_rfl) rfl args W
theorem enters_19 : Enters Try.prog 19 := fun args W => run_enter Try.func19 (by kernel_rfl) rfl args W
theorem enters_40 : Enters Try.prog 40 := fun args W => run_enter Try.func40 (by kernel_rfl) rfl args W
theorem enters_41 : Enters Try.prog 41 := fun args W => run_enter Try.func41 (by kernel_rfl) rfl args W
theorem enters_57 : Enters Try.prog 57 := fun args W => run_enter Try.func57 (by kernel_rfl) rfl args W
theorem enters_58 : Enters Try.prog 58 := fun args W => run_enter Try.func58 (by kernel_rfl) rfl args W
theorem enters_69 : Enters Try.prog 69 := fun args W => run_enter Try.func69 (by kernel_rfl) rfl args W
theorem enters_85 : Enters Try.prog 85 := fun args W => run_enter Try.func85 (by kernel_rfl) rfl args W
theorem enters_86 : Enters Try.prog 86 := fun args W => run_enter Try.func86 (by kernel_rfl) rfl args W
theorem enters_87 : Enters Try.prog 87 := fun args W => run_enter Try.func87 (by kernel_rfl) rfl args W
theorem enters_88 : Enters Try.prog 88 := fun args W => run_enter Try.func88 (by kernel_rfl) rfl args W
theorem enters_89 : Enters Try.prog 89 := fun args W => run_enter Try.func89 (by kernel_rfl) rfl args W
theorem enters_90 : Enters Try.prog 90 := fun args W => run_enter Try.func90 (by kernel_rfl) rfl args W
theorem enters_91 : Enters Try.prog 91 := fun args W => run_enter Try.func91 (by kernel_rfl) rfl args W
theorem enters_92 : Enters Try.prog 92 := fun args W => run_enter Try.func92 (by kernel_rfl) rfl args W
theorem enters_93 : Enters Try.prog 93 := fun args W => run_enter Try.func93 (by kernel_rfl) rfl args W
theorem enters_105 : Enters Try.prog 105 := fun args W => run_enter Try.func105 (by kernel_rfl) rfl args W
theorem enters_113 : Enters Try.prog 113 := fun args W => run_enter Try.func113 (by kernel_rfl) rfl args W
theorem enters_133 : Enters Try.prog 133 := fun args W => run_enter Try.func133 (by kernel_rfl) rfl args W
theorem enters_138 : Enters Try.prog 138 := fun args W => run_enter Try.func138 (by kernel_rfl) rfl args W
theorem enters_139 : Enters Try.prog 139 := fun args W => run_enter Try.func139 (by kernel_rfl) rfl args W
theorem enters_140 : Enters Try.prog 140 := fun args W => run_enter Try.func140 (by kernel_rfl) rfl args W
theorem enters_141 : Enters Try.prog 141 := fun args W => run_enter Try.func141 (by kernel_rfl) rfl args W
theorem enters_142 : Enters Try.prog 142 := fun args W => run_enter Try.func142 (by kernel_rfl) rfl args W
theorem enters_143 : Enters Try.prog 143 := fun args W => run_enter Try.func143 (by kernel_rfl) rfl args W
theorem enters_144 : Enters Try.prog 144 := fun args W => run_enter Try.func144 (by kernel_rfl) rfl args W
theorem enters_145 : Enters Try.prog 145 := fun args W => run_enter Try.func145 (by kernel_rfl) rfl args W
theorem enters_184 : Enters Try.prog 184 := fun args W => run_enter Try.func184 (by kernel_rfl) rfl args W
theorem enters_185 : Enters Try.prog 185 := fun args W => run_enter Try.func185 (by kernel_rfl) rfl args W
theorem enters_186 : Enters Try.prog 186 := fun args W => run_enter Try.func186 (by kernel_rfl) rfl args W
theorem enters_187 : Enters Try.prog 187 := fun args W => run_enter Try.func187 (by kernel_rfl) rfl args W
theorem enters_188 : Enters Try.prog 188 := fun args W => run_enter Try.func188 (by kernel_rfl) rfl args W
theorem enters_189 : Enters Try.prog 189 := fun args W => run_enter Try.func189 (by kernel_rfl) rfl args W
theorem enters_190 : Enters Try.prog 190 := fun args W => run_enter Try.func190 (by kernel_rfl) rfl args W
theorem enters_191 : Enters Try.prog 191 := fun args W => run_enter Try.func191 (by kernel_rfl) rfl args W
theorem enters_192 : Enters Try.prog 192 := fun args W => run_enter Try.func192 (by kernel_rfl) rfl args W
theorem enters_193 : Enters Try.prog 193 := fun args W => run_enter Try.func193 (by kernel_rfl) rfl args W
theorem enters_194 : Enters Try.prog 194 := fun args W => run_enter Try.func194 (by kernel_rfl) rfl args W
theorem enters_195 : Enters Try.prog 195 := fun args W => run_enter Try.func195 (by kernel_rfl) rfl args W
theorem enters_217 : Enters Try.prog 217 := fun args W => run_enter Try.func217 (by kernel_rfl) rfl args W
theorem enters_226 : Enters Try.prog 226 := fun args W => run_enter Try.func226 (by kernel_rfl) rfl args W
theorem enters_227 : Enters Try.prog 227 := fun args W => run_enter Try.func227 (by kernel_rfl) rfl args W
theorem enters_228 : Enters Try.prog 228 := fun args W => run_enter Try.func228 (by kernel_rfl) rfl args W
theorem enters_229 : Enters Try.prog 229 := fun args W => run_enter Try.func229 (by kernel_rfl) rfl args W
theorem enters_230 : Enters Try.prog 230 := fun args W => run_enter Try.func230 (by kernel_rfl) rfl args W
theorem enters_231 : Enters Try.prog 231 := fun args W => run_enter Try.func231 (by kernel_rfl) rfl args W
theorem enters_232 : Enters Try.prog 232 := fun args W => run_enter Try.func232 (by kernel_rfl) rfl args W
theorem enters_240 : Enters Try.prog 240 := fun args W => run_enter Try.func240 (by kernel_rfl) rfl args W
theorem enters_241 : Enters Try.prog 241 := fun args W => run_enter Try.func241 (by kernel_rfl) rfl args W
theorem enters_245 : Enters Try.prog 245 := fun args W => run_enter Try.func245 (by kernel_rfl) rfl args W
theorem enters_246 : Enters Try.prog 246 := fun args W => run_enter Try.func246 (by kernel_rfl) rfl args W
theorem enters_247 : Enters Try.prog 247 := fun args W => run_enter Try.func247 (by kernel_rfl) rfl args W
end Go.Proofs.Ytbelopdphlllnaa
