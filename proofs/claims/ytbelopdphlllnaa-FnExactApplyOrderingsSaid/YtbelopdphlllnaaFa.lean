/- Closed facts on the types and functions of the program. -/
import Derived.Test.YtbelopdphlllnaaProg
import Derived.Test.YtbelopdphlllnaaAe
import Derived.Test.YtbelopdphlllnaaTypes
namespace Go.Proofs.Ytbelopdphlllnaa
open Go.RowKit

theorem mixed : Try.prog.follows .mixedOrders = true := by kernel_rfl
theorem tsh_0 : tsh Try.prog 0 = some (false, 1) := by kernel_rfl
theorem und_2 : Try.prog.underlying 2 = some (.int .i64) := by kernel_rfl
theorem tsh_2 : tsh Try.prog 2 = some (false, 1) := by kernel_rfl
theorem zer_2 : zer Try.prog 2 = some (.int .i64 0) := by kernel_rfl
theorem elb_2 : elemB Try.prog 2 1 = true := by kernel_rfl
theorem mki_2 : (Try.prog.info? 2).map (fun i => (i.zero, i.size, i.bytes)) = some (some (.int .i64 0), 1, 8) := by kernel_rfl
theorem und_3 : Try.prog.underlying 3 = some (.int .i64) := by kernel_rfl
theorem tsh_3 : tsh Try.prog 3 = some (false, 1) := by kernel_rfl
theorem zer_3 : zer Try.prog 3 = some (.int .i64 0) := by kernel_rfl
theorem elb_3 : elemB Try.prog 3 1 = true := by kernel_rfl
theorem mki_3 : (Try.prog.info? 3).map (fun i => (i.zero, i.size, i.bytes)) = some (some (.int .i64 0), 1, 8) := by kernel_rfl
theorem und_4 : Try.prog.underlying 4 = some .bool := by kernel_rfl
theorem tsh_4 : tsh Try.prog 4 = some (false, 1) := by kernel_rfl
theorem zer_4 : zer Try.prog 4 = some (.bool false) := by kernel_rfl
theorem elb_4 : elemB Try.prog 4 1 = true := by kernel_rfl
theorem mki_4 : (Try.prog.info? 4).map (fun i => (i.zero, i.size, i.bytes)) = some (some (.bool false), 1, 1) := by kernel_rfl
theorem und_5 : Try.prog.underlying 5 = some (.int .u8) := by kernel_rfl
theorem tsh_5 : tsh Try.prog 5 = some (false, 1) := by kernel_rfl
theorem zer_5 : zer Try.prog 5 = some (.int .u8 0) := by kernel_rfl
theorem elb_5 : elemB Try.prog 5 1 = true := by kernel_rfl
theorem mki_5 : (Try.prog.info? 5).map (fun i => (i.zero, i.size, i.bytes)) = some (some (.int .u8 0), 1, 1) := by kernel_rfl
theorem und_6 : Try.prog.underlying 6 = some (.int .u8) := by kernel_rfl
theorem tsh_6 : tsh Try.prog 6 = some (false, 1) := by kernel_rfl
theorem zer_6 : zer Try.prog 6 = some (.int .u8 0) := by kernel_rfl
theorem elb_6 : elemB Try.prog 6 1 = true := by kernel_rfl
theorem mki_6 : (Try.prog.info? 6).map (fun i => (i.zero, i.size, i.bytes)) = some (some (.int .u8 0), 1, 1) := by kernel_rfl
theorem tsh_8 : tsh Try.prog 8 = some (true, 4) := by kernel_rfl
theorem fld_8_0 : fld Try.prog 8 0 = some 0 := by kernel_rfl
theorem fld_8_1 : fld Try.prog 8 1 = some 1 := by kernel_rfl
theorem fld_8_2 : fld Try.prog 8 2 = some 2 := by kernel_rfl
theorem fld_8_3 : fld Try.prog 8 3 = some 3 := by kernel_rfl
theorem zer_8 : zer Try.prog 8 = some (.agg #[.int .i64 0, .int .i64 0, .bool false, .int .u8 0]) := by kernel_rfl
theorem elb_8 : elemB Try.prog 8 4 = true := by kernel_rfl
theorem mki_8 : (Try.prog.info? 8).map (fun i => (i.zero, i.size, i.bytes)) = some (some (.agg #[.int .i64 0, .int .i64 0, .bool false, .int .u8 0]), 4, 24) := by kernel_rfl
theorem bld_8 : bld Try.prog 8 [(0, 1), (1, 1), (2, 1), (3, 1)] (.pr .int (.pr .int (.pr .bool .u8))) := bld_of Try.underlying8 (by kernel_rfl) zer_8
theorem und_9 : Try.prog.underlying 9 = some .string := by kernel_rfl
theorem tsh_9 : tsh Try.prog 9 = some (false, 1) := by kernel_rfl
theorem zer_9 : zer Try.prog 9 = some (.string ByteArray.empty) := by kernel_rfl
theorem elb_9 : elemB Try.prog 9 1 = true := by kernel_rfl
theorem mki_9 : (Try.prog.info? 9).map (fun i => (i.zero, i.size, i.bytes)) = some (some (.string ByteArray.empty), 1, 16) := by kernel_rfl
theorem und_10 : Try.prog.underlying 10 = some .string := by kernel_rfl
theorem tsh_10 : tsh Try.prog 10 = some (false, 1) := by kernel_rfl
theorem zer_10 : zer Try.prog 10 = some (.string ByteArray.empty) := by kernel_rfl
theorem elb_10 : elemB Try.prog 10 1 = true := by kernel_rfl
theorem mki_10 : (Try.prog.info? 10).map (fun i => (i.zero, i.size, i.bytes)) = some (some (.string ByteArray.empty), 1, 16) := by kernel_rfl
theorem und_11 : Try.prog.underlying 11 = some .string := by kernel_rfl
theorem tsh_11 : tsh Try.prog 11 = some (false, 1) := by kernel_rfl
theorem zer_11 : zer Try.prog 11 = some (.string ByteArray.empty) := by kernel_rfl
theorem elb_11 : elemB Try.prog 11 1 = true := by kernel_rfl
theorem mki_11 : (Try.prog.info? 11).map (fun i => (i.zero, i.size, i.bytes)) = some (some (.string ByteArray.empty), 1, 16) := by kernel_rfl
theorem und_12 : Try.prog.underlying 12 = some (.int .u64) := by kernel_rfl
theorem tsh_12 : tsh Try.prog 12 = some (false, 1) := by kernel_rfl
theorem tsh_14 : tsh Try.prog 14 = some (true, 2) := by kernel_rfl
theorem fld_14_0 : fld Try.prog 14 0 = some 0 := by kernel_rfl
theorem fld_14_1 : fld Try.prog 14 1 = some 1 := by kernel_rfl
theorem tsh_15 : tsh Try.prog 15 = some (false, 1) := by kernel_rfl
theorem tsh_16 : tsh Try.prog 16 = some (false, 1) := by kernel_rfl
theorem tsh_17 : tsh Try.prog 17 = some (false, 1) := by kernel_rfl
theorem tsh_19 : tsh Try.prog 19 = some (true, 1) := by kernel_rfl
theorem fld_19_0 : fld Try.prog 19 0 = some 0 := by kernel_rfl
theorem tsh_20 : tsh Try.prog 20 = some (false, 1) := by kernel_rfl
theorem und_22 : Try.prog.underlying 22 = some (.slice 133) := by kernel_rfl
theorem tsh_22 : tsh Try.prog 22 = some (false, 1) := by kernel_rfl
theorem zer_22 : zer Try.prog 22 = some (.slice none 0 0) := by kernel_rfl
theorem elb_22 : elemB Try.prog 22 1 = true := by kernel_rfl
theorem mki_22 : (Try.prog.info? 22).map (fun i => (i.zero, i.size, i.bytes)) = some (some (.slice none 0 0), 1, 24) := by kernel_rfl
theorem und_23 : Try.prog.underlying 23 = some (.slice 137) := by kernel_rfl
theorem tsh_23 : tsh Try.prog 23 = some (false, 1) := by kernel_rfl
theorem zer_23 : zer Try.prog 23 = some (.slice none 0 0) := by kernel_rfl
theorem elb_23 : elemB Try.prog 23 1 = true := by kernel_rfl
theorem mki_23 : (Try.prog.info? 23).map (fun i => (i.zero, i.size, i.bytes)) = some (some (.slice none 0 0), 1, 24) := by kernel_rfl
theorem tsh_25 : tsh Try.prog 25 = some (true, 2) := by kernel_rfl
theorem fld_25_0 : fld Try.prog 25 0 = some 0 := by kernel_rfl
theorem fld_25_1 : fld Try.prog 25 1 = some 1 := by kernel_rfl
theorem zer_25 : zer Try.prog 25 = some (.agg #[.slice none 0 0, .slice none 0 0]) := by kernel_rfl
theorem elb_25 : elemB Try.prog 25 2 = true := by kernel_rfl
theorem mki_25 : (Try.prog.info? 25).map (fun i => (i.zero, i.size, i.bytes)) = some (some (.agg #[.slice none 0 0, .slice none 0 0]), 2, 48) := by kernel_rfl
theorem bld_25 : bld Try.prog 25 [(0, 1), (1, 1)] (.pr (.sl 133 (.pr .str .int)) (.sl 137 (.pr .str (.pr .int (.pr (.sl 246 (.pr .int .bool)) (.sl 9 .str)))))) := bld_of Try.underlying25 (by kernel_rfl) zer_25
theorem tsh_27 : tsh Try.prog 27 = some (false, 1) := by kernel_rfl
theorem und_29 : Try.prog.underlying 29 = some (.slice 129) := by kernel_rfl
theorem tsh_29 : tsh Try.prog 29 = some (false, 1) := by kernel_rfl
theorem zer_29 : zer Try.prog 29 = some (.slice none 0 0) := by kernel_rfl
theorem elb_29 : elemB Try.prog 29 1 = true := by kernel_rfl
theorem mki_29 : (Try.prog.info? 29).map (fun i => (i.zero, i.size, i.bytes)) = some (some (.slice none 0 0), 1, 24) := by kernel_rfl
theorem und_30 : Try.prog.underlying 30 = some (.slice 97) := by kernel_rfl
theorem tsh_30 : tsh Try.prog 30 = some (false, 1) := by kernel_rfl
theorem zer_30 : zer Try.prog 30 = some (.slice none 0 0) := by kernel_rfl
theorem elb_30 : elemB Try.prog 30 1 = true := by kernel_rfl
theorem mki_30 : (Try.prog.info? 30).map (fun i => (i.zero, i.size, i.bytes)) = some (some (.slice none 0 0), 1, 24) := by kernel_rfl
theorem tsh_32 : tsh Try.prog 32 = some (true, 2) := by kernel_rfl
theorem fld_32_0 : fld Try.prog 32 0 = some 0 := by kernel_rfl
theorem fld_32_1 : fld Try.prog 32 1 = some 1 := by kernel_rfl
theorem zer_32 : zer Try.prog 32 = some (.agg #[.slice none 0 0, .slice none 0 0]) := by kernel_rfl
theorem elb_32 : elemB Try.prog 32 2 = true := by kernel_rfl
theorem mki_32 : (Try.prog.info? 32).map (fun i => (i.zero, i.size, i.bytes)) = some (some (.agg #[.slice none 0 0, .slice none 0 0]), 2, 48) := by kernel_rfl
theorem bld_32 : bld Try.prog 32 [(0, 1), (1, 1)] (.pr (.sl 129 (.pr .str .int)) (.sl 97 (.pr .str (.pr .int (.pr (.sl 244 (.pr .int .bool)) (.sl 9 .str)))))) := bld_of Try.underlying32 (by kernel_rfl) zer_32
theorem und_36 : Try.prog.underlying 36 = some (.slice 201) := by kernel_rfl
theorem tsh_36 : tsh Try.prog 36 = some (false, 1) := by kernel_rfl
theorem zer_36 : zer Try.prog 36 = some (.slice none 0 0) := by kernel_rfl
theorem elb_36 : elemB Try.prog 36 1 = true := by kernel_rfl
theorem mki_36 : (Try.prog.info? 36).map (fun i => (i.zero, i.size, i.bytes)) = some (some (.slice none 0 0), 1, 24) := by kernel_rfl
theorem tsh_38 : tsh Try.prog 38 = some (true, 2) := by kernel_rfl
theorem fld_38_0 : fld Try.prog 38 0 = some 0 := by kernel_rfl
theorem fld_38_1 : fld Try.prog 38 1 = some 1 := by kernel_rfl
theorem zer_38 : zer Try.prog 38 = some (.agg #[.int .i64 0, .slice none 0 0]) := by kernel_rfl
theorem elb_38 : elemB Try.prog 38 2 = true := by kernel_rfl
theorem mki_38 : (Try.prog.info? 38).map (fun i => (i.zero, i.size, i.bytes)) = some (some (.agg #[.int .i64 0, .slice none 0 0]), 2, 32) := by kernel_rfl
theorem bld_38 : bld Try.prog 38 [(0, 1), (1, 1)] (.pr .int (.sl 201 (.pr (.sl 3 .int) (.sl 3 .int)))) := bld_of Try.underlying38 (by kernel_rfl) zer_38
theorem und_39 : Try.prog.underlying 39 = some (.slice 149) := by kernel_rfl
theorem tsh_39 : tsh Try.prog 39 = some (false, 1) := by kernel_rfl
theorem zer_39 : zer Try.prog 39 = some (.slice none 0 0) := by kernel_rfl
theorem elb_39 : elemB Try.prog 39 1 = true := by kernel_rfl
theorem mki_39 : (Try.prog.info? 39).map (fun i => (i.zero, i.size, i.bytes)) = some (some (.slice none 0 0), 1, 24) := by kernel_rfl
theorem tsh_41 : tsh Try.prog 41 = some (true, 5) := by kernel_rfl
theorem fld_41_0 : fld Try.prog 41 0 = some 0 := by kernel_rfl
theorem fld_41_1 : fld Try.prog 41 1 = some 2 := by kernel_rfl
theorem fld_41_2 : fld Try.prog 41 2 = some 3 := by kernel_rfl
theorem fld_41_3 : fld Try.prog 41 3 = some 4 := by kernel_rfl
theorem zer_41 : zer Try.prog 41 = some (.agg #[.int .i64 0, .slice none 0 0, .slice none 0 0, .slice none 0 0, .string ByteArray.empty]) := by kernel_rfl
theorem elb_41 : elemB Try.prog 41 5 = true := by kernel_rfl
theorem mki_41 : (Try.prog.info? 41).map (fun i => (i.zero, i.size, i.bytes)) = some (some (.agg #[.int .i64 0, .slice none 0 0, .slice none 0 0, .slice none 0 0, .string ByteArray.empty]), 5, 96) := by kernel_rfl
theorem bld_41 : bld Try.prog 41 [(0, 2), (2, 1), (3, 1), (4, 1)] (.pr (.pr .int (.sl 201 (.pr (.sl 3 .int) (.sl 3 .int)))) (.pr (.sl 133 (.pr .str .int)) (.pr (.sl 149 (.pr .int .bool)) .str))) := bld_of Try.underlying41 (by kernel_rfl) zer_41
theorem tsh_43 : tsh Try.prog 43 = some (true, 3) := by kernel_rfl
theorem fld_43_0 : fld Try.prog 43 0 = some 0 := by kernel_rfl
theorem fld_43_1 : fld Try.prog 43 1 = some 1 := by kernel_rfl
theorem fld_43_2 : fld Try.prog 43 2 = some 2 := by kernel_rfl
theorem zer_43 : zer Try.prog 43 = some (.agg #[.int .i64 0, .int .i64 0, .bool false]) := by kernel_rfl
theorem elb_43 : elemB Try.prog 43 3 = true := by kernel_rfl
theorem mki_43 : (Try.prog.info? 43).map (fun i => (i.zero, i.size, i.bytes)) = some (some (.agg #[.int .i64 0, .int .i64 0, .bool false]), 3, 24) := by kernel_rfl
theorem bld_43 : bld Try.prog 43 [(0, 1), (1, 1), (2, 1)] (.pr .int (.pr .int .bool)) := bld_of Try.underlying43 (by kernel_rfl) zer_43
theorem und_45 : Try.prog.underlying 45 = some (.slice 146) := by kernel_rfl
theorem tsh_45 : tsh Try.prog 45 = some (false, 1) := by kernel_rfl
theorem zer_45 : zer Try.prog 45 = some (.slice none 0 0) := by kernel_rfl
theorem elb_45 : elemB Try.prog 45 1 = true := by kernel_rfl
theorem mki_45 : (Try.prog.info? 45).map (fun i => (i.zero, i.size, i.bytes)) = some (some (.slice none 0 0), 1, 24) := by kernel_rfl
theorem tsh_47 : tsh Try.prog 47 = some (true, 2) := by kernel_rfl
theorem fld_47_0 : fld Try.prog 47 0 = some 0 := by kernel_rfl
theorem fld_47_1 : fld Try.prog 47 1 = some 1 := by kernel_rfl
theorem zer_47 : zer Try.prog 47 = some (.agg #[.int .i64 0, .slice none 0 0]) := by kernel_rfl
theorem elb_47 : elemB Try.prog 47 2 = true := by kernel_rfl
theorem mki_47 : (Try.prog.info? 47).map (fun i => (i.zero, i.size, i.bytes)) = some (some (.agg #[.int .i64 0, .slice none 0 0]), 2, 32) := by kernel_rfl
theorem bld_47 : bld Try.prog 47 [(0, 1), (1, 1)] (.pr .int (.sl 146 (.pr (.sl 3 .int) (.sl 3 .int)))) := bld_of Try.underlying47 (by kernel_rfl) zer_47
theorem und_48 : Try.prog.underlying 48 = some (.slice 131) := by kernel_rfl
theorem tsh_48 : tsh Try.prog 48 = some (false, 1) := by kernel_rfl
theorem zer_48 : zer Try.prog 48 = some (.slice none 0 0) := by kernel_rfl
theorem elb_48 : elemB Try.prog 48 1 = true := by kernel_rfl
theorem mki_48 : (Try.prog.info? 48).map (fun i => (i.zero, i.size, i.bytes)) = some (some (.slice none 0 0), 1, 24) := by kernel_rfl
theorem tsh_50 : tsh Try.prog 50 = some (true, 5) := by kernel_rfl
theorem fld_50_0 : fld Try.prog 50 0 = some 0 := by kernel_rfl
theorem fld_50_1 : fld Try.prog 50 1 = some 2 := by kernel_rfl
theorem fld_50_2 : fld Try.prog 50 2 = some 3 := by kernel_rfl
theorem fld_50_3 : fld Try.prog 50 3 = some 4 := by kernel_rfl
theorem zer_50 : zer Try.prog 50 = some (.agg #[.int .i64 0, .slice none 0 0, .slice none 0 0, .slice none 0 0, .string ByteArray.empty]) := by kernel_rfl
theorem elb_50 : elemB Try.prog 50 5 = true := by kernel_rfl
theorem mki_50 : (Try.prog.info? 50).map (fun i => (i.zero, i.size, i.bytes)) = some (some (.agg #[.int .i64 0, .slice none 0 0, .slice none 0 0, .slice none 0 0, .string ByteArray.empty]), 5, 96) := by kernel_rfl
theorem bld_50 : bld Try.prog 50 [(0, 2), (2, 1), (3, 1), (4, 1)] (.pr (.pr .int (.sl 146 (.pr (.sl 3 .int) (.sl 3 .int)))) (.pr (.sl 129 (.pr .str .int)) (.pr (.sl 131 (.pr .int .bool)) .str))) := bld_of Try.underlying50 (by kernel_rfl) zer_50
theorem tsh_51 : tsh Try.prog 51 = some (false, 1) := by kernel_rfl
theorem tsh_54 : tsh Try.prog 54 = some (true, 3) := by kernel_rfl
theorem fld_54_0 : fld Try.prog 54 0 = some 0 := by kernel_rfl
theorem fld_54_1 : fld Try.prog 54 1 = some 1 := by kernel_rfl
theorem fld_54_2 : fld Try.prog 54 2 = some 2 := by kernel_rfl
theorem zer_54 : zer Try.prog 54 = some (.agg #[.int .i64 0, .int .i64 0, .bool false]) := by kernel_rfl
theorem elb_54 : elemB Try.prog 54 3 = true := by kernel_rfl
theorem mki_54 : (Try.prog.info? 54).map (fun i => (i.zero, i.size, i.bytes)) = some (some (.agg #[.int .i64 0, .int .i64 0, .bool false]), 3, 24) := by kernel_rfl
theorem bld_54 : bld Try.prog 54 [(0, 1), (1, 1), (2, 1)] (.pr .int (.pr .int .bool)) := bld_of Try.underlying54 (by kernel_rfl) zer_54
theorem und_59 : Try.prog.underlying 59 = some (.slice 43) := by kernel_rfl
theorem tsh_59 : tsh Try.prog 59 = some (false, 1) := by kernel_rfl
theorem zer_59 : zer Try.prog 59 = some (.slice none 0 0) := by kernel_rfl
theorem elb_59 : elemB Try.prog 59 1 = true := by kernel_rfl
theorem mki_59 : (Try.prog.info? 59).map (fun i => (i.zero, i.size, i.bytes)) = some (some (.slice none 0 0), 1, 24) := by kernel_rfl
theorem und_62 : Try.prog.underlying 62 = some (.slice 54) := by kernel_rfl
theorem tsh_62 : tsh Try.prog 62 = some (false, 1) := by kernel_rfl
theorem zer_62 : zer Try.prog 62 = some (.slice none 0 0) := by kernel_rfl
theorem elb_62 : elemB Try.prog 62 1 = true := by kernel_rfl
theorem mki_62 : (Try.prog.info? 62).map (fun i => (i.zero, i.size, i.bytes)) = some (some (.slice none 0 0), 1, 24) := by kernel_rfl
theorem und_67 : Try.prog.underlying 67 = some (.slice 9) := by kernel_rfl
theorem tsh_67 : tsh Try.prog 67 = some (false, 1) := by kernel_rfl
theorem zer_67 : zer Try.prog 67 = some (.slice none 0 0) := by kernel_rfl
theorem elb_67 : elemB Try.prog 67 1 = true := by kernel_rfl
theorem mki_67 : (Try.prog.info? 67).map (fun i => (i.zero, i.size, i.bytes)) = some (some (.slice none 0 0), 1, 24) := by kernel_rfl
theorem und_68 : Try.prog.underlying 68 = some (.slice 172) := by kernel_rfl
theorem tsh_68 : tsh Try.prog 68 = some (false, 1) := by kernel_rfl
theorem zer_68 : zer Try.prog 68 = some (.slice none 0 0) := by kernel_rfl
theorem elb_68 : elemB Try.prog 68 1 = true := by kernel_rfl
theorem mki_68 : (Try.prog.info? 68).map (fun i => (i.zero, i.size, i.bytes)) = some (some (.slice none 0 0), 1, 24) := by kernel_rfl
theorem tsh_70 : tsh Try.prog 70 = some (true, 3) := by kernel_rfl
theorem fld_70_0 : fld Try.prog 70 0 = some 0 := by kernel_rfl
theorem fld_70_1 : fld Try.prog 70 1 = some 1 := by kernel_rfl
theorem fld_70_2 : fld Try.prog 70 2 = some 2 := by kernel_rfl
theorem zer_70 : zer Try.prog 70 = some (.agg #[.slice none 0 0, .slice none 0 0, .slice none 0 0]) := by kernel_rfl
theorem elb_70 : elemB Try.prog 70 3 = true := by kernel_rfl
theorem mki_70 : (Try.prog.info? 70).map (fun i => (i.zero, i.size, i.bytes)) = some (some (.agg #[.slice none 0 0, .slice none 0 0, .slice none 0 0]), 3, 72) := by kernel_rfl
theorem bld_70 : bld Try.prog 70 [(0, 1), (1, 1), (2, 1)] (.pr (.sl 133 (.pr .str .int)) (.pr (.sl 9 .str) (.sl 172 (.pr .int (.pr .int (.pr .bool .int)))))) := bld_of Try.underlying70 (by kernel_rfl) zer_70
theorem und_72 : Try.prog.underlying 72 = some (.slice 3) := by kernel_rfl
theorem tsh_72 : tsh Try.prog 72 = some (false, 1) := by kernel_rfl
theorem zer_72 : zer Try.prog 72 = some (.slice none 0 0) := by kernel_rfl
theorem elb_72 : elemB Try.prog 72 1 = true := by kernel_rfl
theorem mki_72 : (Try.prog.info? 72).map (fun i => (i.zero, i.size, i.bytes)) = some (some (.slice none 0 0), 1, 24) := by kernel_rfl
theorem tsh_73 : tsh Try.prog 73 = some (false, 1) := by kernel_rfl
theorem und_75 : Try.prog.underlying 75 = some (.slice 170) := by kernel_rfl
theorem tsh_75 : tsh Try.prog 75 = some (false, 1) := by kernel_rfl
theorem zer_75 : zer Try.prog 75 = some (.slice none 0 0) := by kernel_rfl
theorem elb_75 : elemB Try.prog 75 1 = true := by kernel_rfl
theorem mki_75 : (Try.prog.info? 75).map (fun i => (i.zero, i.size, i.bytes)) = some (some (.slice none 0 0), 1, 24) := by kernel_rfl
theorem tsh_77 : tsh Try.prog 77 = some (true, 3) := by kernel_rfl
theorem fld_77_0 : fld Try.prog 77 0 = some 0 := by kernel_rfl
theorem fld_77_1 : fld Try.prog 77 1 = some 1 := by kernel_rfl
theorem fld_77_2 : fld Try.prog 77 2 = some 2 := by kernel_rfl
theorem zer_77 : zer Try.prog 77 = some (.agg #[.slice none 0 0, .slice none 0 0, .slice none 0 0]) := by kernel_rfl
theorem elb_77 : elemB Try.prog 77 3 = true := by kernel_rfl
theorem mki_77 : (Try.prog.info? 77).map (fun i => (i.zero, i.size, i.bytes)) = some (some (.agg #[.slice none 0 0, .slice none 0 0, .slice none 0 0]), 3, 72) := by kernel_rfl
theorem bld_77 : bld Try.prog 77 [(0, 1), (1, 1), (2, 1)] (.pr (.sl 129 (.pr .str .int)) (.pr (.sl 9 .str) (.sl 170 (.pr .int (.pr .int (.pr .bool .int)))))) := bld_of Try.underlying77 (by kernel_rfl) zer_77
theorem tsh_84 : tsh Try.prog 84 = some (false, 1) := by kernel_rfl
theorem tsh_86 : tsh Try.prog 86 = some (false, 1) := by kernel_rfl
theorem und_95 : Try.prog.underlying 95 = some (.slice 244) := by kernel_rfl
theorem tsh_95 : tsh Try.prog 95 = some (false, 1) := by kernel_rfl
theorem zer_95 : zer Try.prog 95 = some (.slice none 0 0) := by kernel_rfl
theorem elb_95 : elemB Try.prog 95 1 = true := by kernel_rfl
theorem mki_95 : (Try.prog.info? 95).map (fun i => (i.zero, i.size, i.bytes)) = some (some (.slice none 0 0), 1, 24) := by kernel_rfl
theorem tsh_97 : tsh Try.prog 97 = some (true, 4) := by kernel_rfl
theorem fld_97_0 : fld Try.prog 97 0 = some 0 := by kernel_rfl
theorem fld_97_1 : fld Try.prog 97 1 = some 1 := by kernel_rfl
theorem fld_97_2 : fld Try.prog 97 2 = some 2 := by kernel_rfl
theorem fld_97_3 : fld Try.prog 97 3 = some 3 := by kernel_rfl
theorem zer_97 : zer Try.prog 97 = some (.agg #[.string ByteArray.empty, .int .i64 0, .slice none 0 0, .slice none 0 0]) := by kernel_rfl
theorem elb_97 : elemB Try.prog 97 4 = true := by kernel_rfl
theorem mki_97 : (Try.prog.info? 97).map (fun i => (i.zero, i.size, i.bytes)) = some (some (.agg #[.string ByteArray.empty, .int .i64 0, .slice none 0 0, .slice none 0 0]), 4, 72) := by kernel_rfl
theorem bld_97 : bld Try.prog 97 [(0, 1), (1, 1), (2, 1), (3, 1)] (.pr .str (.pr .int (.pr (.sl 244 (.pr .int .bool)) (.sl 9 .str)))) := bld_of Try.underlying97 (by kernel_rfl) zer_97
theorem tsh_118 : tsh Try.prog 118 = some (false, 1) := by kernel_rfl
theorem tsh_126 : tsh Try.prog 126 = some (false, 1) := by kernel_rfl
theorem tsh_129 : tsh Try.prog 129 = some (true, 2) := by kernel_rfl
theorem fld_129_0 : fld Try.prog 129 0 = some 0 := by kernel_rfl
theorem fld_129_1 : fld Try.prog 129 1 = some 1 := by kernel_rfl
theorem zer_129 : zer Try.prog 129 = some (.agg #[.string ByteArray.empty, .int .i64 0]) := by kernel_rfl
theorem elb_129 : elemB Try.prog 129 2 = true := by kernel_rfl
theorem mki_129 : (Try.prog.info? 129).map (fun i => (i.zero, i.size, i.bytes)) = some (some (.agg #[.string ByteArray.empty, .int .i64 0]), 2, 24) := by kernel_rfl
theorem bld_129 : bld Try.prog 129 [(0, 1), (1, 1)] (.pr .str .int) := bld_of Try.underlying129 (by kernel_rfl) zer_129
theorem tsh_131 : tsh Try.prog 131 = some (true, 2) := by kernel_rfl
theorem fld_131_0 : fld Try.prog 131 0 = some 0 := by kernel_rfl
theorem fld_131_1 : fld Try.prog 131 1 = some 1 := by kernel_rfl
theorem zer_131 : zer Try.prog 131 = some (.agg #[.int .i64 0, .bool false]) := by kernel_rfl
theorem elb_131 : elemB Try.prog 131 2 = true := by kernel_rfl
theorem mki_131 : (Try.prog.info? 131).map (fun i => (i.zero, i.size, i.bytes)) = some (some (.agg #[.int .i64 0, .bool false]), 2, 16) := by kernel_rfl
theorem bld_131 : bld Try.prog 131 [(0, 1), (1, 1)] (.pr .int .bool) := bld_of Try.underlying131 (by kernel_rfl) zer_131
theorem tsh_133 : tsh Try.prog 133 = some (true, 2) := by kernel_rfl
theorem fld_133_0 : fld Try.prog 133 0 = some 0 := by kernel_rfl
theorem fld_133_1 : fld Try.prog 133 1 = some 1 := by kernel_rfl
theorem zer_133 : zer Try.prog 133 = some (.agg #[.string ByteArray.empty, .int .i64 0]) := by kernel_rfl
theorem elb_133 : elemB Try.prog 133 2 = true := by kernel_rfl
theorem mki_133 : (Try.prog.info? 133).map (fun i => (i.zero, i.size, i.bytes)) = some (some (.agg #[.string ByteArray.empty, .int .i64 0]), 2, 24) := by kernel_rfl
theorem bld_133 : bld Try.prog 133 [(0, 1), (1, 1)] (.pr .str .int) := bld_of Try.underlying133 (by kernel_rfl) zer_133
theorem und_135 : Try.prog.underlying 135 = some (.slice 246) := by kernel_rfl
theorem tsh_135 : tsh Try.prog 135 = some (false, 1) := by kernel_rfl
theorem zer_135 : zer Try.prog 135 = some (.slice none 0 0) := by kernel_rfl
theorem elb_135 : elemB Try.prog 135 1 = true := by kernel_rfl
theorem mki_135 : (Try.prog.info? 135).map (fun i => (i.zero, i.size, i.bytes)) = some (some (.slice none 0 0), 1, 24) := by kernel_rfl
theorem tsh_137 : tsh Try.prog 137 = some (true, 4) := by kernel_rfl
theorem fld_137_0 : fld Try.prog 137 0 = some 0 := by kernel_rfl
theorem fld_137_1 : fld Try.prog 137 1 = some 1 := by kernel_rfl
theorem fld_137_2 : fld Try.prog 137 2 = some 2 := by kernel_rfl
theorem fld_137_3 : fld Try.prog 137 3 = some 3 := by kernel_rfl
theorem zer_137 : zer Try.prog 137 = some (.agg #[.string ByteArray.empty, .int .i64 0, .slice none 0 0, .slice none 0 0]) := by kernel_rfl
theorem elb_137 : elemB Try.prog 137 4 = true := by kernel_rfl
theorem mki_137 : (Try.prog.info? 137).map (fun i => (i.zero, i.size, i.bytes)) = some (some (.agg #[.string ByteArray.empty, .int .i64 0, .slice none 0 0, .slice none 0 0]), 4, 72) := by kernel_rfl
theorem bld_137 : bld Try.prog 137 [(0, 1), (1, 1), (2, 1), (3, 1)] (.pr .str (.pr .int (.pr (.sl 246 (.pr .int .bool)) (.sl 9 .str)))) := bld_of Try.underlying137 (by kernel_rfl) zer_137
theorem tsh_146 : tsh Try.prog 146 = some (true, 2) := by kernel_rfl
theorem fld_146_0 : fld Try.prog 146 0 = some 0 := by kernel_rfl
theorem fld_146_1 : fld Try.prog 146 1 = some 1 := by kernel_rfl
theorem zer_146 : zer Try.prog 146 = some (.agg #[.slice none 0 0, .slice none 0 0]) := by kernel_rfl
theorem elb_146 : elemB Try.prog 146 2 = true := by kernel_rfl
theorem mki_146 : (Try.prog.info? 146).map (fun i => (i.zero, i.size, i.bytes)) = some (some (.agg #[.slice none 0 0, .slice none 0 0]), 2, 48) := by kernel_rfl
theorem bld_146 : bld Try.prog 146 [(0, 1), (1, 1)] (.pr (.sl 3 .int) (.sl 3 .int)) := bld_of Try.underlying146 (by kernel_rfl) zer_146
theorem tsh_149 : tsh Try.prog 149 = some (true, 2) := by kernel_rfl
theorem fld_149_0 : fld Try.prog 149 0 = some 0 := by kernel_rfl
theorem fld_149_1 : fld Try.prog 149 1 = some 1 := by kernel_rfl
theorem zer_149 : zer Try.prog 149 = some (.agg #[.int .i64 0, .bool false]) := by kernel_rfl
theorem elb_149 : elemB Try.prog 149 2 = true := by kernel_rfl
theorem mki_149 : (Try.prog.info? 149).map (fun i => (i.zero, i.size, i.bytes)) = some (some (.agg #[.int .i64 0, .bool false]), 2, 16) := by kernel_rfl
theorem bld_149 : bld Try.prog 149 [(0, 1), (1, 1)] (.pr .int .bool) := bld_of Try.underlying149 (by kernel_rfl) zer_149
theorem tsh_153 : tsh Try.prog 153 = some (false, 1) := by kernel_rfl
theorem tsh_154 : tsh Try.prog 154 = some (false, 1) := by kernel_rfl
theorem und_156 : Try.prog.underlying 156 = some (.slice 5) := by kernel_rfl
theorem tsh_156 : tsh Try.prog 156 = some (false, 1) := by kernel_rfl
theorem zer_156 : zer Try.prog 156 = some (.slice none 0 0) := by kernel_rfl
theorem elb_156 : elemB Try.prog 156 1 = true := by kernel_rfl
theorem mki_156 : (Try.prog.info? 156).map (fun i => (i.zero, i.size, i.bytes)) = some (some (.slice none 0 0), 1, 24) := by kernel_rfl
theorem tsh_164 : tsh Try.prog 164 = some (false, 1) := by kernel_rfl
theorem tsh_166 : tsh Try.prog 166 = some (false, 1) := by kernel_rfl
theorem tsh_170 : tsh Try.prog 170 = some (true, 4) := by kernel_rfl
theorem fld_170_0 : fld Try.prog 170 0 = some 0 := by kernel_rfl
theorem fld_170_1 : fld Try.prog 170 1 = some 1 := by kernel_rfl
theorem fld_170_2 : fld Try.prog 170 2 = some 2 := by kernel_rfl
theorem fld_170_3 : fld Try.prog 170 3 = some 3 := by kernel_rfl
theorem zer_170 : zer Try.prog 170 = some (.agg #[.int .i64 0, .int .i64 0, .bool false, .int .i64 0]) := by kernel_rfl
theorem elb_170 : elemB Try.prog 170 4 = true := by kernel_rfl
theorem mki_170 : (Try.prog.info? 170).map (fun i => (i.zero, i.size, i.bytes)) = some (some (.agg #[.int .i64 0, .int .i64 0, .bool false, .int .i64 0]), 4, 32) := by kernel_rfl
theorem bld_170 : bld Try.prog 170 [(0, 1), (1, 1), (2, 1), (3, 1)] (.pr .int (.pr .int (.pr .bool .int))) := bld_of Try.underlying170 (by kernel_rfl) zer_170
theorem tsh_172 : tsh Try.prog 172 = some (true, 4) := by kernel_rfl
theorem fld_172_0 : fld Try.prog 172 0 = some 0 := by kernel_rfl
theorem fld_172_1 : fld Try.prog 172 1 = some 1 := by kernel_rfl
theorem fld_172_2 : fld Try.prog 172 2 = some 2 := by kernel_rfl
theorem fld_172_3 : fld Try.prog 172 3 = some 3 := by kernel_rfl
theorem zer_172 : zer Try.prog 172 = some (.agg #[.int .i64 0, .int .i64 0, .bool false, .int .i64 0]) := by kernel_rfl
theorem elb_172 : elemB Try.prog 172 4 = true := by kernel_rfl
theorem mki_172 : (Try.prog.info? 172).map (fun i => (i.zero, i.size, i.bytes)) = some (some (.agg #[.int .i64 0, .int .i64 0, .bool false, .int .i64 0]), 4, 32) := by kernel_rfl
theorem bld_172 : bld Try.prog 172 [(0, 1), (1, 1), (2, 1), (3, 1)] (.pr .int (.pr .int (.pr .bool .int))) := bld_of Try.underlying172 (by kernel_rfl) zer_172
theorem tsh_174 : tsh Try.prog 174 = some (false, 1) := by kernel_rfl
theorem und_175 : Try.prog.underlying 175 = some (.map 182 3) := by kernel_rfl
theorem tsh_175 : tsh Try.prog 175 = some (false, 1) := by kernel_rfl
theorem und_176 : Try.prog.underlying 176 = some (.slice 182) := by kernel_rfl
theorem tsh_176 : tsh Try.prog 176 = some (false, 1) := by kernel_rfl
theorem zer_176 : zer Try.prog 176 = some (.slice none 0 0) := by kernel_rfl
theorem elb_176 : elemB Try.prog 176 1 = true := by kernel_rfl
theorem mki_176 : (Try.prog.info? 176).map (fun i => (i.zero, i.size, i.bytes)) = some (some (.slice none 0 0), 1, 24) := by kernel_rfl
theorem tsh_178 : tsh Try.prog 178 = some (true, 9) := by kernel_rfl
theorem fld_178_0 : fld Try.prog 178 0 = some 0 := by kernel_rfl
theorem fld_178_1 : fld Try.prog 178 1 = some 3 := by kernel_rfl
theorem fld_178_2 : fld Try.prog 178 2 = some 4 := by kernel_rfl
theorem fld_178_3 : fld Try.prog 178 3 = some 7 := by kernel_rfl
theorem fld_178_4 : fld Try.prog 178 4 = some 8 := by kernel_rfl
theorem tsh_182 : tsh Try.prog 182 = some (true, 2) := by kernel_rfl
theorem fld_182_0 : fld Try.prog 182 0 = some 0 := by kernel_rfl
theorem fld_182_1 : fld Try.prog 182 1 = some 1 := by kernel_rfl
theorem zer_182 : zer Try.prog 182 = some (.agg #[.int .i64 0, .bool false]) := by kernel_rfl
theorem elb_182 : elemB Try.prog 182 2 = true := by kernel_rfl
theorem mki_182 : (Try.prog.info? 182).map (fun i => (i.zero, i.size, i.bytes)) = some (some (.agg #[.int .i64 0, .bool false]), 2, 16) := by kernel_rfl
theorem bld_182 : bld Try.prog 182 [(0, 1), (1, 1)] (.pr .int .bool) := bld_of Try.underlying182 (by kernel_rfl) zer_182
theorem und_186 : Try.prog.underlying 186 = some (.slice 229) := by kernel_rfl
theorem tsh_186 : tsh Try.prog 186 = some (false, 1) := by kernel_rfl
theorem zer_186 : zer Try.prog 186 = some (.slice none 0 0) := by kernel_rfl
theorem elb_186 : elemB Try.prog 186 1 = true := by kernel_rfl
theorem mki_186 : (Try.prog.info? 186).map (fun i => (i.zero, i.size, i.bytes)) = some (some (.slice none 0 0), 1, 24) := by kernel_rfl
theorem tsh_188 : tsh Try.prog 188 = some (true, 2) := by kernel_rfl
theorem fld_188_0 : fld Try.prog 188 0 = some 0 := by kernel_rfl
theorem fld_188_1 : fld Try.prog 188 1 = some 1 := by kernel_rfl
theorem zer_188 : zer Try.prog 188 = some (.agg #[.slice none 0 0, .slice none 0 0]) := by kernel_rfl
theorem elb_188 : elemB Try.prog 188 2 = true := by kernel_rfl
theorem mki_188 : (Try.prog.info? 188).map (fun i => (i.zero, i.size, i.bytes)) = some (some (.agg #[.slice none 0 0, .slice none 0 0]), 2, 48) := by kernel_rfl
theorem bld_188 : bld Try.prog 188 [(0, 1), (1, 1)] (.pr (.sl 9 .str) (.sl 229 (.pr .int (.pr .int .int)))) := bld_of Try.underlying188 (by kernel_rfl) zer_188
theorem tsh_189 : tsh Try.prog 189 = some (false, 1) := by kernel_rfl
theorem tsh_201 : tsh Try.prog 201 = some (true, 2) := by kernel_rfl
theorem fld_201_0 : fld Try.prog 201 0 = some 0 := by kernel_rfl
theorem fld_201_1 : fld Try.prog 201 1 = some 1 := by kernel_rfl
theorem zer_201 : zer Try.prog 201 = some (.agg #[.slice none 0 0, .slice none 0 0]) := by kernel_rfl
theorem elb_201 : elemB Try.prog 201 2 = true := by kernel_rfl
theorem mki_201 : (Try.prog.info? 201).map (fun i => (i.zero, i.size, i.bytes)) = some (some (.agg #[.slice none 0 0, .slice none 0 0]), 2, 48) := by kernel_rfl
theorem bld_201 : bld Try.prog 201 [(0, 1), (1, 1)] (.pr (.sl 3 .int) (.sl 3 .int)) := bld_of Try.underlying201 (by kernel_rfl) zer_201
theorem tsh_205 : tsh Try.prog 205 = some (false, 1) := by kernel_rfl
theorem tsh_211 : tsh Try.prog 211 = some (false, 1) := by kernel_rfl
theorem tsh_213 : tsh Try.prog 213 = some (true, 8) := by kernel_rfl
theorem fld_213_0 : fld Try.prog 213 0 = some 0 := by kernel_rfl
theorem fld_213_1 : fld Try.prog 213 1 = some 3 := by kernel_rfl
theorem fld_213_2 : fld Try.prog 213 2 = some 4 := by kernel_rfl
theorem fld_213_3 : fld Try.prog 213 3 = some 5 := by kernel_rfl
theorem zer_213 : zer Try.prog 213 = some (.agg #[.slice none 0 0, .slice none 0 0, .slice none 0 0, .string ByteArray.empty, .slice none 0 0, .slice none 0 0, .slice none 0 0, .slice none 0 0]) := by kernel_rfl
theorem elb_213 : elemB Try.prog 213 8 = true := by kernel_rfl
theorem mki_213 : (Try.prog.info? 213).map (fun i => (i.zero, i.size, i.bytes)) = some (some (.agg #[.slice none 0 0, .slice none 0 0, .slice none 0 0, .string ByteArray.empty, .slice none 0 0, .slice none 0 0, .slice none 0 0, .slice none 0 0]), 8, 184) := by kernel_rfl
theorem bld_213 : bld Try.prog 213 [(0, 3), (3, 1), (4, 1), (5, 3)] (.pr (.pr (.sl 129 (.pr .str .int)) (.pr (.sl 9 .str) (.sl 170 (.pr .int (.pr .int (.pr .bool .int)))))) (.pr .str (.pr (.sl 3 .int) (.pr (.sl 129 (.pr .str .int)) (.pr (.sl 9 .str) (.sl 170 (.pr .int (.pr .int (.pr .bool .int))))))))) := bld_of Try.underlying213 (by kernel_rfl) zer_213
theorem und_223 : Try.prog.underlying 223 = some (.slice 268) := by kernel_rfl
theorem tsh_223 : tsh Try.prog 223 = some (false, 1) := by kernel_rfl
theorem zer_223 : zer Try.prog 223 = some (.slice none 0 0) := by kernel_rfl
theorem elb_223 : elemB Try.prog 223 1 = true := by kernel_rfl
theorem mki_223 : (Try.prog.info? 223).map (fun i => (i.zero, i.size, i.bytes)) = some (some (.slice none 0 0), 1, 24) := by kernel_rfl
theorem tsh_226 : tsh Try.prog 226 = some (false, 1) := by kernel_rfl
theorem tsh_229 : tsh Try.prog 229 = some (true, 3) := by kernel_rfl
theorem fld_229_0 : fld Try.prog 229 0 = some 0 := by kernel_rfl
theorem fld_229_1 : fld Try.prog 229 1 = some 1 := by kernel_rfl
theorem fld_229_2 : fld Try.prog 229 2 = some 2 := by kernel_rfl
theorem zer_229 : zer Try.prog 229 = some (.agg #[.int .i64 0, .int .i64 0, .int .i64 0]) := by kernel_rfl
theorem elb_229 : elemB Try.prog 229 3 = true := by kernel_rfl
theorem mki_229 : (Try.prog.info? 229).map (fun i => (i.zero, i.size, i.bytes)) = some (some (.agg #[.int .i64 0, .int .i64 0, .int .i64 0]), 3, 24) := by kernel_rfl
theorem bld_229 : bld Try.prog 229 [(0, 1), (1, 1), (2, 1)] (.pr .int (.pr .int .int)) := bld_of Try.underlying229 (by kernel_rfl) zer_229
theorem tsh_231 : tsh Try.prog 231 = some (true, 6) := by kernel_rfl
theorem fld_231_0 : fld Try.prog 231 0 = some 0 := by kernel_rfl
theorem fld_231_1 : fld Try.prog 231 1 = some 2 := by kernel_rfl
theorem fld_231_2 : fld Try.prog 231 2 = some 3 := by kernel_rfl
theorem fld_231_3 : fld Try.prog 231 3 = some 4 := by kernel_rfl
theorem fld_231_4 : fld Try.prog 231 4 = some 5 := by kernel_rfl
theorem zer_231 : zer Try.prog 231 = some (.agg #[.slice none 0 0, .slice none 0 0, .slice none 0 0, .int .i64 0, .int .i64 0, .bool false]) := by kernel_rfl
theorem elb_231 : elemB Try.prog 231 6 = true := by kernel_rfl
theorem mki_231 : (Try.prog.info? 231).map (fun i => (i.zero, i.size, i.bytes)) = some (some (.agg #[.slice none 0 0, .slice none 0 0, .slice none 0 0, .int .i64 0, .int .i64 0, .bool false]), 6, 96) := by kernel_rfl
theorem bld_231 : bld Try.prog 231 [(0, 2), (2, 1), (3, 1), (4, 1), (5, 1)] (.pr (.pr (.sl 9 .str) (.sl 229 (.pr .int (.pr .int .int)))) (.pr (.sl 229 (.pr .int (.pr .int .int))) (.pr .int (.pr .int .bool)))) := bld_of Try.underlying231 (by kernel_rfl) zer_231
theorem tsh_234 : tsh Try.prog 234 = some (false, 1) := by kernel_rfl
theorem tsh_237 : tsh Try.prog 237 = some (false, 1) := by kernel_rfl
theorem tsh_239 : tsh Try.prog 239 = some (false, 1) := by kernel_rfl
theorem tsh_242 : tsh Try.prog 242 = some (false, 1) := by kernel_rfl
theorem tsh_244 : tsh Try.prog 244 = some (true, 2) := by kernel_rfl
theorem fld_244_0 : fld Try.prog 244 0 = some 0 := by kernel_rfl
theorem fld_244_1 : fld Try.prog 244 1 = some 1 := by kernel_rfl
theorem zer_244 : zer Try.prog 244 = some (.agg #[.int .i64 0, .bool false]) := by kernel_rfl
theorem elb_244 : elemB Try.prog 244 2 = true := by kernel_rfl
theorem mki_244 : (Try.prog.info? 244).map (fun i => (i.zero, i.size, i.bytes)) = some (some (.agg #[.int .i64 0, .bool false]), 2, 16) := by kernel_rfl
theorem bld_244 : bld Try.prog 244 [(0, 1), (1, 1)] (.pr .int .bool) := bld_of Try.underlying244 (by kernel_rfl) zer_244
theorem tsh_246 : tsh Try.prog 246 = some (true, 2) := by kernel_rfl
theorem fld_246_0 : fld Try.prog 246 0 = some 0 := by kernel_rfl
theorem fld_246_1 : fld Try.prog 246 1 = some 1 := by kernel_rfl
theorem zer_246 : zer Try.prog 246 = some (.agg #[.int .i64 0, .bool false]) := by kernel_rfl
theorem elb_246 : elemB Try.prog 246 2 = true := by kernel_rfl
theorem mki_246 : (Try.prog.info? 246).map (fun i => (i.zero, i.size, i.bytes)) = some (some (.agg #[.int .i64 0, .bool false]), 2, 16) := by kernel_rfl
theorem bld_246 : bld Try.prog 246 [(0, 1), (1, 1)] (.pr .int .bool) := bld_of Try.underlying246 (by kernel_rfl) zer_246
theorem tsh_248 : tsh Try.prog 248 = some (false, 1) := by kernel_rfl
theorem tsh_250 : tsh Try.prog 250 = some (false, 1) := by kernel_rfl
theorem tsh_253 : tsh Try.prog 253 = some (false, 1) := by kernel_rfl
theorem und_261 : Try.prog.underlying 261 = some (.slice 4) := by kernel_rfl
theorem tsh_261 : tsh Try.prog 261 = some (false, 1) := by kernel_rfl
theorem zer_261 : zer Try.prog 261 = some (.slice none 0 0) := by kernel_rfl
theorem elb_261 : elemB Try.prog 261 1 = true := by kernel_rfl
theorem mki_261 : (Try.prog.info? 261).map (fun i => (i.zero, i.size, i.bytes)) = some (some (.slice none 0 0), 1, 24) := by kernel_rfl
theorem tsh_263 : tsh Try.prog 263 = some (false, 1) := by kernel_rfl
theorem und_266 : Try.prog.underlying 266 = some (.slice 72) := by kernel_rfl
theorem tsh_266 : tsh Try.prog 266 = some (false, 1) := by kernel_rfl
theorem zer_266 : zer Try.prog 266 = some (.slice none 0 0) := by kernel_rfl
theorem elb_266 : elemB Try.prog 266 1 = true := by kernel_rfl
theorem mki_266 : (Try.prog.info? 266).map (fun i => (i.zero, i.size, i.bytes)) = some (some (.slice none 0 0), 1, 24) := by kernel_rfl
theorem tsh_268 : tsh Try.prog 268 = some (true, 2) := by kernel_rfl
theorem fld_268_0 : fld Try.prog 268 0 = some 0 := by kernel_rfl
theorem fld_268_1 : fld Try.prog 268 1 = some 1 := by kernel_rfl
theorem zer_268 : zer Try.prog 268 = some (.agg #[.int .i64 0, .int .i64 0]) := by kernel_rfl
theorem elb_268 : elemB Try.prog 268 2 = true := by kernel_rfl
theorem mki_268 : (Try.prog.info? 268).map (fun i => (i.zero, i.size, i.bytes)) = some (some (.agg #[.int .i64 0, .int .i64 0]), 2, 16) := by kernel_rfl
theorem bld_268 : bld Try.prog 268 [(0, 1), (1, 1)] (.pr .int .int) := bld_of Try.underlying268 (by kernel_rfl) zer_268
theorem tsh_272 : tsh Try.prog 272 = some (false, 1) := by kernel_rfl
theorem und_274 : Try.prog.underlying 274 = some (.map 9 3) := by kernel_rfl
theorem tsh_274 : tsh Try.prog 274 = some (false, 1) := by kernel_rfl
theorem und_275 : Try.prog.underlying 275 = some (.map 9 4) := by kernel_rfl
theorem tsh_275 : tsh Try.prog 275 = some (false, 1) := by kernel_rfl
theorem und_281 : Try.prog.underlying 281 = some (.int .u64) := by kernel_rfl
theorem tsh_281 : tsh Try.prog 281 = some (false, 1) := by kernel_rfl
theorem tsh_282 : tsh Try.prog 282 = some (false, 1) := by kernel_rfl
theorem und_287 : Try.prog.underlying 287 = some (.int .u32) := by kernel_rfl
theorem tsh_287 : tsh Try.prog 287 = some (false, 1) := by kernel_rfl
theorem tsh_288 : tsh Try.prog 288 = some (false, 1) := by kernel_rfl
theorem und_290 : Try.prog.underlying 290 = some (.int .u64) := by kernel_rfl
theorem tsh_290 : tsh Try.prog 290 = some (false, 1) := by kernel_rfl
theorem tsh_291 : tsh Try.prog 291 = some (false, 1) := by kernel_rfl
theorem tsh_294 : tsh Try.prog 294 = some (false, 1) := by kernel_rfl
theorem und_304 : Try.prog.underlying 304 = some (.int .u8) := by kernel_rfl
theorem tsh_304 : tsh Try.prog 304 = some (false, 1) := by kernel_rfl
theorem zer_304 : zer Try.prog 304 = some (.int .u8 0) := by kernel_rfl
theorem elb_304 : elemB Try.prog 304 1 = true := by kernel_rfl
theorem mki_304 : (Try.prog.info? 304).map (fun i => (i.zero, i.size, i.bytes)) = some (some (.int .u8 0), 1, 1) := by kernel_rfl
theorem enters_3 : Enters Try.prog 3 := fun args W => run_enter Try.func3 (by kernel_rfl) rfl args W
theorem enters_4 : Enters Try.prog 4 := fun args W => run_enter Try.func4 (by kernel_rfl) rfl args W
theorem enters_5 : Enters Try.prog 5 := fun args W => run_enter Try.func5 (by kernel_rfl) rfl args W
theorem enters_6 : Enters Try.prog 6 := fun args W => run_enter Try.func6 (by kernel_rfl) rfl args W
theorem enters_7 : Enters Try.prog 7 := fun args W => run_enter Try.func7 (by kernel_rfl) rfl args W
theorem enters_8 : Enters Try.prog 8 := fun args W => run_enter Try.func8 (by kernel_rfl) rfl args W
theorem enters_9 : Enters Try.prog 9 := fun args W => run_enter Try.func9 (by kernel_rfl) rfl args W
theorem enters_10 : Enters Try.prog 10 := fun args W => run_enter Try.func10 (by kernel_rfl) rfl args W
theorem enters_11 : Enters Try.prog 11 := fun args W => run_enter Try.func11 (by kernel_rfl) rfl args W
theorem enters_12 : Enters Try.prog 12 := fun args W => run_enter Try.func12 (by kernel_rfl) rfl args W
theorem enters_13 : Enters Try.prog 13 := fun args W => run_enter Try.func13 (by kernel_rfl) rfl args W
theorem enters_14 : Enters Try.prog 14 := fun args W => run_enter Try.func14 (by kernel_rfl) rfl args W
theorem enters_15 : Enters Try.prog 15 := fun args W => run_enter Try.func15 (by kernel_rfl) rfl args W
theorem enters_16 : Enters Try.prog 16 := fun args W => run_enter Try.func16 (by kernel_rfl) rfl args W
theorem enters_17 : Enters Try.prog 17 := fun args W => run_enter Try.func17 (by kernel_rfl) rfl args W
theorem enters_18 : Enters Try.prog 18 := fun args W => run_enter Try.func18 (by kernel_rfl) rfl args W
theorem enters_19 : Enters Try.prog 19 := fun args W => run_enter Try.func19 (by kernel_rfl) rfl args W
theorem enters_20 : Enters Try.prog 20 := fun args W => run_enter Try.func20 (by kernel_rfl) rfl args W
theorem enters_21 : Enters Try.prog 21 := fun args W => run_enter Try.func21 (by kernel_rfl) rfl args W
theorem enters_22 : Enters Try.prog 22 := fun args W => run_enter Try.func22 (by kernel_rfl) rfl args W
theorem enters_23 : Enters Try.prog 23 := fun args W => run_enter Try.func23 (by kernel_rfl) rfl args W
theorem enters_24 : Enters Try.prog 24 := fun args W => run_enter Try.func24 (by kernel_rfl) rfl args W
theorem enters_25 : Enters Try.prog 25 := fun args W => run_enter Try.func25 (by kernel_rfl) rfl args W
theorem enters_26 : Enters Try.prog 26 := fun args W => run_enter Try.func26 (by kernel_rfl) rfl args W
theorem enters_27 : Enters Try.prog 27 := fun args W => run_enter Try.func27 (by kernel_rfl) rfl args W
theorem enters_28 : Enters Try.prog 28 := fun args W => run_enter Try.func28 (by kernel_rfl) rfl args W
theorem enters_29 : Enters Try.prog 29 := fun args W => run_enter Try.func29 (by kernel_rfl) rfl args W
theorem enters_30 : Enters Try.prog 30 := fun args W => run_enter Try.func30 (by kernel_rfl) rfl args W
theorem enters_31 : Enters Try.prog 31 := fun args W => run_enter Try.func31 (by kernel_rfl) rfl args W
theorem enters_32 : Enters Try.prog 32 := fun args W => run_enter Try.func32 (by kernel_rfl) rfl args W
theorem enters_33 : Enters Try.prog 33 := fun args W => run_enter Try.func33 (by kernel_rfl) rfl args W
theorem enters_34 : Enters Try.prog 34 := fun args W => run_enter Try.func34 (by kernel_rfl) rfl args W
theorem enters_35 : Enters Try.prog 35 := fun args W => run_enter Try.func35 (by kernel_rfl) rfl args W
theorem enters_36 : Enters Try.prog 36 := fun args W => run_enter Try.func36 (by kernel_rfl) rfl args W
theorem enters_37 : Enters Try.prog 37 := fun args W => run_enter Try.func37 (by kernel_rfl) rfl args W
theorem enters_38 : Enters Try.prog 38 := fun args W => run_enter Try.func38 (by kernel_rfl) rfl args W
theorem enters_39 : Enters Try.prog 39 := fun args W => run_enter Try.func39 (by kernel_rfl) rfl args W
theorem enters_40 : Enters Try.prog 40 := fun args W => run_enter Try.func40 (by kernel_rfl) rfl args W
theorem enters_41 : Enters Try.prog 41 := fun args W => run_enter Try.func41 (by kernel_rfl) rfl args W
theorem enters_42 : Enters Try.prog 42 := fun args W => run_enter Try.func42 (by kernel_rfl) rfl args W
theorem enters_43 : Enters Try.prog 43 := fun args W => run_enter Try.func43 (by kernel_rfl) rfl args W
theorem enters_44 : Enters Try.prog 44 := fun args W => run_enter Try.func44 (by kernel_rfl) rfl args W
theorem enters_45 : Enters Try.prog 45 := fun args W => run_enter Try.func45 (by kernel_rfl) rfl args W
theorem enters_46 : Enters Try.prog 46 := fun args W => run_enter Try.func46 (by kernel_rfl) rfl args W
theorem enters_47 : Enters Try.prog 47 := fun args W => run_enter Try.func47 (by kernel_rfl) rfl args W
theorem enters_48 : Enters Try.prog 48 := fun args W => run_enter Try.func48 (by kernel_rfl) rfl args W
theorem enters_49 : Enters Try.prog 49 := fun args W => run_enter Try.func49 (by kernel_rfl) rfl args W
theorem enters_50 : Enters Try.prog 50 := fun args W => run_enter Try.func50 (by kernel_rfl) rfl args W
theorem enters_51 : Enters Try.prog 51 := fun args W => run_enter Try.func51 (by kernel_rfl) rfl args W
theorem enters_52 : Enters Try.prog 52 := fun args W => run_enter Try.func52 (by kernel_rfl) rfl args W
theorem enters_53 : Enters Try.prog 53 := fun args W => run_enter Try.func53 (by kernel_rfl) rfl args W
theorem enters_54 : Enters Try.prog 54 := fun args W => run_enter Try.func54 (by kernel_rfl) rfl args W
theorem enters_55 : Enters Try.prog 55 := fun args W => run_enter Try.func55 (by kernel_rfl) rfl args W
theorem enters_56 : Enters Try.prog 56 := fun args W => run_enter Try.func56 (by kernel_rfl) rfl args W
theorem enters_57 : Enters Try.prog 57 := fun args W => run_enter Try.func57 (by kernel_rfl) rfl args W
theorem enters_58 : Enters Try.prog 58 := fun args W => run_enter Try.func58 (by kernel_rfl) rfl args W
theorem enters_59 : Enters Try.prog 59 := fun args W => run_enter Try.func59 (by kernel_rfl) rfl args W
theorem enters_60 : Enters Try.prog 60 := fun args W => run_enter Try.func60 (by kernel_rfl) rfl args W
theorem enters_61 : Enters Try.prog 61 := fun args W => run_enter Try.func61 (by kernel_rfl) rfl args W
theorem enters_62 : Enters Try.prog 62 := fun args W => run_enter Try.func62 (by kernel_rfl) rfl args W
theorem enters_63 : Enters Try.prog 63 := fun args W => run_enter Try.func63 (by kernel_rfl) rfl args W
theorem enters_64 : Enters Try.prog 64 := fun args W => run_enter Try.func64 (by kernel_rfl) rfl args W
theorem enters_65 : Enters Try.prog 65 := fun args W => run_enter Try.func65 (by kernel_rfl) rfl args W
theorem enters_66 : Enters Try.prog 66 := fun args W => run_enter Try.func66 (by kernel_rfl) rfl args W
theorem enters_67 : Enters Try.prog 67 := fun args W => run_enter Try.func67 (by kernel_rfl) rfl args W
theorem enters_68 : Enters Try.prog 68 := fun args W => run_enter Try.func68 (by kernel_rfl) rfl args W
theorem enters_69 : Enters Try.prog 69 := fun args W => run_enter Try.func69 (by kernel_rfl) rfl args W
theorem enters_70 : Enters Try.prog 70 := fun args W => run_enter Try.func70 (by kernel_rfl) rfl args W
theorem enters_71 : Enters Try.prog 71 := fun args W => run_enter Try.func71 (by kernel_rfl) rfl args W
theorem enters_72 : Enters Try.prog 72 := fun args W => run_enter Try.func72 (by kernel_rfl) rfl args W
theorem enters_73 : Enters Try.prog 73 := fun args W => run_enter Try.func73 (by kernel_rfl) rfl args W
theorem enters_74 : Enters Try.prog 74 := fun args W => run_enter Try.func74 (by kernel_rfl) rfl args W
theorem enters_75 : Enters Try.prog 75 := fun args W => run_enter Try.func75 (by kernel_rfl) rfl args W
theorem enters_76 : Enters Try.prog 76 := fun args W => run_enter Try.func76 (by kernel_rfl) rfl args W
theorem enters_77 : Enters Try.prog 77 := fun args W => run_enter Try.func77 (by kernel_rfl) rfl args W
theorem enters_78 : Enters Try.prog 78 := fun args W => run_enter Try.func78 (by kernel_rfl) rfl args W
theorem enters_79 : Enters Try.prog 79 := fun args W => run_enter Try.func79 (by kernel_rfl) rfl args W
theorem enters_80 : Enters Try.prog 80 := fun args W => run_enter Try.func80 (by kernel_rfl) rfl args W
theorem enters_81 : Enters Try.prog 81 := fun args W => run_enter Try.func81 (by kernel_rfl) rfl args W
theorem enters_82 : Enters Try.prog 82 := fun args W => run_enter Try.func82 (by kernel_rfl) rfl args W
theorem enters_83 : Enters Try.prog 83 := fun args W => run_enter Try.func83 (by kernel_rfl) rfl args W
theorem enters_84 : Enters Try.prog 84 := fun args W => run_enter Try.func84 (by kernel_rfl) rfl args W
theorem enters_85 : Enters Try.prog 85 := fun args W => run_enter Try.func85 (by kernel_rfl) rfl args W
theorem enters_86 : Enters Try.prog 86 := fun args W => run_enter Try.func86 (by kernel_rfl) rfl args W
theorem enters_87 : Enters Try.prog 87 := fun args W => run_enter Try.func87 (by kernel_rfl) rfl args W
theorem enters_88 : Enters Try.prog 88 := fun args W => run_enter Try.func88 (by kernel_rfl) rfl args W
theorem enters_89 : Enters Try.prog 89 := fun args W => run_enter Try.func89 (by kernel_rfl) rfl args W
theorem enters_90 : Enters Try.prog 90 := fun args W => run_enter Try.func90 (by kernel_rfl) rfl args W
theorem enters_91 : Enters Try.prog 91 := fun args W => run_enter Try.func91 (by kernel_rfl) rfl args W
theorem enters_92 : Enters Try.prog 92 := fun args W => run_enter Try.func92 (by kernel_rfl) rfl args W
theorem enters_93 : Enters Try.prog 93 := fun args W => run_enter Try.func93 (by kernel_rfl) rfl args W
theorem enters_94 : Enters Try.prog 94 := fun args W => run_enter Try.func94 (by kernel_rfl) rfl args W
theorem enters_95 : Enters Try.prog 95 := fun args W => run_enter Try.func95 (by kernel_rfl) rfl args W
theorem enters_96 : Enters Try.prog 96 := fun args W => run_enter Try.func96 (by kernel_rfl) rfl args W
theorem enters_97 : Enters Try.prog 97 := fun args W => run_enter Try.func97 (by kernel_rfl) rfl args W
theorem enters_98 : Enters Try.prog 98 := fun args W => run_enter Try.func98 (by kernel_rfl) rfl args W
theorem enters_99 : Enters Try.prog 99 := fun args W => run_enter Try.func99 (by kernel_rfl) rfl args W
theorem enters_100 : Enters Try.prog 100 := fun args W => run_enter Try.func100 (by kernel_rfl) rfl args W
theorem enters_101 : Enters Try.prog 101 := fun args W => run_enter Try.func101 (by kernel_rfl) rfl args W
theorem enters_102 : Enters Try.prog 102 := fun args W => run_enter Try.func102 (by kernel_rfl) rfl args W
theorem enters_103 : Enters Try.prog 103 := fun args W => run_enter Try.func103 (by kernel_rfl) rfl args W
theorem enters_104 : Enters Try.prog 104 := fun args W => run_enter Try.func104 (by kernel_rfl) rfl args W
theorem enters_105 : Enters Try.prog 105 := fun args W => run_enter Try.func105 (by kernel_rfl) rfl args W
theorem enters_106 : Enters Try.prog 106 := fun args W => run_enter Try.func106 (by kernel_rfl) rfl args W
theorem enters_107 : Enters Try.prog 107 := fun args W => run_enter Try.func107 (by kernel_rfl) rfl args W
theorem enters_108 : Enters Try.prog 108 := fun args W => run_enter Try.func108 (by kernel_rfl) rfl args W
theorem enters_109 : Enters Try.prog 109 := fun args W => run_enter Try.func109 (by kernel_rfl) rfl args W
theorem enters_110 : Enters Try.prog 110 := fun args W => run_enter Try.func110 (by kernel_rfl) rfl args W
theorem enters_111 : Enters Try.prog 111 := fun args W => run_enter Try.func111 (by kernel_rfl) rfl args W
theorem enters_112 : Enters Try.prog 112 := fun args W => run_enter Try.func112 (by kernel_rfl) rfl args W
theorem enters_113 : Enters Try.prog 113 := fun args W => run_enter Try.func113 (by kernel_rfl) rfl args W
theorem enters_114 : Enters Try.prog 114 := fun args W => run_enter Try.func114 (by kernel_rfl) rfl args W
theorem enters_115 : Enters Try.prog 115 := fun args W => run_enter Try.func115 (by kernel_rfl) rfl args W
theorem enters_116 : Enters Try.prog 116 := fun args W => run_enter Try.func116 (by kernel_rfl) rfl args W
theorem enters_117 : Enters Try.prog 117 := fun args W => run_enter Try.func117 (by kernel_rfl) rfl args W
theorem enters_118 : Enters Try.prog 118 := fun args W => run_enter Try.func118 (by kernel_rfl) rfl args W
theorem enters_119 : Enters Try.prog 119 := fun args W => run_enter Try.func119 (by kernel_rfl) rfl args W
theorem enters_120 : Enters Try.prog 120 := fun args W => run_enter Try.func120 (by kernel_rfl) rfl args W
theorem enters_121 : Enters Try.prog 121 := fun args W => run_enter Try.func121 (by kernel_rfl) rfl args W
theorem enters_122 : Enters Try.prog 122 := fun args W => run_enter Try.func122 (by kernel_rfl) rfl args W
theorem enters_123 : Enters Try.prog 123 := fun args W => run_enter Try.func123 (by kernel_rfl) rfl args W
theorem enters_124 : Enters Try.prog 124 := fun args W => run_enter Try.func124 (by kernel_rfl) rfl args W
theorem enters_125 : Enters Try.prog 125 := fun args W => run_enter Try.func125 (by kernel_rfl) rfl args W
theorem enters_126 : Enters Try.prog 126 := fun args W => run_enter Try.func126 (by kernel_rfl) rfl args W
theorem enters_127 : Enters Try.prog 127 := fun args W => run_enter Try.func127 (by kernel_rfl) rfl args W
theorem enters_128 : Enters Try.prog 128 := fun args W => run_enter Try.func128 (by kernel_rfl) rfl args W
theorem enters_129 : Enters Try.prog 129 := fun args W => run_enter Try.func129 (by kernel_rfl) rfl args W
theorem enters_130 : Enters Try.prog 130 := fun args W => run_enter Try.func130 (by kernel_rfl) rfl args W
theorem enters_131 : Enters Try.prog 131 := fun args W => run_enter Try.func131 (by kernel_rfl) rfl args W
theorem enters_132 : Enters Try.prog 132 := fun args W => run_enter Try.func132 (by kernel_rfl) rfl args W
theorem enters_133 : Enters Try.prog 133 := fun args W => run_enter Try.func133 (by kernel_rfl) rfl args W
theorem enters_134 : Enters Try.prog 134 := fun args W => run_enter Try.func134 (by kernel_rfl) rfl args W
theorem enters_135 : Enters Try.prog 135 := fun args W => run_enter Try.func135 (by kernel_rfl) rfl args W
theorem enters_136 : Enters Try.prog 136 := fun args W => run_enter Try.func136 (by kernel_rfl) rfl args W
theorem enters_137 : Enters Try.prog 137 := fun args W => run_enter Try.func137 (by kernel_rfl) rfl args W
theorem enters_138 : Enters Try.prog 138 := fun args W => run_enter Try.func138 (by kernel_rfl) rfl args W
theorem enters_139 : Enters Try.prog 139 := fun args W => run_enter Try.func139 (by kernel_rfl) rfl args W
theorem enters_140 : Enters Try.prog 140 := fun args W => run_enter Try.func140 (by kernel_rfl) rfl args W
theorem enters_141 : Enters Try.prog 141 := fun args W => run_enter Try.func141 (by kernel_rfl) rfl args W
theorem enters_142 : Enters Try.prog 142 := fun args W => run_enter Try.func142 (by kernel_rfl) rfl args W
theorem enters_143 : Enters Try.prog 143 := fun args W => run_enter Try.func143 (by kernel_rfl) rfl args W
theorem enters_144 : Enters Try.prog 144 := fun args W => run_enter Try.func144 (by kernel_rfl) rfl args W
theorem enters_145 : Enters Try.prog 145 := fun args W => run_enter Try.func145 (by kernel_rfl) rfl args W
theorem enters_146 : Enters Try.prog 146 := fun args W => run_enter Try.func146 (by kernel_rfl) rfl args W
theorem enters_147 : Enters Try.prog 147 := fun args W => run_enter Try.func147 (by kernel_rfl) rfl args W
theorem enters_148 : Enters Try.prog 148 := fun args W => run_enter Try.func148 (by kernel_rfl) rfl args W
theorem enters_149 : Enters Try.prog 149 := fun args W => run_enter Try.func149 (by kernel_rfl) rfl args W
theorem enters_150 : Enters Try.prog 150 := fun args W => run_enter Try.func150 (by kernel_rfl) rfl args W
theorem enters_151 : Enters Try.prog 151 := fun args W => run_enter Try.func151 (by kernel_rfl) rfl args W
theorem enters_152 : Enters Try.prog 152 := fun args W => run_enter Try.func152 (by kernel_rfl) rfl args W
theorem enters_153 : Enters Try.prog 153 := fun args W => run_enter Try.func153 (by kernel_rfl) rfl args W
theorem enters_154 : Enters Try.prog 154 := fun args W => run_enter Try.func154 (by kernel_rfl) rfl args W
theorem enters_155 : Enters Try.prog 155 := fun args W => run_enter Try.func155 (by kernel_rfl) rfl args W
theorem enters_156 : Enters Try.prog 156 := fun args W => run_enter Try.func156 (by kernel_rfl) rfl args W
theorem enters_157 : Enters Try.prog 157 := fun args W => run_enter Try.func157 (by kernel_rfl) rfl args W
theorem enters_158 : Enters Try.prog 158 := fun args W => run_enter Try.func158 (by kernel_rfl) rfl args W
theorem enters_159 : Enters Try.prog 159 := fun args W => run_enter Try.func159 (by kernel_rfl) rfl args W
theorem enters_160 : Enters Try.prog 160 := fun args W => run_enter Try.func160 (by kernel_rfl) rfl args W
theorem enters_161 : Enters Try.prog 161 := fun args W => run_enter Try.func161 (by kernel_rfl) rfl args W
theorem enters_162 : Enters Try.prog 162 := fun args W => run_enter Try.func162 (by kernel_rfl) rfl args W
theorem enters_163 : Enters Try.prog 163 := fun args W => run_enter Try.func163 (by kernel_rfl) rfl args W
theorem enters_164 : Enters Try.prog 164 := fun args W => run_enter Try.func164 (by kernel_rfl) rfl args W
theorem enters_165 : Enters Try.prog 165 := fun args W => run_enter Try.func165 (by kernel_rfl) rfl args W
theorem enters_166 : Enters Try.prog 166 := fun args W => run_enter Try.func166 (by kernel_rfl) rfl args W
theorem enters_167 : Enters Try.prog 167 := fun args W => run_enter Try.func167 (by kernel_rfl) rfl args W
theorem enters_168 : Enters Try.prog 168 := fun args W => run_enter Try.func168 (by kernel_rfl) rfl args W
theorem enters_169 : Enters Try.prog 169 := fun args W => run_enter Try.func169 (by kernel_rfl) rfl args W
theorem enters_170 : Enters Try.prog 170 := fun args W => run_enter Try.func170 (by kernel_rfl) rfl args W
theorem enters_171 : Enters Try.prog 171 := fun args W => run_enter Try.func171 (by kernel_rfl) rfl args W
theorem enters_172 : Enters Try.prog 172 := fun args W => run_enter Try.func172 (by kernel_rfl) rfl args W
theorem enters_173 : Enters Try.prog 173 := fun args W => run_enter Try.func173 (by kernel_rfl) rfl args W
theorem enters_174 : Enters Try.prog 174 := fun args W => run_enter Try.func174 (by kernel_rfl) rfl args W
theorem enters_175 : Enters Try.prog 175 := fun args W => run_enter Try.func175 (by kernel_rfl) rfl args W
theorem enters_176 : Enters Try.prog 176 := fun args W => run_enter Try.func176 (by kernel_rfl) rfl args W
theorem enters_177 : Enters Try.prog 177 := fun args W => run_enter Try.func177 (by kernel_rfl) rfl args W
theorem enters_178 : Enters Try.prog 178 := fun args W => run_enter Try.func178 (by kernel_rfl) rfl args W
theorem enters_179 : Enters Try.prog 179 := fun args W => run_enter Try.func179 (by kernel_rfl) rfl args W
theorem enters_180 : Enters Try.prog 180 := fun args W => run_enter Try.func180 (by kernel_rfl) rfl args W
theorem enters_181 : Enters Try.prog 181 := fun args W => run_enter Try.func181 (by kernel_rfl) rfl args W
theorem enters_182 : Enters Try.prog 182 := fun args W => run_enter Try.func182 (by kernel_rfl) rfl args W
theorem enters_183 : Enters Try.prog 183 := fun args W => run_enter Try.func183 (by kernel_rfl) rfl args W
theorem enters_184 : Enters Try.prog 184 := fun args W => run_enter Try.func184 (by kernel_rfl) rfl args W
theorem enters_185 : Enters Try.prog 185 := fun args W => run_enter Try.func185 (by kernel_rfl) rfl args W
theorem enters_186 : Enters Try.prog 186 := fun args W => run_enter Try.func186 (by kernel_rfl) rfl args W
theorem enters_187 : Enters Try.prog 187 := fun args W => run_enter Try.func187 (by kernel_rfl) rfl args W
theorem enters_188 : Enters Try.prog 188 := fun args W => run_enter Try.func188 (by kernel_rfl) rfl args W
theorem enters_189 : Enters Try.prog 189 := fun args W => run_enter Try.func189 (by kernel_rfl) rfl args W
theorem enters_190 : Enters Try.prog 190 := fun args W => run_enter Try.func190 (by kernel_rfl) rfl args W
theorem enters_191 : Enters Try.prog 191 := fun args W => run_enter Try.func191 (by kernel_rfl) rfl args W
theorem enters_192 : Enters Try.prog 192 := fun args W => run_enter Try.func192 (by kernel_rfl) rfl args W
theorem enters_193 : Enters Try.prog 193 := fun args W => run_enter Try.func193 (by kernel_rfl) rfl args W
theorem enters_194 : Enters Try.prog 194 := fun args W => run_enter Try.func194 (by kernel_rfl) rfl args W
theorem enters_195 : Enters Try.prog 195 := fun args W => run_enter Try.func195 (by kernel_rfl) rfl args W
theorem enters_196 : Enters Try.prog 196 := fun args W => run_enter Try.func196 (by kernel_rfl) rfl args W
theorem enters_197 : Enters Try.prog 197 := fun args W => run_enter Try.func197 (by kernel_rfl) rfl args W
theorem enters_198 : Enters Try.prog 198 := fun args W => run_enter Try.func198 (by kernel_rfl) rfl args W
theorem enters_199 : Enters Try.prog 199 := fun args W => run_enter Try.func199 (by kernel_rfl) rfl args W
theorem enters_200 : Enters Try.prog 200 := fun args W => run_enter Try.func200 (by kernel_rfl) rfl args W
theorem enters_201 : Enters Try.prog 201 := fun args W => run_enter Try.func201 (by kernel_rfl) rfl args W
theorem enters_202 : Enters Try.prog 202 := fun args W => run_enter Try.func202 (by kernel_rfl) rfl args W
theorem enters_203 : Enters Try.prog 203 := fun args W => run_enter Try.func203 (by kernel_rfl) rfl args W
theorem enters_204 : Enters Try.prog 204 := fun args W => run_enter Try.func204 (by kernel_rfl) rfl args W
theorem enters_205 : Enters Try.prog 205 := fun args W => run_enter Try.func205 (by kernel_rfl) rfl args W
theorem enters_206 : Enters Try.prog 206 := fun args W => run_enter Try.func206 (by kernel_rfl) rfl args W
theorem enters_207 : Enters Try.prog 207 := fun args W => run_enter Try.func207 (by kernel_rfl) rfl args W
theorem enters_208 : Enters Try.prog 208 := fun args W => run_enter Try.func208 (by kernel_rfl) rfl args W
theorem enters_209 : Enters Try.prog 209 := fun args W => run_enter Try.func209 (by kernel_rfl) rfl args W
theorem enters_210 : Enters Try.prog 210 := fun args W => run_enter Try.func210 (by kernel_rfl) rfl args W
theorem enters_211 : Enters Try.prog 211 := fun args W => run_enter Try.func211 (by kernel_rfl) rfl args W
theorem enters_212 : Enters Try.prog 212 := fun args W => run_enter Try.func212 (by kernel_rfl) rfl args W
theorem enters_213 : Enters Try.prog 213 := fun args W => run_enter Try.func213 (by kernel_rfl) rfl args W
theorem enters_214 : Enters Try.prog 214 := fun args W => run_enter Try.func214 (by kernel_rfl) rfl args W
theorem enters_215 : Enters Try.prog 215 := fun args W => run_enter Try.func215 (by kernel_rfl) rfl args W
theorem enters_216 : Enters Try.prog 216 := fun args W => run_enter Try.func216 (by kernel_rfl) rfl args W
theorem enters_217 : Enters Try.prog 217 := fun args W => run_enter Try.func217 (by kernel_rfl) rfl args W
theorem enters_218 : Enters Try.prog 218 := fun args W => run_enter Try.func218 (by kernel_rfl) rfl args W
theorem enters_219 : Enters Try.prog 219 := fun args W => run_enter Try.func219 (by kernel_rfl) rfl args W
theorem enters_220 : Enters Try.prog 220 := fun args W => run_enter Try.func220 (by kernel_rfl) rfl args W
theorem enters_221 : Enters Try.prog 221 := fun args W => run_enter Try.func221 (by kernel_rfl) rfl args W
theorem enters_222 : Enters Try.prog 222 := fun args W => run_enter Try.func222 (by kernel_rfl) rfl args W
theorem enters_223 : Enters Try.prog 223 := fun args W => run_enter Try.func223 (by kernel_rfl) rfl args W
theorem enters_224 : Enters Try.prog 224 := fun args W => run_enter Try.func224 (by kernel_rfl) rfl args W
theorem enters_225 : Enters Try.prog 225 := fun args W => run_enter Try.func225 (by kernel_rfl) rfl args W
theorem enters_226 : Enters Try.prog 226 := fun args W => run_enter Try.func226 (by kernel_rfl) rfl args W
theorem enters_227 : Enters Try.prog 227 := fun args W => run_enter Try.func227 (by kernel_rfl) rfl args W
theorem enters_228 : Enters Try.prog 228 := fun args W => run_enter Try.func228 (by kernel_rfl) rfl args W
theorem enters_229 : Enters Try.prog 229 := fun args W => run_enter Try.func229 (by kernel_rfl) rfl args W
theorem enters_230 : Enters Try.prog 230 := fun args W => run_enter Try.func230 (by kernel_rfl) rfl args W
theorem enters_231 : Enters Try.prog 231 := fun args W => run_enter Try.func231 (by kernel_rfl) rfl args W
theorem enters_232 : Enters Try.prog 232 := fun args W => run_enter Try.func232 (by kernel_rfl) rfl args W
theorem enters_233 : Enters Try.prog 233 := fun args W => run_enter Try.func233 (by kernel_rfl) rfl args W
theorem enters_234 : Enters Try.prog 234 := fun args W => run_enter Try.func234 (by kernel_rfl) rfl args W
theorem enters_235 : Enters Try.prog 235 := fun args W => run_enter Try.func235 (by kernel_rfl) rfl args W
theorem enters_236 : Enters Try.prog 236 := fun args W => run_enter Try.func236 (by kernel_rfl) rfl args W
theorem enters_237 : Enters Try.prog 237 := fun args W => run_enter Try.func237 (by kernel_rfl) rfl args W
theorem enters_238 : Enters Try.prog 238 := fun args W => run_enter Try.func238 (by kernel_rfl) rfl args W
theorem enters_239 : Enters Try.prog 239 := fun args W => run_enter Try.func239 (by kernel_rfl) rfl args W
theorem enters_240 : Enters Try.prog 240 := fun args W => run_enter Try.func240 (by kernel_rfl) rfl args W
theorem enters_241 : Enters Try.prog 241 := fun args W => run_enter Try.func241 (by kernel_rfl) rfl args W
theorem enters_242 : Enters Try.prog 242 := fun args W => run_enter Try.func242 (by kernel_rfl) rfl args W
theorem enters_243 : Enters Try.prog 243 := fun args W => run_enter Try.func243 (by kernel_rfl) rfl args W
theorem enters_244 : Enters Try.prog 244 := fun args W => run_enter Try.func244 (by kernel_rfl) rfl args W
theorem enters_245 : Enters Try.prog 245 := fun args W => run_enter Try.func245 (by kernel_rfl) rfl args W
theorem enters_246 : Enters Try.prog 246 := fun args W => run_enter Try.func246 (by kernel_rfl) rfl args W
theorem enters_247 : Enters Try.prog 247 := fun args W => run_enter Try.func247 (by kernel_rfl) rfl args W
end Go.Proofs.Ytbelopdphlllnaa
