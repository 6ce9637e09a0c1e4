/- Closed facts on the types and functions of the program. -/
import Derived.Test.YtfkmmpfdncopdaaGreatProg
import Derived.Test.YtfkmmpfdncopdaaGreatAe
import Derived.Test.YtfkmmpfdncopdaaGreatStr
set_option linter.unusedSimpArgs false
set_option linter.unusedVariables false
set_option linter.unusedSectionVars false
namespace Go.Proofs.YtfkmmpfdncopdaaGreat
open Go.RowKit
theorem mixed:Tryz.prog.follows .mixedOrders=true:=by kernel_rfl
theorem K5:Tryz.prog.underlying 3=some (.int .i64):=by kernel_rfl
theorem U8:tsh Tryz.prog 3=some (false,1):=by kernel_rfl
theorem Xy:zer Tryz.prog 3=some (.int .i64 0):=by kernel_rfl
theorem Wo:Vc Tryz.prog 3 1=true:=by kernel_rfl
theorem Qj0:(Tryz.prog.info? 3).map (fun i=>(i.zero,i.size,i.bytes))=some (some (.int .i64 0),1,8):=by kernel_rfl
theorem Zc:Tryz.prog.underlying 4=some .bool:=by kernel_rfl
theorem Qes:tsh Tryz.prog 4=some (false,1):=by kernel_rfl
theorem Qqo:(Tryz.prog.info? 4).map (fun i=>(i.zero,i.size,i.bytes))=some (some (.bool false),1,1):=by kernel_rfl
theorem Qd0:Tryz.prog.underlying 5=some (.int .u8):=by kernel_rfl
theorem Yy:tsh Tryz.prog 5=some (false,1):=by kernel_rfl
theorem Qqk:zer Tryz.prog 5=some (.int .u8 0):=by kernel_rfl
theorem QpA:(Tryz.prog.info? 5).map (fun i=>(i.zero,i.size,i.bytes))=some (some (.int .u8 0),1,1):=by kernel_rfl
theorem QR:Tryz.prog.underlying 9=some .string:=by kernel_rfl
theorem ZM:tsh Tryz.prog 9=some (false,1):=by kernel_rfl
theorem ZZ:zer Tryz.prog 9=some (.string ByteArray.empty):=by kernel_rfl
theorem YS:Vc Tryz.prog 9 1=true:=by kernel_rfl
theorem QpX:(Tryz.prog.info? 9).map (fun i=>(i.zero,i.size,i.bytes))=some (some (.string ByteArray.empty),1,16):=by kernel_rfl
theorem Ua:Tryz.prog.underlying 22=some (.slice 5):=by kernel_rfl
theorem QgE:Tryz.prog.underlying 24=some (.slice 203):=by kernel_rfl
theorem Qn6:tsh Tryz.prog 24=some (false,1):=by kernel_rfl
theorem ZE:Tryz.prog.underlying 25=some (.slice 9):=by kernel_rfl
theorem Qg2:tsh Tryz.prog 25=some (false,1):=by kernel_rfl
theorem QgS:Tryz.prog.underlying 26=some (.slice 136):=by kernel_rfl
theorem YL:tsh Tryz.prog 28=some (true,3):=by kernel_rfl
theorem Yr:zer Tryz.prog 28=some (.agg #[.slice none 0 0, .slice none 0 0, .slice none 0 0]):=by kernel_rfl
theorem QdK:bld Tryz.prog 28 [(0,1),(1,1),(2,1)] (.pr (.sl 203 (.pr .str .int)) (.pr (.sl 9 .str) (.sl 136 (.pr .int (.pr .int (.pr .bool .int)))))):=Xn Tryz.underlying28 (by kernel_rfl) Yr
theorem Xg:Tryz.prog.underlying 35=some (.slice 3):=by kernel_rfl
theorem Ub:tsh Tryz.prog 35=some (false,1):=by kernel_rfl
theorem Qn5:(Tryz.prog.info? 35).map (fun i=>(i.zero,i.size,i.bytes))=some (some (.slice none 0 0),1,24):=by kernel_rfl
theorem Qdm:tsh Tryz.prog 47=some (true,2):=by kernel_rfl
theorem Z2:zer Tryz.prog 47=some (.agg #[.slice none 0 0, .slice none 0 0]):=by kernel_rfl
theorem V0:bld Tryz.prog 47 [(0,1),(1,1)] (.pr (.sl 9 .str) (.sl 9 .str)):=Xn Tryz.underlying47 (by kernel_rfl) Z2
theorem JW:Tryz.prog.underlying 78=some (.slice 237):=by kernel_rfl
theorem Qj1:tsh Tryz.prog 78=some (false,1):=by kernel_rfl
theorem Qdg:tsh Tryz.prog 80=some (true,2):=by kernel_rfl
theorem JE:zer Tryz.prog 80=some (.agg #[.int .i64 0, .slice none 0 0]):=by kernel_rfl
theorem Qc0:bld Tryz.prog 80 [(0,1),(1,1)] (.pr .int (.sl 237 (.pr (.sl 3 .int) (.sl 3 .int)))):=Xn Tryz.underlying80 (by kernel_rfl) JE
theorem QoR:Tryz.prog.underlying 81=some (.slice 120):=by kernel_rfl
theorem QlT:tsh Tryz.prog 81=some (false,1):=by kernel_rfl
theorem Yh:tsh Tryz.prog 83=some (true,5):=by kernel_rfl
theorem Kg:zer Tryz.prog 83=some (.agg #[.int .i64 0, .slice none 0 0, .slice none 0 0, .slice none 0 0, .string ByteArray.empty]):=by kernel_rfl
theorem Qa3:bld Tryz.prog 83 [(0,2),(2,1),(3,1),(4,1)] (.pr (.pr .int (.sl 237 (.pr (.sl 3 .int) (.sl 3 .int)))) (.pr (.sl 203 (.pr .str .int)) (.pr (.sl 120 (.pr .int .bool)) .str))):=Xn Tryz.underlying83 (by kernel_rfl) Kg
theorem QdX:Tryz.prog.underlying 91=some (.int .u64):=by kernel_rfl
theorem Xv:zer Tryz.prog 120=some (.agg #[.int .i64 0, .bool false]):=by kernel_rfl
theorem KK:Vc Tryz.prog 120 2=true:=by kernel_rfl
theorem Ux:bld Tryz.prog 120 [(0,1),(1,1)] (.pr .int .bool):=Xn Tryz.underlying120 (by kernel_rfl) Xv
theorem QdV:Tryz.prog.underlying 123=some (.slice 35):=by kernel_rfl
theorem Qmk:Tryz.prog.underlying 128=some (.slice 4):=by kernel_rfl
theorem Qdk:tsh Tryz.prog 136=some (true,4):=by kernel_rfl
theorem QcV:fld Tryz.prog 136 2=some 2:=by kernel_rfl
theorem Qja:fld Tryz.prog 136 3=some 3:=by kernel_rfl
theorem Vr:zer Tryz.prog 136=some (.agg #[.int .i64 0, .int .i64 0, .bool false, .int .i64 0]):=by kernel_rfl
theorem QmX:Vc Tryz.prog 136 4=true:=by kernel_rfl
theorem Qm8:bld Tryz.prog 136 [(0,1),(1,1),(2,1),(3,1)] (.pr .int (.pr .int (.pr .bool .int))):=Xn Tryz.underlying136 (by kernel_rfl) Vr
theorem Qc3:zer Tryz.prog 178=some (.agg #[.slice none 0 0, .slice none 0 0]):=by kernel_rfl
theorem HQ:bld Tryz.prog 178 [(0,1),(1,1)] (.pr (.sl 9 .str) (.sl 184 (.pr .int (.pr .int .int)))):=Xn Tryz.underlying178 (by kernel_rfl) Qc3
theorem Vl:zer Tryz.prog 184=some (.agg #[.int .i64 0, .int .i64 0, .int .i64 0]):=by kernel_rfl
theorem Qds:Vc Tryz.prog 184 3=true:=by kernel_rfl
theorem HZ:bld Tryz.prog 184 [(0,1),(1,1),(2,1)] (.pr .int (.pr .int .int)):=Xn Tryz.underlying184 (by kernel_rfl) Vl
theorem KT:zer Tryz.prog 203=some (.agg #[.string ByteArray.empty, .int .i64 0]):=by kernel_rfl
theorem H2:Vc Tryz.prog 203 2=true:=by kernel_rfl
theorem Qnq:bld Tryz.prog 203 [(0,1),(1,1)] (.pr .str .int):=Xn Tryz.underlying203 (by kernel_rfl) KT
theorem UO:tsh Tryz.prog 237=some (true,2):=by kernel_rfl
theorem Qcd:fld Tryz.prog 237 0=some 0:=by kernel_rfl
theorem Qcb:fld Tryz.prog 237 1=some 1:=by kernel_rfl
theorem Vp:zer Tryz.prog 237=some (.agg #[.slice none 0 0, .slice none 0 0]):=by kernel_rfl
theorem H7:Vc Tryz.prog 237 2=true:=by kernel_rfl
theorem H4:bld Tryz.prog 237 [(0,1),(1,1)] (.pr (.sl 3 .int) (.sl 3 .int)):=Xn Tryz.underlying237 (by kernel_rfl) Vp
theorem HE:zer Tryz.prog 245=some (.agg #[.slice none 0 0, .slice none 0 0, .slice none 0 0, .int .i64 0, .int .i64 0, .bool false]):=by kernel_rfl
theorem QmM:bld Tryz.prog 245 [(0,2),(2,1),(3,1),(4,1),(5,1)] (.pr (.pr (.sl 9 .str) (.sl 184 (.pr .int (.pr .int .int)))) (.pr (.sl 184 (.pr .int (.pr .int .int))) (.pr .int (.pr .int .bool)))):=Xn Tryz.underlying245 (by kernel_rfl) HE
theorem QdA:Tryz.prog.underlying 252=some (.int .u64):=by kernel_rfl
theorem H1:zer Tryz.prog 258=some (.agg #[.int .i64 0, .int .i64 0]):=by kernel_rfl
theorem Qm2:Vc Tryz.prog 258 2=true:=by kernel_rfl
theorem Qm5:bld Tryz.prog 258 [(0,1),(1,1)] (.pr .int .int):=Xn Tryz.underlying258 (by kernel_rfl) H1
theorem Qnt:zer Tryz.prog 274=some (.agg #[.int .i64 0, .slice none 0 0, .slice none 0 0, .slice none 0 0, .string ByteArray.empty, .slice none 0 0, .slice none 0 0]):=by kernel_rfl
theorem Qmp:bld Tryz.prog 274 [(0,5),(5,1),(6,1)] (.pr (.pr (.pr .int (.sl 237 (.pr (.sl 3 .int) (.sl 3 .int)))) (.pr (.sl 203 (.pr .str .int)) (.pr (.sl 120 (.pr .int .bool)) .str))) (.pr (.sl 9 .str) (.sl 9 .str))):=Xn Tryz.underlying274 (by kernel_rfl) Qnt
theorem Qlp:Qf Tryz.prog 7:=fun args W=>Qc Tryz.func7 (by kernel_rfl) rfl args W
theorem QlL:Qf Tryz.prog 8:=fun args W=>Qc Tryz.func8 (by kernel_rfl) rfl args W
theorem QkC:Qf Tryz.prog 9:=fun args W=>Qc Tryz.func9 (by kernel_rfl) rfl args W
theorem Qio:Qf Tryz.prog 10:=fun args W=>Qc Tryz.func10 (by kernel_rfl) rfl args W
theorem Qin:Qf Tryz.prog 11:=fun args W=>Qc Tryz.func11 (by kernel_rfl) rfl args W
theorem Qir:Qf Tryz.prog 12:=fun args W=>Qc Tryz.func12 (by kernel_rfl) rfl args W
theorem Qcy:Qf Tryz.prog 13:=fun args W=>Qc Tryz.func13 (by kernel_rfl) rfl args W
theorem Qcp:Qf Tryz.prog 14:=fun args W=>Qc Tryz.func14 (by kernel_rfl) rfl args W
theorem QcO:Qf Tryz.prog 15:=fun args W=>Qc Tryz.func15 (by kernel_rfl) rfl args W
theorem QcJ:Qf Tryz.prog 16:=fun args W=>Qc Tryz.func16 (by kernel_rfl) rfl args W
theorem Qci:Qf Tryz.prog 17:=fun args W=>Qc Tryz.func17 (by kernel_rfl) rfl args W
theorem Y7:Qf Tryz.prog 18:=fun args W=>Qc Tryz.func18 (by kernel_rfl) rfl args W
theorem UB:Qf Tryz.prog 19:=fun args W=>Qc Tryz.func19 (by kernel_rfl) rfl args W
theorem Uo:Qf Tryz.prog 20:=fun args W=>Qc Tryz.func20 (by kernel_rfl) rfl args W
theorem Uu:Qf Tryz.prog 21:=fun args W=>Qc Tryz.func21 (by kernel_rfl) rfl args W
theorem UJ:Qf Tryz.prog 22:=fun args W=>Qc Tryz.func22 (by kernel_rfl) rfl args W
theorem UF:Qf Tryz.prog 23:=fun args W=>Qc Tryz.func23 (by kernel_rfl) rfl args W
theorem Uq:Qf Tryz.prog 24:=fun args W=>Qc Tryz.func24 (by kernel_rfl) rfl args W
theorem UK:Qf Tryz.prog 25:=fun args W=>Qc Tryz.func25 (by kernel_rfl) rfl args W
theorem Qim:Qf Tryz.prog 27:=fun args W=>Qc Tryz.func27 (by kernel_rfl) rfl args W
theorem QjI:Qf Tryz.prog 28:=fun args W=>Qc Tryz.func28 (by kernel_rfl) rfl args W
theorem Qcc:Qf Tryz.prog 59:=fun args W=>Qc Tryz.func59 (by kernel_rfl) rfl args W
theorem QcR:Qf Tryz.prog 61:=fun args W=>Qc Tryz.func61 (by kernel_rfl) rfl args W
theorem QbZ:Qf Tryz.prog 62:=fun args W=>Qc Tryz.func62 (by kernel_rfl) rfl args W
theorem QjB:Qf Tryz.prog 63:=fun args W=>Qc Tryz.func63 (by kernel_rfl) rfl args W
theorem QiB:Qf Tryz.prog 64:=fun args W=>Qc Tryz.func64 (by kernel_rfl) rfl args W
theorem QcI:Qf Tryz.prog 65:=fun args W=>Qc Tryz.func65 (by kernel_rfl) rfl args W
theorem UM:Qf Tryz.prog 66:=fun args W=>Qc Tryz.func66 (by kernel_rfl) rfl args W
theorem QcC:Qf Tryz.prog 67:=fun args W=>Qc Tryz.func67 (by kernel_rfl) rfl args W
theorem JF:Qf Tryz.prog 68:=fun args W=>Qc Tryz.func68 (by kernel_rfl) rfl args W
theorem Xs:Qf Tryz.prog 69:=fun args W=>Qc Tryz.func69 (by kernel_rfl) rfl args W
theorem Qjv:Qf Tryz.prog 70:=fun args W=>Qc Tryz.func70 (by kernel_rfl) rfl args W
theorem QcW:Qf Tryz.prog 71:=fun args W=>Qc Tryz.func71 (by kernel_rfl) rfl args W
theorem Us:Qf Tryz.prog 72:=fun args W=>Qc Tryz.func72 (by kernel_rfl) rfl args W
theorem Qjj:Qf Tryz.prog 73:=fun args W=>Qc Tryz.func73 (by kernel_rfl) rfl args W
theorem Qco:Qf Tryz.prog 74:=fun args W=>Qc Tryz.func74 (by kernel_rfl) rfl args W
theorem QjL:Qf Tryz.prog 75:=fun args W=>Qc Tryz.func75 (by kernel_rfl) rfl args W
theorem QcL:Qf Tryz.prog 76:=fun args W=>Qc Tryz.func76 (by kernel_rfl) rfl args W
theorem QiR:Qf Tryz.prog 77:=fun args W=>Qc Tryz.func77 (by kernel_rfl) rfl args W
theorem QiE:Qf Tryz.prog 78:=fun args W=>Qc Tryz.func78 (by kernel_rfl) rfl args W
theorem WQ:Qf Tryz.prog 79:=fun args W=>Qc Tryz.func79 (by kernel_rfl) rfl args W
theorem Qij:Qf Tryz.prog 80:=fun args W=>Qc Tryz.func80 (by kernel_rfl) rfl args W
theorem Zd:Qf Tryz.prog 81:=fun args W=>Qc Tryz.func81 (by kernel_rfl) rfl args W
theorem Qjs:Qf Tryz.prog 82:=fun args W=>Qc Tryz.func82 (by kernel_rfl) rfl args W
theorem Ut:Qf Tryz.prog 83:=fun args W=>Qc Tryz.func83 (by kernel_rfl) rfl args W
theorem Qb5:Qf Tryz.prog 84:=fun args W=>Qc Tryz.func84 (by kernel_rfl) rfl args W
theorem Qcs:Qf Tryz.prog 85:=fun args W=>Qc Tryz.func85 (by kernel_rfl) rfl args W
theorem Qjy:Qf Tryz.prog 86:=fun args W=>Qc Tryz.func86 (by kernel_rfl) rfl args W
theorem Qiq:Qf Tryz.prog 87:=fun args W=>Qc Tryz.func87 (by kernel_rfl) rfl args W
theorem Qi2:Qf Tryz.prog 88:=fun args W=>Qc Tryz.func88 (by kernel_rfl) rfl args W
theorem QbU:Qf Tryz.prog 89:=fun args W=>Qc Tryz.func89 (by kernel_rfl) rfl args W
theorem QbW:Qf Tryz.prog 90:=fun args W=>Qc Tryz.func90 (by kernel_rfl) rfl args W
theorem QjK:Qf Tryz.prog 91:=fun args W=>Qc Tryz.func91 (by kernel_rfl) rfl args W
theorem ZV:Qf Tryz.prog 94:=fun args W=>Qc Tryz.func94 (by kernel_rfl) rfl args W
theorem Qi6:Qf Tryz.prog 95:=fun args W=>Qc Tryz.func95 (by kernel_rfl) rfl args W
theorem QfI:Qf Tryz.prog 103:=fun args W=>Qc Tryz.func103 (by kernel_rfl) rfl args W
theorem Qfn:Qf Tryz.prog 114:=fun args W=>Qc Tryz.func114 (by kernel_rfl) rfl args W
theorem Qbm:Qf Tryz.prog 116:=fun args W=>Qc Tryz.func116 (by kernel_rfl) rfl args W
theorem QgT:Qf Tryz.prog 119:=fun args W=>Qc Tryz.func119 (by kernel_rfl) rfl args W
theorem QfR:Qf Tryz.prog 123:=fun args W=>Qc Tryz.func123 (by kernel_rfl) rfl args W
theorem Yw:Qf Tryz.prog 132:=fun args W=>Qc Tryz.func132 (by kernel_rfl) rfl args W
theorem VD:Qf Tryz.prog 141:=fun args W=>Qc Tryz.func141 (by kernel_rfl) rfl args W
theorem QfX:Qf Tryz.prog 144:=fun args W=>Qc Tryz.func144 (by kernel_rfl) rfl args W
theorem Qgz:Qf Tryz.prog 145:=fun args W=>Qc Tryz.func145 (by kernel_rfl) rfl args W
theorem Qas:Qf Tryz.prog 146:=fun args W=>Qc Tryz.func146 (by kernel_rfl) rfl args W
theorem Qbu:Qf Tryz.prog 150:=fun args W=>Qc Tryz.func150 (by kernel_rfl) rfl args W
theorem Qg3:Qf Tryz.prog 151:=fun args W=>Qc Tryz.func151 (by kernel_rfl) rfl args W
theorem QfD:Qf Tryz.prog 152:=fun args W=>Qc Tryz.func152 (by kernel_rfl) rfl args W
theorem Qg5:Qf Tryz.prog 153:=fun args W=>Qc Tryz.func153 (by kernel_rfl) rfl args W
theorem QgA:Qf Tryz.prog 154:=fun args W=>Qc Tryz.func154 (by kernel_rfl) rfl args W
theorem Qa7:Qf Tryz.prog 155:=fun args W=>Qc Tryz.func155 (by kernel_rfl) rfl args W
theorem Qgm:Qf Tryz.prog 156:=fun args W=>Qc Tryz.func156 (by kernel_rfl) rfl args W
theorem Qg1:Qf Tryz.prog 157:=fun args W=>Qc Tryz.func157 (by kernel_rfl) rfl args W
theorem QfA:Qf Tryz.prog 158:=fun args W=>Qc Tryz.func158 (by kernel_rfl) rfl args W
theorem Qfy:Qf Tryz.prog 159:=fun args W=>Qc Tryz.func159 (by kernel_rfl) rfl args W
theorem Wi:Qf Tryz.prog 160:=fun args W=>Qc Tryz.func160 (by kernel_rfl) rfl args W
theorem Qg4:Qf Tryz.prog 161:=fun args W=>Qc Tryz.func161 (by kernel_rfl) rfl args W
theorem QgI:Qf Tryz.prog 162:=fun args W=>Qc Tryz.func162 (by kernel_rfl) rfl args W
theorem QaG:Qf Tryz.prog 163:=fun args W=>Qc Tryz.func163 (by kernel_rfl) rfl args W
theorem Qf6:Qf Tryz.prog 164:=fun args W=>Qc Tryz.func164 (by kernel_rfl) rfl args W
theorem Qgd:Qf Tryz.prog 165:=fun args W=>Qc Tryz.func165 (by kernel_rfl) rfl args W
theorem Qg7:Qf Tryz.prog 166:=fun args W=>Qc Tryz.func166 (by kernel_rfl) rfl args W
theorem Qf9:Qf Tryz.prog 167:=fun args W=>Qc Tryz.func167 (by kernel_rfl) rfl args W
theorem Qgw:Qf Tryz.prog 168:=fun args W=>Qc Tryz.func168 (by kernel_rfl) rfl args W
theorem QgM:Qf Tryz.prog 169:=fun args W=>Qc Tryz.func169 (by kernel_rfl) rfl args W
theorem Qf2:Qf Tryz.prog 170:=fun args W=>Qc Tryz.func170 (by kernel_rfl) rfl args W
theorem Kf:Qf Tryz.prog 171:=fun args W=>Qc Tryz.func171 (by kernel_rfl) rfl args W
theorem Qa2:Qf Tryz.prog 172:=fun args W=>Qc Tryz.func172 (by kernel_rfl) rfl args W
theorem QgJ:Qf Tryz.prog 173:=fun args W=>Qc Tryz.func173 (by kernel_rfl) rfl args W
theorem Qa9:Qf Tryz.prog 174:=fun args W=>Qc Tryz.func174 (by kernel_rfl) rfl args W
theorem QfJ:Qf Tryz.prog 175:=fun args W=>Qc Tryz.func175 (by kernel_rfl) rfl args W
theorem Qg0:Qf Tryz.prog 176:=fun args W=>Qc Tryz.func176 (by kernel_rfl) rfl args W
theorem Qf3:Qf Tryz.prog 177:=fun args W=>Qc Tryz.func177 (by kernel_rfl) rfl args W
theorem Qf8:Qf Tryz.prog 178:=fun args W=>Qc Tryz.func178 (by kernel_rfl) rfl args W
theorem Qfu:Qf Tryz.prog 182:=fun args W=>Qc Tryz.func182 (by kernel_rfl) rfl args W
theorem Qgq:Qf Tryz.prog 183:=fun args W=>Qc Tryz.func183 (by kernel_rfl) rfl args W
theorem Qbi:Qf Tryz.prog 187:=fun args W=>Qc Tryz.func187 (by kernel_rfl) rfl args W
theorem Zq:Qf Tryz.prog 188:=fun args W=>Qc Tryz.func188 (by kernel_rfl) rfl args W
theorem QgW:Qf Tryz.prog 199:=fun args W=>Qc Tryz.func199 (by kernel_rfl) rfl args W
theorem Qfi:Qf Tryz.prog 205:=fun args W=>Qc Tryz.func205 (by kernel_rfl) rfl args W
theorem QfP:Qf Tryz.prog 211:=fun args W=>Qc Tryz.func211 (by kernel_rfl) rfl args W
theorem Qgg:Qf Tryz.prog 230:=fun args W=>Qc Tryz.func230 (by kernel_rfl) rfl args W
theorem Km:Qf Tryz.prog 231:=fun args W=>Qc Tryz.func231 (by kernel_rfl) rfl args W
theorem Qf0:Qf Tryz.prog 234:=fun args W=>Qc Tryz.func234 (by kernel_rfl) rfl args W
theorem Wf:Qf Tryz.prog 235:=fun args W=>Qc Tryz.func235 (by kernel_rfl) rfl args W
theorem QfN:Qf Tryz.prog 241:=fun args W=>Qc Tryz.func241 (by kernel_rfl) rfl args W
theorem QgP:Qf Tryz.prog 245:=fun args W=>Qc Tryz.func245 (by kernel_rfl) rfl args W
theorem Qf7:Qf Tryz.prog 246:=fun args W=>Qc Tryz.func246 (by kernel_rfl) rfl args W
theorem KC:Qf Tryz.prog 248:=fun args W=>Qc Tryz.func248 (by kernel_rfl) rfl args W
theorem QfM:Qf Tryz.prog 249:=fun args W=>Qc Tryz.func249 (by kernel_rfl) rfl args W
theorem QaK:Qf Tryz.prog 250:=fun args W=>Qc Tryz.func250 (by kernel_rfl) rfl args W
theorem QgB:Qf Tryz.prog 251:=fun args W=>Qc Tryz.func251 (by kernel_rfl) rfl args W
theorem Zu:Qf Tryz.prog 252:=fun args W=>Qc Tryz.func252 (by kernel_rfl) rfl args W
theorem Qba:Qf Tryz.prog 253:=fun args W=>Qc Tryz.func253 (by kernel_rfl) rfl args W
theorem Qfm:Qf Tryz.prog 256:=fun args W=>Qc Tryz.func256 (by kernel_rfl) rfl args W
theorem KB:Qf Tryz.prog 259:=fun args W=>Qc Tryz.func259 (by kernel_rfl) rfl args W
theorem Qga:Qf Tryz.prog 260:=fun args W=>Qc Tryz.func260 (by kernel_rfl) rfl args W
theorem QfO:Qf Tryz.prog 284:=fun args W=>Qc Tryz.func284 (by kernel_rfl) rfl args W
theorem QaN:Qf Tryz.prog 287:=fun args W=>Qc Tryz.func287 (by kernel_rfl) rfl args W
theorem QgG:Qf Tryz.prog 289:=fun args W=>Qc Tryz.func289 (by kernel_rfl) rfl args W
theorem Qfk:Qf Tryz.prog 290:=fun args W=>Qc Tryz.func290 (by kernel_rfl) rfl args W
theorem Qfx:Qf Tryz.prog 291:=fun args W=>Qc Tryz.func291 (by kernel_rfl) rfl args W
theorem Qfz:Qf Tryz.prog 304:=fun args W=>Qc Tryz.func304 (by kernel_rfl) rfl args W
theorem Qfp:Qf Tryz.prog 306:=fun args W=>Qc Tryz.func306 (by kernel_rfl) rfl args W
theorem Qgp:Qf Tryz.prog 307:=fun args W=>Qc Tryz.func307 (by kernel_rfl) rfl args W
theorem QfL:Qf Tryz.prog 317:=fun args W=>Qc Tryz.func317 (by kernel_rfl) rfl args W
theorem Qbg:Qf Tryz.prog 318:=fun args W=>Qc Tryz.func318 (by kernel_rfl) rfl args W
theorem Qah:Qf Tryz.prog 319:=fun args W=>Qc Tryz.func319 (by kernel_rfl) rfl args W
theorem QgU:Qf Tryz.prog 338:=fun args W=>Qc Tryz.func338 (by kernel_rfl) rfl args W
theorem Qfs:Qf Tryz.prog 354:=fun args W=>Qc Tryz.func354 (by kernel_rfl) rfl args W
theorem Qgb:Qf Tryz.prog 355:=fun args W=>Qc Tryz.func355 (by kernel_rfl) rfl args W
theorem Qfr:Qf Tryz.prog 361:=fun args W=>Qc Tryz.func361 (by kernel_rfl) rfl args W
theorem QfH:Qf Tryz.prog 377:=fun args W=>Qc Tryz.func377 (by kernel_rfl) rfl args W
theorem QaZ:Qf Tryz.prog 378:=fun args W=>Qc Tryz.func378 (by kernel_rfl) rfl args W
end Go.Proofs.YtfkmmpfdncopdaaGreat
namespace Go.Proofs.YtfkmmpfdncopdaaGreat
open Go.RowKit
@[reducible] def Is (pv:PV) (T:Tab):PV→Tab→Prop:=fun p T'=>p=pv∧T'=T
def FrL (s:St)(n:Nat):List Nat→Prop
  | []=>True
  | q :: l=>Fresh s (n+q)∧FrL s n l
theorem FrL.get {s:St}{n:Nat}{l:List Nat}(h:FrL s n l):∀q∈l,Fresh s (n+q):=by
  induction l with
  | nil=>simp
  | cons q l ih=>
    intro r hr
    rcases aC.1 hr with rfl | hr
    · exact h.1
    · exact ih h.2 r hr
section
variable {A:Amb}{P:Program}{s:St}
variable {f:FuncId}{xs:List Operand}{tys:Array TypeId}{args:List (Bool×List LV)}{d:Nat}{ty:TypeId}{pos:String}{af:Array Edge}{g:Option (Nat×Bool)}{pv:PV}{T:Tab}
theorem QgD (n:Nat)(hc:FC P f args [] 0 (Is pv T))(hE:Qf P f)(ha:EvL A s xs args)(hcl:Yd pv T=true)(hn:Nat.blt d A.n=true)(hfr:FrL s n (Zr T))(hk0:A.k0≤n):
    Does A P ⟨some d, .call ⟨.value (.func f),xs.toArray,tys⟩,ty,pos,af,g⟩ s (s.back d n pv T):=
  fun a w K Q r hK=>DoesT.call n hc hE ha (by rintro _ _ ⟨rfl,rfl⟩; exact hcl) (by rintro _ _ ⟨rfl,rfl⟩ q ⟨e,hq⟩; exact hfr.get q (Za hq).1) hk0 hn a w K Q r (by
    rintro s' a' w' ⟨_,_,⟨rfl,rfl⟩,rfl⟩ r'
    exact hK _ _ r')
theorem JZ (n:Nat)(hc:FC P f args [] 0 (Is pv T))(hE:Qf P f)(ha:EvLB A s xs args)(hcl:Yd pv T=true)(hf:(pv.fl&&T.fl)=true)(hn:Nat.blt d A.n=true)(hfr:FrL s n (Zr T))(hk0:A.k0≤n):
    Does A P ⟨some d, .call ⟨.value (.func f),xs.toArray,tys⟩,ty,pos,af,g⟩ s (s.back d n pv T):=
  fun a w K Q r hK=>VZ n hc hE ha (by rintro _ _ ⟨rfl,rfl⟩; exact hcl) (by rintro _ _ ⟨rfl,rfl⟩; simpa using hf) (by rintro _ _ ⟨rfl,rfl⟩ q ⟨e,hq⟩; exact hfr.get q (Za hq).1) hk0 hn a w K Q r (by
    rintro s' a' w' ⟨_,_,⟨rfl,rfl⟩,rfl⟩ r'
    exact hK _ _ r')
theorem Qoj {fn:Func}{k:Nat}(pv:PV)(T':Tab)(ρ:List (Nat×Nat)){pv0:PV}(h1:Res A P fn s pv0)(h0:pv0=pv.ren (rn ρ))(h2:HasE ⟨[],s.tab⟩ ρ T')(h3:XN (T'.map fun x=>rn ρ x.1)=true)(h4:idB ρ k=true):fin A P fn (Kx (Is pv T') k) .ret s:=
  HH pv T' ρ (h0▸h1) h2 h3 h4 ⟨rfl,rfl⟩
end
def LV.thaw (T:Tab):LV→LV
  | .ref q=>match T.ent q with
    | some (.arr E e xs)=> .dat (.sl E e) xs
    | _=> .ref q
  | l=>l
def PV.thaw (T:Tab):PV→PV
  | .cm b ls=> .cm b (ls.map (LV.thaw T))
  | .tup cs=> .tup (cs.map fun c=>(c.1,c.2.map (LV.thaw T)))
section
variable {T:Tab}{gh:Gh}{w:World}
theorem LVR.thaw (cx:Cx T gh w){l:LV}{v:Value}(h:LVR T.al gh w l v):LVR (Tab.al []) ⟨gh.h,gh.f,fun g=>gh.N g∨∃q,T.al q∧g∈gh.f q⟩ w (l.thaw T) v:=by
  have hm:∀l,LVR T.al gh w l v→LVR (Tab.al []) ⟨gh.h,gh.f,fun g=>gh.N g∨∃q,T.al q∧g∈gh.f q⟩ w l v:=fun l h=>h.mono (fun q _ h=>absurd h (Zv q)) fun g hg=>⟨.inl hg,rfl⟩
  cases l with
  | ref q=>
    simp only[LV.thaw]
    split
    · rename_i E e xs he
      have hv:v=gh.h q:=h ⟨_,he⟩
      have hO:Own (.sl E e) w (gh.f q) [gh.h q] xs:=cx.en q _ he
      rw[hv]
      exact hO.rd fun g hg=> .inr ⟨q,⟨_,he⟩,hg⟩
    · exact hm _ h
  | _=>exact hm _ h
theorem LVs.thaw (cx:Cx T gh w){ls:List LV}{vs:List Value}(h:LVs T.al gh w ls vs):LVs (Tab.al []) ⟨gh.h,gh.f,fun g=>gh.N g∨∃q,T.al q∧g∈gh.f q⟩ w (ls.map (LV.thaw T)) vs:=by
  induction ls generalizing vs with
  | nil=>exact h
  | cons l ls ih=>obtain ⟨v,vs',rfl,h1,h2⟩:=h; exact ⟨v,_,rfl,h1.thaw cx,ih h2⟩
theorem CmR.thaw (cx:Cx T gh w){c:Bool×List LV}{v:Value}(h:CmR T.al gh w c v):CmR (Tab.al []) ⟨gh.h,gh.f,fun g=>gh.N g∨∃q,T.al q∧g∈gh.f q⟩ w (c.1,c.2.map (LV.thaw T)) v:=by
  obtain ⟨b,ls⟩:=c
  cases b with
  | true=>obtain ⟨vs,rfl,h1⟩:=h; exact ⟨vs,rfl,h1.thaw cx⟩
  | false=>obtain ⟨l,rfl,h1⟩:=h; exact ⟨_,rfl,h1.thaw cx⟩
theorem PVR.thaw (cx:Cx T gh w){pv:PV}{v:Value}(h:PVR T.al gh w pv v):PVR (Tab.al []) ⟨gh.h,gh.f,fun g=>gh.N g∨∃q,T.al q∧g∈gh.f q⟩ w (pv.thaw T) v:=by
  cases pv with
  | cm b ls=>exact CmR.thaw cx (c:=(b,ls)) h
  | tup cs=>
    obtain ⟨vs,rfl,h1⟩:=h
    refine ⟨vs,rfl, ?_⟩
    induction cs generalizing vs with
    | nil=>exact h1
    | cons c cs ih=>obtain ⟨v,vs',rfl,h2,h3⟩:=h1; exact ⟨v,_,rfl,h2.thaw cx,ih _ h3⟩
end
theorem FC.frozenG {P:Program}{f:FuncId}{args:List (Bool×List LV)}{pv:PV}{T:Tab}(h:FC P f args [] 0 (Is pv T)):FC P f args [] 0 (QU (pv.thaw T)):=fun gh w vs cx ha=>
  Calls.mono (h gh w vs cx ha) fun e' w' he=>by
    obtain ⟨v,pv',T',gh',rfl,⟨rfl,rfl⟩,cx',hp,fr,_⟩:=he
    refine ⟨v,_,[],_,rfl,⟨rfl,rfl⟩,XF Zv _ _ fun g hg=> ?_,hp.thaw cx',⟨fr.gw,fr.kp,fun g hg=> ?_,fun q hq=>absurd hq (Zv q)⟩,fun q hq=>absurd hq (by omega)⟩
    · rcases hg with hg | ⟨q, hq, hg⟩
      · exact cx'.nl g hg
      · exact cx'.lt hq g hg
    · rcases hg with hg | ⟨q, hq, hg⟩
      · exact fr.nn g hg
      · rcases fr.ox q hq g hg with h | ⟨q', h, _⟩
        · exact .inr (.inl h)
        · exact absurd h (Zv q')
theorem Qee {A:Amb}{P:Program}{ops:Array Oper}{o:Oper}{s s1 s':St}(hg:o.guard=none)(h:Does A P o s s1)(e:s1=s'):Acts A P ops o s s':=e▸Acts.of hg h
theorem Qip {A:Amb}{P:Program}{ops:Array Oper}{o:Oper}{s s1 s':St}{j d:Nat}{b:Bool}(hg:o.guard=some (j,b))(hd:(ops[j]?).bind (·.dst)=some d)(hb:lk s.tm d=some (lf (dB b)))(h:Does A P o s s1)(e:s1=s'):Acts A P ops o s s':=e▸Qkp hg hd hb h
section
variable {A:Amb}{s:St}
theorem Wk.nilS (t i:Nat)(E:TypeId)(e:Ty)(hi:lk s.tm i=some (lf (.val (.slice none 0 0))))(hfr:Fresh s t)(hk0:A.k0≤t):Wk A s ⟨(i,lf (.ref t)) :: s.tm,(t,some (.arr E e [])) :: s.tab⟩:=fun a w r=>by
  obtain ⟨gh,r⟩:=r
  obtain ⟨v,h1,l,h2,h3⟩:=r.tm i _ hi
  simp only[aI,and_true] at h2
  subst h2
  have hv:v= .slice none 0 0:=h3
  have r2:=r.make t hfr hk0 [] (by simp) (ZH w) (fun _ _ _=>rfl) (E:=E) (e:=e) (xs:=[]) (hv:= .slice none 0 0) (fp:=[]) (.inl ⟨rfl,rfl,rfl⟩) bJ (by simp)
  exact ⟨_,r2.know h1 (pv:=lf (.ref t)) ⟨_,rfl,fun _=>by simp[hv]⟩⟩
theorem QB (t:Nat){p off:Nat}{E':TypeId}{cs:List LV}(E:TypeId)(e:Ty)(hp:s.tab.ent p=some (.box E' cs))(ho:cs[off]? =some (.val (.slice none 0 0)))(hfr:Fresh s t)(hk0:A.k0≤t):
    Wk A s ⟨s.tm,(p,some (.box E' (splice cs off [.ref t]))) :: (t,some (.arr E e [])) :: s.tab⟩:=fun a w r=>by
  obtain ⟨gh,r⟩:=r
  have hne:p≠t:=fun h=>hfr.al ⟨_,h▸hp⟩
  obtain ⟨g,cur,h1,h2,h3,h4⟩:=r.cx.en p _ hp
  obtain ⟨v,h5,h6⟩:=h4.nth ho
  have hv:v= .slice none 0 0:=h6
  have r2:=r.make t hfr hk0 [] (by simp) (ZH w) (fun _ _ _=>rfl) (E:=E) (e:=e) (xs:=[]) (hv:= .slice none 0 0) (fp:=[]) (.inl ⟨rfl,rfl,rfl⟩) bJ (by simp)
  have hp':Tab.ent ((t,some (.arr E e [])) :: (VJ []++s.tab)) p=some (.box E' cs):=by rw[Qg,if_neg hne]; exact hp
  obtain ⟨g',cur',k1,k2,k3,k4⟩:=r2.cx.en p _ hp'
  simp only[if_neg hne] at k1 k2
  rw[h1] at k1
  cases k1
  rw[h3] at k3
  cases k3
  have hD:LVs (Tab.al ((t,some (.arr E e [])) :: (VJ []++s.tab))) ⟨fun q=>if q=t then .slice none 0 0 else gh.h q,fun q=>if q=t then [] else gh.f q,gh.N⟩ w [.ref t] [v]:=⟨v,[],rfl,fun _=>by simp[hv],rfl⟩
  have hS:=k4.splice hD (off:=off)
  have hsame:cur.toList.take off++[v]++cur.toList.drop (off+[v].length)=cur.toList:=by
    have hl:=(aj.1 h5)
    obtain ⟨hl,hl2⟩:=hl
    conv=>rhs; rw[← bG (off+1) cur.toList,bE hl,hl2]
    rfl
  rw[hsame] at hS
  exact ⟨_,r2.mod hp' (ZH w) (fun _ _ _=>rfl) ⟨g,cur,by simp only[if_neg hne]; exact h1,by simp only[if_neg hne]; exact h2,h3,hS⟩⟩
end
end Go.Proofs.YtfkmmpfdncopdaaGreat
