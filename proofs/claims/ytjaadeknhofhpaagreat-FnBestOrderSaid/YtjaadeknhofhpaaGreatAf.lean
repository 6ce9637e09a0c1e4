/- Closed facts on the types and functions of the program. -/
import Derived.Test.YtjaadeknhofhpaaGreatProg
import Derived.Test.YtjaadeknhofhpaaGreatAe
import Derived.Test.YtjaadeknhofhpaaGreatIdx
set_option linter.unusedSimpArgs false
set_option linter.unusedVariables false
set_option linter.unusedSectionVars false
namespace Go.Proofs.YtjaadeknhofhpaaGreat
open Go.RowKit
theorem mixed:Tryz.prog.follows .mixedOrders=true:=by kernel_rfl
theorem Qah:Tryz.prog.underlying 3=some (.int .i64):=by kernel_rfl
theorem QL:tsh Tryz.prog 3=some (false,1):=by kernel_rfl
theorem Yu:zer Tryz.prog 3=some (.int .i64 0):=by kernel_rfl
theorem Wd:VO Tryz.prog 3 1=true:=by kernel_rfl
theorem Qst:(Tryz.prog.info? 3).map (fun i=>(i.zero,i.size,i.bytes))=some (some (.int .i64 0),1,8):=by kernel_rfl
theorem QfG:Tryz.prog.underlying 4=some .bool:=by kernel_rfl
theorem Uj:tsh Tryz.prog 4=some (false,1):=by kernel_rfl
theorem Qrc:zer Tryz.prog 4=some (.bool false):=by kernel_rfl
theorem JA:Tryz.prog.underlying 5=some (.int .u8):=by kernel_rfl
theorem Q2:tsh Tryz.prog 5=some (false,1):=by kernel_rfl
theorem QfO:zer Tryz.prog 5=some (.int .u8 0):=by kernel_rfl
theorem Qq5:(Tryz.prog.info? 5).map (fun i=>(i.zero,i.size,i.bytes))=some (some (.int .u8 0),1,1):=by kernel_rfl
theorem ZS:Tryz.prog.underlying 9=some .string:=by kernel_rfl
theorem Zg:tsh Tryz.prog 9=some (false,1):=by kernel_rfl
theorem H8:zer Tryz.prog 9=some (.string ByteArray.empty):=by kernel_rfl
theorem Qgn:VO Tryz.prog 9 1=true:=by kernel_rfl
theorem QqX:(Tryz.prog.info? 9).map (fun i=>(i.zero,i.size,i.bytes))=some (some (.string ByteArray.empty),1,16):=by kernel_rfl
theorem Ze:Tryz.prog.underlying 22=some (.slice 5):=by kernel_rfl
theorem QgO:tsh Tryz.prog 22=some (false,1):=by kernel_rfl
theorem Zw:Tryz.prog.underlying 23=some (.slice 198):=by kernel_rfl
theorem Yf:tsh Tryz.prog 23=some (false,1):=by kernel_rfl
theorem YD:tsh Tryz.prog 25=some (true,2):=by kernel_rfl
theorem J2:fld Tryz.prog 25 0=some 0:=by kernel_rfl
theorem Zz:fld Tryz.prog 25 1=some 1:=by kernel_rfl
theorem KS:zer Tryz.prog 25=some (.agg #[.int .i64 0, .slice none 0 0]):=by kernel_rfl
theorem Qb3:bld Tryz.prog 25 [(0,1),(1,1)] (.pr .int (.sl 198 (.pr (.sl 3 .int) (.sl 3 .int)))):=VE Tryz.underlying25 (by kernel_rfl) KS
theorem YE:Tryz.prog.underlying 26=some (.slice 90):=by kernel_rfl
theorem Ub:tsh Tryz.prog 26=some (false,1):=by kernel_rfl
theorem Yq:Tryz.prog.underlying 27=some (.slice 55):=by kernel_rfl
theorem WK:tsh Tryz.prog 27=some (false,1):=by kernel_rfl
theorem Qz:tsh Tryz.prog 29=some (true,5):=by kernel_rfl
theorem Z1:fld Tryz.prog 29 0=some 0:=by kernel_rfl
theorem XH:fld Tryz.prog 29 1=some 2:=by kernel_rfl
theorem XP:fld Tryz.prog 29 2=some 3:=by kernel_rfl
theorem XQ:fld Tryz.prog 29 3=some 4:=by kernel_rfl
theorem ZE:zer Tryz.prog 29=some (.agg #[.int .i64 0, .slice none 0 0, .slice none 0 0, .slice none 0 0, .string ByteArray.empty]):=by kernel_rfl
theorem YS:bld Tryz.prog 29 [(0,2),(2,1),(3,1),(4,1)] (.pr (.pr .int (.sl 198 (.pr (.sl 3 .int) (.sl 3 .int)))) (.pr (.sl 90 (.pr .str .int)) (.pr (.sl 55 (.pr .int .bool)) .str))):=VE Tryz.underlying29 (by kernel_rfl) ZE
theorem Zf:tsh Tryz.prog 32=some (true,3):=by kernel_rfl
theorem Qe4:fld Tryz.prog 32 0=some 0:=by kernel_rfl
theorem Qe3:fld Tryz.prog 32 1=some 1:=by kernel_rfl
theorem Qos:fld Tryz.prog 32 2=some 2:=by kernel_rfl
theorem Yz:zer Tryz.prog 32=some (.agg #[.int .i64 0, .int .i64 0, .bool false]):=by kernel_rfl
theorem Qjr:VO Tryz.prog 32 3=true:=by kernel_rfl
theorem Qds:bld Tryz.prog 32 [(0,1),(1,1),(2,1)] (.pr .int (.pr .int .bool)):=VE Tryz.underlying32 (by kernel_rfl) Yz
theorem Xn:Tryz.prog.underlying 39=some (.slice 32):=by kernel_rfl
theorem Zo:Tryz.prog.underlying 49=some (.slice 9):=by kernel_rfl
theorem XS:tsh Tryz.prog 49=some (false,1):=by kernel_rfl
theorem JG:Tryz.prog.underlying 50=some (.slice 106):=by kernel_rfl
theorem QrX:tsh Tryz.prog 50=some (false,1):=by kernel_rfl
theorem Yh:tsh Tryz.prog 52=some (true,3):=by kernel_rfl
theorem Uf:fld Tryz.prog 52 1=some 1:=by kernel_rfl
theorem U5:zer Tryz.prog 52=some (.agg #[.slice none 0 0, .slice none 0 0, .slice none 0 0]):=by kernel_rfl
theorem JO:bld Tryz.prog 52 [(0,1),(1,1),(2,1)] (.pr (.sl 90 (.pr .str .int)) (.pr (.sl 9 .str) (.sl 106 (.pr .int (.pr .int (.pr .bool .int)))))):=VE Tryz.underlying52 (by kernel_rfl) U5
theorem ZO:tsh Tryz.prog 55=some (true,2):=by kernel_rfl
theorem Qi0:fld Tryz.prog 55 0=some 0:=by kernel_rfl
theorem QiW:fld Tryz.prog 55 1=some 1:=by kernel_rfl
theorem WF:zer Tryz.prog 55=some (.agg #[.int .i64 0, .bool false]):=by kernel_rfl
theorem QaU:VO Tryz.prog 55 2=true:=by kernel_rfl
theorem QjM:bld Tryz.prog 55 [(0,1),(1,1)] (.pr .int .bool):=VE Tryz.underlying55 (by kernel_rfl) WF
theorem Zi:Tryz.prog.underlying 79=some (.slice 95):=by kernel_rfl
theorem YJ:tsh Tryz.prog 90=some (true,2):=by kernel_rfl
theorem QnY:fld Tryz.prog 90 0=some 0:=by kernel_rfl
theorem QoB:fld Tryz.prog 90 1=some 1:=by kernel_rfl
theorem UZ:zer Tryz.prog 90=some (.agg #[.string ByteArray.empty, .int .i64 0]):=by kernel_rfl
theorem QaO:VO Tryz.prog 90 2=true:=by kernel_rfl
theorem QrL:bld Tryz.prog 90 [(0,1),(1,1)] (.pr .str .int):=VE Tryz.underlying90 (by kernel_rfl) UZ
theorem QN:Tryz.prog.underlying 95=some (.slice 3):=by kernel_rfl
theorem QU:tsh Tryz.prog 95=some (false,1):=by kernel_rfl
theorem XX:zer Tryz.prog 95=some (.slice none 0 0):=by kernel_rfl
theorem Va:VO Tryz.prog 95 1=true:=by kernel_rfl
theorem VU:tsh Tryz.prog 106=some (true,4):=by kernel_rfl
theorem QfE:fld Tryz.prog 106 0=some 0:=by kernel_rfl
theorem Qmr:fld Tryz.prog 106 1=some 1:=by kernel_rfl
theorem Qci:fld Tryz.prog 106 2=some 2:=by kernel_rfl
theorem Qne:fld Tryz.prog 106 3=some 3:=by kernel_rfl
theorem K0:zer Tryz.prog 106=some (.agg #[.int .i64 0, .int .i64 0, .bool false, .int .i64 0]):=by kernel_rfl
theorem Qlr:VO Tryz.prog 106 4=true:=by kernel_rfl
theorem Ql5:bld Tryz.prog 106 [(0,1),(1,1),(2,1),(3,1)] (.pr .int (.pr .int (.pr .bool .int))):=VE Tryz.underlying106 (by kernel_rfl) K0
theorem QcZ:Tryz.prog.underlying 119=some (.int .u64):=by kernel_rfl
theorem QlU:tsh Tryz.prog 119=some (false,1):=by kernel_rfl
theorem HL:fld Tryz.prog 121 0=some 0:=by kernel_rfl
theorem Hq:fld Tryz.prog 121 1=some 1:=by kernel_rfl
theorem Qdg:Tryz.prog.underlying 160=some (.slice 4):=by kernel_rfl
theorem Ys:Tryz.prog.underlying 162=some (.slice 229):=by kernel_rfl
theorem QbP:tsh Tryz.prog 162=some (false,1):=by kernel_rfl
theorem ZM:tsh Tryz.prog 164=some (true,2):=by kernel_rfl
theorem V5:fld Tryz.prog 164 0=some 0:=by kernel_rfl
theorem Wf:zer Tryz.prog 164=some (.agg #[.slice none 0 0, .slice none 0 0]):=by kernel_rfl
theorem K2:bld Tryz.prog 164 [(0,1),(1,1)] (.pr (.sl 9 .str) (.sl 229 (.pr .int (.pr .int .int)))):=VE Tryz.underlying164 (by kernel_rfl) Wf
theorem Zn:tsh Tryz.prog 198=some (true,2):=by kernel_rfl
theorem Z0:fld Tryz.prog 198 0=some 0:=by kernel_rfl
theorem YV:fld Tryz.prog 198 1=some 1:=by kernel_rfl
theorem We:zer Tryz.prog 198=some (.agg #[.slice none 0 0, .slice none 0 0]):=by kernel_rfl
theorem HD:VO Tryz.prog 198 2=true:=by kernel_rfl
theorem HA:bld Tryz.prog 198 [(0,1),(1,1)] (.pr (.sl 3 .int) (.sl 3 .int)):=VE Tryz.underlying198 (by kernel_rfl) We
theorem Yc:tsh Tryz.prog 229=some (true,3):=by kernel_rfl
theorem Xm:zer Tryz.prog 229=some (.agg #[.int .i64 0, .int .i64 0, .int .i64 0]):=by kernel_rfl
theorem Hm:VO Tryz.prog 229 3=true:=by kernel_rfl
theorem HJ:bld Tryz.prog 229 [(0,1),(1,1),(2,1)] (.pr .int (.pr .int .int)):=VE Tryz.underlying229 (by kernel_rfl) Xm
theorem UN:tsh Tryz.prog 255=some (true,6):=by kernel_rfl
theorem QfR:fld Tryz.prog 255 0=some 0:=by kernel_rfl
theorem Qdb:zer Tryz.prog 255=some (.agg #[.slice none 0 0, .slice none 0 0, .slice none 0 0, .int .i64 0, .int .i64 0, .bool false]):=by kernel_rfl
theorem QqA:bld Tryz.prog 255 [(0,2),(2,1),(3,1),(4,1),(5,1)] (.pr (.pr (.sl 9 .str) (.sl 229 (.pr .int (.pr .int .int)))) (.pr (.sl 229 (.pr .int (.pr .int .int))) (.pr .int (.pr .int .bool)))):=VE Tryz.underlying255 (by kernel_rfl) Qdb
theorem YB:fld Tryz.prog 347 0=some 0:=by kernel_rfl
theorem QpX:zer Tryz.prog 347=some (.agg #[.int .i64 0, .slice none 0 0, .slice none 0 0, .slice none 0 0, .string ByteArray.empty, .slice none 0 0, .slice none 0 0]):=by kernel_rfl
theorem QpQ:bld Tryz.prog 347 [(0,5),(5,1),(6,1)] (.pr (.pr (.pr .int (.sl 198 (.pr (.sl 3 .int) (.sl 3 .int)))) (.pr (.sl 90 (.pr .str .int)) (.pr (.sl 55 (.pr .int .bool)) .str))) (.pr (.sl 9 .str) (.sl 9 .str))):=VE Tryz.underlying347 (by kernel_rfl) QpX
theorem Qhz:Tryz.prog.underlying 359=some (.map 9 3):=by kernel_rfl
theorem Ql3:Tryz.prog.underlying 366=some (.map 9 4):=by kernel_rfl
theorem QoM:Qt Tryz.prog 9:=fun args W=>Qk Tryz.func9 (by kernel_rfl) rfl args W
theorem Qmb:Qt Tryz.prog 10:=fun args W=>Qk Tryz.func10 (by kernel_rfl) rfl args W
theorem Qmk:Qt Tryz.prog 11:=fun args W=>Qk Tryz.func11 (by kernel_rfl) rfl args W
theorem Qni:Qt Tryz.prog 12:=fun args W=>Qk Tryz.func12 (by kernel_rfl) rfl args W
theorem Vg:Qt Tryz.prog 13:=fun args W=>Qk Tryz.func13 (by kernel_rfl) rfl args W
theorem QmJ:Qt Tryz.prog 14:=fun args W=>Qk Tryz.func14 (by kernel_rfl) rfl args W
theorem QmH:Qt Tryz.prog 15:=fun args W=>Qk Tryz.func15 (by kernel_rfl) rfl args W
theorem Qf0:Qt Tryz.prog 16:=fun args W=>Qk Tryz.func16 (by kernel_rfl) rfl args W
theorem Qms:Qt Tryz.prog 17:=fun args W=>Qk Tryz.func17 (by kernel_rfl) rfl args W
theorem Qfv:Qt Tryz.prog 18:=fun args W=>Qk Tryz.func18 (by kernel_rfl) rfl args W
theorem Qcg:Qt Tryz.prog 19:=fun args W=>Qk Tryz.func19 (by kernel_rfl) rfl args W
theorem Hw:Qt Tryz.prog 20:=fun args W=>Qk Tryz.func20 (by kernel_rfl) rfl args W
theorem QfT:Qt Tryz.prog 36:=fun args W=>Qk Tryz.func36 (by kernel_rfl) rfl args W
theorem QmF:Qt Tryz.prog 39:=fun args W=>Qk Tryz.func39 (by kernel_rfl) rfl args W
theorem QmQ:Qt Tryz.prog 43:=fun args W=>Qk Tryz.func43 (by kernel_rfl) rfl args W
theorem QmT:Qt Tryz.prog 44:=fun args W=>Qk Tryz.func44 (by kernel_rfl) rfl args W
theorem QmD:Qt Tryz.prog 68:=fun args W=>Qk Tryz.func68 (by kernel_rfl) rfl args W
theorem QfB:Qt Tryz.prog 69:=fun args W=>Qk Tryz.func69 (by kernel_rfl) rfl args W
theorem Kt:Qt Tryz.prog 70:=fun args W=>Qk Tryz.func70 (by kernel_rfl) rfl args W
theorem Qcn:Qt Tryz.prog 71:=fun args W=>Qk Tryz.func71 (by kernel_rfl) rfl args W
theorem QfI:Qt Tryz.prog 72:=fun args W=>Qk Tryz.func72 (by kernel_rfl) rfl args W
theorem Qnn:Qt Tryz.prog 73:=fun args W=>Qk Tryz.func73 (by kernel_rfl) rfl args W
theorem QbV:Qt Tryz.prog 74:=fun args W=>Qk Tryz.func74 (by kernel_rfl) rfl args W
theorem Hg:Qt Tryz.prog 75:=fun args W=>Qk Tryz.func75 (by kernel_rfl) rfl args W
theorem QfM:Qt Tryz.prog 76:=fun args W=>Qk Tryz.func76 (by kernel_rfl) rfl args W
theorem KE:Qt Tryz.prog 77:=fun args W=>Qk Tryz.func77 (by kernel_rfl) rfl args W
theorem Qf7:Qt Tryz.prog 78:=fun args W=>Qk Tryz.func78 (by kernel_rfl) rfl args W
theorem X3:Qt Tryz.prog 79:=fun args W=>Qk Tryz.func79 (by kernel_rfl) rfl args W
theorem QfW:Qt Tryz.prog 80:=fun args W=>Qk Tryz.func80 (by kernel_rfl) rfl args W
theorem QbW:Qt Tryz.prog 81:=fun args W=>Qk Tryz.func81 (by kernel_rfl) rfl args W
theorem Qnj:Qt Tryz.prog 82:=fun args W=>Qk Tryz.func82 (by kernel_rfl) rfl args W
theorem Qgc:Qt Tryz.prog 83:=fun args W=>Qk Tryz.func83 (by kernel_rfl) rfl args W
theorem W9:Qt Tryz.prog 84:=fun args W=>Qk Tryz.func84 (by kernel_rfl) rfl args W
theorem Qmf:Qt Tryz.prog 85:=fun args W=>Qk Tryz.func85 (by kernel_rfl) rfl args W
theorem Qf8:Qt Tryz.prog 86:=fun args W=>Qk Tryz.func86 (by kernel_rfl) rfl args W
theorem Qb7:Qt Tryz.prog 95:=fun args W=>Qk Tryz.func95 (by kernel_rfl) rfl args W
theorem YO:Qt Tryz.prog 96:=fun args W=>Qk Tryz.func96 (by kernel_rfl) rfl args W
theorem QmM:Qt Tryz.prog 99:=fun args W=>Qk Tryz.func99 (by kernel_rfl) rfl args W
theorem QkN:Qt Tryz.prog 102:=fun args W=>Qk Tryz.func102 (by kernel_rfl) rfl args W
theorem Qdz:Qt Tryz.prog 106:=fun args W=>Qk Tryz.func106 (by kernel_rfl) rfl args W
theorem Qar:Qt Tryz.prog 112:=fun args W=>Qk Tryz.func112 (by kernel_rfl) rfl args W
theorem QjW:Qt Tryz.prog 119:=fun args W=>Qk Tryz.func119 (by kernel_rfl) rfl args W
theorem QkM:Qt Tryz.prog 120:=fun args W=>Qk Tryz.func120 (by kernel_rfl) rfl args W
theorem Qer:Qt Tryz.prog 121:=fun args W=>Qk Tryz.func121 (by kernel_rfl) rfl args W
theorem Qj2:Qt Tryz.prog 123:=fun args W=>Qk Tryz.func123 (by kernel_rfl) rfl args W
theorem QaD:Qt Tryz.prog 124:=fun args W=>Qk Tryz.func124 (by kernel_rfl) rfl args W
theorem QkL:Qt Tryz.prog 125:=fun args W=>Qk Tryz.func125 (by kernel_rfl) rfl args W
theorem QdX:Qt Tryz.prog 126:=fun args W=>Qk Tryz.func126 (by kernel_rfl) rfl args W
theorem Qku:Qt Tryz.prog 127:=fun args W=>Qk Tryz.func127 (by kernel_rfl) rfl args W
theorem QkC:Qt Tryz.prog 128:=fun args W=>Qk Tryz.func128 (by kernel_rfl) rfl args W
theorem Qau:Qt Tryz.prog 129:=fun args W=>Qk Tryz.func129 (by kernel_rfl) rfl args W
theorem Qjs:Qt Tryz.prog 130:=fun args W=>Qk Tryz.func130 (by kernel_rfl) rfl args W
theorem QeV:Qt Tryz.prog 131:=fun args W=>Qk Tryz.func131 (by kernel_rfl) rfl args W
theorem W6:Qt Tryz.prog 132:=fun args W=>Qk Tryz.func132 (by kernel_rfl) rfl args W
theorem Qkx:Qt Tryz.prog 134:=fun args W=>Qk Tryz.func134 (by kernel_rfl) rfl args W
theorem QaB:Qt Tryz.prog 142:=fun args W=>Qk Tryz.func142 (by kernel_rfl) rfl args W
theorem QdS:Qt Tryz.prog 157:=fun args W=>Qk Tryz.func157 (by kernel_rfl) rfl args W
theorem Qal:Qt Tryz.prog 158:=fun args W=>Qk Tryz.func158 (by kernel_rfl) rfl args W
theorem Qi3:Qt Tryz.prog 159:=fun args W=>Qk Tryz.func159 (by kernel_rfl) rfl args W
theorem Qju:Qt Tryz.prog 160:=fun args W=>Qk Tryz.func160 (by kernel_rfl) rfl args W
theorem QjP:Qt Tryz.prog 161:=fun args W=>Qk Tryz.func161 (by kernel_rfl) rfl args W
theorem Qjx:Qt Tryz.prog 162:=fun args W=>Qk Tryz.func162 (by kernel_rfl) rfl args W
theorem Qj3:Qt Tryz.prog 168:=fun args W=>Qk Tryz.func168 (by kernel_rfl) rfl args W
theorem QaH:Qt Tryz.prog 170:=fun args W=>Qk Tryz.func170 (by kernel_rfl) rfl args W
theorem Qd5:Qt Tryz.prog 173:=fun args W=>Qk Tryz.func173 (by kernel_rfl) rfl args W
theorem Wi:Qt Tryz.prog 174:=fun args W=>Qk Tryz.func174 (by kernel_rfl) rfl args W
theorem QaL:Qt Tryz.prog 175:=fun args W=>Qk Tryz.func175 (by kernel_rfl) rfl args W
theorem Qkn:Qt Tryz.prog 178:=fun args W=>Qk Tryz.func178 (by kernel_rfl) rfl args W
theorem Qdw:Qt Tryz.prog 186:=fun args W=>Qk Tryz.func186 (by kernel_rfl) rfl args W
theorem Qj8:Qt Tryz.prog 194:=fun args W=>Qk Tryz.func194 (by kernel_rfl) rfl args W
theorem Qkq:Qt Tryz.prog 195:=fun args W=>Qk Tryz.func195 (by kernel_rfl) rfl args W
theorem QkQ:Qt Tryz.prog 196:=fun args W=>Qk Tryz.func196 (by kernel_rfl) rfl args W
theorem Qjh:Qt Tryz.prog 197:=fun args W=>Qk Tryz.func197 (by kernel_rfl) rfl args W
theorem Qet:Qt Tryz.prog 198:=fun args W=>Qk Tryz.func198 (by kernel_rfl) rfl args W
theorem Qkd:Qt Tryz.prog 199:=fun args W=>Qk Tryz.func199 (by kernel_rfl) rfl args W
theorem Qeg:Qt Tryz.prog 204:=fun args W=>Qk Tryz.func204 (by kernel_rfl) rfl args W
theorem QkD:Qt Tryz.prog 207:=fun args W=>Qk Tryz.func207 (by kernel_rfl) rfl args W
theorem QdI:Qt Tryz.prog 208:=fun args W=>Qk Tryz.func208 (by kernel_rfl) rfl args W
theorem Qaq:Qt Tryz.prog 215:=fun args W=>Qk Tryz.func215 (by kernel_rfl) rfl args W
theorem Qkr:Qt Tryz.prog 216:=fun args W=>Qk Tryz.func216 (by kernel_rfl) rfl args W
theorem Qkf:Qt Tryz.prog 217:=fun args W=>Qk Tryz.func217 (by kernel_rfl) rfl args W
theorem Qjk:Qt Tryz.prog 218:=fun args W=>Qk Tryz.func218 (by kernel_rfl) rfl args W
theorem QdY:Qt Tryz.prog 224:=fun args W=>Qk Tryz.func224 (by kernel_rfl) rfl args W
theorem Qkj:Qt Tryz.prog 225:=fun args W=>Qk Tryz.func225 (by kernel_rfl) rfl args W
theorem Qjo:Qt Tryz.prog 226:=fun args W=>Qk Tryz.func226 (by kernel_rfl) rfl args W
theorem QkP:Qt Tryz.prog 230:=fun args W=>Qk Tryz.func230 (by kernel_rfl) rfl args W
theorem Qe7:Qt Tryz.prog 231:=fun args W=>Qk Tryz.func231 (by kernel_rfl) rfl args W
theorem QjL:Qt Tryz.prog 232:=fun args W=>Qk Tryz.func232 (by kernel_rfl) rfl args W
theorem QkR:Qt Tryz.prog 233:=fun args W=>Qk Tryz.func233 (by kernel_rfl) rfl args W
theorem QjR:Qt Tryz.prog 234:=fun args W=>Qk Tryz.func234 (by kernel_rfl) rfl args W
theorem Qjq:Qt Tryz.prog 235:=fun args W=>Qk Tryz.func235 (by kernel_rfl) rfl args W
theorem Qjp:Qt Tryz.prog 236:=fun args W=>Qk Tryz.func236 (by kernel_rfl) rfl args W
theorem Qkw:Qt Tryz.prog 237:=fun args W=>Qk Tryz.func237 (by kernel_rfl) rfl args W
theorem QjN:Qt Tryz.prog 245:=fun args W=>Qk Tryz.func245 (by kernel_rfl) rfl args W
theorem QaG:Qt Tryz.prog 248:=fun args W=>Qk Tryz.func248 (by kernel_rfl) rfl args W
theorem Yw:Qt Tryz.prog 259:=fun args W=>Qk Tryz.func259 (by kernel_rfl) rfl args W
theorem Qko:Qt Tryz.prog 260:=fun args W=>Qk Tryz.func260 (by kernel_rfl) rfl args W
theorem QdA:Qt Tryz.prog 261:=fun args W=>Qk Tryz.func261 (by kernel_rfl) rfl args W
theorem QjI:Qt Tryz.prog 266:=fun args W=>Qk Tryz.func266 (by kernel_rfl) rfl args W
theorem Qe2:Qt Tryz.prog 268:=fun args W=>Qk Tryz.func268 (by kernel_rfl) rfl args W
theorem QjJ:Qt Tryz.prog 269:=fun args W=>Qk Tryz.func269 (by kernel_rfl) rfl args W
theorem Qee:Qt Tryz.prog 272:=fun args W=>Qk Tryz.func272 (by kernel_rfl) rfl args W
theorem QkH:Qt Tryz.prog 278:=fun args W=>Qk Tryz.func278 (by kernel_rfl) rfl args W
theorem QjV:Qt Tryz.prog 279:=fun args W=>Qk Tryz.func279 (by kernel_rfl) rfl args W
theorem Qi2:Qt Tryz.prog 281:=fun args W=>Qk Tryz.func281 (by kernel_rfl) rfl args W
theorem QjG:Qt Tryz.prog 284:=fun args W=>Qk Tryz.func284 (by kernel_rfl) rfl args W
theorem QjA:Qt Tryz.prog 285:=fun args W=>Qk Tryz.func285 (by kernel_rfl) rfl args W
theorem QdJ:Qt Tryz.prog 287:=fun args W=>Qk Tryz.func287 (by kernel_rfl) rfl args W
theorem QjU:Qt Tryz.prog 291:=fun args W=>Qk Tryz.func291 (by kernel_rfl) rfl args W
theorem QaW:Qt Tryz.prog 292:=fun args W=>Qk Tryz.func292 (by kernel_rfl) rfl args W
theorem QeR:Qt Tryz.prog 294:=fun args W=>Qk Tryz.func294 (by kernel_rfl) rfl args W
theorem QjZ:Qt Tryz.prog 295:=fun args W=>Qk Tryz.func295 (by kernel_rfl) rfl args W
theorem QjK:Qt Tryz.prog 307:=fun args W=>Qk Tryz.func307 (by kernel_rfl) rfl args W
theorem Qd2:Qt Tryz.prog 308:=fun args W=>Qk Tryz.func308 (by kernel_rfl) rfl args W
theorem Qjf:Qt Tryz.prog 309:=fun args W=>Qk Tryz.func309 (by kernel_rfl) rfl args W
theorem QjB:Qt Tryz.prog 310:=fun args W=>Qk Tryz.func310 (by kernel_rfl) rfl args W
theorem QdZ:Qt Tryz.prog 311:=fun args W=>Qk Tryz.func311 (by kernel_rfl) rfl args W
theorem QeY:Qt Tryz.prog 312:=fun args W=>Qk Tryz.func312 (by kernel_rfl) rfl args W
theorem QkU:Qt Tryz.prog 313:=fun args W=>Qk Tryz.func313 (by kernel_rfl) rfl args W
theorem Qjz:Qt Tryz.prog 314:=fun args W=>Qk Tryz.func314 (by kernel_rfl) rfl args W
theorem QaJ:Qt Tryz.prog 315:=fun args W=>Qk Tryz.func315 (by kernel_rfl) rfl args W
theorem Qks:Qt Tryz.prog 316:=fun args W=>Qk Tryz.func316 (by kernel_rfl) rfl args W
theorem QaK:Qt Tryz.prog 335:=fun args W=>Qk Tryz.func335 (by kernel_rfl) rfl args W
theorem Qj9:Qt Tryz.prog 336:=fun args W=>Qk Tryz.func336 (by kernel_rfl) rfl args W
theorem Qj6:Qt Tryz.prog 337:=fun args W=>Qk Tryz.func337 (by kernel_rfl) rfl args W
theorem K1:Qt Tryz.prog 341:=fun args W=>Qk Tryz.func341 (by kernel_rfl) rfl args W
theorem Qjc:Qt Tryz.prog 349:=fun args W=>Qk Tryz.func349 (by kernel_rfl) rfl args W
theorem Qjb:Qt Tryz.prog 351:=fun args W=>Qk Tryz.func351 (by kernel_rfl) rfl args W
theorem QeC:Qt Tryz.prog 357:=fun args W=>Qk Tryz.func357 (by kernel_rfl) rfl args W
theorem Qkv:Qt Tryz.prog 376:=fun args W=>Qk Tryz.func376 (by kernel_rfl) rfl args W
theorem QdC:Qt Tryz.prog 377:=fun args W=>Qk Tryz.func377 (by kernel_rfl) rfl args W
theorem QdQ:Qt Tryz.prog 378:=fun args W=>Qk Tryz.func378 (by kernel_rfl) rfl args W
end Go.Proofs.YtjaadeknhofhpaaGreat
namespace Go.Proofs.YtjaadeknhofhpaaGreat
open Go.RowKit
@[reducible] def Is (pv:PV) (T:Tab):PV→Tab→Prop:=fun p T'=>p=pv∧T'=T
def FrL (s:St)(n:Nat):List Nat→Prop
  | []=>True
  | q :: l=>Fresh s (n+q)∧FrL s n l
theorem FrL.get {s:St}{n:Nat}{l:List Nat}(h:FrL s n l):∀q∈l,Fresh s (n+q):=by
  induction l with
  | nil=>simp
  | cons q l ih=>
    intro r hr
    rcases aG.1 hr with rfl | hr
    · exact h.1
    · exact ih h.2 r hr
section
variable {A:Amb}{P:Program}{s:St}
variable {f:FuncId}{xs:List Operand}{tys:Array TypeId}{args:List (Bool×List LV)}{d:Nat}{ty:TypeId}{pos:String}{af:Array Edge}{g:Option (Nat×Bool)}{pv:PV}{T:Tab}
theorem Q8 (n:Nat)(hc:FC P f args [] 0 (Is pv T))(hE:Qt P f)(ha:EvL A s xs args)(hcl:Y5 pv T=true)(hn:Nat.blt d A.n=true)(hfr:FrL s n (Yr T))(hk0:A.k0≤n):
    Does A P ⟨some d, .call ⟨.value (.func f),xs.toArray,tys⟩,ty,pos,af,g⟩ s (s.back d n pv T):=
  fun a w K Q r hK=>DoesT.call n hc hE ha (by rintro _ _ ⟨rfl,rfl⟩; exact hcl) (by rintro _ _ ⟨rfl,rfl⟩ q ⟨e,hq⟩; exact hfr.get q (ZV hq).1) hk0 hn a w K Q r (by
    rintro s' a' w' ⟨_,_,⟨rfl,rfl⟩,rfl⟩ r'
    exact hK _ _ r')
theorem XK (n:Nat)(hc:FC P f args [] 0 (Is pv T))(hE:Qt P f)(ha:EvLB A s xs args)(hcl:Y5 pv T=true)(hf:(pv.fl&&T.fl)=true)(hn:Nat.blt d A.n=true)(hfr:FrL s n (Yr T))(hk0:A.k0≤n):
    Does A P ⟨some d, .call ⟨.value (.func f),xs.toArray,tys⟩,ty,pos,af,g⟩ s (s.back d n pv T):=
  fun a w K Q r hK=>Hc n hc hE ha (by rintro _ _ ⟨rfl,rfl⟩; exact hcl) (by rintro _ _ ⟨rfl,rfl⟩; simpa using hf) (by rintro _ _ ⟨rfl,rfl⟩ q ⟨e,hq⟩; exact hfr.get q (ZV hq).1) hk0 hn a w K Q r (by
    rintro s' a' w' ⟨_,_,⟨rfl,rfl⟩,rfl⟩ r'
    exact hK _ _ r')
theorem QD {fn:Func}{k:Nat}(pv:PV)(T':Tab)(ρ:List (Nat×Nat)){pv0:PV}(h1:Res A P fn s pv0)(h0:pv0=pv.ren (rn ρ))(h2:HasE ⟨[],s.tab⟩ ρ T')(h3:VT (T'.map fun x=>rn ρ x.1)=true)(h4:idB ρ k=true):fin A P fn (QkT (Is pv T') k) .ret s:=
  QcV pv T' ρ (h0▸h1) h2 h3 h4 ⟨rfl,rfl⟩
end
def LV.thaw (T:Tab):LV→LV
  | .ref q=>match T.ent q with
    | some (.arr E e xs)=> .dat (.sl E e) xs
    | _=> .ref q
  | l=>l
def PV.thaw (T:Tab):PV→PV
  | .cm b ls=> .cm b (ls.map (LV.thaw T))
  | .tup cs=> .tup (cs.map fun c=>(c.1,c.2.map (LV.thaw T)))
section
variable {T:Tab}{gh:Gh}{w:World}
theorem LVR.thaw (cx:Cx T gh w){l:LV}{v:Value}(h:LVR T.al gh w l v):LVR (Tab.al []) ⟨gh.h,gh.f,fun g=>gh.N g∨∃q,T.al q∧g∈gh.f q⟩ w (l.thaw T) v:=by
  have hm:∀l,LVR T.al gh w l v→LVR (Tab.al []) ⟨gh.h,gh.f,fun g=>gh.N g∨∃q,T.al q∧g∈gh.f q⟩ w l v:=fun l h=>h.mono (fun q _ h=>absurd h (Z6 q)) fun g hg=>⟨.inl hg,rfl⟩
  cases l with
  | ref q=>
    simp only[LV.thaw]
    split
    · rename_i E e xs he
      have hv:v=gh.h q:=h ⟨_,he⟩
      have hO:Own (.sl E e) w (gh.f q) [gh.h q] xs:=cx.en q _ he
      rw[hv]
      exact hO.rd fun g hg=> .inr ⟨q,⟨_,he⟩,hg⟩
    · exact hm _ h
  | _=>exact hm _ h
theorem LVs.thaw (cx:Cx T gh w){ls:List LV}{vs:List Value}(h:LVs T.al gh w ls vs):LVs (Tab.al []) ⟨gh.h,gh.f,fun g=>gh.N g∨∃q,T.al q∧g∈gh.f q⟩ w (ls.map (LV.thaw T)) vs:=by
  induction ls generalizing vs with
  | nil=>exact h
  | cons l ls ih=>obtain ⟨v,vs',rfl,h1,h2⟩:=h; exact ⟨v,_,rfl,h1.thaw cx,ih h2⟩
theorem CmR.thaw (cx:Cx T gh w){c:Bool×List LV}{v:Value}(h:CmR T.al gh w c v):CmR (Tab.al []) ⟨gh.h,gh.f,fun g=>gh.N g∨∃q,T.al q∧g∈gh.f q⟩ w (c.1,c.2.map (LV.thaw T)) v:=by
  obtain ⟨b,ls⟩:=c
  cases b with
  | true=>obtain ⟨vs,rfl,h1⟩:=h; exact ⟨vs,rfl,h1.thaw cx⟩
  | false=>obtain ⟨l,rfl,h1⟩:=h; exact ⟨_,rfl,h1.thaw cx⟩
theorem PVR.thaw (cx:Cx T gh w){pv:PV}{v:Value}(h:PVR T.al gh w pv v):PVR (Tab.al []) ⟨gh.h,gh.f,fun g=>gh.N g∨∃q,T.al q∧g∈gh.f q⟩ w (pv.thaw T) v:=by
  cases pv with
  | cm b ls=>exact CmR.thaw cx (c:=(b,ls)) h
  | tup cs=>
    obtain ⟨vs,rfl,h1⟩:=h
    refine ⟨vs,rfl, ?_⟩
    induction cs generalizing vs with
    | nil=>exact h1
    | cons c cs ih=>obtain ⟨v,vs',rfl,h2,h3⟩:=h1; exact ⟨v,_,rfl,h2.thaw cx,ih _ h3⟩
end
theorem FC.frozenG {P:Program}{f:FuncId}{args:List (Bool×List LV)}{pv:PV}{T:Tab}(h:FC P f args [] 0 (Is pv T)):FC P f args [] 0 (Yj (pv.thaw T)):=fun gh w vs cx ha=>
  Calls.mono (h gh w vs cx ha) fun e' w' he=>by
    obtain ⟨v,pv',T',gh',rfl,⟨rfl,rfl⟩,cx',hp,fr,_⟩:=he
    refine ⟨v,_,[],_,rfl,⟨rfl,rfl⟩,Vs Z6 _ _ fun g hg=> ?_,hp.thaw cx',⟨fr.gw,fr.kp,fun g hg=> ?_,fun q hq=>absurd hq (Z6 q)⟩,fun q hq=>absurd hq (by omega)⟩
    · rcases hg with hg | ⟨q, hq, hg⟩
      · exact cx'.nl g hg
      · exact cx'.lt hq g hg
    · rcases hg with hg | ⟨q, hq, hg⟩
      · exact fr.nn g hg
      · rcases fr.ox q hq g hg with h | ⟨q', h, _⟩
        · exact .inr (.inl h)
        · exact absurd h (Z6 q')
theorem Qh6 {A:Amb}{P:Program}{ops:Array Oper}{o:Oper}{s s1 s':St}(hg:o.guard=none)(h:Does A P o s s1)(e:s1=s'):Acts A P ops o s s':=e▸Acts.of hg h
theorem Ql6 {A:Amb}{P:Program}{ops:Array Oper}{o:Oper}{s s1 s':St}{j d:Nat}{b:Bool}(hg:o.guard=some (j,b))(hd:(ops[j]?).bind (·.dst)=some d)(hb:lk s.tm d=some (lf (dB b)))(h:Does A P o s s1)(e:s1=s'):Acts A P ops o s s':=e▸QoY hg hd hb h
section
variable {A:Amb}{s:St}
theorem Wk.nilS (t i:Nat)(E:TypeId)(e:Ty)(hi:lk s.tm i=some (lf (.val (.slice none 0 0))))(hfr:Fresh s t)(hk0:A.k0≤t):Wk A s ⟨(i,lf (.ref t)) :: s.tm,(t,some (.arr E e [])) :: s.tab⟩:=fun a w r=>by
  obtain ⟨gh,r⟩:=r
  obtain ⟨v,h1,l,h2,h3⟩:=r.tm i _ hi
  simp only[aB,and_true] at h2
  subst h2
  have hv:v= .slice none 0 0:=h3
  have r2:=r.make t hfr hk0 [] (by simp) (ZR w) (fun _ _ _=>rfl) (E:=E) (e:=e) (xs:=[]) (hv:= .slice none 0 0) (fp:=[]) (.inl ⟨rfl,rfl,rfl⟩) bH (by simp)
  exact ⟨_,r2.know h1 (pv:=lf (.ref t)) ⟨_,rfl,fun _=>by simp[hv]⟩⟩
theorem QF (t:Nat){p off:Nat}{E':TypeId}{cs:List LV}(E:TypeId)(e:Ty)(hp:s.tab.ent p=some (.box E' cs))(ho:cs[off]? =some (.val (.slice none 0 0)))(hfr:Fresh s t)(hk0:A.k0≤t):
    Wk A s ⟨s.tm,(p,some (.box E' (splice cs off [.ref t]))) :: (t,some (.arr E e [])) :: s.tab⟩:=fun a w r=>by
  obtain ⟨gh,r⟩:=r
  have hne:p≠t:=fun h=>hfr.al ⟨_,h▸hp⟩
  obtain ⟨g,cur,h1,h2,h3,h4⟩:=r.cx.en p _ hp
  obtain ⟨v,h5,h6⟩:=h4.nth ho
  have hv:v= .slice none 0 0:=h6
  have r2:=r.make t hfr hk0 [] (by simp) (ZR w) (fun _ _ _=>rfl) (E:=E) (e:=e) (xs:=[]) (hv:= .slice none 0 0) (fp:=[]) (.inl ⟨rfl,rfl,rfl⟩) bH (by simp)
  have hp':Tab.ent ((t,some (.arr E e [])) :: (VN []++s.tab)) p=some (.box E' cs):=by rw[Qn,if_neg hne]; exact hp
  obtain ⟨g',cur',k1,k2,k3,k4⟩:=r2.cx.en p _ hp'
  simp only[if_neg hne] at k1 k2
  rw[h1] at k1
  cases k1
  rw[h3] at k3
  cases k3
  have hD:LVs (Tab.al ((t,some (.arr E e [])) :: (VN []++s.tab))) ⟨fun q=>if q=t then .slice none 0 0 else gh.h q,fun q=>if q=t then [] else gh.f q,gh.N⟩ w [.ref t] [v]:=⟨v,[],rfl,fun _=>by simp[hv],rfl⟩
  have hS:=k4.splice hD (off:=off)
  have hsame:cur.toList.take off++[v]++cur.toList.drop (off+[v].length)=cur.toList:=by
    have hl:=(au.1 h5)
    obtain ⟨hl,hl2⟩:=hl
    conv=>rhs; rw[← bI (off+1) cur.toList,bP hl,hl2]
    rfl
  rw[hsame] at hS
  exact ⟨_,r2.mod hp' (ZR w) (fun _ _ _=>rfl) ⟨g,cur,by simp only[if_neg hne]; exact h1,by simp only[if_neg hne]; exact h2,h3,hS⟩⟩
end
end Go.Proofs.YtjaadeknhofhpaaGreat
