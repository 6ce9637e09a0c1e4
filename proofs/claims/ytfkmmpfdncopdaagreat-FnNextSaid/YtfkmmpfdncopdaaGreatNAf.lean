/- Closed facts on the types and functions of the program. -/
import Derived.Test.YtfkmmpfdncopdaaGreatProg
import Derived.Test.YtfkmmpfdncopdaaGreatNAe
import Derived.Test.YtfkmmpfdncopdaaGreatNStr
set_option linter.unusedSimpArgs false
set_option linter.unusedVariables false
set_option linter.unusedSectionVars false
namespace Go.Proofs.YtfkmmpfdncopdaaGreat
open Go.RowKit
theorem mixed:Tryz.prog.follows .mixedOrders=true:=by kernel_rfl
theorem Jv:Tryz.prog.underlying 3=some (.int .i64):=by kernel_rfl
theorem Kw:tsh Tryz.prog 3=some (false,1):=by kernel_rfl
theorem Vu:zer Tryz.prog 3=some (.int .i64 0):=by kernel_rfl
theorem Vz:WG Tryz.prog 3 1=true:=by kernel_rfl
theorem Qlj:(Tryz.prog.info? 3).map (fun i=>(i.zero,i.size,i.bytes))=some (some (.int .i64 0),1,8):=by kernel_rfl
theorem Yc:Tryz.prog.underlying 4=some .bool:=by kernel_rfl
theorem QfH:tsh Tryz.prog 4=some (false,1):=by kernel_rfl
theorem QrH:(Tryz.prog.info? 4).map (fun i=>(i.zero,i.size,i.bytes))=some (some (.bool false),1,1):=by kernel_rfl
theorem Qgm:Tryz.prog.underlying 5=some (.int .u8):=by kernel_rfl
theorem YJ:tsh Tryz.prog 5=some (false,1):=by kernel_rfl
theorem Qss:zer Tryz.prog 5=some (.int .u8 0):=by kernel_rfl
theorem QrN:(Tryz.prog.info? 5).map (fun i=>(i.zero,i.size,i.bytes))=some (some (.int .u8 0),1,1):=by kernel_rfl
theorem Zc:Tryz.prog.underlying 9=some .string:=by kernel_rfl
theorem ZH:tsh Tryz.prog 9=some (false,1):=by kernel_rfl
theorem Yb:zer Tryz.prog 9=some (.string ByteArray.empty):=by kernel_rfl
theorem Y6:WG Tryz.prog 9 1=true:=by kernel_rfl
theorem Qrk:(Tryz.prog.info? 9).map (fun i=>(i.zero,i.size,i.bytes))=some (some (.string ByteArray.empty),1,16):=by kernel_rfl
theorem UF:Tryz.prog.underlying 22=some (.slice 5):=by kernel_rfl
theorem Qib:Tryz.prog.underlying 24=some (.slice 203):=by kernel_rfl
theorem QqS:tsh Tryz.prog 24=some (false,1):=by kernel_rfl
theorem Zd:Tryz.prog.underlying 25=some (.slice 9):=by kernel_rfl
theorem Qcr:tsh Tryz.prog 25=some (false,1):=by kernel_rfl
theorem Qho:Tryz.prog.underlying 26=some (.slice 136):=by kernel_rfl
theorem Xb:tsh Tryz.prog 28=some (true,3):=by kernel_rfl
theorem Xe:zer Tryz.prog 28=some (.agg #[.slice none 0 0, .slice none 0 0, .slice none 0 0]):=by kernel_rfl
theorem Qd9:bld Tryz.prog 28 [(0,1),(1,1),(2,1)] (.pr (.sl 203 (.pr .str .int)) (.pr (.sl 9 .str) (.sl 136 (.pr .int (.pr .int (.pr .bool .int)))))):=Xc Tryz.underlying28 (by kernel_rfl) Xe
theorem Xq:Tryz.prog.underlying 35=some (.slice 3):=by kernel_rfl
theorem Uo:tsh Tryz.prog 35=some (false,1):=by kernel_rfl
theorem Qqj:(Tryz.prog.info? 35).map (fun i=>(i.zero,i.size,i.bytes))=some (some (.slice none 0 0),1,24):=by kernel_rfl
theorem Ze:zer Tryz.prog 47=some (.agg #[.slice none 0 0, .slice none 0 0]):=by kernel_rfl
theorem UO:bld Tryz.prog 47 [(0,1),(1,1)] (.pr (.sl 9 .str) (.sl 9 .str)):=Xc Tryz.underlying47 (by kernel_rfl) Ze
theorem HT:Tryz.prog.underlying 78=some (.slice 237):=by kernel_rfl
theorem Qnu:tsh Tryz.prog 78=some (false,1):=by kernel_rfl
theorem Qes:tsh Tryz.prog 80=some (true,2):=by kernel_rfl
theorem Hz:zer Tryz.prog 80=some (.agg #[.int .i64 0, .slice none 0 0]):=by kernel_rfl
theorem Qeb:bld Tryz.prog 80 [(0,1),(1,1)] (.pr .int (.sl 237 (.pr (.sl 3 .int) (.sl 3 .int)))):=Xc Tryz.underlying80 (by kernel_rfl) Hz
theorem QqB:Tryz.prog.underlying 81=some (.slice 120):=by kernel_rfl
theorem Qlx:tsh Tryz.prog 81=some (false,1):=by kernel_rfl
theorem Yj:tsh Tryz.prog 83=some (true,5):=by kernel_rfl
theorem KP:zer Tryz.prog 83=some (.agg #[.int .i64 0, .slice none 0 0, .slice none 0 0, .slice none 0 0, .string ByteArray.empty]):=by kernel_rfl
theorem Qbo:bld Tryz.prog 83 [(0,2),(2,1),(3,1),(4,1)] (.pr (.pr .int (.sl 237 (.pr (.sl 3 .int) (.sl 3 .int)))) (.pr (.sl 203 (.pr .str .int)) (.pr (.sl 120 (.pr .int .bool)) .str))):=Xc Tryz.underlying83 (by kernel_rfl) KP
theorem QeC:Tryz.prog.underlying 91=some (.int .u64):=by kernel_rfl
theorem XH:zer Tryz.prog 120=some (.agg #[.int .i64 0, .bool false]):=by kernel_rfl
theorem Jy:WG Tryz.prog 120 2=true:=by kernel_rfl
theorem UX:bld Tryz.prog 120 [(0,1),(1,1)] (.pr .int .bool):=Xc Tryz.underlying120 (by kernel_rfl) XH
theorem QeJ:Tryz.prog.underlying 123=some (.slice 35):=by kernel_rfl
theorem QnZ:Tryz.prog.underlying 128=some (.slice 4):=by kernel_rfl
theorem Qeh:tsh Tryz.prog 136=some (true,4):=by kernel_rfl
theorem QdG:fld Tryz.prog 136 2=some 2:=by kernel_rfl
theorem QkP:fld Tryz.prog 136 3=some 3:=by kernel_rfl
theorem V0:zer Tryz.prog 136=some (.agg #[.int .i64 0, .int .i64 0, .bool false, .int .i64 0]):=by kernel_rfl
theorem Qoy:WG Tryz.prog 136 4=true:=by kernel_rfl
theorem QnQ:bld Tryz.prog 136 [(0,1),(1,1),(2,1),(3,1)] (.pr .int (.pr .int (.pr .bool .int))):=Xc Tryz.underlying136 (by kernel_rfl) V0
theorem Qek:zer Tryz.prog 178=some (.agg #[.slice none 0 0, .slice none 0 0]):=by kernel_rfl
theorem Qa3:bld Tryz.prog 178 [(0,1),(1,1)] (.pr (.sl 9 .str) (.sl 184 (.pr .int (.pr .int .int)))):=Xc Tryz.underlying178 (by kernel_rfl) Qek
theorem VQ:zer Tryz.prog 184=some (.agg #[.int .i64 0, .int .i64 0, .int .i64 0]):=by kernel_rfl
theorem Qeg:WG Tryz.prog 184 3=true:=by kernel_rfl
theorem QaK:bld Tryz.prog 184 [(0,1),(1,1),(2,1)] (.pr .int (.pr .int .int)):=Xc Tryz.underlying184 (by kernel_rfl) VQ
theorem JV:zer Tryz.prog 203=some (.agg #[.string ByteArray.empty, .int .i64 0]):=by kernel_rfl
theorem QaN:WG Tryz.prog 203 2=true:=by kernel_rfl
theorem Qoi:bld Tryz.prog 203 [(0,1),(1,1)] (.pr .str .int):=Xc Tryz.underlying203 (by kernel_rfl) JV
theorem UZ:tsh Tryz.prog 237=some (true,2):=by kernel_rfl
theorem Qc9:fld Tryz.prog 237 0=some 0:=by kernel_rfl
theorem Qdk:fld Tryz.prog 237 1=some 1:=by kernel_rfl
theorem V2:zer Tryz.prog 237=some (.agg #[.slice none 0 0, .slice none 0 0]):=by kernel_rfl
theorem QaZ:WG Tryz.prog 237 2=true:=by kernel_rfl
theorem Qa4:bld Tryz.prog 237 [(0,1),(1,1)] (.pr (.sl 3 .int) (.sl 3 .int)):=Xc Tryz.underlying237 (by kernel_rfl) V2
theorem QaO:zer Tryz.prog 245=some (.agg #[.slice none 0 0, .slice none 0 0, .slice none 0 0, .int .i64 0, .int .i64 0, .bool false]):=by kernel_rfl
theorem QoX:bld Tryz.prog 245 [(0,2),(2,1),(3,1),(4,1),(5,1)] (.pr (.pr (.sl 9 .str) (.sl 184 (.pr .int (.pr .int .int)))) (.pr (.sl 184 (.pr .int (.pr .int .int))) (.pr .int (.pr .int .bool)))):=Xc Tryz.underlying245 (by kernel_rfl) QaO
theorem QeK:Tryz.prog.underlying 252=some (.int .u64):=by kernel_rfl
theorem Qa6:zer Tryz.prog 258=some (.agg #[.int .i64 0, .int .i64 0]):=by kernel_rfl
theorem Qo1:WG Tryz.prog 258 2=true:=by kernel_rfl
theorem QoL:bld Tryz.prog 258 [(0,1),(1,1)] (.pr .int .int):=Xc Tryz.underlying258 (by kernel_rfl) Qa6
theorem Qn8:zer Tryz.prog 264=some (.agg #[.slice none 0 0, .slice none 0 0, .bool false]):=by kernel_rfl
theorem Qo4:bld Tryz.prog 264 [(0,1),(1,1),(2,1)] (.pr (.sl 9 .str) (.pr (.sl 9 .str) .bool)):=Xc Tryz.underlying264 (by kernel_rfl) Qn8
theorem Qoz:zer Tryz.prog 270=some (.agg #[.slice none 0 0, .slice none 0 0, .slice none 0 0, .bool false]):=by kernel_rfl
theorem Qo5:bld Tryz.prog 270 [(0,1),(1,1),(2,1),(3,1)] (.pr (.sl 9 .str) (.pr (.sl 9 .str) (.pr (.sl 9 .str) .bool))):=Xc Tryz.underlying270 (by kernel_rfl) Qoz
theorem QnT:zer Tryz.prog 274=some (.agg #[.int .i64 0, .slice none 0 0, .slice none 0 0, .slice none 0 0, .string ByteArray.empty, .slice none 0 0, .slice none 0 0]):=by kernel_rfl
theorem QnL:bld Tryz.prog 274 [(0,5),(5,1),(6,1)] (.pr (.pr (.pr .int (.sl 237 (.pr (.sl 3 .int) (.sl 3 .int)))) (.pr (.sl 203 (.pr .str .int)) (.pr (.sl 120 (.pr .int .bool)) .str))) (.pr (.sl 9 .str) (.sl 9 .str))):=Xc Tryz.underlying274 (by kernel_rfl) QnT
theorem Qll:Qe Tryz.prog 7:=fun args W=>Qc Tryz.func7 (by kernel_rfl) rfl args W
theorem QdF:Qe Tryz.prog 11:=fun args W=>Qc Tryz.func11 (by kernel_rfl) rfl args W
theorem HR:Qe Tryz.prog 12:=fun args W=>Qc Tryz.func12 (by kernel_rfl) rfl args W
theorem QdE:Qe Tryz.prog 18:=fun args W=>Qc Tryz.func18 (by kernel_rfl) rfl args W
theorem QkG:Qe Tryz.prog 21:=fun args W=>Qc Tryz.func21 (by kernel_rfl) rfl args W
theorem Vn:Qe Tryz.prog 24:=fun args W=>Qc Tryz.func24 (by kernel_rfl) rfl args W
theorem QdD:Qe Tryz.prog 26:=fun args W=>Qc Tryz.func26 (by kernel_rfl) rfl args W
theorem Hy:Qe Tryz.prog 27:=fun args W=>Qc Tryz.func27 (by kernel_rfl) rfl args W
theorem Qdf:Qe Tryz.prog 28:=fun args W=>Qc Tryz.func28 (by kernel_rfl) rfl args W
theorem HG:Qe Tryz.prog 29:=fun args W=>Qc Tryz.func29 (by kernel_rfl) rfl args W
theorem HU:Qe Tryz.prog 30:=fun args W=>Qc Tryz.func30 (by kernel_rfl) rfl args W
theorem Hn:Qe Tryz.prog 31:=fun args W=>Qc Tryz.func31 (by kernel_rfl) rfl args W
theorem He:Qe Tryz.prog 32:=fun args W=>Qc Tryz.func32 (by kernel_rfl) rfl args W
theorem Ht:Qe Tryz.prog 33:=fun args W=>Qc Tryz.func33 (by kernel_rfl) rfl args W
theorem Qkf:Qe Tryz.prog 34:=fun args W=>Qc Tryz.func34 (by kernel_rfl) rfl args W
theorem Qc8:Qe Tryz.prog 35:=fun args W=>Qc Tryz.func35 (by kernel_rfl) rfl args W
theorem QdJ:Qe Tryz.prog 36:=fun args W=>Qc Tryz.func36 (by kernel_rfl) rfl args W
theorem QdT:Qe Tryz.prog 59:=fun args W=>Qc Tryz.func59 (by kernel_rfl) rfl args W
theorem Qkj:Qe Tryz.prog 61:=fun args W=>Qc Tryz.func61 (by kernel_rfl) rfl args W
theorem Qc4:Qe Tryz.prog 62:=fun args W=>Qc Tryz.func62 (by kernel_rfl) rfl args W
theorem Qdh:Qe Tryz.prog 63:=fun args W=>Qc Tryz.func63 (by kernel_rfl) rfl args W
theorem Hj:Qe Tryz.prog 66:=fun args W=>Qc Tryz.func66 (by kernel_rfl) rfl args W
theorem Qj9:Qe Tryz.prog 67:=fun args W=>Qc Tryz.func67 (by kernel_rfl) rfl args W
theorem Qc1:Qe Tryz.prog 69:=fun args W=>Qc Tryz.func69 (by kernel_rfl) rfl args W
theorem QkS:Qe Tryz.prog 71:=fun args W=>Qc Tryz.func71 (by kernel_rfl) rfl args W
theorem UY:Qe Tryz.prog 72:=fun args W=>Qc Tryz.func72 (by kernel_rfl) rfl args W
theorem QdC:Qe Tryz.prog 76:=fun args W=>Qc Tryz.func76 (by kernel_rfl) rfl args W
theorem QkC:Qe Tryz.prog 77:=fun args W=>Qc Tryz.func77 (by kernel_rfl) rfl args W
theorem Qj5:Qe Tryz.prog 78:=fun args W=>Qc Tryz.func78 (by kernel_rfl) rfl args W
theorem Qk2:Qe Tryz.prog 79:=fun args W=>Qc Tryz.func79 (by kernel_rfl) rfl args W
theorem Z4:Qe Tryz.prog 81:=fun args W=>Qc Tryz.func81 (by kernel_rfl) rfl args W
theorem Qdz:Qe Tryz.prog 83:=fun args W=>Qc Tryz.func83 (by kernel_rfl) rfl args W
theorem Qd2:Qe Tryz.prog 84:=fun args W=>Qc Tryz.func84 (by kernel_rfl) rfl args W
theorem Qdb:Qe Tryz.prog 86:=fun args W=>Qc Tryz.func86 (by kernel_rfl) rfl args W
theorem Qdq:Qe Tryz.prog 87:=fun args W=>Qc Tryz.func87 (by kernel_rfl) rfl args W
theorem QjP:Qe Tryz.prog 88:=fun args W=>Qc Tryz.func88 (by kernel_rfl) rfl args W
theorem Qc5:Qe Tryz.prog 89:=fun args W=>Qc Tryz.func89 (by kernel_rfl) rfl args W
theorem Qdt:Qe Tryz.prog 90:=fun args W=>Qc Tryz.func90 (by kernel_rfl) rfl args W
theorem Hh:Qe Tryz.prog 91:=fun args W=>Qc Tryz.func91 (by kernel_rfl) rfl args W
theorem Qdj:Qe Tryz.prog 92:=fun args W=>Qc Tryz.func92 (by kernel_rfl) rfl args W
theorem Qkq:Qe Tryz.prog 93:=fun args W=>Qc Tryz.func93 (by kernel_rfl) rfl args W
theorem ZG:Qe Tryz.prog 94:=fun args W=>Qc Tryz.func94 (by kernel_rfl) rfl args W
theorem U9:Qe Tryz.prog 95:=fun args W=>Qc Tryz.func95 (by kernel_rfl) rfl args W
theorem Qku:Qe Tryz.prog 96:=fun args W=>Qc Tryz.func96 (by kernel_rfl) rfl args W
theorem QgD:Qe Tryz.prog 103:=fun args W=>Qc Tryz.func103 (by kernel_rfl) rfl args W
theorem QbS:Qe Tryz.prog 116:=fun args W=>Qc Tryz.func116 (by kernel_rfl) rfl args W
theorem QcF:Qe Tryz.prog 122:=fun args W=>Qc Tryz.func122 (by kernel_rfl) rfl args W
theorem XG:Qe Tryz.prog 132:=fun args W=>Qc Tryz.func132 (by kernel_rfl) rfl args W
theorem VL:Qe Tryz.prog 141:=fun args W=>Qc Tryz.func141 (by kernel_rfl) rfl args W
theorem QgC:Qe Tryz.prog 144:=fun args W=>Qc Tryz.func144 (by kernel_rfl) rfl args W
theorem Qg1:Qe Tryz.prog 145:=fun args W=>Qc Tryz.func145 (by kernel_rfl) rfl args W
theorem QbN:Qe Tryz.prog 146:=fun args W=>Qc Tryz.func146 (by kernel_rfl) rfl args W
theorem Wm:Qe Tryz.prog 150:=fun args W=>Qc Tryz.func150 (by kernel_rfl) rfl args W
theorem QgP:Qe Tryz.prog 151:=fun args W=>Qc Tryz.func151 (by kernel_rfl) rfl args W
theorem Qh3:Qe Tryz.prog 152:=fun args W=>Qc Tryz.func152 (by kernel_rfl) rfl args W
theorem QgO:Qe Tryz.prog 153:=fun args W=>Qc Tryz.func153 (by kernel_rfl) rfl args W
theorem Qh2:Qe Tryz.prog 154:=fun args W=>Qc Tryz.func154 (by kernel_rfl) rfl args W
theorem Qcm:Qe Tryz.prog 155:=fun args W=>Qc Tryz.func155 (by kernel_rfl) rfl args W
theorem QhW:Qe Tryz.prog 156:=fun args W=>Qc Tryz.func156 (by kernel_rfl) rfl args W
theorem Qg0:Qe Tryz.prog 157:=fun args W=>Qc Tryz.func157 (by kernel_rfl) rfl args W
theorem Qiq:Qe Tryz.prog 158:=fun args W=>Qc Tryz.func158 (by kernel_rfl) rfl args W
theorem Qht:Qe Tryz.prog 159:=fun args W=>Qc Tryz.func159 (by kernel_rfl) rfl args W
theorem XE:Qe Tryz.prog 160:=fun args W=>Qc Tryz.func160 (by kernel_rfl) rfl args W
theorem Qha:Qe Tryz.prog 161:=fun args W=>Qc Tryz.func161 (by kernel_rfl) rfl args W
theorem Qgz:Qe Tryz.prog 162:=fun args W=>Qc Tryz.func162 (by kernel_rfl) rfl args W
theorem Qcn:Qe Tryz.prog 163:=fun args W=>Qc Tryz.func163 (by kernel_rfl) rfl args W
theorem Qh1:Qe Tryz.prog 164:=fun args W=>Qc Tryz.func164 (by kernel_rfl) rfl args W
theorem QhG:Qe Tryz.prog 165:=fun args W=>Qc Tryz.func165 (by kernel_rfl) rfl args W
theorem Qig:Qe Tryz.prog 166:=fun args W=>Qc Tryz.func166 (by kernel_rfl) rfl args W
theorem Qg6:Qe Tryz.prog 167:=fun args W=>Qc Tryz.func167 (by kernel_rfl) rfl args W
theorem Qhg:Qe Tryz.prog 168:=fun args W=>Qc Tryz.func168 (by kernel_rfl) rfl args W
theorem Qip:Qe Tryz.prog 169:=fun args W=>Qc Tryz.func169 (by kernel_rfl) rfl args W
theorem V3:Qe Tryz.prog 170:=fun args W=>Qc Tryz.func170 (by kernel_rfl) rfl args W
theorem QbO:Qe Tryz.prog 172:=fun args W=>Qc Tryz.func172 (by kernel_rfl) rfl args W
theorem Qhb:Qe Tryz.prog 173:=fun args W=>Qc Tryz.func173 (by kernel_rfl) rfl args W
theorem Wz:Qe Tryz.prog 174:=fun args W=>Qc Tryz.func174 (by kernel_rfl) rfl args W
theorem K0:Qe Tryz.prog 175:=fun args W=>Qc Tryz.func175 (by kernel_rfl) rfl args W
theorem QhV:Qe Tryz.prog 176:=fun args W=>Qc Tryz.func176 (by kernel_rfl) rfl args W
theorem QgW:Qe Tryz.prog 177:=fun args W=>Qc Tryz.func177 (by kernel_rfl) rfl args W
theorem Qb9:Qe Tryz.prog 178:=fun args W=>Qc Tryz.func178 (by kernel_rfl) rfl args W
theorem Qhk:Qe Tryz.prog 179:=fun args W=>Qc Tryz.func179 (by kernel_rfl) rfl args W
theorem Qb8:Qe Tryz.prog 180:=fun args W=>Qc Tryz.func180 (by kernel_rfl) rfl args W
theorem Qih:Qe Tryz.prog 181:=fun args W=>Qc Tryz.func181 (by kernel_rfl) rfl args W
theorem Qhy:Qe Tryz.prog 182:=fun args W=>Qc Tryz.func182 (by kernel_rfl) rfl args W
theorem Qhw:Qe Tryz.prog 183:=fun args W=>Qc Tryz.func183 (by kernel_rfl) rfl args W
theorem QhU:Qe Tryz.prog 184:=fun args W=>Qc Tryz.func184 (by kernel_rfl) rfl args W
theorem Qhh:Qe Tryz.prog 185:=fun args W=>Qc Tryz.func185 (by kernel_rfl) rfl args W
theorem Qcf:Qe Tryz.prog 187:=fun args W=>Qc Tryz.func187 (by kernel_rfl) rfl args W
theorem Zy:Qe Tryz.prog 188:=fun args W=>Qc Tryz.func188 (by kernel_rfl) rfl args W
theorem Qhn:Qe Tryz.prog 194:=fun args W=>Qc Tryz.func194 (by kernel_rfl) rfl args W
theorem Qh5:Qe Tryz.prog 199:=fun args W=>Qc Tryz.func199 (by kernel_rfl) rfl args W
theorem QhL:Qe Tryz.prog 202:=fun args W=>Qc Tryz.func202 (by kernel_rfl) rfl args W
theorem Qa7:Qe Tryz.prog 203:=fun args W=>Qc Tryz.func203 (by kernel_rfl) rfl args W
theorem Qg2:Qe Tryz.prog 205:=fun args W=>Qc Tryz.func205 (by kernel_rfl) rfl args W
theorem KG:Qe Tryz.prog 211:=fun args W=>Qc Tryz.func211 (by kernel_rfl) rfl args W
theorem Qhi:Qe Tryz.prog 230:=fun args W=>Qc Tryz.func230 (by kernel_rfl) rfl args W
theorem KO:Qe Tryz.prog 231:=fun args W=>Qc Tryz.func231 (by kernel_rfl) rfl args W
theorem QhA:Qe Tryz.prog 234:=fun args W=>Qc Tryz.func234 (by kernel_rfl) rfl args W
theorem WA:Qe Tryz.prog 235:=fun args W=>Qc Tryz.func235 (by kernel_rfl) rfl args W
theorem QhS:Qe Tryz.prog 241:=fun args W=>Qc Tryz.func241 (by kernel_rfl) rfl args W
theorem Qg3:Qe Tryz.prog 245:=fun args W=>Qc Tryz.func245 (by kernel_rfl) rfl args W
theorem QgV:Qe Tryz.prog 246:=fun args W=>Qc Tryz.func246 (by kernel_rfl) rfl args W
theorem Ua:Qe Tryz.prog 248:=fun args W=>Qc Tryz.func248 (by kernel_rfl) rfl args W
theorem Qgx:Qe Tryz.prog 249:=fun args W=>Qc Tryz.func249 (by kernel_rfl) rfl args W
theorem QbK:Qe Tryz.prog 250:=fun args W=>Qc Tryz.func250 (by kernel_rfl) rfl args W
theorem Qh0:Qe Tryz.prog 251:=fun args W=>Qc Tryz.func251 (by kernel_rfl) rfl args W
theorem Zu:Qe Tryz.prog 252:=fun args W=>Qc Tryz.func252 (by kernel_rfl) rfl args W
theorem Qcg:Qe Tryz.prog 253:=fun args W=>Qc Tryz.func253 (by kernel_rfl) rfl args W
theorem QhE:Qe Tryz.prog 254:=fun args W=>Qc Tryz.func254 (by kernel_rfl) rfl args W
theorem Qbh:Qe Tryz.prog 255:=fun args W=>Qc Tryz.func255 (by kernel_rfl) rfl args W
theorem Qif:Qe Tryz.prog 256:=fun args W=>Qc Tryz.func256 (by kernel_rfl) rfl args W
theorem Qbp:Qe Tryz.prog 257:=fun args W=>Qc Tryz.func257 (by kernel_rfl) rfl args W
theorem Qbr:Qe Tryz.prog 258:=fun args W=>Qc Tryz.func258 (by kernel_rfl) rfl args W
theorem Jd:Qe Tryz.prog 259:=fun args W=>Qc Tryz.func259 (by kernel_rfl) rfl args W
theorem Qiv:Qe Tryz.prog 260:=fun args W=>Qc Tryz.func260 (by kernel_rfl) rfl args W
theorem Qhz:Qe Tryz.prog 284:=fun args W=>Qc Tryz.func284 (by kernel_rfl) rfl args W
theorem QcG:Qe Tryz.prog 287:=fun args W=>Qc Tryz.func287 (by kernel_rfl) rfl args W
theorem Qhf:Qe Tryz.prog 289:=fun args W=>Qc Tryz.func289 (by kernel_rfl) rfl args W
theorem Qic:Qe Tryz.prog 290:=fun args W=>Qc Tryz.func290 (by kernel_rfl) rfl args W
theorem QhK:Qe Tryz.prog 291:=fun args W=>Qc Tryz.func291 (by kernel_rfl) rfl args W
theorem Qij:Qe Tryz.prog 304:=fun args W=>Qc Tryz.func304 (by kernel_rfl) rfl args W
theorem QhT:Qe Tryz.prog 306:=fun args W=>Qc Tryz.func306 (by kernel_rfl) rfl args W
theorem Qbg:Qe Tryz.prog 307:=fun args W=>Qc Tryz.func307 (by kernel_rfl) rfl args W
theorem QbG:Qe Tryz.prog 308:=fun args W=>Qc Tryz.func308 (by kernel_rfl) rfl args W
theorem KS:Qe Tryz.prog 309:=fun args W=>Qc Tryz.func309 (by kernel_rfl) rfl args W
theorem Qh4:Qe Tryz.prog 310:=fun args W=>Qc Tryz.func310 (by kernel_rfl) rfl args W
theorem KX:Qe Tryz.prog 311:=fun args W=>Qc Tryz.func311 (by kernel_rfl) rfl args W
theorem QgH:Qe Tryz.prog 312:=fun args W=>Qc Tryz.func312 (by kernel_rfl) rfl args W
theorem Qbe:Qe Tryz.prog 313:=fun args W=>Qc Tryz.func313 (by kernel_rfl) rfl args W
theorem K9:Qe Tryz.prog 314:=fun args W=>Qc Tryz.func314 (by kernel_rfl) rfl args W
theorem Qh7:Qe Tryz.prog 315:=fun args W=>Qc Tryz.func315 (by kernel_rfl) rfl args W
theorem Qim:Qe Tryz.prog 316:=fun args W=>Qc Tryz.func316 (by kernel_rfl) rfl args W
theorem QgQ:Qe Tryz.prog 317:=fun args W=>Qc Tryz.func317 (by kernel_rfl) rfl args W
theorem QbD:Qe Tryz.prog 318:=fun args W=>Qc Tryz.func318 (by kernel_rfl) rfl args W
theorem Qbx:Qe Tryz.prog 319:=fun args W=>Qc Tryz.func319 (by kernel_rfl) rfl args W
theorem QgI:Qe Tryz.prog 338:=fun args W=>Qc Tryz.func338 (by kernel_rfl) rfl args W
theorem QbF:Qe Tryz.prog 353:=fun args W=>Qc Tryz.func353 (by kernel_rfl) rfl args W
theorem Qg7:Qe Tryz.prog 354:=fun args W=>Qc Tryz.func354 (by kernel_rfl) rfl args W
theorem Qhj:Qe Tryz.prog 355:=fun args W=>Qc Tryz.func355 (by kernel_rfl) rfl args W
theorem QgR:Qe Tryz.prog 359:=fun args W=>Qc Tryz.func359 (by kernel_rfl) rfl args W
theorem QhD:Qe Tryz.prog 360:=fun args W=>Qc Tryz.func360 (by kernel_rfl) rfl args W
theorem QhH:Qe Tryz.prog 361:=fun args W=>Qc Tryz.func361 (by kernel_rfl) rfl args W
theorem QgZ:Qe Tryz.prog 377:=fun args W=>Qc Tryz.func377 (by kernel_rfl) rfl args W
theorem Qbn:Qe Tryz.prog 378:=fun args W=>Qc Tryz.func378 (by kernel_rfl) rfl args W
theorem Qis:Qe Tryz.prog 381:=fun args W=>Qc Tryz.func381 (by kernel_rfl) rfl args W
end Go.Proofs.YtfkmmpfdncopdaaGreat
namespace Go.Proofs.YtfkmmpfdncopdaaGreat
open Go.RowKit
@[reducible] def Is (pv:PV) (T:Tab):PV→Tab→Prop:=fun p T'=>p=pv∧T'=T
def FrL (s:St)(n:Nat):List Nat→Prop
  | []=>True
  | q :: l=>Fresh s (n+q)∧FrL s n l
theorem FrL.get {s:St}{n:Nat}{l:List Nat}(h:FrL s n l):∀q∈l,Fresh s (n+q):=by
  induction l with
  | nil=>simp
  | cons q l ih=>
    intro r hr
    rcases aE.1 hr with rfl | hr
    · exact h.1
    · exact ih h.2 r hr
section
variable {A:Amb}{P:Program}{s:St}
variable {f:FuncId}{xs:List Operand}{tys:Array TypeId}{args:List (Bool×List LV)}{d:Nat}{ty:TypeId}{pos:String}{af:Array Edge}{g:Option (Nat×Bool)}{pv:PV}{T:Tab}
theorem KF (n:Nat)(hc:FC P f args [] 0 (Is pv T))(hE:Qe P f)(ha:EvL A s xs args)(hcl:Yd pv T=true)(hn:Nat.blt d A.n=true)(hfr:FrL s n (Zz T))(hk0:A.k0≤n):
    Does A P ⟨some d, .call ⟨.value (.func f),xs.toArray,tys⟩,ty,pos,af,g⟩ s (s.back d n pv T):=
  fun a w K Q r hK=>DoesT.call n hc hE ha (by rintro _ _ ⟨rfl,rfl⟩; exact hcl) (by rintro _ _ ⟨rfl,rfl⟩ q ⟨e,hq⟩; exact hfr.get q (Zb hq).1) hk0 hn a w K Q r (by
    rintro s' a' w' ⟨_,_,⟨rfl,rfl⟩,rfl⟩ r'
    exact hK _ _ r')
theorem Qac (n:Nat)(hc:FC P f args [] 0 (Is pv T))(hE:Qe P f)(ha:EvLB A s xs args)(hcl:Yd pv T=true)(hf:(pv.fl&&T.fl)=true)(hn:Nat.blt d A.n=true)(hfr:FrL s n (Zz T))(hk0:A.k0≤n):
    Does A P ⟨some d, .call ⟨.value (.func f),xs.toArray,tys⟩,ty,pos,af,g⟩ s (s.back d n pv T):=
  fun a w K Q r hK=>UU n hc hE ha (by rintro _ _ ⟨rfl,rfl⟩; exact hcl) (by rintro _ _ ⟨rfl,rfl⟩; simpa using hf) (by rintro _ _ ⟨rfl,rfl⟩ q ⟨e,hq⟩; exact hfr.get q (Zb hq).1) hk0 hn a w K Q r (by
    rintro s' a' w' ⟨_,_,⟨rfl,rfl⟩,rfl⟩ r'
    exact hK _ _ r')
theorem QpN {fn:Func}{k:Nat}(pv:PV)(T':Tab)(ρ:List (Nat×Nat)){pv0:PV}(h1:Res A P fn s pv0)(h0:pv0=pv.ren (rn ρ))(h2:HasE ⟨[],s.tab⟩ ρ T')(h3:XY (T'.map fun x=>rn ρ x.1)=true)(h4:idB ρ k=true):fin A P fn (K4 (Is pv T') k) .ret s:=
  QaQ pv T' ρ (h0▸h1) h2 h3 h4 ⟨rfl,rfl⟩
end
def LV.thaw (T:Tab):LV→LV
  | .ref q=>match T.ent q with
    | some (.arr E e xs)=> .dat (.sl E e) xs
    | _=> .ref q
  | l=>l
def PV.thaw (T:Tab):PV→PV
  | .cm b ls=> .cm b (ls.map (LV.thaw T))
  | .tup cs=> .tup (cs.map fun c=>(c.1,c.2.map (LV.thaw T)))
section
variable {T:Tab}{gh:Gh}{w:World}
theorem LVR.thaw (cx:Cx T gh w){l:LV}{v:Value}(h:LVR T.al gh w l v):LVR (Tab.al []) ⟨gh.h,gh.f,fun g=>gh.N g∨∃q,T.al q∧g∈gh.f q⟩ w (l.thaw T) v:=by
  have hm:∀l,LVR T.al gh w l v→LVR (Tab.al []) ⟨gh.h,gh.f,fun g=>gh.N g∨∃q,T.al q∧g∈gh.f q⟩ w l v:=fun l h=>h.mono (fun q _ h=>absurd h (ZJ q)) fun g hg=>⟨.inl hg,rfl⟩
  cases l with
  | ref q=>
    simp only[LV.thaw]
    split
    · rename_i E e xs he
      have hv:v=gh.h q:=h ⟨_,he⟩
      have hO:Own (.sl E e) w (gh.f q) [gh.h q] xs:=cx.en q _ he
      rw[hv]
      exact hO.rd fun g hg=> .inr ⟨q,⟨_,he⟩,hg⟩
    · exact hm _ h
  | _=>exact hm _ h
theorem LVs.thaw (cx:Cx T gh w){ls:List LV}{vs:List Value}(h:LVs T.al gh w ls vs):LVs (Tab.al []) ⟨gh.h,gh.f,fun g=>gh.N g∨∃q,T.al q∧g∈gh.f q⟩ w (ls.map (LV.thaw T)) vs:=by
  induction ls generalizing vs with
  | nil=>exact h
  | cons l ls ih=>obtain ⟨v,vs',rfl,h1,h2⟩:=h; exact ⟨v,_,rfl,h1.thaw cx,ih h2⟩
theorem CmR.thaw (cx:Cx T gh w){c:Bool×List LV}{v:Value}(h:CmR T.al gh w c v):CmR (Tab.al []) ⟨gh.h,gh.f,fun g=>gh.N g∨∃q,T.al q∧g∈gh.f q⟩ w (c.1,c.2.map (LV.thaw T)) v:=by
  obtain ⟨b,ls⟩:=c
  cases b with
  | true=>obtain ⟨vs,rfl,h1⟩:=h; exact ⟨vs,rfl,h1.thaw cx⟩
  | false=>obtain ⟨l,rfl,h1⟩:=h; exact ⟨_,rfl,h1.thaw cx⟩
theorem PVR.thaw (cx:Cx T gh w){pv:PV}{v:Value}(h:PVR T.al gh w pv v):PVR (Tab.al []) ⟨gh.h,gh.f,fun g=>gh.N g∨∃q,T.al q∧g∈gh.f q⟩ w (pv.thaw T) v:=by
  cases pv with
  | cm b ls=>exact CmR.thaw cx (c:=(b,ls)) h
  | tup cs=>
    obtain ⟨vs,rfl,h1⟩:=h
    refine ⟨vs,rfl, ?_⟩
    induction cs generalizing vs with
    | nil=>exact h1
    | cons c cs ih=>obtain ⟨v,vs',rfl,h2,h3⟩:=h1; exact ⟨v,_,rfl,h2.thaw cx,ih _ h3⟩
end
theorem FC.frozenG {P:Program}{f:FuncId}{args:List (Bool×List LV)}{pv:PV}{T:Tab}(h:FC P f args [] 0 (Is pv T)):FC P f args [] 0 (QH (pv.thaw T)):=fun gh w vs cx ha=>
  Calls.mono (h gh w vs cx ha) fun e' w' he=>by
    obtain ⟨v,pv',T',gh',rfl,⟨rfl,rfl⟩,cx',hp,fr,_⟩:=he
    refine ⟨v,_,[],_,rfl,⟨rfl,rfl⟩,Wh ZJ _ _ fun g hg=> ?_,hp.thaw cx',⟨fr.gw,fr.kp,fun g hg=> ?_,fun q hq=>absurd hq (ZJ q)⟩,fun q hq=>absurd hq (by omega)⟩
    · rcases hg with hg | ⟨q, hq, hg⟩
      · exact cx'.nl g hg
      · exact cx'.lt hq g hg
    · rcases hg with hg | ⟨q, hq, hg⟩
      · exact fr.nn g hg
      · rcases fr.ox q hq g hg with h | ⟨q', h, _⟩
        · exact .inr (.inl h)
        · exact absurd h (ZJ q')
theorem Qfo {A:Amb}{P:Program}{ops:Array Oper}{o:Oper}{s s1 s':St}(hg:o.guard=none)(h:Does A P o s s1)(e:s1=s'):Acts A P ops o s s':=e▸Acts.of hg h
theorem QjW {A:Amb}{P:Program}{ops:Array Oper}{o:Oper}{s s1 s':St}{j d:Nat}{b:Bool}(hg:o.guard=some (j,b))(hd:(ops[j]?).bind (·.dst)=some d)(hb:lk s.tm d=some (lf (dB b)))(h:Does A P o s s1)(e:s1=s'):Acts A P ops o s s':=e▸QlB hg hd hb h
section
variable {A:Amb}{s:St}
theorem Wk.nilS (t i:Nat)(E:TypeId)(e:Ty)(hi:lk s.tm i=some (lf (.val (.slice none 0 0))))(hfr:Fresh s t)(hk0:A.k0≤t):Wk A s ⟨(i,lf (.ref t)) :: s.tm,(t,some (.arr E e [])) :: s.tab⟩:=fun a w r=>by
  obtain ⟨gh,r⟩:=r
  obtain ⟨v,h1,l,h2,h3⟩:=r.tm i _ hi
  simp only[aI,and_true] at h2
  subst h2
  have hv:v= .slice none 0 0:=h3
  have r2:=r.make t hfr hk0 [] (by simp) (ZE w) (fun _ _ _=>rfl) (E:=E) (e:=e) (xs:=[]) (hv:= .slice none 0 0) (fp:=[]) (.inl ⟨rfl,rfl,rfl⟩) bt (by simp)
  exact ⟨_,r2.know h1 (pv:=lf (.ref t)) ⟨_,rfl,fun _=>by simp[hv]⟩⟩
theorem Qu (t:Nat){p off:Nat}{E':TypeId}{cs:List LV}(E:TypeId)(e:Ty)(hp:s.tab.ent p=some (.box E' cs))(ho:cs[off]? =some (.val (.slice none 0 0)))(hfr:Fresh s t)(hk0:A.k0≤t):
    Wk A s ⟨s.tm,(p,some (.box E' (splice cs off [.ref t]))) :: (t,some (.arr E e [])) :: s.tab⟩:=fun a w r=>by
  obtain ⟨gh,r⟩:=r
  have hne:p≠t:=fun h=>hfr.al ⟨_,h▸hp⟩
  obtain ⟨g,cur,h1,h2,h3,h4⟩:=r.cx.en p _ hp
  obtain ⟨v,h5,h6⟩:=h4.nth ho
  have hv:v= .slice none 0 0:=h6
  have r2:=r.make t hfr hk0 [] (by simp) (ZE w) (fun _ _ _=>rfl) (E:=E) (e:=e) (xs:=[]) (hv:= .slice none 0 0) (fp:=[]) (.inl ⟨rfl,rfl,rfl⟩) bt (by simp)
  have hp':Tab.ent ((t,some (.arr E e [])) :: (Uc []++s.tab)) p=some (.box E' cs):=by rw[Qh,if_neg hne]; exact hp
  obtain ⟨g',cur',k1,k2,k3,k4⟩:=r2.cx.en p _ hp'
  simp only[if_neg hne] at k1 k2
  rw[h1] at k1
  cases k1
  rw[h3] at k3
  cases k3
  have hD:LVs (Tab.al ((t,some (.arr E e [])) :: (Uc []++s.tab))) ⟨fun q=>if q=t then .slice none 0 0 else gh.h q,fun q=>if q=t then [] else gh.f q,gh.N⟩ w [.ref t] [v]:=⟨v,[],rfl,fun _=>by simp[hv],rfl⟩
  have hS:=k4.splice hD (off:=off)
  have hsame:cur.toList.take off++[v]++cur.toList.drop (off+[v].length)=cur.toList:=by
    have hl:=(ah.1 h5)
    obtain ⟨hl,hl2⟩:=hl
    conv=>rhs; rw[← bI (off+1) cur.toList,bN hl,hl2]
    rfl
  rw[hsame] at hS
  exact ⟨_,r2.mod hp' (ZE w) (fun _ _ _=>rfl) ⟨g,cur,by simp only[if_neg hne]; exact h1,by simp only[if_neg hne]; exact h2,h3,hS⟩⟩
end
end Go.Proofs.YtfkmmpfdncopdaaGreat
