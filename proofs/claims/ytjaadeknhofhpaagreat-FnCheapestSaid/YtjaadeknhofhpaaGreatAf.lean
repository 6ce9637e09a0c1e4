/- Closed facts on the types and functions of the program. -/
import Derived.Test.YtjaadeknhofhpaaGreatProg
import Derived.Test.YtjaadeknhofhpaaGreatAe
import Derived.Test.YtjaadeknhofhpaaGreatStr
set_option linter.unusedSimpArgs false
set_option linter.unusedVariables false
set_option linter.unusedSectionVars false
namespace Go.Proofs.YtjaadeknhofhpaaGreat
open Go.RowKit
theorem mixed:Tryz.prog.follows .mixedOrders=true:=by kernel_rfl
theorem Hy:Tryz.prog.underlying 3=some (.int .i64):=by kernel_rfl
theorem WK:tsh Tryz.prog 3=some (false,1):=by kernel_rfl
theorem YD:zer Tryz.prog 3=some (.int .i64 0):=by kernel_rfl
theorem XR:WL Tryz.prog 3 1=true:=by kernel_rfl
theorem Ql3:(Tryz.prog.info? 3).map (fun i=>(i.zero,i.size,i.bytes))=some (some (.int .i64 0),1,8):=by kernel_rfl
theorem JJ:Tryz.prog.underlying 4=some .bool:=by kernel_rfl
theorem Qa8:tsh Tryz.prog 4=some (false,1):=by kernel_rfl
theorem QuF:zer Tryz.prog 4=some (.bool false):=by kernel_rfl
theorem QsE:(Tryz.prog.info? 4).map (fun i=>(i.zero,i.size,i.bytes))=some (some (.bool false),1,1):=by kernel_rfl
theorem Ve:Tryz.prog.underlying 5=some (.int .u8):=by kernel_rfl
theorem Zi:tsh Tryz.prog 5=some (false,1):=by kernel_rfl
theorem Qdl:zer Tryz.prog 5=some (.int .u8 0):=by kernel_rfl
theorem QsH:WL Tryz.prog 5 1=true:=by kernel_rfl
theorem QsA:(Tryz.prog.info? 5).map (fun i=>(i.zero,i.size,i.bytes))=some (some (.int .u8 0),1,1):=by kernel_rfl
theorem Zo:Tryz.prog.underlying 9=some .string:=by kernel_rfl
theorem KT:tsh Tryz.prog 9=some (false,1):=by kernel_rfl
theorem U2:zer Tryz.prog 9=some (.string ByteArray.empty):=by kernel_rfl
theorem Qcd:WL Tryz.prog 9 1=true:=by kernel_rfl
theorem QuD:(Tryz.prog.info? 9).map (fun i=>(i.zero,i.size,i.bytes))=some (some (.string ByteArray.empty),1,16):=by kernel_rfl
theorem ZF:Tryz.prog.underlying 22=some (.slice 5):=by kernel_rfl
theorem QbR:Tryz.prog.underlying 23=some (.slice 198):=by kernel_rfl
theorem Qp2:tsh Tryz.prog 23=some (false,1):=by kernel_rfl
theorem Qdx:tsh Tryz.prog 25=some (true,2):=by kernel_rfl
theorem Qbt:zer Tryz.prog 25=some (.agg #[.int .i64 0, .slice none 0 0]):=by kernel_rfl
theorem Qgx:bld Tryz.prog 25 [(0,1),(1,1)] (.pr .int (.sl 198 (.pr (.sl 3 .int) (.sl 3 .int)))):=XN Tryz.underlying25 (by kernel_rfl) Qbt
theorem QbU:Tryz.prog.underlying 26=some (.slice 90):=by kernel_rfl
theorem Qs3:tsh Tryz.prog 26=some (false,1):=by kernel_rfl
theorem Qtb:Tryz.prog.underlying 27=some (.slice 55):=by kernel_rfl
theorem Qqe:tsh Tryz.prog 27=some (false,1):=by kernel_rfl
theorem YB:tsh Tryz.prog 29=some (true,5):=by kernel_rfl
theorem Qab:zer Tryz.prog 29=some (.agg #[.int .i64 0, .slice none 0 0, .slice none 0 0, .slice none 0 0, .string ByteArray.empty]):=by kernel_rfl
theorem QeQ:bld Tryz.prog 29 [(0,2),(2,1),(3,1),(4,1)] (.pr (.pr .int (.sl 198 (.pr (.sl 3 .int) (.sl 3 .int)))) (.pr (.sl 90 (.pr .str .int)) (.pr (.sl 55 (.pr .int .bool)) .str))):=XN Tryz.underlying29 (by kernel_rfl) Qab
theorem Qbw:Tryz.prog.underlying 49=some (.slice 9):=by kernel_rfl
theorem Qjs:tsh Tryz.prog 49=some (false,1):=by kernel_rfl
theorem VR:Tryz.prog.underlying 50=some (.slice 106):=by kernel_rfl
theorem UC:tsh Tryz.prog 50=some (false,1):=by kernel_rfl
theorem Q3:tsh Tryz.prog 52=some (true,3):=by kernel_rfl
theorem Jj:fld Tryz.prog 52 2=some 2:=by kernel_rfl
theorem ZS:zer Tryz.prog 52=some (.agg #[.slice none 0 0, .slice none 0 0, .slice none 0 0]):=by kernel_rfl
theorem Y4:bld Tryz.prog 52 [(0,1),(1,1),(2,1)] (.pr (.sl 90 (.pr .str .int)) (.pr (.sl 9 .str) (.sl 106 (.pr .int (.pr .int (.pr .bool .int)))))):=XN Tryz.underlying52 (by kernel_rfl) ZS
theorem Qeu:tsh Tryz.prog 55=some (true,2):=by kernel_rfl
theorem Ys:zer Tryz.prog 55=some (.agg #[.int .i64 0, .bool false]):=by kernel_rfl
theorem Qaa:WL Tryz.prog 55 2=true:=by kernel_rfl
theorem XM:bld Tryz.prog 55 [(0,1),(1,1)] (.pr .int .bool):=XN Tryz.underlying55 (by kernel_rfl) Ys
theorem Kv:tsh Tryz.prog 57=some (true,4):=by kernel_rfl
theorem WC:zer Tryz.prog 57=some (.agg #[.int .i64 0, .bool false, .int .i64 0, .bool false]):=by kernel_rfl
theorem QqY:WL Tryz.prog 57 4=true:=by kernel_rfl
theorem KK:bld Tryz.prog 57 [(0,2),(2,2)] (.pr (.pr .int .bool) (.pr .int .bool)):=XN Tryz.underlying57 (by kernel_rfl) WC
theorem Kx:Tryz.prog.underlying 79=some (.slice 95):=by kernel_rfl
theorem Vp:zer Tryz.prog 90=some (.agg #[.string ByteArray.empty, .int .i64 0]):=by kernel_rfl
theorem Jg:WL Tryz.prog 90 2=true:=by kernel_rfl
theorem Qlg:bld Tryz.prog 90 [(0,1),(1,1)] (.pr .str .int):=XN Tryz.underlying90 (by kernel_rfl) Vp
theorem YZ:Tryz.prog.underlying 95=some (.slice 3):=by kernel_rfl
theorem X4:tsh Tryz.prog 95=some (false,1):=by kernel_rfl
theorem Qbx:zer Tryz.prog 95=some (.slice none 0 0):=by kernel_rfl
theorem Qpw:WL Tryz.prog 95 1=true:=by kernel_rfl
theorem Qo8:(Tryz.prog.info? 95).map (fun i=>(i.zero,i.size,i.bytes))=some (some (.slice none 0 0),1,24):=by kernel_rfl
theorem Wv:tsh Tryz.prog 106=some (true,4):=by kernel_rfl
theorem QfK:fld Tryz.prog 106 2=some 2:=by kernel_rfl
theorem QoH:fld Tryz.prog 106 3=some 3:=by kernel_rfl
theorem Za:zer Tryz.prog 106=some (.agg #[.int .i64 0, .int .i64 0, .bool false, .int .i64 0]):=by kernel_rfl
theorem Uh:WL Tryz.prog 106 4=true:=by kernel_rfl
theorem JV:bld Tryz.prog 106 [(0,1),(1,1),(2,1),(3,1)] (.pr .int (.pr .int (.pr .bool .int))):=XN Tryz.underlying106 (by kernel_rfl) Za
theorem QcS:Tryz.prog.underlying 119=some (.int .u64):=by kernel_rfl
theorem Qr4:tsh Tryz.prog 132=some (true,7):=by kernel_rfl
theorem Uj:zer Tryz.prog 132=some (.agg #[.int .i64 0, .bool false, .int .i64 0, .bool false, .slice none 0 0, .slice none 0 0, .slice none 0 0]):=by kernel_rfl
theorem Qsh:WL Tryz.prog 132 7=true:=by kernel_rfl
theorem QlU:bld Tryz.prog 132 [(0,4),(4,3)] (.pr (.pr (.pr .int .bool) (.pr .int .bool)) (.pr (.sl 90 (.pr .str .int)) (.pr (.sl 9 .str) (.sl 106 (.pr .int (.pr .int (.pr .bool .int))))))):=XN Tryz.underlying132 (by kernel_rfl) Uj
theorem Qhi:Tryz.prog.underlying 160=some (.slice 4):=by kernel_rfl
theorem Qc5:tsh Tryz.prog 164=some (true,2):=by kernel_rfl
theorem QgU:zer Tryz.prog 164=some (.agg #[.slice none 0 0, .slice none 0 0]):=by kernel_rfl
theorem QcU:bld Tryz.prog 164 [(0,1),(1,1)] (.pr (.sl 9 .str) (.sl 229 (.pr .int (.pr .int .int)))):=XN Tryz.underlying164 (by kernel_rfl) QgU
theorem JX:tsh Tryz.prog 198=some (true,2):=by kernel_rfl
theorem Qfs:fld Tryz.prog 198 0=some 0:=by kernel_rfl
theorem Qgq:fld Tryz.prog 198 1=some 1:=by kernel_rfl
theorem Ky:zer Tryz.prog 198=some (.agg #[.slice none 0 0, .slice none 0 0]):=by kernel_rfl
theorem Qc1:WL Tryz.prog 198 2=true:=by kernel_rfl
theorem Qdd:bld Tryz.prog 198 [(0,1),(1,1)] (.pr (.sl 3 .int) (.sl 3 .int)):=XN Tryz.underlying198 (by kernel_rfl) Ky
theorem Ki:zer Tryz.prog 229=some (.agg #[.int .i64 0, .int .i64 0, .int .i64 0]):=by kernel_rfl
theorem QgZ:WL Tryz.prog 229 3=true:=by kernel_rfl
theorem QcX:bld Tryz.prog 229 [(0,1),(1,1),(2,1)] (.pr .int (.pr .int .int)):=XN Tryz.underlying229 (by kernel_rfl) Ki
theorem QgR:Tryz.prog.underlying 253=some (.int .u64):=by kernel_rfl
theorem QgH:tsh Tryz.prog 255=some (true,6):=by kernel_rfl
theorem Qda:zer Tryz.prog 255=some (.agg #[.slice none 0 0, .slice none 0 0, .slice none 0 0, .int .i64 0, .int .i64 0, .bool false]):=by kernel_rfl
theorem Qrg:bld Tryz.prog 255 [(0,2),(2,1),(3,1),(4,1),(5,1)] (.pr (.pr (.sl 9 .str) (.sl 229 (.pr .int (.pr .int .int)))) (.pr (.sl 229 (.pr .int (.pr .int .int))) (.pr .int (.pr .int .bool)))):=XN Tryz.underlying255 (by kernel_rfl) Qda
theorem Qmd:Tryz.prog.underlying 262=some (.map 268 3):=by kernel_rfl
theorem QrR:Tryz.prog.underlying 263=some (.slice 268):=by kernel_rfl
theorem Qr2:tsh Tryz.prog 263=some (false,1):=by kernel_rfl
theorem Qoo:fld Tryz.prog 265 2=some 4:=by kernel_rfl
theorem Qml:tsh Tryz.prog 268=some (true,2):=by kernel_rfl
theorem Qc3:zer Tryz.prog 268=some (.agg #[.int .i64 0, .bool false]):=by kernel_rfl
theorem Qsd:WL Tryz.prog 268 2=true:=by kernel_rfl
theorem W5:bld Tryz.prog 268 [(0,1),(1,1)] (.pr .int .bool):=XN Tryz.underlying268 (by kernel_rfl) Qc3
theorem QcJ:zer Tryz.prog 289=some (.agg #[.int .i64 0, .int .i64 0]):=by kernel_rfl
theorem QrK:WL Tryz.prog 289 2=true:=by kernel_rfl
theorem Qsb:bld Tryz.prog 289 [(0,1),(1,1)] (.pr .int .int):=XN Tryz.underlying289 (by kernel_rfl) QcJ
theorem Hd:fld Tryz.prog 337 3=some 5:=by kernel_rfl
theorem Qq8:zer Tryz.prog 337=some (.agg #[.slice none 0 0, .slice none 0 0, .slice none 0 0, .string ByteArray.empty, .slice none 0 0, .slice none 0 0, .slice none 0 0, .slice none 0 0]):=by kernel_rfl
theorem Qrl:bld Tryz.prog 337 [(0,3),(3,1),(4,1),(5,3)] (.pr (.pr (.sl 90 (.pr .str .int)) (.pr (.sl 9 .str) (.sl 106 (.pr .int (.pr .int (.pr .bool .int)))))) (.pr .str (.pr (.sl 3 .int) (.pr (.sl 90 (.pr .str .int)) (.pr (.sl 9 .str) (.sl 106 (.pr .int (.pr .int (.pr .bool .int))))))))):=XN Tryz.underlying337 (by kernel_rfl) Qq8
theorem QrI:zer Tryz.prog 347=some (.agg #[.int .i64 0, .slice none 0 0, .slice none 0 0, .slice none 0 0, .string ByteArray.empty, .slice none 0 0, .slice none 0 0]):=by kernel_rfl
theorem Qrp:bld Tryz.prog 347 [(0,5),(5,1),(6,1)] (.pr (.pr (.pr .int (.sl 198 (.pr (.sl 3 .int) (.sl 3 .int)))) (.pr (.sl 90 (.pr .str .int)) (.pr (.sl 55 (.pr .int .bool)) .str))) (.pr (.sl 9 .str) (.sl 9 .str))):=XN Tryz.underlying347 (by kernel_rfl) QrI
theorem Qnv:Qk Tryz.prog 21:=fun args W=>Qd Tryz.func21 (by kernel_rfl) rfl args W
theorem QoB:Qk Tryz.prog 22:=fun args W=>Qd Tryz.func22 (by kernel_rfl) rfl args W
theorem Qnh:Qk Tryz.prog 23:=fun args W=>Qd Tryz.func23 (by kernel_rfl) rfl args W
theorem Qnl:Qk Tryz.prog 24:=fun args W=>Qd Tryz.func24 (by kernel_rfl) rfl args W
theorem QfD:Qk Tryz.prog 25:=fun args W=>Qd Tryz.func25 (by kernel_rfl) rfl args W
theorem QnR:Qk Tryz.prog 26:=fun args W=>Qd Tryz.func26 (by kernel_rfl) rfl args W
theorem QbA:Qk Tryz.prog 27:=fun args W=>Qd Tryz.func27 (by kernel_rfl) rfl args W
theorem QfC:Qk Tryz.prog 28:=fun args W=>Qd Tryz.func28 (by kernel_rfl) rfl args W
theorem QnA:Qk Tryz.prog 29:=fun args W=>Qd Tryz.func29 (by kernel_rfl) rfl args W
theorem Qm7:Qk Tryz.prog 48:=fun args W=>Qd Tryz.func48 (by kernel_rfl) rfl args W
theorem Qoj:Qk Tryz.prog 57:=fun args W=>Qd Tryz.func57 (by kernel_rfl) rfl args W
theorem JZ:Qk Tryz.prog 79:=fun args W=>Qd Tryz.func79 (by kernel_rfl) rfl args W
theorem YN:Qk Tryz.prog 84:=fun args W=>Qd Tryz.func84 (by kernel_rfl) rfl args W
theorem QnC:Qk Tryz.prog 87:=fun args W=>Qd Tryz.func87 (by kernel_rfl) rfl args W
theorem U3:Qk Tryz.prog 88:=fun args W=>Qd Tryz.func88 (by kernel_rfl) rfl args W
theorem Qop:Qk Tryz.prog 89:=fun args W=>Qd Tryz.func89 (by kernel_rfl) rfl args W
theorem WR:Qk Tryz.prog 90:=fun args W=>Qd Tryz.func90 (by kernel_rfl) rfl args W
theorem QnS:Qk Tryz.prog 91:=fun args W=>Qd Tryz.func91 (by kernel_rfl) rfl args W
theorem QfV:Qk Tryz.prog 92:=fun args W=>Qd Tryz.func92 (by kernel_rfl) rfl args W
theorem Qf6:Qk Tryz.prog 93:=fun args W=>Qd Tryz.func93 (by kernel_rfl) rfl args W
theorem Qng:Qk Tryz.prog 94:=fun args W=>Qd Tryz.func94 (by kernel_rfl) rfl args W
theorem QbC:Qk Tryz.prog 95:=fun args W=>Qd Tryz.func95 (by kernel_rfl) rfl args W
theorem Yk:Qk Tryz.prog 96:=fun args W=>Qd Tryz.func96 (by kernel_rfl) rfl args W
theorem QnQ:Qk Tryz.prog 97:=fun args W=>Qd Tryz.func97 (by kernel_rfl) rfl args W
theorem Qf7:Qk Tryz.prog 98:=fun args W=>Qd Tryz.func98 (by kernel_rfl) rfl args W
theorem Qgf:Qk Tryz.prog 99:=fun args W=>Qd Tryz.func99 (by kernel_rfl) rfl args W
theorem QjO:Qk Tryz.prog 100:=fun args W=>Qd Tryz.func100 (by kernel_rfl) rfl args W
theorem QeD:Qk Tryz.prog 101:=fun args W=>Qd Tryz.func101 (by kernel_rfl) rfl args W
theorem Qks:Qk Tryz.prog 102:=fun args W=>Qd Tryz.func102 (by kernel_rfl) rfl args W
theorem QdD:Qk Tryz.prog 106:=fun args W=>Qd Tryz.func106 (by kernel_rfl) rfl args W
theorem Qkf:Qk Tryz.prog 124:=fun args W=>Qd Tryz.func124 (by kernel_rfl) rfl args W
theorem Qdh:Qk Tryz.prog 133:=fun args W=>Qd Tryz.func133 (by kernel_rfl) rfl args W
theorem QjU:Qk Tryz.prog 136:=fun args W=>Qd Tryz.func136 (by kernel_rfl) rfl args W
theorem QkS:Qk Tryz.prog 137:=fun args W=>Qd Tryz.func137 (by kernel_rfl) rfl args W
theorem Ks:Qk Tryz.prog 139:=fun args W=>Qd Tryz.func139 (by kernel_rfl) rfl args W
theorem QkG:Qk Tryz.prog 140:=fun args W=>Qd Tryz.func140 (by kernel_rfl) rfl args W
theorem QjG:Qk Tryz.prog 141:=fun args W=>Qd Tryz.func141 (by kernel_rfl) rfl args W
theorem Qkj:Qk Tryz.prog 142:=fun args W=>Qd Tryz.func142 (by kernel_rfl) rfl args W
theorem Km:Qk Tryz.prog 144:=fun args W=>Qd Tryz.func144 (by kernel_rfl) rfl args W
theorem Qjq:Qk Tryz.prog 145:=fun args W=>Qd Tryz.func145 (by kernel_rfl) rfl args W
theorem QjM:Qk Tryz.prog 146:=fun args W=>Qd Tryz.func146 (by kernel_rfl) rfl args W
theorem Qdn:Qk Tryz.prog 147:=fun args W=>Qd Tryz.func147 (by kernel_rfl) rfl args W
theorem Qke:Qk Tryz.prog 148:=fun args W=>Qd Tryz.func148 (by kernel_rfl) rfl args W
theorem KC:Qk Tryz.prog 149:=fun args W=>Qd Tryz.func149 (by kernel_rfl) rfl args W
theorem QdL:Qk Tryz.prog 153:=fun args W=>Qd Tryz.func153 (by kernel_rfl) rfl args W
theorem Qkc:Qk Tryz.prog 161:=fun args W=>Qd Tryz.func161 (by kernel_rfl) rfl args W
theorem Qj7:Qk Tryz.prog 162:=fun args W=>Qd Tryz.func162 (by kernel_rfl) rfl args W
theorem Qlj:Qk Tryz.prog 164:=fun args W=>Qd Tryz.func164 (by kernel_rfl) rfl args W
theorem QeG:Qk Tryz.prog 167:=fun args W=>Qd Tryz.func167 (by kernel_rfl) rfl args W
theorem Qj1:Qk Tryz.prog 169:=fun args W=>Qd Tryz.func169 (by kernel_rfl) rfl args W
theorem H3:Qk Tryz.prog 170:=fun args W=>Qd Tryz.func170 (by kernel_rfl) rfl args W
theorem QkX:Qk Tryz.prog 171:=fun args W=>Qd Tryz.func171 (by kernel_rfl) rfl args W
theorem QkN:Qk Tryz.prog 173:=fun args W=>Qd Tryz.func173 (by kernel_rfl) rfl args W
theorem WQ:Qk Tryz.prog 174:=fun args W=>Qd Tryz.func174 (by kernel_rfl) rfl args W
theorem Qjf:Qk Tryz.prog 175:=fun args W=>Qd Tryz.func175 (by kernel_rfl) rfl args W
theorem Qjw:Qk Tryz.prog 176:=fun args W=>Qd Tryz.func176 (by kernel_rfl) rfl args W
theorem QjR:Qk Tryz.prog 177:=fun args W=>Qd Tryz.func177 (by kernel_rfl) rfl args W
theorem Qdq:Qk Tryz.prog 178:=fun args W=>Qd Tryz.func178 (by kernel_rfl) rfl args W
theorem Qk0:Qk Tryz.prog 179:=fun args W=>Qd Tryz.func179 (by kernel_rfl) rfl args W
theorem Qlb:Qk Tryz.prog 180:=fun args W=>Qd Tryz.func180 (by kernel_rfl) rfl args W
theorem QkJ:Qk Tryz.prog 181:=fun args W=>Qd Tryz.func181 (by kernel_rfl) rfl args W
theorem Qlf:Qk Tryz.prog 182:=fun args W=>Qd Tryz.func182 (by kernel_rfl) rfl args W
theorem Qle:Qk Tryz.prog 183:=fun args W=>Qd Tryz.func183 (by kernel_rfl) rfl args W
theorem Qfa:Qk Tryz.prog 184:=fun args W=>Qd Tryz.func184 (by kernel_rfl) rfl args W
theorem QeL:Qk Tryz.prog 185:=fun args W=>Qd Tryz.func185 (by kernel_rfl) rfl args W
theorem Qec:Qk Tryz.prog 186:=fun args W=>Qd Tryz.func186 (by kernel_rfl) rfl args W
theorem Qe4:Qk Tryz.prog 187:=fun args W=>Qd Tryz.func187 (by kernel_rfl) rfl args W
theorem Qdv:Qk Tryz.prog 188:=fun args W=>Qd Tryz.func188 (by kernel_rfl) rfl args W
theorem Qkx:Qk Tryz.prog 189:=fun args W=>Qd Tryz.func189 (by kernel_rfl) rfl args W
theorem Qdy:Qk Tryz.prog 190:=fun args W=>Qd Tryz.func190 (by kernel_rfl) rfl args W
theorem Qj2:Qk Tryz.prog 191:=fun args W=>Qd Tryz.func191 (by kernel_rfl) rfl args W
theorem Qk7:Qk Tryz.prog 192:=fun args W=>Qd Tryz.func192 (by kernel_rfl) rfl args W
theorem Qeg:Qk Tryz.prog 193:=fun args W=>Qd Tryz.func193 (by kernel_rfl) rfl args W
theorem Qdr:Qk Tryz.prog 194:=fun args W=>Qd Tryz.func194 (by kernel_rfl) rfl args W
theorem QeR:Qk Tryz.prog 195:=fun args W=>Qd Tryz.func195 (by kernel_rfl) rfl args W
theorem Qli:Qk Tryz.prog 196:=fun args W=>Qd Tryz.func196 (by kernel_rfl) rfl args W
theorem Qlw:Qk Tryz.prog 197:=fun args W=>Qd Tryz.func197 (by kernel_rfl) rfl args W
theorem QdG:Qk Tryz.prog 198:=fun args W=>Qd Tryz.func198 (by kernel_rfl) rfl args W
theorem Qkq:Qk Tryz.prog 199:=fun args W=>Qd Tryz.func199 (by kernel_rfl) rfl args W
theorem Qd5:Qk Tryz.prog 200:=fun args W=>Qd Tryz.func200 (by kernel_rfl) rfl args W
theorem QjY:Qk Tryz.prog 201:=fun args W=>Qd Tryz.func201 (by kernel_rfl) rfl args W
theorem Qkb:Qk Tryz.prog 202:=fun args W=>Qd Tryz.func202 (by kernel_rfl) rfl args W
theorem QdC:Qk Tryz.prog 203:=fun args W=>Qd Tryz.func203 (by kernel_rfl) rfl args W
theorem Qe2:Qk Tryz.prog 204:=fun args W=>Qd Tryz.func204 (by kernel_rfl) rfl args W
theorem Qjo:Qk Tryz.prog 207:=fun args W=>Qd Tryz.func207 (by kernel_rfl) rfl args W
theorem QeT:Qk Tryz.prog 208:=fun args W=>Qd Tryz.func208 (by kernel_rfl) rfl args W
theorem QkF:Qk Tryz.prog 216:=fun args W=>Qd Tryz.func216 (by kernel_rfl) rfl args W
theorem QjA:Qk Tryz.prog 230:=fun args W=>Qd Tryz.func230 (by kernel_rfl) rfl args W
theorem Qjn:Qk Tryz.prog 231:=fun args W=>Qd Tryz.func231 (by kernel_rfl) rfl args W
theorem QjP:Qk Tryz.prog 238:=fun args W=>Qd Tryz.func238 (by kernel_rfl) rfl args W
theorem Qlk:Qk Tryz.prog 240:=fun args W=>Qd Tryz.func240 (by kernel_rfl) rfl args W
theorem Qdt:Qk Tryz.prog 241:=fun args W=>Qd Tryz.func241 (by kernel_rfl) rfl args W
theorem Qad:Qk Tryz.prog 242:=fun args W=>Qd Tryz.func242 (by kernel_rfl) rfl args W
theorem QkO:Qk Tryz.prog 243:=fun args W=>Qd Tryz.func243 (by kernel_rfl) rfl args W
theorem Qjm:Qk Tryz.prog 244:=fun args W=>Qd Tryz.func244 (by kernel_rfl) rfl args W
theorem H6:Qk Tryz.prog 245:=fun args W=>Qd Tryz.func245 (by kernel_rfl) rfl args W
theorem QjC:Qk Tryz.prog 246:=fun args W=>Qd Tryz.func246 (by kernel_rfl) rfl args W
theorem HL:Qk Tryz.prog 247:=fun args W=>Qd Tryz.func247 (by kernel_rfl) rfl args W
theorem QkB:Qk Tryz.prog 248:=fun args W=>Qd Tryz.func248 (by kernel_rfl) rfl args W
theorem Qkk:Qk Tryz.prog 249:=fun args W=>Qd Tryz.func249 (by kernel_rfl) rfl args W
theorem Qjr:Qk Tryz.prog 250:=fun args W=>Qd Tryz.func250 (by kernel_rfl) rfl args W
theorem Qk8:Qk Tryz.prog 251:=fun args W=>Qd Tryz.func251 (by kernel_rfl) rfl args W
theorem Y3:Qk Tryz.prog 254:=fun args W=>Qd Tryz.func254 (by kernel_rfl) rfl args W
theorem Qlm:Qk Tryz.prog 255:=fun args W=>Qd Tryz.func255 (by kernel_rfl) rfl args W
theorem Qlp:Qk Tryz.prog 256:=fun args W=>Qd Tryz.func256 (by kernel_rfl) rfl args W
theorem ZY:Qk Tryz.prog 259:=fun args W=>Qd Tryz.func259 (by kernel_rfl) rfl args W
theorem Qla:Qk Tryz.prog 260:=fun args W=>Qd Tryz.func260 (by kernel_rfl) rfl args W
theorem Qd2:Qk Tryz.prog 261:=fun args W=>Qd Tryz.func261 (by kernel_rfl) rfl args W
theorem Qdw:Qk Tryz.prog 268:=fun args W=>Qd Tryz.func268 (by kernel_rfl) rfl args W
theorem Qlq:Qk Tryz.prog 269:=fun args W=>Qd Tryz.func269 (by kernel_rfl) rfl args W
theorem Qkl:Qk Tryz.prog 270:=fun args W=>Qd Tryz.func270 (by kernel_rfl) rfl args W
theorem HZ:Qk Tryz.prog 271:=fun args W=>Qd Tryz.func271 (by kernel_rfl) rfl args W
theorem VQ:Qk Tryz.prog 272:=fun args W=>Qd Tryz.func272 (by kernel_rfl) rfl args W
theorem Qlr:Qk Tryz.prog 273:=fun args W=>Qd Tryz.func273 (by kernel_rfl) rfl args W
theorem QjV:Qk Tryz.prog 274:=fun args W=>Qd Tryz.func274 (by kernel_rfl) rfl args W
theorem Qj9:Qk Tryz.prog 275:=fun args W=>Qd Tryz.func275 (by kernel_rfl) rfl args W
theorem HH:Qk Tryz.prog 276:=fun args W=>Qd Tryz.func276 (by kernel_rfl) rfl args W
theorem QjN:Qk Tryz.prog 277:=fun args W=>Qd Tryz.func277 (by kernel_rfl) rfl args W
theorem QkH:Qk Tryz.prog 278:=fun args W=>Qd Tryz.func278 (by kernel_rfl) rfl args W
theorem QjI:Qk Tryz.prog 279:=fun args W=>Qd Tryz.func279 (by kernel_rfl) rfl args W
theorem Qjk:Qk Tryz.prog 280:=fun args W=>Qd Tryz.func280 (by kernel_rfl) rfl args W
theorem Y5:Qk Tryz.prog 281:=fun args W=>Qd Tryz.func281 (by kernel_rfl) rfl args W
theorem H2:Qk Tryz.prog 282:=fun args W=>Qd Tryz.func282 (by kernel_rfl) rfl args W
theorem QjQ:Qk Tryz.prog 283:=fun args W=>Qd Tryz.func283 (by kernel_rfl) rfl args W
theorem Qk1:Qk Tryz.prog 284:=fun args W=>Qd Tryz.func284 (by kernel_rfl) rfl args W
theorem QdU:Qk Tryz.prog 285:=fun args W=>Qd Tryz.func285 (by kernel_rfl) rfl args W
theorem WU:Qk Tryz.prog 287:=fun args W=>Qd Tryz.func287 (by kernel_rfl) rfl args W
theorem Qju:Qk Tryz.prog 307:=fun args W=>Qd Tryz.func307 (by kernel_rfl) rfl args W
theorem QjX:Qk Tryz.prog 308:=fun args W=>Qd Tryz.func308 (by kernel_rfl) rfl args W
theorem Qko:Qk Tryz.prog 309:=fun args W=>Qd Tryz.func309 (by kernel_rfl) rfl args W
theorem Qkz:Qk Tryz.prog 319:=fun args W=>Qd Tryz.func319 (by kernel_rfl) rfl args W
theorem Qkh:Qk Tryz.prog 320:=fun args W=>Qd Tryz.func320 (by kernel_rfl) rfl args W
theorem Xw:Qk Tryz.prog 321:=fun args W=>Qd Tryz.func321 (by kernel_rfl) rfl args W
theorem QjE:Qk Tryz.prog 322:=fun args W=>Qd Tryz.func322 (by kernel_rfl) rfl args W
theorem X6:Qk Tryz.prog 323:=fun args W=>Qd Tryz.func323 (by kernel_rfl) rfl args W
theorem Qkv:Qk Tryz.prog 324:=fun args W=>Qd Tryz.func324 (by kernel_rfl) rfl args W
theorem H7:Qk Tryz.prog 335:=fun args W=>Qd Tryz.func335 (by kernel_rfl) rfl args W
theorem Qlc:Qk Tryz.prog 336:=fun args W=>Qd Tryz.func336 (by kernel_rfl) rfl args W
theorem QkM:Qk Tryz.prog 337:=fun args W=>Qd Tryz.func337 (by kernel_rfl) rfl args W
theorem Qji:Qk Tryz.prog 343:=fun args W=>Qd Tryz.func343 (by kernel_rfl) rfl args W
theorem HE:Qk Tryz.prog 344:=fun args W=>Qd Tryz.func344 (by kernel_rfl) rfl args W
theorem QkD:Qk Tryz.prog 345:=fun args W=>Qd Tryz.func345 (by kernel_rfl) rfl args W
theorem QkQ:Qk Tryz.prog 346:=fun args W=>Qd Tryz.func346 (by kernel_rfl) rfl args W
theorem Qlz:Qk Tryz.prog 358:=fun args W=>Qd Tryz.func358 (by kernel_rfl) rfl args W
theorem Qkd:Qk Tryz.prog 359:=fun args W=>Qd Tryz.func359 (by kernel_rfl) rfl args W
theorem Qev:Qk Tryz.prog 360:=fun args W=>Qd Tryz.func360 (by kernel_rfl) rfl args W
theorem QjL:Qk Tryz.prog 361:=fun args W=>Qd Tryz.func361 (by kernel_rfl) rfl args W
theorem Qeo:Qk Tryz.prog 362:=fun args W=>Qd Tryz.func362 (by kernel_rfl) rfl args W
theorem Qlv:Qk Tryz.prog 376:=fun args W=>Qd Tryz.func376 (by kernel_rfl) rfl args W
theorem Qei:Qk Tryz.prog 377:=fun args W=>Qd Tryz.func377 (by kernel_rfl) rfl args W
theorem Qd8:Qk Tryz.prog 378:=fun args W=>Qd Tryz.func378 (by kernel_rfl) rfl args W
end Go.Proofs.YtjaadeknhofhpaaGreat
namespace Go.Proofs.YtjaadeknhofhpaaGreat
open Go.RowKit
@[reducible] def Is (pv:PV) (T:Tab):PV→Tab→Prop:=fun p T'=>p=pv∧T'=T
def FrL (s:St)(n:Nat):List Nat→Prop
  | []=>True
  | q :: l=>Fresh s (n+q)∧FrL s n l
theorem FrL.get {s:St}{n:Nat}{l:List Nat}(h:FrL s n l):∀q∈l,Fresh s (n+q):=by
  induction l with
  | nil=>simp
  | cons q l ih=>
    intro r hr
    rcases aH.1 hr with rfl | hr
    · exact h.1
    · exact ih h.2 r hr
section
variable {A:Amb}{P:Program}{s:St}
variable {f:FuncId}{xs:List Operand}{tys:Array TypeId}{args:List (Bool×List LV)}{d:Nat}{ty:TypeId}{pos:String}{af:Array Edge}{g:Option (Nat×Bool)}{pv:PV}{T:Tab}
theorem Qkp (n:Nat)(hc:FC P f args [] 0 (Is pv T))(hE:Qk P f)(ha:EvL A s xs args)(hcl:YG pv T=true)(hn:Nat.blt d A.n=true)(hfr:FrL s n (ZX T))(hk0:A.k0≤n):
    Does A P ⟨some d, .call ⟨.value (.func f),xs.toArray,tys⟩,ty,pos,af,g⟩ s (s.back d n pv T):=
  fun a w K Q r hK=>DoesT.call n hc hE ha (by rintro _ _ ⟨rfl,rfl⟩; exact hcl) (by rintro _ _ ⟨rfl,rfl⟩ q ⟨e,hq⟩; exact hfr.get q (ZA hq).1) hk0 hn a w K Q r (by
    rintro s' a' w' ⟨_,_,⟨rfl,rfl⟩,rfl⟩ r'
    exact hK _ _ r')
theorem Qcl (n:Nat)(hc:FC P f args [] 0 (Is pv T))(hE:Qk P f)(ha:EvLB A s xs args)(hcl:YG pv T=true)(hf:(pv.fl&&T.fl)=true)(hn:Nat.blt d A.n=true)(hfr:FrL s n (ZX T))(hk0:A.k0≤n):
    Does A P ⟨some d, .call ⟨.value (.func f),xs.toArray,tys⟩,ty,pos,af,g⟩ s (s.back d n pv T):=
  fun a w K Q r hK=>Jm n hc hE ha (by rintro _ _ ⟨rfl,rfl⟩; exact hcl) (by rintro _ _ ⟨rfl,rfl⟩; simpa using hf) (by rintro _ _ ⟨rfl,rfl⟩ q ⟨e,hq⟩; exact hfr.get q (ZA hq).1) hk0 hn a w K Q r (by
    rintro s' a' w' ⟨_,_,⟨rfl,rfl⟩,rfl⟩ r'
    exact hK _ _ r')
theorem QF {fn:Func}{k:Nat}(pv:PV)(T':Tab)(ρ:List (Nat×Nat)){pv0:PV}(h1:Res A P fn s pv0)(h0:pv0=pv.ren (rn ρ))(h2:HasE ⟨[],s.tab⟩ ρ T')(h3:Vg (T'.map fun x=>rn ρ x.1)=true)(h4:idB ρ k=true):fin A P fn (Qkm (Is pv T') k) .ret s:=
  QcN pv T' ρ (h0▸h1) h2 h3 h4 ⟨rfl,rfl⟩
end
def LV.thaw (T:Tab):LV→LV
  | .ref q=>match T.ent q with
    | some (.arr E e xs)=> .dat (.sl E e) xs
    | _=> .ref q
  | l=>l
def PV.thaw (T:Tab):PV→PV
  | .cm b ls=> .cm b (ls.map (LV.thaw T))
  | .tup cs=> .tup (cs.map fun c=>(c.1,c.2.map (LV.thaw T)))
section
variable {T:Tab}{gh:Gh}{w:World}
theorem LVR.thaw (cx:Cx T gh w){l:LV}{v:Value}(h:LVR T.al gh w l v):LVR (Tab.al []) ⟨gh.h,gh.f,fun g=>gh.N g∨∃q,T.al q∧g∈gh.f q⟩ w (l.thaw T) v:=by
  have hm:∀l,LVR T.al gh w l v→LVR (Tab.al []) ⟨gh.h,gh.f,fun g=>gh.N g∨∃q,T.al q∧g∈gh.f q⟩ w l v:=fun l h=>h.mono (fun q _ h=>absurd h (Ya q)) fun g hg=>⟨.inl hg,rfl⟩
  cases l with
  | ref q=>
    simp only[LV.thaw]
    split
    · rename_i E e xs he
      have hv:v=gh.h q:=h ⟨_,he⟩
      have hO:Own (.sl E e) w (gh.f q) [gh.h q] xs:=cx.en q _ he
      rw[hv]
      exact hO.rd fun g hg=> .inr ⟨q,⟨_,he⟩,hg⟩
    · exact hm _ h
  | _=>exact hm _ h
theorem LVs.thaw (cx:Cx T gh w){ls:List LV}{vs:List Value}(h:LVs T.al gh w ls vs):LVs (Tab.al []) ⟨gh.h,gh.f,fun g=>gh.N g∨∃q,T.al q∧g∈gh.f q⟩ w (ls.map (LV.thaw T)) vs:=by
  induction ls generalizing vs with
  | nil=>exact h
  | cons l ls ih=>obtain ⟨v,vs',rfl,h1,h2⟩:=h; exact ⟨v,_,rfl,h1.thaw cx,ih h2⟩
theorem CmR.thaw (cx:Cx T gh w){c:Bool×List LV}{v:Value}(h:CmR T.al gh w c v):CmR (Tab.al []) ⟨gh.h,gh.f,fun g=>gh.N g∨∃q,T.al q∧g∈gh.f q⟩ w (c.1,c.2.map (LV.thaw T)) v:=by
  obtain ⟨b,ls⟩:=c
  cases b with
  | true=>obtain ⟨vs,rfl,h1⟩:=h; exact ⟨vs,rfl,h1.thaw cx⟩
  | false=>obtain ⟨l,rfl,h1⟩:=h; exact ⟨_,rfl,h1.thaw cx⟩
theorem PVR.thaw (cx:Cx T gh w){pv:PV}{v:Value}(h:PVR T.al gh w pv v):PVR (Tab.al []) ⟨gh.h,gh.f,fun g=>gh.N g∨∃q,T.al q∧g∈gh.f q⟩ w (pv.thaw T) v:=by
  cases pv with
  | cm b ls=>exact CmR.thaw cx (c:=(b,ls)) h
  | tup cs=>
    obtain ⟨vs,rfl,h1⟩:=h
    refine ⟨vs,rfl, ?_⟩
    induction cs generalizing vs with
    | nil=>exact h1
    | cons c cs ih=>obtain ⟨v,vs',rfl,h2,h3⟩:=h1; exact ⟨v,_,rfl,h2.thaw cx,ih _ h3⟩
end
theorem FC.frozenG {P:Program}{f:FuncId}{args:List (Bool×List LV)}{pv:PV}{T:Tab}(h:FC P f args [] 0 (Is pv T)):FC P f args [] 0 (Zk (pv.thaw T)):=fun gh w vs cx ha=>
  Calls.mono (h gh w vs cx ha) fun e' w' he=>by
    obtain ⟨v,pv',T',gh',rfl,⟨rfl,rfl⟩,cx',hp,fr,_⟩:=he
    refine ⟨v,_,[],_,rfl,⟨rfl,rfl⟩,VV Ya _ _ fun g hg=> ?_,hp.thaw cx',⟨fr.gw,fr.kp,fun g hg=> ?_,fun q hq=>absurd hq (Ya q)⟩,fun q hq=>absurd hq (by omega)⟩
    · rcases hg with hg | ⟨q, hq, hg⟩
      · exact cx'.nl g hg
      · exact cx'.lt hq g hg
    · rcases hg with hg | ⟨q, hq, hg⟩
      · exact fr.nn g hg
      · rcases fr.ox q hq g hg with h | ⟨q', h, _⟩
        · exact .inr (.inl h)
        · exact absurd h (Ya q')
theorem Qjc {A:Amb}{P:Program}{ops:Array Oper}{o:Oper}{s s1 s':St}(hg:o.guard=none)(h:Does A P o s s1)(e:s1=s'):Acts A P ops o s s':=e▸Acts.of hg h
theorem QnL {A:Amb}{P:Program}{ops:Array Oper}{o:Oper}{s s1 s':St}{j d:Nat}{b:Bool}(hg:o.guard=some (j,b))(hd:(ops[j]?).bind (·.dst)=some d)(hb:lk s.tm d=some (lf (dB b)))(h:Does A P o s s1)(e:s1=s'):Acts A P ops o s s':=e▸QpN hg hd hb h
section
variable {A:Amb}{s:St}
theorem Wk.nilS (t i:Nat)(E:TypeId)(e:Ty)(hi:lk s.tm i=some (lf (.val (.slice none 0 0))))(hfr:Fresh s t)(hk0:A.k0≤t):Wk A s ⟨(i,lf (.ref t)) :: s.tm,(t,some (.arr E e [])) :: s.tab⟩:=fun a w r=>by
  obtain ⟨gh,r⟩:=r
  obtain ⟨v,h1,l,h2,h3⟩:=r.tm i _ hi
  simp only[aB,and_true] at h2
  subst h2
  have hv:v= .slice none 0 0:=h3
  have r2:=r.make t hfr hk0 [] (by simp) (ZP w) (fun _ _ _=>rfl) (E:=E) (e:=e) (xs:=[]) (hv:= .slice none 0 0) (fp:=[]) (.inl ⟨rfl,rfl,rfl⟩) bE (by simp)
  exact ⟨_,r2.know h1 (pv:=lf (.ref t)) ⟨_,rfl,fun _=>by simp[hv]⟩⟩
theorem Qv (t:Nat){p off:Nat}{E':TypeId}{cs:List LV}(E:TypeId)(e:Ty)(hp:s.tab.ent p=some (.box E' cs))(ho:cs[off]? =some (.val (.slice none 0 0)))(hfr:Fresh s t)(hk0:A.k0≤t):
    Wk A s ⟨s.tm,(p,some (.box E' (splice cs off [.ref t]))) :: (t,some (.arr E e [])) :: s.tab⟩:=fun a w r=>by
  obtain ⟨gh,r⟩:=r
  have hne:p≠t:=fun h=>hfr.al ⟨_,h▸hp⟩
  obtain ⟨g,cur,h1,h2,h3,h4⟩:=r.cx.en p _ hp
  obtain ⟨v,h5,h6⟩:=h4.nth ho
  have hv:v= .slice none 0 0:=h6
  have r2:=r.make t hfr hk0 [] (by simp) (ZP w) (fun _ _ _=>rfl) (E:=E) (e:=e) (xs:=[]) (hv:= .slice none 0 0) (fp:=[]) (.inl ⟨rfl,rfl,rfl⟩) bE (by simp)
  have hp':Tab.ent ((t,some (.arr E e [])) :: (KO []++s.tab)) p=some (.box E' cs):=by rw[Qq,if_neg hne]; exact hp
  obtain ⟨g',cur',k1,k2,k3,k4⟩:=r2.cx.en p _ hp'
  simp only[if_neg hne] at k1 k2
  rw[h1] at k1
  cases k1
  rw[h3] at k3
  cases k3
  have hD:LVs (Tab.al ((t,some (.arr E e [])) :: (KO []++s.tab))) ⟨fun q=>if q=t then .slice none 0 0 else gh.h q,fun q=>if q=t then [] else gh.f q,gh.N⟩ w [.ref t] [v]:=⟨v,[],rfl,fun _=>by simp[hv],rfl⟩
  have hS:=k4.splice hD (off:=off)
  have hsame:cur.toList.take off++[v]++cur.toList.drop (off+[v].length)=cur.toList:=by
    have hl:=(ab.1 h5)
    obtain ⟨hl,hl2⟩:=hl
    conv=>rhs; rw[← bW (off+1) cur.toList,bO hl,hl2]
    rfl
  rw[hsame] at hS
  exact ⟨_,r2.mod hp' (ZP w) (fun _ _ _=>rfl) ⟨g,cur,by simp only[if_neg hne]; exact h1,by simp only[if_neg hne]; exact h2,h3,hS⟩⟩
end
end Go.Proofs.YtjaadeknhofhpaaGreat
