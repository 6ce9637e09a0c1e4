/- Closed facts on the types and functions of the program. -/
import Derived.Test.YtgpdhgadmjfokaaGreatProg
import Derived.Test.YtgpdhgadmjfokaaGreatHAe
import Derived.Test.YtgpdhgadmjfokaaGreatHStr
set_option linter.unusedSimpArgs false
set_option linter.unusedVariables false
set_option linter.unusedSectionVars false
namespace Go.Proofs.YtgpdhgadmjfokaaGreat
open Go.RowKit
theorem mixed:Tryz.prog.follows .mixedOrders=true:=by kernel_rfl
theorem Jl:Tryz.prog.underlying 3=some (.int .i64):=by kernel_rfl
theorem Kd:tsh Tryz.prog 3=some (false,1):=by kernel_rfl
theorem XI:zer Tryz.prog 3=some (.int .i64 0):=by kernel_rfl
theorem Wf:Vj Tryz.prog 3 1=true:=by kernel_rfl
theorem Qmn:(Tryz.prog.info? 3).map (fun i=>(i.zero,i.size,i.bytes))=some (some (.int .i64 0),1,8):=by kernel_rfl
theorem Zf:Tryz.prog.underlying 4=some .bool:=by kernel_rfl
theorem QeX:tsh Tryz.prog 4=some (false,1):=by kernel_rfl
theorem Qqy:(Tryz.prog.info? 4).map (fun i=>(i.zero,i.size,i.bytes))=some (some (.bool false),1,1):=by kernel_rfl
theorem Qfk:Tryz.prog.underlying 5=some (.int .u8):=by kernel_rfl
theorem YA:tsh Tryz.prog 5=some (false,1):=by kernel_rfl
theorem Qq6:zer Tryz.prog 5=some (.int .u8 0):=by kernel_rfl
theorem Qrb:(Tryz.prog.info? 5).map (fun i=>(i.zero,i.size,i.bytes))=some (some (.int .u8 0),1,1):=by kernel_rfl
theorem QT:Tryz.prog.underlying 9=some .string:=by kernel_rfl
theorem ZQ:tsh Tryz.prog 9=some (false,1):=by kernel_rfl
theorem ZY:zer Tryz.prog 9=some (.string ByteArray.empty):=by kernel_rfl
theorem YU:Vj Tryz.prog 9 1=true:=by kernel_rfl
theorem QqH:(Tryz.prog.info? 9).map (fun i=>(i.zero,i.size,i.bytes))=some (some (.string ByteArray.empty),1,16):=by kernel_rfl
theorem Ut:Tryz.prog.underlying 22=some (.slice 5):=by kernel_rfl
theorem QfH:Tryz.prog.underlying 23=some (.slice 44):=by kernel_rfl
theorem Qpw:tsh Tryz.prog 23=some (false,1):=by kernel_rfl
theorem ZF:Tryz.prog.underlying 24=some (.slice 9):=by kernel_rfl
theorem QfN:tsh Tryz.prog 24=some (false,1):=by kernel_rfl
theorem QfP:Tryz.prog.underlying 25=some (.slice 46):=by kernel_rfl
theorem YP:tsh Tryz.prog 27=some (true,3):=by kernel_rfl
theorem Ys:zer Tryz.prog 27=some (.agg #[.slice none 0 0, .slice none 0 0, .slice none 0 0]):=by kernel_rfl
theorem Qdx:bld Tryz.prog 27 [(0,1),(1,1),(2,1)] (.pr (.sl 44 (.pr .str .int)) (.pr (.sl 9 .str) (.sl 46 (.pr .int (.pr .int (.pr .bool .int)))))):=Xs Tryz.underlying27 (by kernel_rfl) Ys
theorem Xf:Tryz.prog.underlying 32=some (.slice 3):=by kernel_rfl
theorem V3:tsh Tryz.prog 32=some (false,1):=by kernel_rfl
theorem Qop:(Tryz.prog.info? 32).map (fun i=>(i.zero,i.size,i.bytes))=some (some (.slice none 0 0),1,24):=by kernel_rfl
theorem QbP:zer Tryz.prog 44=some (.agg #[.string ByteArray.empty, .int .i64 0]):=by kernel_rfl
theorem Qdn:Vj Tryz.prog 44 2=true:=by kernel_rfl
theorem Qo2:bld Tryz.prog 44 [(0,1),(1,1)] (.pr .str .int):=Xs Tryz.underlying44 (by kernel_rfl) QbP
theorem Qhs:tsh Tryz.prog 46=some (true,4):=by kernel_rfl
theorem QeE:fld Tryz.prog 46 2=some 2:=by kernel_rfl
theorem Qlz:fld Tryz.prog 46 3=some 3:=by kernel_rfl
theorem KH:zer Tryz.prog 46=some (.agg #[.int .i64 0, .int .i64 0, .bool false, .int .i64 0]):=by kernel_rfl
theorem Qpb:Vj Tryz.prog 46 4=true:=by kernel_rfl
theorem QoV:bld Tryz.prog 46 [(0,1),(1,1),(2,1),(3,1)] (.pr .int (.pr .int (.pr .bool .int))):=Xs Tryz.underlying46 (by kernel_rfl) KH
theorem J5:Tryz.prog.underlying 57=some (.slice 245):=by kernel_rfl
theorem Qlq:tsh Tryz.prog 57=some (false,1):=by kernel_rfl
theorem QdX:tsh Tryz.prog 59=some (true,2):=by kernel_rfl
theorem JT:zer Tryz.prog 59=some (.agg #[.int .i64 0, .slice none 0 0]):=by kernel_rfl
theorem Qdr:bld Tryz.prog 59 [(0,1),(1,1)] (.pr .int (.sl 245 (.pr (.sl 3 .int) (.sl 3 .int)))):=Xs Tryz.underlying59 (by kernel_rfl) JT
theorem QoA:Tryz.prog.underlying 60=some (.slice 86):=by kernel_rfl
theorem Qk0:tsh Tryz.prog 60=some (false,1):=by kernel_rfl
theorem Yi:tsh Tryz.prog 62=some (true,5):=by kernel_rfl
theorem Kv:zer Tryz.prog 62=some (.agg #[.int .i64 0, .slice none 0 0, .slice none 0 0, .slice none 0 0, .string ByteArray.empty]):=by kernel_rfl
theorem QaT:bld Tryz.prog 62 [(0,2),(2,1),(3,1),(4,1)] (.pr (.pr .int (.sl 245 (.pr (.sl 3 .int) (.sl 3 .int)))) (.pr (.sl 44 (.pr .str .int)) (.pr (.sl 86 (.pr .int .bool)) .str))):=Xs Tryz.underlying62 (by kernel_rfl) Kv
theorem QhK:Tryz.prog.underlying 67=some (.slice 32):=by kernel_rfl
theorem WR:zer Tryz.prog 86=some (.agg #[.int .i64 0, .bool false]):=by kernel_rfl
theorem Qbd:Vj Tryz.prog 86 2=true:=by kernel_rfl
theorem JD:bld Tryz.prog 86 [(0,1),(1,1)] (.pr .int .bool):=Xs Tryz.underlying86 (by kernel_rfl) WR
theorem QoX:Tryz.prog.underlying 90=some (.slice 4):=by kernel_rfl
theorem Qaf:tsh Tryz.prog 107=some (true,2):=by kernel_rfl
theorem ZC:zer Tryz.prog 107=some (.agg #[.slice none 0 0, .slice none 0 0]):=by kernel_rfl
theorem WF:bld Tryz.prog 107 [(0,1),(1,1)] (.pr (.sl 9 .str) (.sl 9 .str)):=Xs Tryz.underlying107 (by kernel_rfl) ZC
theorem Qap:Tryz.prog.underlying 117=some (.int .u64):=by kernel_rfl
theorem Qdq:zer Tryz.prog 160=some (.agg #[.slice none 0 0, .slice none 0 0]):=by kernel_rfl
theorem Qal:bld Tryz.prog 160 [(0,1),(1,1)] (.pr (.sl 9 .str) (.sl 263 (.pr .int (.pr .int .int)))):=Xs Tryz.underlying160 (by kernel_rfl) Qdq
theorem QdO:Tryz.prog.underlying 228=some (.int .u64):=by kernel_rfl
theorem UK:tsh Tryz.prog 245=some (true,2):=by kernel_rfl
theorem Qcz:fld Tryz.prog 245 0=some 0:=by kernel_rfl
theorem QcN:fld Tryz.prog 245 1=some 1:=by kernel_rfl
theorem VH:zer Tryz.prog 245=some (.agg #[.slice none 0 0, .slice none 0 0]):=by kernel_rfl
theorem Qaa:Vj Tryz.prog 245 2=true:=by kernel_rfl
theorem Qae:bld Tryz.prog 245 [(0,1),(1,1)] (.pr (.sl 3 .int) (.sl 3 .int)):=Xs Tryz.underlying245 (by kernel_rfl) VH
theorem Qag:zer Tryz.prog 250=some (.agg #[.slice none 0 0, .slice none 0 0, .slice none 0 0, .int .i64 0, .int .i64 0, .bool false]):=by kernel_rfl
theorem QnO:bld Tryz.prog 250 [(0,2),(2,1),(3,1),(4,1),(5,1)] (.pr (.pr (.sl 9 .str) (.sl 263 (.pr .int (.pr .int .int)))) (.pr (.sl 263 (.pr .int (.pr .int .int))) (.pr .int (.pr .int .bool)))):=Xs Tryz.underlying250 (by kernel_rfl) Qag
theorem Vo:zer Tryz.prog 263=some (.agg #[.int .i64 0, .int .i64 0, .int .i64 0]):=by kernel_rfl
theorem QdT:Vj Tryz.prog 263 3=true:=by kernel_rfl
theorem H5:bld Tryz.prog 263 [(0,1),(1,1),(2,1)] (.pr .int (.pr .int .int)):=Xs Tryz.underlying263 (by kernel_rfl) Vo
theorem Qak:zer Tryz.prog 295=some (.agg #[.int .i64 0, .int .i64 0]):=by kernel_rfl
theorem QnC:Vj Tryz.prog 295 2=true:=by kernel_rfl
theorem QmP:bld Tryz.prog 295 [(0,1),(1,1)] (.pr .int .int):=Xs Tryz.underlying295 (by kernel_rfl) Qak
theorem QmA:zer Tryz.prog 341=some (.agg #[.int .i64 0, .slice none 0 0, .slice none 0 0, .slice none 0 0, .string ByteArray.empty, .slice none 0 0, .slice none 0 0]):=by kernel_rfl
theorem QnJ:bld Tryz.prog 341 [(0,5),(5,1),(6,1)] (.pr (.pr (.pr .int (.sl 245 (.pr (.sl 3 .int) (.sl 3 .int)))) (.pr (.sl 44 (.pr .str .int)) (.pr (.sl 86 (.pr .int .bool)) .str))) (.pr (.sl 9 .str) (.sl 9 .str))):=Xs Tryz.underlying341 (by kernel_rfl) QmA
theorem QiZ:Qg Tryz.prog 48:=fun args W=>Qc Tryz.func48 (by kernel_rfl) rfl args W
theorem UF:Qg Tryz.prog 56:=fun args W=>Qc Tryz.func56 (by kernel_rfl) rfl args W
theorem Qc0:Qg Tryz.prog 59:=fun args W=>Qc Tryz.func59 (by kernel_rfl) rfl args W
theorem Qjw:Qg Tryz.prog 60:=fun args W=>Qc Tryz.func60 (by kernel_rfl) rfl args W
theorem QjV:Qg Tryz.prog 61:=fun args W=>Qc Tryz.func61 (by kernel_rfl) rfl args W
theorem QiU:Qg Tryz.prog 62:=fun args W=>Qc Tryz.func62 (by kernel_rfl) rfl args W
theorem QjK:Qg Tryz.prog 63:=fun args W=>Qc Tryz.func63 (by kernel_rfl) rfl args W
theorem Qji:Qg Tryz.prog 64:=fun args W=>Qc Tryz.func64 (by kernel_rfl) rfl args W
theorem QcH:Qg Tryz.prog 65:=fun args W=>Qc Tryz.func65 (by kernel_rfl) rfl args W
theorem Qcw:Qg Tryz.prog 66:=fun args W=>Qc Tryz.func66 (by kernel_rfl) rfl args W
theorem Qdc:Qg Tryz.prog 67:=fun args W=>Qc Tryz.func67 (by kernel_rfl) rfl args W
theorem Qcj:Qg Tryz.prog 68:=fun args W=>Qc Tryz.func68 (by kernel_rfl) rfl args W
theorem Y0:Qg Tryz.prog 69:=fun args W=>Qc Tryz.func69 (by kernel_rfl) rfl args W
theorem Uy:Qg Tryz.prog 70:=fun args W=>Qc Tryz.func70 (by kernel_rfl) rfl args W
theorem UG:Qg Tryz.prog 71:=fun args W=>Qc Tryz.func71 (by kernel_rfl) rfl args W
theorem UM:Qg Tryz.prog 72:=fun args W=>Qc Tryz.func72 (by kernel_rfl) rfl args W
theorem UH:Qg Tryz.prog 73:=fun args W=>Qc Tryz.func73 (by kernel_rfl) rfl args W
theorem UR:Qg Tryz.prog 74:=fun args W=>Qc Tryz.func74 (by kernel_rfl) rfl args W
theorem Ux:Qg Tryz.prog 75:=fun args W=>Qc Tryz.func75 (by kernel_rfl) rfl args W
theorem Qjl:Qg Tryz.prog 77:=fun args W=>Qc Tryz.func77 (by kernel_rfl) rfl args W
theorem Qj5:Qg Tryz.prog 78:=fun args W=>Qc Tryz.func78 (by kernel_rfl) rfl args W
theorem Qcf:Qg Tryz.prog 86:=fun args W=>Qc Tryz.func86 (by kernel_rfl) rfl args W
theorem JE:Qg Tryz.prog 87:=fun args W=>Qc Tryz.func87 (by kernel_rfl) rfl args W
theorem Qbg:Qg Tryz.prog 104:=fun args W=>Qc Tryz.func104 (by kernel_rfl) rfl args W
theorem Qbc:Qg Tryz.prog 105:=fun args W=>Qc Tryz.func105 (by kernel_rfl) rfl args W
theorem QbR:Qg Tryz.prog 106:=fun args W=>Qc Tryz.func106 (by kernel_rfl) rfl args W
theorem ZE:Qg Tryz.prog 107:=fun args W=>Qc Tryz.func107 (by kernel_rfl) rfl args W
theorem Qa7:Qg Tryz.prog 111:=fun args W=>Qc Tryz.func111 (by kernel_rfl) rfl args W
theorem Qf0:Qg Tryz.prog 130:=fun args W=>Qc Tryz.func130 (by kernel_rfl) rfl args W
theorem Wd:Qg Tryz.prog 138:=fun args W=>Qc Tryz.func138 (by kernel_rfl) rfl args W
theorem Vr:Qg Tryz.prog 140:=fun args W=>Qc Tryz.func140 (by kernel_rfl) rfl args W
theorem VI:Qg Tryz.prog 142:=fun args W=>Qc Tryz.func142 (by kernel_rfl) rfl args W
theorem QaG:Qg Tryz.prog 143:=fun args W=>Qc Tryz.func143 (by kernel_rfl) rfl args W
theorem YX:Qg Tryz.prog 145:=fun args W=>Qc Tryz.func145 (by kernel_rfl) rfl args W
theorem QgC:Qg Tryz.prog 155:=fun args W=>Qc Tryz.func155 (by kernel_rfl) rfl args W
theorem Q4:Qg Tryz.prog 156:=fun args W=>Qc Tryz.func156 (by kernel_rfl) rfl args W
theorem QfW:Qg Tryz.prog 162:=fun args W=>Qc Tryz.func162 (by kernel_rfl) rfl args W
theorem YB:Qg Tryz.prog 163:=fun args W=>Qc Tryz.func163 (by kernel_rfl) rfl args W
theorem QfY:Qg Tryz.prog 165:=fun args W=>Qc Tryz.func165 (by kernel_rfl) rfl args W
theorem QfS:Qg Tryz.prog 166:=fun args W=>Qc Tryz.func166 (by kernel_rfl) rfl args W
theorem QbK:Qg Tryz.prog 167:=fun args W=>Qc Tryz.func167 (by kernel_rfl) rfl args W
theorem Kt:Qg Tryz.prog 168:=fun args W=>Qc Tryz.func168 (by kernel_rfl) rfl args W
theorem Qgh:Qg Tryz.prog 169:=fun args W=>Qc Tryz.func169 (by kernel_rfl) rfl args W
theorem QbC:Qg Tryz.prog 170:=fun args W=>Qc Tryz.func170 (by kernel_rfl) rfl args W
theorem Qg2:Qg Tryz.prog 171:=fun args W=>Qc Tryz.func171 (by kernel_rfl) rfl args W
theorem Qa5:Qg Tryz.prog 172:=fun args W=>Qc Tryz.func172 (by kernel_rfl) rfl args W
theorem QhA:Qg Tryz.prog 173:=fun args W=>Qc Tryz.func173 (by kernel_rfl) rfl args W
theorem QaR:Qg Tryz.prog 174:=fun args W=>Qc Tryz.func174 (by kernel_rfl) rfl args W
theorem QhB:Qg Tryz.prog 175:=fun args W=>Qc Tryz.func175 (by kernel_rfl) rfl args W
theorem QgH:Qg Tryz.prog 176:=fun args W=>Qc Tryz.func176 (by kernel_rfl) rfl args W
theorem Qhw:Qg Tryz.prog 177:=fun args W=>Qc Tryz.func177 (by kernel_rfl) rfl args W
theorem Qf4:Qg Tryz.prog 178:=fun args W=>Qc Tryz.func178 (by kernel_rfl) rfl args W
theorem VF:Qg Tryz.prog 179:=fun args W=>Qc Tryz.func179 (by kernel_rfl) rfl args W
theorem Qaw:Qg Tryz.prog 180:=fun args W=>Qc Tryz.func180 (by kernel_rfl) rfl args W
theorem Qg4:Qg Tryz.prog 181:=fun args W=>Qc Tryz.func181 (by kernel_rfl) rfl args W
theorem Qgm:Qg Tryz.prog 182:=fun args W=>Qc Tryz.func182 (by kernel_rfl) rfl args W
theorem Qhr:Qg Tryz.prog 183:=fun args W=>Qc Tryz.func183 (by kernel_rfl) rfl args W
theorem QaD:Qg Tryz.prog 184:=fun args W=>Qc Tryz.func184 (by kernel_rfl) rfl args W
theorem QaZ:Qg Tryz.prog 185:=fun args W=>Qc Tryz.func185 (by kernel_rfl) rfl args W
theorem Qgl:Qg Tryz.prog 186:=fun args W=>Qc Tryz.func186 (by kernel_rfl) rfl args W
theorem QgU:Qg Tryz.prog 190:=fun args W=>Qc Tryz.func190 (by kernel_rfl) rfl args W
theorem Qhp:Qg Tryz.prog 191:=fun args W=>Qc Tryz.func191 (by kernel_rfl) rfl args W
theorem Qgw:Qg Tryz.prog 199:=fun args W=>Qc Tryz.func199 (by kernel_rfl) rfl args W
theorem Qg0:Qg Tryz.prog 203:=fun args W=>Qc Tryz.func203 (by kernel_rfl) rfl args W
theorem Qhh:Qg Tryz.prog 207:=fun args W=>Qc Tryz.func207 (by kernel_rfl) rfl args W
theorem Qa2:Qg Tryz.prog 208:=fun args W=>Qc Tryz.func208 (by kernel_rfl) rfl args W
theorem Qhy:Qg Tryz.prog 209:=fun args W=>Qc Tryz.func209 (by kernel_rfl) rfl args W
theorem Qgv:Qg Tryz.prog 210:=fun args W=>Qc Tryz.func210 (by kernel_rfl) rfl args W
theorem QgR:Qg Tryz.prog 211:=fun args W=>Qc Tryz.func211 (by kernel_rfl) rfl args W
theorem QgE:Qg Tryz.prog 212:=fun args W=>Qc Tryz.func212 (by kernel_rfl) rfl args W
theorem Qbb:Qg Tryz.prog 213:=fun args W=>Qc Tryz.func213 (by kernel_rfl) rfl args W
theorem Qgd:Qg Tryz.prog 214:=fun args W=>Qc Tryz.func214 (by kernel_rfl) rfl args W
theorem Qga:Qg Tryz.prog 215:=fun args W=>Qc Tryz.func215 (by kernel_rfl) rfl args W
theorem Qgt:Qg Tryz.prog 216:=fun args W=>Qc Tryz.func216 (by kernel_rfl) rfl args W
theorem Qf2:Qg Tryz.prog 217:=fun args W=>Qc Tryz.func217 (by kernel_rfl) rfl args W
theorem Vn:Qg Tryz.prog 249:=fun args W=>Qc Tryz.func249 (by kernel_rfl) rfl args W
theorem Qhu:Qg Tryz.prog 250:=fun args W=>Qc Tryz.func250 (by kernel_rfl) rfl args W
theorem Qha:Qg Tryz.prog 251:=fun args W=>Qc Tryz.func251 (by kernel_rfl) rfl args W
theorem Qhe:Qg Tryz.prog 254:=fun args W=>Qc Tryz.func254 (by kernel_rfl) rfl args W
theorem Wa:Qg Tryz.prog 261:=fun args W=>Qc Tryz.func261 (by kernel_rfl) rfl args W
theorem Qf1:Qg Tryz.prog 262:=fun args W=>Qc Tryz.func262 (by kernel_rfl) rfl args W
theorem Qhz:Qg Tryz.prog 263:=fun args W=>Qc Tryz.func263 (by kernel_rfl) rfl args W
theorem QbY:Qg Tryz.prog 264:=fun args W=>Qc Tryz.func264 (by kernel_rfl) rfl args W
theorem Qa6:Qg Tryz.prog 273:=fun args W=>Qc Tryz.func273 (by kernel_rfl) rfl args W
theorem Zx:Qg Tryz.prog 275:=fun args W=>Qc Tryz.func275 (by kernel_rfl) rfl args W
theorem QgI:Qg Tryz.prog 276:=fun args W=>Qc Tryz.func276 (by kernel_rfl) rfl args W
theorem QbI:Qg Tryz.prog 277:=fun args W=>Qc Tryz.func277 (by kernel_rfl) rfl args W
theorem Qg7:Qg Tryz.prog 281:=fun args W=>Qc Tryz.func281 (by kernel_rfl) rfl args W
theorem Qgi:Qg Tryz.prog 284:=fun args W=>Qc Tryz.func284 (by kernel_rfl) rfl args W
theorem Qhf:Qg Tryz.prog 286:=fun args W=>Qc Tryz.func286 (by kernel_rfl) rfl args W
theorem Qgy:Qg Tryz.prog 287:=fun args W=>Qc Tryz.func287 (by kernel_rfl) rfl args W
theorem Qhq:Qg Tryz.prog 288:=fun args W=>Qc Tryz.func288 (by kernel_rfl) rfl args W
theorem Qbl:Qg Tryz.prog 289:=fun args W=>Qc Tryz.func289 (by kernel_rfl) rfl args W
theorem Qf9:Qg Tryz.prog 290:=fun args W=>Qc Tryz.func290 (by kernel_rfl) rfl args W
theorem QgT:Qg Tryz.prog 291:=fun args W=>Qc Tryz.func291 (by kernel_rfl) rfl args W
theorem QgZ:Qg Tryz.prog 292:=fun args W=>Qc Tryz.func292 (by kernel_rfl) rfl args W
theorem Qgs:Qg Tryz.prog 293:=fun args W=>Qc Tryz.func293 (by kernel_rfl) rfl args W
theorem Qf6:Qg Tryz.prog 294:=fun args W=>Qc Tryz.func294 (by kernel_rfl) rfl args W
theorem QhG:Qg Tryz.prog 295:=fun args W=>Qc Tryz.func295 (by kernel_rfl) rfl args W
theorem QaM:Qg Tryz.prog 296:=fun args W=>Qc Tryz.func296 (by kernel_rfl) rfl args W
theorem QfX:Qg Tryz.prog 297:=fun args W=>Qc Tryz.func297 (by kernel_rfl) rfl args W
theorem QfE:Qg Tryz.prog 298:=fun args W=>Qc Tryz.func298 (by kernel_rfl) rfl args W
theorem QgF:Qg Tryz.prog 299:=fun args W=>Qc Tryz.func299 (by kernel_rfl) rfl args W
theorem QgQ:Qg Tryz.prog 313:=fun args W=>Qc Tryz.func313 (by kernel_rfl) rfl args W
theorem Qf7:Qg Tryz.prog 314:=fun args W=>Qc Tryz.func314 (by kernel_rfl) rfl args W
theorem Kr:Qg Tryz.prog 315:=fun args W=>Qc Tryz.func315 (by kernel_rfl) rfl args W
theorem Wl:Qg Tryz.prog 316:=fun args W=>Qc Tryz.func316 (by kernel_rfl) rfl args W
theorem Qf3:Qg Tryz.prog 319:=fun args W=>Qc Tryz.func319 (by kernel_rfl) rfl args W
theorem QfZ:Qg Tryz.prog 320:=fun args W=>Qc Tryz.func320 (by kernel_rfl) rfl args W
theorem KM:Qg Tryz.prog 356:=fun args W=>Qc Tryz.func356 (by kernel_rfl) rfl args W
theorem QhE:Qg Tryz.prog 358:=fun args W=>Qc Tryz.func358 (by kernel_rfl) rfl args W
theorem QfF:Qg Tryz.prog 359:=fun args W=>Qc Tryz.func359 (by kernel_rfl) rfl args W
theorem Qhi:Qg Tryz.prog 360:=fun args W=>Qc Tryz.func360 (by kernel_rfl) rfl args W
theorem QfJ:Qg Tryz.prog 362:=fun args W=>Qc Tryz.func362 (by kernel_rfl) rfl args W
theorem Qhk:Qg Tryz.prog 366:=fun args W=>Qc Tryz.func366 (by kernel_rfl) rfl args W
theorem Qbi:Qg Tryz.prog 367:=fun args W=>Qc Tryz.func367 (by kernel_rfl) rfl args W
theorem KG:Qg Tryz.prog 380:=fun args W=>Qc Tryz.func380 (by kernel_rfl) rfl args W
theorem Qgz:Qg Tryz.prog 381:=fun args W=>Qc Tryz.func381 (by kernel_rfl) rfl args W
theorem QgB:Qg Tryz.prog 385:=fun args W=>Qc Tryz.func385 (by kernel_rfl) rfl args W
theorem Qgq:Qg Tryz.prog 386:=fun args W=>Qc Tryz.func386 (by kernel_rfl) rfl args W
theorem QgN:Qg Tryz.prog 387:=fun args W=>Qc Tryz.func387 (by kernel_rfl) rfl args W
theorem QbO:Qg Tryz.prog 388:=fun args W=>Qc Tryz.func388 (by kernel_rfl) rfl args W
theorem Qhl:Qg Tryz.prog 389:=fun args W=>Qc Tryz.func389 (by kernel_rfl) rfl args W
theorem Zy:Qg Tryz.prog 390:=fun args W=>Qc Tryz.func390 (by kernel_rfl) rfl args W
theorem QbG:Qg Tryz.prog 391:=fun args W=>Qc Tryz.func391 (by kernel_rfl) rfl args W
theorem Qgx:Qg Tryz.prog 402:=fun args W=>Qc Tryz.func402 (by kernel_rfl) rfl args W
theorem Qgf:Qg Tryz.prog 430:=fun args W=>Qc Tryz.func430 (by kernel_rfl) rfl args W
theorem QbD:Qg Tryz.prog 435:=fun args W=>Qc Tryz.func435 (by kernel_rfl) rfl args W
theorem Qhj:Qg Tryz.prog 438:=fun args W=>Qc Tryz.func438 (by kernel_rfl) rfl args W
theorem Qbr:Qg Tryz.prog 439:=fun args W=>Qc Tryz.func439 (by kernel_rfl) rfl args W
theorem QgV:Qg Tryz.prog 441:=fun args W=>Qc Tryz.func441 (by kernel_rfl) rfl args W
theorem Qg1:Qg Tryz.prog 442:=fun args W=>Qc Tryz.func442 (by kernel_rfl) rfl args W
theorem QbQ:Qg Tryz.prog 465:=fun args W=>Qc Tryz.func465 (by kernel_rfl) rfl args W
theorem Qgk:Qg Tryz.prog 469:=fun args W=>Qc Tryz.func469 (by kernel_rfl) rfl args W
end Go.Proofs.YtgpdhgadmjfokaaGreat
namespace Go.Proofs.YtgpdhgadmjfokaaGreat
open Go.RowKit
@[reducible] def Is (pv:PV) (T:Tab):PV→Tab→Prop:=fun p T'=>p=pv∧T'=T
def FrL (s:St)(n:Nat):List Nat→Prop
  | []=>True
  | q :: l=>Fresh s (n+q)∧FrL s n l
theorem FrL.get {s:St}{n:Nat}{l:List Nat}(h:FrL s n l):∀q∈l,Fresh s (n+q):=by
  induction l with
  | nil=>simp
  | cons q l ih=>
    intro r hr
    rcases aD.1 hr with rfl | hr
    · exact h.1
    · exact ih h.2 r hr
section
variable {A:Amb}{P:Program}{s:St}
variable {f:FuncId}{xs:List Operand}{tys:Array TypeId}{args:List (Bool×List LV)}{d:Nat}{ty:TypeId}{pos:String}{af:Array Edge}{g:Option (Nat×Bool)}{pv:PV}{T:Tab}
theorem Qhd (n:Nat)(hc:FC P f args [] 0 (Is pv T))(hE:Qg P f)(ha:EvL A s xs args)(hcl:Ye pv T=true)(hn:Nat.blt d A.n=true)(hfr:FrL s n (Zw T))(hk0:A.k0≤n):
    Does A P ⟨some d, .call ⟨.value (.func f),xs.toArray,tys⟩,ty,pos,af,g⟩ s (s.back d n pv T):=
  fun a w K Q r hK=>DoesT.call n hc hE ha (by rintro _ _ ⟨rfl,rfl⟩; exact hcl) (by rintro _ _ ⟨rfl,rfl⟩ q ⟨e,hq⟩; exact hfr.get q (Zd hq).1) hk0 hn a w K Q r (by
    rintro s' a' w' ⟨_,_,⟨rfl,rfl⟩,rfl⟩ r'
    exact hK _ _ r')
theorem Ha (n:Nat)(hc:FC P f args [] 0 (Is pv T))(hE:Qg P f)(ha:EvLB A s xs args)(hcl:Ye pv T=true)(hf:(pv.fl&&T.fl)=true)(hn:Nat.blt d A.n=true)(hfr:FrL s n (Zw T))(hk0:A.k0≤n):
    Does A P ⟨some d, .call ⟨.value (.func f),xs.toArray,tys⟩,ty,pos,af,g⟩ s (s.back d n pv T):=
  fun a w K Q r hK=>Ud n hc hE ha (by rintro _ _ ⟨rfl,rfl⟩; exact hcl) (by rintro _ _ ⟨rfl,rfl⟩; simpa using hf) (by rintro _ _ ⟨rfl,rfl⟩ q ⟨e,hq⟩; exact hfr.get q (Zd hq).1) hk0 hn a w K Q r (by
    rintro s' a' w' ⟨_,_,⟨rfl,rfl⟩,rfl⟩ r'
    exact hK _ _ r')
theorem Qpr {fn:Func}{k:Nat}(pv:PV)(T':Tab)(ρ:List (Nat×Nat)){pv0:PV}(h1:Res A P fn s pv0)(h0:pv0=pv.ren (rn ρ))(h2:HasE ⟨[],s.tab⟩ ρ T')(h3:XW (T'.map fun x=>rn ρ x.1)=true)(h4:idB ρ k=true):fin A P fn (KE (Is pv T') k) .ret s:=
  H2 pv T' ρ (h0▸h1) h2 h3 h4 ⟨rfl,rfl⟩
end
def LV.thaw (T:Tab):LV→LV
  | .ref q=>match T.ent q with
    | some (.arr E e xs)=> .dat (.sl E e) xs
    | _=> .ref q
  | l=>l
def PV.thaw (T:Tab):PV→PV
  | .cm b ls=> .cm b (ls.map (LV.thaw T))
  | .tup cs=> .tup (cs.map fun c=>(c.1,c.2.map (LV.thaw T)))
section
variable {T:Tab}{gh:Gh}{w:World}
theorem LVR.thaw (cx:Cx T gh w){l:LV}{v:Value}(h:LVR T.al gh w l v):LVR (Tab.al []) ⟨gh.h,gh.f,fun g=>gh.N g∨∃q,T.al q∧g∈gh.f q⟩ w (l.thaw T) v:=by
  have hm:∀l,LVR T.al gh w l v→LVR (Tab.al []) ⟨gh.h,gh.f,fun g=>gh.N g∨∃q,T.al q∧g∈gh.f q⟩ w l v:=fun l h=>h.mono (fun q _ h=>absurd h (Zq q)) fun g hg=>⟨.inl hg,rfl⟩
  cases l with
  | ref q=>
    simp only[LV.thaw]
    split
    · rename_i E e xs he
      have hv:v=gh.h q:=h ⟨_,he⟩
      have hO:Own (.sl E e) w (gh.f q) [gh.h q] xs:=cx.en q _ he
      rw[hv]
      exact hO.rd fun g hg=> .inr ⟨q,⟨_,he⟩,hg⟩
    · exact hm _ h
  | _=>exact hm _ h
theorem LVs.thaw (cx:Cx T gh w){ls:List LV}{vs:List Value}(h:LVs T.al gh w ls vs):LVs (Tab.al []) ⟨gh.h,gh.f,fun g=>gh.N g∨∃q,T.al q∧g∈gh.f q⟩ w (ls.map (LV.thaw T)) vs:=by
  induction ls generalizing vs with
  | nil=>exact h
  | cons l ls ih=>obtain ⟨v,vs',rfl,h1,h2⟩:=h; exact ⟨v,_,rfl,h1.thaw cx,ih h2⟩
theorem CmR.thaw (cx:Cx T gh w){c:Bool×List LV}{v:Value}(h:CmR T.al gh w c v):CmR (Tab.al []) ⟨gh.h,gh.f,fun g=>gh.N g∨∃q,T.al q∧g∈gh.f q⟩ w (c.1,c.2.map (LV.thaw T)) v:=by
  obtain ⟨b,ls⟩:=c
  cases b with
  | true=>obtain ⟨vs,rfl,h1⟩:=h; exact ⟨vs,rfl,h1.thaw cx⟩
  | false=>obtain ⟨l,rfl,h1⟩:=h; exact ⟨_,rfl,h1.thaw cx⟩
theorem PVR.thaw (cx:Cx T gh w){pv:PV}{v:Value}(h:PVR T.al gh w pv v):PVR (Tab.al []) ⟨gh.h,gh.f,fun g=>gh.N g∨∃q,T.al q∧g∈gh.f q⟩ w (pv.thaw T) v:=by
  cases pv with
  | cm b ls=>exact CmR.thaw cx (c:=(b,ls)) h
  | tup cs=>
    obtain ⟨vs,rfl,h1⟩:=h
    refine ⟨vs,rfl, ?_⟩
    induction cs generalizing vs with
    | nil=>exact h1
    | cons c cs ih=>obtain ⟨v,vs',rfl,h2,h3⟩:=h1; exact ⟨v,_,rfl,h2.thaw cx,ih _ h3⟩
end
theorem FC.frozenG {P:Program}{f:FuncId}{args:List (Bool×List LV)}{pv:PV}{T:Tab}(h:FC P f args [] 0 (Is pv T)):FC P f args [] 0 (QV (pv.thaw T)):=fun gh w vs cx ha=>
  Calls.mono (h gh w vs cx ha) fun e' w' he=>by
    obtain ⟨v,pv',T',gh',rfl,⟨rfl,rfl⟩,cx',hp,fr,_⟩:=he
    refine ⟨v,_,[],_,rfl,⟨rfl,rfl⟩,XL Zq _ _ fun g hg=> ?_,hp.thaw cx',⟨fr.gw,fr.kp,fun g hg=> ?_,fun q hq=>absurd hq (Zq q)⟩,fun q hq=>absurd hq (by omega)⟩
    · rcases hg with hg | ⟨q, hq, hg⟩
      · exact cx'.nl g hg
      · exact cx'.lt hq g hg
    · rcases hg with hg | ⟨q, hq, hg⟩
      · exact fr.nn g hg
      · rcases fr.ox q hq g hg with h | ⟨q', h, _⟩
        · exact .inr (.inl h)
        · exact absurd h (Zq q')
theorem QeG {A:Amb}{P:Program}{ops:Array Oper}{o:Oper}{s s1 s':St}(hg:o.guard=none)(h:Does A P o s s1)(e:s1=s'):Acts A P ops o s s':=e▸Acts.of hg h
theorem Qkd {A:Amb}{P:Program}{ops:Array Oper}{o:Oper}{s s1 s':St}{j d:Nat}{b:Bool}(hg:o.guard=some (j,b))(hd:(ops[j]?).bind (·.dst)=some d)(hb:lk s.tm d=some (lf (dB b)))(h:Does A P o s s1)(e:s1=s'):Acts A P ops o s s':=e▸Qkx hg hd hb h
section
variable {A:Amb}{s:St}
theorem Wk.nilS (t i:Nat)(E:TypeId)(e:Ty)(hi:lk s.tm i=some (lf (.val (.slice none 0 0))))(hfr:Fresh s t)(hk0:A.k0≤t):Wk A s ⟨(i,lf (.ref t)) :: s.tm,(t,some (.arr E e [])) :: s.tab⟩:=fun a w r=>by
  obtain ⟨gh,r⟩:=r
  obtain ⟨v,h1,l,h2,h3⟩:=r.tm i _ hi
  simp only[aH,and_true] at h2
  subst h2
  have hv:v= .slice none 0 0:=h3
  have r2:=r.make t hfr hk0 [] (by simp) (Zt w) (fun _ _ _=>rfl) (E:=E) (e:=e) (xs:=[]) (hv:= .slice none 0 0) (fp:=[]) (.inl ⟨rfl,rfl,rfl⟩) bF (by simp)
  exact ⟨_,r2.know h1 (pv:=lf (.ref t)) ⟨_,rfl,fun _=>by simp[hv]⟩⟩
theorem QD (t:Nat){p off:Nat}{E':TypeId}{cs:List LV}(E:TypeId)(e:Ty)(hp:s.tab.ent p=some (.box E' cs))(ho:cs[off]? =some (.val (.slice none 0 0)))(hfr:Fresh s t)(hk0:A.k0≤t):
    Wk A s ⟨s.tm,(p,some (.box E' (splice cs off [.ref t]))) :: (t,some (.arr E e [])) :: s.tab⟩:=fun a w r=>by
  obtain ⟨gh,r⟩:=r
  have hne:p≠t:=fun h=>hfr.al ⟨_,h▸hp⟩
  obtain ⟨g,cur,h1,h2,h3,h4⟩:=r.cx.en p _ hp
  obtain ⟨v,h5,h6⟩:=h4.nth ho
  have hv:v= .slice none 0 0:=h6
  have r2:=r.make t hfr hk0 [] (by simp) (Zt w) (fun _ _ _=>rfl) (E:=E) (e:=e) (xs:=[]) (hv:= .slice none 0 0) (fp:=[]) (.inl ⟨rfl,rfl,rfl⟩) bF (by simp)
  have hp':Tab.ent ((t,some (.arr E e [])) :: (VM []++s.tab)) p=some (.box E' cs):=by rw[Qf,if_neg hne]; exact hp
  obtain ⟨g',cur',k1,k2,k3,k4⟩:=r2.cx.en p _ hp'
  simp only[if_neg hne] at k1 k2
  rw[h1] at k1
  cases k1
  rw[h3] at k3
  cases k3
  have hD:LVs (Tab.al ((t,some (.arr E e [])) :: (VM []++s.tab))) ⟨fun q=>if q=t then .slice none 0 0 else gh.h q,fun q=>if q=t then [] else gh.f q,gh.N⟩ w [.ref t] [v]:=⟨v,[],rfl,fun _=>by simp[hv],rfl⟩
  have hS:=k4.splice hD (off:=off)
  have hsame:cur.toList.take off++[v]++cur.toList.drop (off+[v].length)=cur.toList:=by
    have hl:=(aj.1 h5)
    obtain ⟨hl,hl2⟩:=hl
    conv=>rhs; rw[← bJ (off+1) cur.toList,bH hl,hl2]
    rfl
  rw[hsame] at hS
  exact ⟨_,r2.mod hp' (Zt w) (fun _ _ _=>rfl) ⟨g,cur,by simp only[if_neg hne]; exact h1,by simp only[if_neg hne]; exact h2,h3,hS⟩⟩
end
end Go.Proofs.YtgpdhgadmjfokaaGreat
