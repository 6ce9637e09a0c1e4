/- Closed facts on the types and functions of the program. -/
import Derived.Test.YtgpdhgadmjfokaaGreatProg
import Derived.Test.YtgpdhgadmjfokaaGreatAe
import Derived.Test.YtgpdhgadmjfokaaGreatStr
set_option linter.unusedSimpArgs false
set_option linter.unusedVariables false
set_option linter.unusedSectionVars false
namespace Go.Proofs.YtgpdhgadmjfokaaGreat
open Go.RowKit
theorem mixed:Tryz.prog.follows .mixedOrders=true:=by kernel_rfl
theorem Vk:Tryz.prog.underlying 3=some (.int .i64):=by kernel_rfl
theorem Yu:tsh Tryz.prog 3=some (false,1):=by kernel_rfl
theorem Yz:zer Tryz.prog 3=some (.int .i64 0):=by kernel_rfl
theorem Xe:Vp Tryz.prog 3 1=true:=by kernel_rfl
theorem QmZ:(Tryz.prog.info? 3).map (fun i=>(i.zero,i.size,i.bytes))=some (some (.int .i64 0),1,8):=by kernel_rfl
theorem Wp:Tryz.prog.underlying 4=some .bool:=by kernel_rfl
theorem Qea:tsh Tryz.prog 4=some (false,1):=by kernel_rfl
theorem Qt4:(Tryz.prog.info? 4).map (fun i=>(i.zero,i.size,i.bytes))=some (some (.bool false),1,1):=by kernel_rfl
theorem WR:Tryz.prog.underlying 5=some (.int .u8):=by kernel_rfl
theorem ZM:tsh Tryz.prog 5=some (false,1):=by kernel_rfl
theorem Qk4:zer Tryz.prog 5=some (.int .u8 0):=by kernel_rfl
theorem Qrs:(Tryz.prog.info? 5).map (fun i=>(i.zero,i.size,i.bytes))=some (some (.int .u8 0),1,1):=by kernel_rfl
theorem Q9:Tryz.prog.underlying 9=some .string:=by kernel_rfl
theorem VX:tsh Tryz.prog 9=some (false,1):=by kernel_rfl
theorem WE:zer Tryz.prog 9=some (.string ByteArray.empty):=by kernel_rfl
theorem Ji:Vp Tryz.prog 9 1=true:=by kernel_rfl
theorem QuJ:(Tryz.prog.info? 9).map (fun i=>(i.zero,i.size,i.bytes))=some (some (.string ByteArray.empty),1,16):=by kernel_rfl
theorem Z7:Tryz.prog.underlying 22=some (.slice 5):=by kernel_rfl
theorem Qax:Tryz.prog.underlying 23=some (.slice 44):=by kernel_rfl
theorem QrD:tsh Tryz.prog 23=some (false,1):=by kernel_rfl
theorem QaE:Tryz.prog.underlying 24=some (.slice 9):=by kernel_rfl
theorem QiL:tsh Tryz.prog 24=some (false,1):=by kernel_rfl
theorem WN:Tryz.prog.underlying 25=some (.slice 46):=by kernel_rfl
theorem Vx:tsh Tryz.prog 25=some (false,1):=by kernel_rfl
theorem XQ:tsh Tryz.prog 27=some (true,3):=by kernel_rfl
theorem Kt:fld Tryz.prog 27 2=some 2:=by kernel_rfl
theorem ZI:zer Tryz.prog 27=some (.agg #[.slice none 0 0, .slice none 0 0, .slice none 0 0]):=by kernel_rfl
theorem Xq:bld Tryz.prog 27 [(0,1),(1,1),(2,1)] (.pr (.sl 44 (.pr .str .int)) (.pr (.sl 9 .str) (.sl 46 (.pr .int (.pr .int (.pr .bool .int)))))):=XS Tryz.underlying27 (by kernel_rfl) ZI
theorem Ya:Tryz.prog.underlying 32=some (.slice 3):=by kernel_rfl
theorem U3:tsh Tryz.prog 32=some (false,1):=by kernel_rfl
theorem Qs0:zer Tryz.prog 32=some (.slice none 0 0):=by kernel_rfl
theorem QsJ:(Tryz.prog.info? 32).map (fun i=>(i.zero,i.size,i.bytes))=some (some (.slice none 0 0),1,24):=by kernel_rfl
theorem Ux:zer Tryz.prog 44=some (.agg #[.string ByteArray.empty, .int .i64 0]):=by kernel_rfl
theorem U2:Vp Tryz.prog 44 2=true:=by kernel_rfl
theorem Qix:bld Tryz.prog 44 [(0,1),(1,1)] (.pr .str .int):=XS Tryz.underlying44 (by kernel_rfl) Ux
theorem W9:tsh Tryz.prog 46=some (true,4):=by kernel_rfl
theorem Qhe:fld Tryz.prog 46 2=some 2:=by kernel_rfl
theorem Qnh:fld Tryz.prog 46 3=some 3:=by kernel_rfl
theorem Zu:zer Tryz.prog 46=some (.agg #[.int .i64 0, .int .i64 0, .bool false, .int .i64 0]):=by kernel_rfl
theorem UZ:Vp Tryz.prog 46 4=true:=by kernel_rfl
theorem Qaz:bld Tryz.prog 46 [(0,1),(1,1),(2,1),(3,1)] (.pr .int (.pr .int (.pr .bool .int))):=XS Tryz.underlying46 (by kernel_rfl) Zu
theorem Qao:Tryz.prog.underlying 57=some (.slice 245):=by kernel_rfl
theorem Qnr:tsh Tryz.prog 57=some (false,1):=by kernel_rfl
theorem Qfo:tsh Tryz.prog 59=some (true,2):=by kernel_rfl
theorem Qar:zer Tryz.prog 59=some (.agg #[.int .i64 0, .slice none 0 0]):=by kernel_rfl
theorem QfZ:bld Tryz.prog 59 [(0,1),(1,1)] (.pr .int (.sl 245 (.pr (.sl 3 .int) (.sl 3 .int)))):=XS Tryz.underlying59 (by kernel_rfl) Qar
theorem Qtc:Tryz.prog.underlying 60=some (.slice 86):=by kernel_rfl
theorem Qom:tsh Tryz.prog 60=some (false,1):=by kernel_rfl
theorem Ym:tsh Tryz.prog 62=some (true,5):=by kernel_rfl
theorem Jr:zer Tryz.prog 62=some (.agg #[.int .i64 0, .slice none 0 0, .slice none 0 0, .slice none 0 0, .string ByteArray.empty]):=by kernel_rfl
theorem Qc2:bld Tryz.prog 62 [(0,2),(2,1),(3,1),(4,1)] (.pr (.pr .int (.sl 245 (.pr (.sl 3 .int) (.sl 3 .int)))) (.pr (.sl 44 (.pr .str .int)) (.pr (.sl 86 (.pr .int .bool)) .str))):=XS Tryz.underlying62 (by kernel_rfl) Jr
theorem QhB:Tryz.prog.underlying 67=some (.slice 32):=by kernel_rfl
theorem XN:zer Tryz.prog 86=some (.agg #[.int .i64 0, .bool false]):=by kernel_rfl
theorem QaH:Vp Tryz.prog 86 2=true:=by kernel_rfl
theorem Va:bld Tryz.prog 86 [(0,1),(1,1)] (.pr .int .bool):=XS Tryz.underlying86 (by kernel_rfl) XN
theorem QsA:Tryz.prog.underlying 90=some (.slice 4):=by kernel_rfl
theorem Qbz:Tryz.prog.underlying 117=some (.int .u64):=by kernel_rfl
theorem UE:Tryz.prog.underlying 134=some (.map 9 32):=by kernel_rfl
theorem QfV:zer Tryz.prog 160=some (.agg #[.slice none 0 0, .slice none 0 0]):=by kernel_rfl
theorem QbB:bld Tryz.prog 160 [(0,1),(1,1)] (.pr (.sl 9 .str) (.sl 263 (.pr .int (.pr .int .int)))):=XS Tryz.underlying160 (by kernel_rfl) QfV
theorem QjK:Tryz.prog.underlying 200=some (.map 207 3):=by kernel_rfl
theorem QqM:Tryz.prog.underlying 201=some (.slice 207):=by kernel_rfl
theorem Qqj:tsh Tryz.prog 201=some (false,1):=by kernel_rfl
theorem Qmn:fld Tryz.prog 203 2=some 4:=by kernel_rfl
theorem QkM:tsh Tryz.prog 207=some (true,2):=by kernel_rfl
theorem Qbh:zer Tryz.prog 207=some (.agg #[.int .i64 0, .bool false]):=by kernel_rfl
theorem Qrb:Vp Tryz.prog 207 2=true:=by kernel_rfl
theorem Wi:bld Tryz.prog 207 [(0,1),(1,1)] (.pr .int .bool):=XS Tryz.underlying207 (by kernel_rfl) Qbh
theorem Qfu:Tryz.prog.underlying 228=some (.int .u64):=by kernel_rfl
theorem KE:tsh Tryz.prog 245=some (true,2):=by kernel_rfl
theorem QeF:fld Tryz.prog 245 0=some 0:=by kernel_rfl
theorem Qev:fld Tryz.prog 245 1=some 1:=by kernel_rfl
theorem Uq:zer Tryz.prog 245=some (.agg #[.slice none 0 0, .slice none 0 0]):=by kernel_rfl
theorem Qbm:Vp Tryz.prog 245 2=true:=by kernel_rfl
theorem Qbx:bld Tryz.prog 245 [(0,1),(1,1)] (.pr (.sl 3 .int) (.sl 3 .int)):=XS Tryz.underlying245 (by kernel_rfl) Uq
theorem QbE:zer Tryz.prog 250=some (.agg #[.slice none 0 0, .slice none 0 0, .slice none 0 0, .int .i64 0, .int .i64 0, .bool false]):=by kernel_rfl
theorem Qq7:bld Tryz.prog 250 [(0,2),(2,1),(3,1),(4,1),(5,1)] (.pr (.pr (.sl 9 .str) (.sl 263 (.pr .int (.pr .int .int)))) (.pr (.sl 263 (.pr .int (.pr .int .int))) (.pr .int (.pr .int .bool)))):=XS Tryz.underlying250 (by kernel_rfl) QbE
theorem Ut:zer Tryz.prog 263=some (.agg #[.int .i64 0, .int .i64 0, .int .i64 0]):=by kernel_rfl
theorem QfL:Vp Tryz.prog 263 3=true:=by kernel_rfl
theorem Qbt:bld Tryz.prog 263 [(0,1),(1,1),(2,1)] (.pr .int (.pr .int .int)):=XS Tryz.underlying263 (by kernel_rfl) Ut
theorem KP:fld Tryz.prog 287 3=some 5:=by kernel_rfl
theorem QpI:zer Tryz.prog 287=some (.agg #[.slice none 0 0, .slice none 0 0, .slice none 0 0, .string ByteArray.empty, .slice none 0 0, .slice none 0 0, .slice none 0 0, .slice none 0 0]):=by kernel_rfl
theorem Qrc:bld Tryz.prog 287 [(0,3),(3,1),(4,1),(5,3)] (.pr (.pr (.sl 44 (.pr .str .int)) (.pr (.sl 9 .str) (.sl 46 (.pr .int (.pr .int (.pr .bool .int)))))) (.pr .str (.pr (.sl 3 .int) (.pr (.sl 44 (.pr .str .int)) (.pr (.sl 9 .str) (.sl 46 (.pr .int (.pr .int (.pr .bool .int))))))))):=XS Tryz.underlying287 (by kernel_rfl) QpI
theorem QbI:zer Tryz.prog 295=some (.agg #[.int .i64 0, .int .i64 0]):=by kernel_rfl
theorem Qq2:Vp Tryz.prog 295 2=true:=by kernel_rfl
theorem Qq8:bld Tryz.prog 295 [(0,1),(1,1)] (.pr .int .int):=XS Tryz.underlying295 (by kernel_rfl) QbI
theorem Qq5:zer Tryz.prog 341=some (.agg #[.int .i64 0, .slice none 0 0, .slice none 0 0, .slice none 0 0, .string ByteArray.empty, .slice none 0 0, .slice none 0 0]):=by kernel_rfl
theorem QpM:bld Tryz.prog 341 [(0,5),(5,1),(6,1)] (.pr (.pr (.pr .int (.sl 245 (.pr (.sl 3 .int) (.sl 3 .int)))) (.pr (.sl 44 (.pr .str .int)) (.pr (.sl 86 (.pr .int .bool)) .str))) (.pr (.sl 9 .str) (.sl 9 .str))):=XS Tryz.underlying341 (by kernel_rfl) Qq5
theorem Qnz:Qg Tryz.prog 9:=fun a W=>Qb Tryz.func9 (by kernel_rfl) rfl a W
theorem QlT:Qg Tryz.prog 10:=fun a W=>Qb Tryz.func10 (by kernel_rfl) rfl a W
theorem Qlx:Qg Tryz.prog 11:=fun a W=>Qb Tryz.func11 (by kernel_rfl) rfl a W
theorem QmP:Qg Tryz.prog 12:=fun a W=>Qb Tryz.func12 (by kernel_rfl) rfl a W
theorem Qlz:Qg Tryz.prog 13:=fun a W=>Qb Tryz.func13 (by kernel_rfl) rfl a W
theorem Ql2:Qg Tryz.prog 14:=fun a W=>Qb Tryz.func14 (by kernel_rfl) rfl a W
theorem Qeu:Qg Tryz.prog 15:=fun a W=>Qb Tryz.func15 (by kernel_rfl) rfl a W
theorem QlD:Qg Tryz.prog 16:=fun a W=>Qb Tryz.func16 (by kernel_rfl) rfl a W
theorem Qmt:Qg Tryz.prog 17:=fun a W=>Qb Tryz.func17 (by kernel_rfl) rfl a W
theorem QmC:Qg Tryz.prog 18:=fun a W=>Qb Tryz.func18 (by kernel_rfl) rfl a W
theorem Qac:Qg Tryz.prog 19:=fun a W=>Qb Tryz.func19 (by kernel_rfl) rfl a W
theorem Qmr:Qg Tryz.prog 20:=fun a W=>Qb Tryz.func20 (by kernel_rfl) rfl a W
theorem Qlt:Qg Tryz.prog 21:=fun a W=>Qb Tryz.func21 (by kernel_rfl) rfl a W
theorem Qd2:Qg Tryz.prog 22:=fun a W=>Qb Tryz.func22 (by kernel_rfl) rfl a W
theorem QmF:Qg Tryz.prog 23:=fun a W=>Qb Tryz.func23 (by kernel_rfl) rfl a W
theorem Qd3:Qg Tryz.prog 24:=fun a W=>Qb Tryz.func24 (by kernel_rfl) rfl a W
theorem QlB:Qg Tryz.prog 25:=fun a W=>Qb Tryz.func25 (by kernel_rfl) rfl a W
theorem Qd0:Qg Tryz.prog 86:=fun a W=>Qb Tryz.func86 (by kernel_rfl) rfl a W
theorem Qap:Qg Tryz.prog 87:=fun a W=>Qb Tryz.func87 (by kernel_rfl) rfl a W
theorem QdR:Qg Tryz.prog 88:=fun a W=>Qb Tryz.func88 (by kernel_rfl) rfl a W
theorem Qd5:Qg Tryz.prog 89:=fun a W=>Qb Tryz.func89 (by kernel_rfl) rfl a W
theorem Qex:Qg Tryz.prog 90:=fun a W=>Qb Tryz.func90 (by kernel_rfl) rfl a W
theorem Ql7:Qg Tryz.prog 91:=fun a W=>Qb Tryz.func91 (by kernel_rfl) rfl a W
theorem K1:Qg Tryz.prog 92:=fun a W=>Qb Tryz.func92 (by kernel_rfl) rfl a W
theorem H3:Qg Tryz.prog 93:=fun a W=>Qb Tryz.func93 (by kernel_rfl) rfl a W
theorem QeC:Qg Tryz.prog 94:=fun a W=>Qb Tryz.func94 (by kernel_rfl) rfl a W
theorem QmG:Qg Tryz.prog 95:=fun a W=>Qb Tryz.func95 (by kernel_rfl) rfl a W
theorem QlJ:Qg Tryz.prog 96:=fun a W=>Qb Tryz.func96 (by kernel_rfl) rfl a W
theorem QmH:Qg Tryz.prog 97:=fun a W=>Qb Tryz.func97 (by kernel_rfl) rfl a W
theorem QlK:Qg Tryz.prog 98:=fun a W=>Qb Tryz.func98 (by kernel_rfl) rfl a W
theorem Qk7:Qg Tryz.prog 99:=fun a W=>Qb Tryz.func99 (by kernel_rfl) rfl a W
theorem QhR:Qg Tryz.prog 100:=fun a W=>Qb Tryz.func100 (by kernel_rfl) rfl a W
theorem Qcu:Qg Tryz.prog 101:=fun a W=>Qb Tryz.func101 (by kernel_rfl) rfl a W
theorem W2:Qg Tryz.prog 102:=fun a W=>Qb Tryz.func102 (by kernel_rfl) rfl a W
theorem Qhw:Qg Tryz.prog 103:=fun a W=>Qb Tryz.func103 (by kernel_rfl) rfl a W
theorem Qie:Qg Tryz.prog 104:=fun a W=>Qb Tryz.func104 (by kernel_rfl) rfl a W
theorem Yy:Qg Tryz.prog 105:=fun a W=>Qb Tryz.func105 (by kernel_rfl) rfl a W
theorem JC:Qg Tryz.prog 106:=fun a W=>Qb Tryz.func106 (by kernel_rfl) rfl a W
theorem Z3:Qg Tryz.prog 107:=fun a W=>Qb Tryz.func107 (by kernel_rfl) rfl a W
theorem QbS:Qg Tryz.prog 108:=fun a W=>Qb Tryz.func108 (by kernel_rfl) rfl a W
theorem QiB:Qg Tryz.prog 109:=fun a W=>Qb Tryz.func109 (by kernel_rfl) rfl a W
theorem Qh2:Qg Tryz.prog 110:=fun a W=>Qb Tryz.func110 (by kernel_rfl) rfl a W
theorem QiN:Qg Tryz.prog 111:=fun a W=>Qb Tryz.func111 (by kernel_rfl) rfl a W
theorem Qjd:Qg Tryz.prog 130:=fun a W=>Qb Tryz.func130 (by kernel_rfl) rfl a W
theorem JQ:Qg Tryz.prog 138:=fun a W=>Qb Tryz.func138 (by kernel_rfl) rfl a W
theorem Qc8:Qg Tryz.prog 143:=fun a W=>Qb Tryz.func143 (by kernel_rfl) rfl a W
theorem ZU:Qg Tryz.prog 156:=fun a W=>Qb Tryz.func156 (by kernel_rfl) rfl a W
theorem WY:Qg Tryz.prog 163:=fun a W=>Qb Tryz.func163 (by kernel_rfl) rfl a W
theorem Qhq:Qg Tryz.prog 190:=fun a W=>Qb Tryz.func190 (by kernel_rfl) rfl a W
theorem Qc1:Qg Tryz.prog 191:=fun a W=>Qb Tryz.func191 (by kernel_rfl) rfl a W
theorem Qjc:Qg Tryz.prog 192:=fun a W=>Qb Tryz.func192 (by kernel_rfl) rfl a W
theorem Qjs:Qg Tryz.prog 193:=fun a W=>Qb Tryz.func193 (by kernel_rfl) rfl a W
theorem Qh5:Qg Tryz.prog 194:=fun a W=>Qb Tryz.func194 (by kernel_rfl) rfl a W
theorem Qji:Qg Tryz.prog 195:=fun a W=>Qb Tryz.func195 (by kernel_rfl) rfl a W
theorem JO:Qg Tryz.prog 196:=fun a W=>Qb Tryz.func196 (by kernel_rfl) rfl a W
theorem QhO:Qg Tryz.prog 197:=fun a W=>Qb Tryz.func197 (by kernel_rfl) rfl a W
theorem QiY:Qg Tryz.prog 198:=fun a W=>Qb Tryz.func198 (by kernel_rfl) rfl a W
theorem QcS:Qg Tryz.prog 199:=fun a W=>Qb Tryz.func199 (by kernel_rfl) rfl a W
theorem Qhv:Qg Tryz.prog 200:=fun a W=>Qb Tryz.func200 (by kernel_rfl) rfl a W
theorem JF:Qg Tryz.prog 201:=fun a W=>Qb Tryz.func201 (by kernel_rfl) rfl a W
theorem Qii:Qg Tryz.prog 202:=fun a W=>Qb Tryz.func202 (by kernel_rfl) rfl a W
theorem Qjl:Qg Tryz.prog 203:=fun a W=>Qb Tryz.func203 (by kernel_rfl) rfl a W
theorem Qi4:Qg Tryz.prog 204:=fun a W=>Qb Tryz.func204 (by kernel_rfl) rfl a W
theorem Qi7:Qg Tryz.prog 205:=fun a W=>Qb Tryz.func205 (by kernel_rfl) rfl a W
theorem Qic:Qg Tryz.prog 206:=fun a W=>Qb Tryz.func206 (by kernel_rfl) rfl a W
theorem Qhp:Qg Tryz.prog 207:=fun a W=>Qb Tryz.func207 (by kernel_rfl) rfl a W
theorem Qi8:Qg Tryz.prog 208:=fun a W=>Qb Tryz.func208 (by kernel_rfl) rfl a W
theorem QhY:Qg Tryz.prog 209:=fun a W=>Qb Tryz.func209 (by kernel_rfl) rfl a W
theorem QhE:Qg Tryz.prog 210:=fun a W=>Qb Tryz.func210 (by kernel_rfl) rfl a W
theorem Qjh:Qg Tryz.prog 211:=fun a W=>Qb Tryz.func211 (by kernel_rfl) rfl a W
theorem QhT:Qg Tryz.prog 212:=fun a W=>Qb Tryz.func212 (by kernel_rfl) rfl a W
theorem Qb3:Qg Tryz.prog 213:=fun a W=>Qb Tryz.func213 (by kernel_rfl) rfl a W
theorem QiP:Qg Tryz.prog 214:=fun a W=>Qb Tryz.func214 (by kernel_rfl) rfl a W
theorem UL:Qg Tryz.prog 215:=fun a W=>Qb Tryz.func215 (by kernel_rfl) rfl a W
theorem QhI:Qg Tryz.prog 216:=fun a W=>Qb Tryz.func216 (by kernel_rfl) rfl a W
theorem Qhr:Qg Tryz.prog 217:=fun a W=>Qb Tryz.func217 (by kernel_rfl) rfl a W
theorem QhP:Qg Tryz.prog 218:=fun a W=>Qb Tryz.func218 (by kernel_rfl) rfl a W
theorem Qia:Qg Tryz.prog 219:=fun a W=>Qb Tryz.func219 (by kernel_rfl) rfl a W
theorem Xp:Qg Tryz.prog 220:=fun a W=>Qb Tryz.func220 (by kernel_rfl) rfl a W
theorem QiH:Qg Tryz.prog 221:=fun a W=>Qb Tryz.func221 (by kernel_rfl) rfl a W
theorem QhJ:Qg Tryz.prog 222:=fun a W=>Qb Tryz.func222 (by kernel_rfl) rfl a W
theorem Qjj:Qg Tryz.prog 235:=fun a W=>Qb Tryz.func235 (by kernel_rfl) rfl a W
theorem Uz:Qg Tryz.prog 249:=fun a W=>Qb Tryz.func249 (by kernel_rfl) rfl a W
theorem QiR:Qg Tryz.prog 250:=fun a W=>Qb Tryz.func250 (by kernel_rfl) rfl a W
theorem QiC:Qg Tryz.prog 251:=fun a W=>Qb Tryz.func251 (by kernel_rfl) rfl a W
theorem Qip:Qg Tryz.prog 254:=fun a W=>Qb Tryz.func254 (by kernel_rfl) rfl a W
theorem QjB:Qg Tryz.prog 259:=fun a W=>Qb Tryz.func259 (by kernel_rfl) rfl a W
theorem Qh6:Qg Tryz.prog 263:=fun a W=>Qb Tryz.func263 (by kernel_rfl) rfl a W
theorem Qcs:Qg Tryz.prog 264:=fun a W=>Qb Tryz.func264 (by kernel_rfl) rfl a W
theorem Qdj:Qg Tryz.prog 273:=fun a W=>Qb Tryz.func273 (by kernel_rfl) rfl a W
theorem Zt:Qg Tryz.prog 275:=fun a W=>Qb Tryz.func275 (by kernel_rfl) rfl a W
theorem Qch:Qg Tryz.prog 277:=fun a W=>Qb Tryz.func277 (by kernel_rfl) rfl a W
theorem Xn:Qg Tryz.prog 285:=fun a W=>Qb Tryz.func285 (by kernel_rfl) rfl a W
theorem QcC:Qg Tryz.prog 286:=fun a W=>Qb Tryz.func286 (by kernel_rfl) rfl a W
theorem QiA:Qg Tryz.prog 305:=fun a W=>Qb Tryz.func305 (by kernel_rfl) rfl a W
theorem Qjz:Qg Tryz.prog 306:=fun a W=>Qb Tryz.func306 (by kernel_rfl) rfl a W
theorem QiJ:Qg Tryz.prog 307:=fun a W=>Qb Tryz.func307 (by kernel_rfl) rfl a W
theorem QhW:Qg Tryz.prog 308:=fun a W=>Qb Tryz.func308 (by kernel_rfl) rfl a W
theorem YX:Qg Tryz.prog 309:=fun a W=>Qb Tryz.func309 (by kernel_rfl) rfl a W
theorem Qhu:Qg Tryz.prog 310:=fun a W=>Qb Tryz.func310 (by kernel_rfl) rfl a W
theorem Xm:Qg Tryz.prog 311:=fun a W=>Qb Tryz.func311 (by kernel_rfl) rfl a W
theorem Qh4:Qg Tryz.prog 312:=fun a W=>Qb Tryz.func312 (by kernel_rfl) rfl a W
theorem Qda:Qg Tryz.prog 313:=fun a W=>Qb Tryz.func313 (by kernel_rfl) rfl a W
theorem Qh1:Qg Tryz.prog 314:=fun a W=>Qb Tryz.func314 (by kernel_rfl) rfl a W
theorem JA:Qg Tryz.prog 315:=fun a W=>Qb Tryz.func315 (by kernel_rfl) rfl a W
theorem W4:Qg Tryz.prog 316:=fun a W=>Qb Tryz.func316 (by kernel_rfl) rfl a W
theorem Qh7:Qg Tryz.prog 319:=fun a W=>Qb Tryz.func319 (by kernel_rfl) rfl a W
theorem QiK:Qg Tryz.prog 320:=fun a W=>Qb Tryz.func320 (by kernel_rfl) rfl a W
theorem Qi9:Qg Tryz.prog 337:=fun a W=>Qb Tryz.func337 (by kernel_rfl) rfl a W
theorem QcO:Qg Tryz.prog 338:=fun a W=>Qb Tryz.func338 (by kernel_rfl) rfl a W
theorem QhD:Qg Tryz.prog 340:=fun a W=>Qb Tryz.func340 (by kernel_rfl) rfl a W
theorem JN:Qg Tryz.prog 341:=fun a W=>Qb Tryz.func341 (by kernel_rfl) rfl a W
theorem JL:Qg Tryz.prog 356:=fun a W=>Qb Tryz.func356 (by kernel_rfl) rfl a W
theorem Qis:Qg Tryz.prog 358:=fun a W=>Qb Tryz.func358 (by kernel_rfl) rfl a W
theorem Qjp:Qg Tryz.prog 359:=fun a W=>Qb Tryz.func359 (by kernel_rfl) rfl a W
theorem Qje:Qg Tryz.prog 360:=fun a W=>Qb Tryz.func360 (by kernel_rfl) rfl a W
theorem QhX:Qg Tryz.prog 362:=fun a W=>Qb Tryz.func362 (by kernel_rfl) rfl a W
theorem Qh9:Qg Tryz.prog 366:=fun a W=>Qb Tryz.func366 (by kernel_rfl) rfl a W
theorem Ui:Qg Tryz.prog 367:=fun a W=>Qb Tryz.func367 (by kernel_rfl) rfl a W
theorem JE:Qg Tryz.prog 380:=fun a W=>Qb Tryz.func380 (by kernel_rfl) rfl a W
theorem Qiq:Qg Tryz.prog 381:=fun a W=>Qb Tryz.func381 (by kernel_rfl) rfl a W
theorem Qhz:Qg Tryz.prog 396:=fun a W=>Qb Tryz.func396 (by kernel_rfl) rfl a W
theorem QiX:Qg Tryz.prog 397:=fun a W=>Qb Tryz.func397 (by kernel_rfl) rfl a W
theorem Qjk:Qg Tryz.prog 398:=fun a W=>Qb Tryz.func398 (by kernel_rfl) rfl a W
theorem QcI:Qg Tryz.prog 399:=fun a W=>Qb Tryz.func399 (by kernel_rfl) rfl a W
theorem Qit:Qg Tryz.prog 400:=fun a W=>Qb Tryz.func400 (by kernel_rfl) rfl a W
theorem QcL:Qg Tryz.prog 401:=fun a W=>Qb Tryz.func401 (by kernel_rfl) rfl a W
theorem Qi0:Qg Tryz.prog 402:=fun a W=>Qb Tryz.func402 (by kernel_rfl) rfl a W
theorem QcB:Qg Tryz.prog 422:=fun a W=>Qb Tryz.func422 (by kernel_rfl) rfl a W
theorem QiM:Qg Tryz.prog 430:=fun a W=>Qb Tryz.func430 (by kernel_rfl) rfl a W
theorem QcM:Qg Tryz.prog 435:=fun a W=>Qb Tryz.func435 (by kernel_rfl) rfl a W
theorem Qiw:Qg Tryz.prog 438:=fun a W=>Qb Tryz.func438 (by kernel_rfl) rfl a W
theorem QcG:Qg Tryz.prog 439:=fun a W=>Qb Tryz.func439 (by kernel_rfl) rfl a W
theorem Qc6:Qg Tryz.prog 465:=fun a W=>Qb Tryz.func465 (by kernel_rfl) rfl a W
end Go.Proofs.YtgpdhgadmjfokaaGreat
namespace Go.Proofs.YtgpdhgadmjfokaaGreat
open Go.RowKit
@[reducible] def Is (pv:PV) (T:Tab):PV→Tab→Prop:=fun p T'=>p=pv∧T'=T
def FrL (s:St)(n:Nat):List Nat→Prop
 | []=>True
 | q :: l=>Fresh s (n+q)∧FrL s n l
theorem FrL.get {s:St}{n:Nat}{l:List Nat}(h:FrL s n l):∀q∈l,Fresh s (n+q):=by
 induction l with
 | nil=>simp
 | cons q l b=>
  intro r a
  rcases aB.1 a with rfl | a
  ·exact h.1
  ·exact b h.2 r a
section
variable {A:Amb}{P:Program}{s:St}
variable {f:FuncId}{xs:List Operand}{tys:Array TypeId}{args:List (Bool×List LV)}{d:Nat}{ty:TypeId}{pos:String}{af:Array Edge}{g:Option (Nat×Bool)}{pv:PV}{T:Tab}
theorem Qiy (n:Nat)(l:FC P f args [] 0 (Is pv T))(i:Qg P f)(k:EvL A s xs args)(b:Yj pv T=true)(m:Nat.blt d A.n=true)(c:FrL s n (Zx T))(h:A.k0≤n):
 Does A P ⟨some d, .call ⟨.value (.func f),xs.toArray,tys⟩,ty,pos,af,g⟩ s (s.back d n pv T):=
 fun a w K Q r j=>DoesT.call n l i k (by rintro _ _ ⟨rfl,rfl⟩; exact b) (by rintro _ _ ⟨rfl,rfl⟩ q ⟨e,o⟩; exact c.get q (Ze o).1) h m a w K Q r (by
  rintro u t v ⟨_,_,⟨rfl,rfl⟩,rfl⟩ p
  exact j _ _ p)
theorem QaU (n:Nat)(l:FC P f args [] 0 (Is pv T))(i:Qg P f)(k:EvLB A s xs args)(b:Yj pv T=true)(m:(pv.fl&&T.fl)=true)(o:Nat.blt d A.n=true)(c:FrL s n (Zx T))(h:A.k0≤n):
 Does A P ⟨some d, .call ⟨.value (.func f),xs.toArray,tys⟩,ty,pos,af,g⟩ s (s.back d n pv T):=
 fun a w K Q r j=>Kq n l i k (by rintro _ _ ⟨rfl,rfl⟩; exact b) (by rintro _ _ ⟨rfl,rfl⟩; simpa using m) (by rintro _ _ ⟨rfl,rfl⟩ q ⟨e,p⟩; exact c.get q (Ze p).1) h o a w K Q r (by
  rintro v u x ⟨_,_,⟨rfl,rfl⟩,rfl⟩ t
  exact j _ _ t)
theorem Qti {fn:Func}{k:Nat}(pv:PV)(b:Tab)(ρ:List (Nat×Nat)){a:PV}(c:Res A P fn s a)(h0:a=pv.ren (rn ρ))(e:HasE ⟨[],s.tab⟩ ρ b)(h:X6 (b.map fun x=>rn ρ x.1)=true)(i:idB ρ k=true):fin A P fn (JP (Is pv b) k) .ret s:=
 Qbp pv b ρ (h0▸c) e h i ⟨rfl,rfl⟩
end
def LV.thaw (T:Tab):LV→LV
 | .ref q=>match T.ent q with
  | some (.arr E e xs)=> .dat (.sl E e) xs
  | _=> .ref q
 | l=>l
def PV.thaw (T:Tab):PV→PV
 | .cm b ls=> .cm b (ls.map (LV.thaw T))
 | .tup cs=> .tup (cs.map fun c=>(c.1,c.2.map (LV.thaw T)))
section
variable {T:Tab}{gh:Gh}{w:World}
theorem LVR.thaw (i:Cx T gh w){l:LV}{v:Value}(h:LVR T.al gh w l v):LVR (Tab.al []) ⟨gh.h,gh.f,fun g=>gh.N g∨∃q,T.al q∧g∈gh.f q⟩ w (l.thaw T) v:=by
 have c:∀l,LVR T.al gh w l v→LVR (Tab.al []) ⟨gh.h,gh.f,fun g=>gh.N g∨∃q,T.al q∧g∈gh.f q⟩ w l v:=fun l h=>h.mono (fun q _ h=>absurd h (ZL q)) fun g b=>⟨.inl b,rfl⟩
 cases l with
 | ref q=>
  simp only[LV.thaw]
  split
  ·rename_i E e xs a
   have k:v=gh.h q:=h ⟨_,a⟩
   have j:Own (.sl E e) w (gh.f q) [gh.h q] xs:=i.en q _ a
   rw[k]
   exact j.rd fun g b=> .inr ⟨q,⟨_,a⟩,b⟩
  ·exact c _ h
 | _=>exact c _ h
theorem LVs.thaw (a:Cx T gh w){ls:List LV}{vs:List Value}(h:LVs T.al gh w ls vs):LVs (Tab.al []) ⟨gh.h,gh.f,fun g=>gh.N g∨∃q,T.al q∧g∈gh.f q⟩ w (ls.map (LV.thaw T)) vs:=by
 induction ls generalizing vs with
 | nil=>exact h
 | cons l ls e=>obtain ⟨v,i,rfl,b,c⟩:=h; exact ⟨v,_,rfl,b.thaw a,e c⟩
theorem CmR.thaw (e:Cx T gh w){c:Bool×List LV}{v:Value}(h:CmR T.al gh w c v):CmR (Tab.al []) ⟨gh.h,gh.f,fun g=>gh.N g∨∃q,T.al q∧g∈gh.f q⟩ w (c.1,c.2.map (LV.thaw T)) v:=by
 obtain ⟨b,j⟩:=c
 cases b with
 | true=>obtain ⟨i,rfl,a⟩:=h; exact ⟨i,rfl,a.thaw e⟩
 | false=>obtain ⟨l,rfl,a⟩:=h; exact ⟨_,rfl,a.thaw e⟩
theorem PVR.thaw (e:Cx T gh w){pv:PV}{v:Value}(h:PVR T.al gh w pv v):PVR (Tab.al []) ⟨gh.h,gh.f,fun g=>gh.N g∨∃q,T.al q∧g∈gh.f q⟩ w (pv.thaw T) v:=by
 cases pv with
 | cm b n=>exact CmR.thaw e (c:=(b,n)) h
 | tup a=>
  obtain ⟨j,rfl,i⟩:=h
  refine ⟨j,rfl, ?_⟩
  induction a generalizing j with
  | nil=>exact i
  | cons c a m=>obtain ⟨v,o,rfl,k,l⟩:=i; exact ⟨v,_,rfl,k.thaw e,m _ l⟩
end
theorem FC.frozenG {P:Program}{f:FuncId}{args:List (Bool×List LV)}{pv:PV}{T:Tab}(h:FC P f args [] 0 (Is pv T)):FC P f args [] 0 (Q7 (pv.thaw T)):=fun gh w p i k=>
 Calls.mono (h gh w p i k) fun t u l=>by
  obtain ⟨v,n,r,j,rfl,⟨rfl,rfl⟩,b,m,e,_⟩:=l
  refine ⟨v,_,[],_,rfl,⟨rfl,rfl⟩,WW ZL _ _ fun g a=> ?_,m.thaw b,⟨e.gw,e.kp,fun g a=> ?_,fun q c=>absurd c (ZL q)⟩,fun q c=>absurd c (by omega)⟩
  ·rcases a with a | ⟨q,c,a⟩
   ·exact b.nl g a
   ·exact b.lt c g a
  ·rcases a with a | ⟨q,c,a⟩
   ·exact e.nn g a
   ·rcases e.ox q c g a with h | ⟨o,h,_⟩
    ·exact .inr (.inl h)
    ·exact absurd h (ZL o)
theorem Qhl {A:Amb}{P:Program}{ops:Array Oper}{o:Oper}{s a s':St}(b:o.guard=none)(h:Does A P o s a)(e:a=s'):Acts A P ops o s s':=e▸Acts.of b h
theorem QmI {A:Amb}{P:Program}{ops:Array Oper}{o:Oper}{s a s':St}{j d:Nat}{b:Bool}(i:o.guard=some (j,b))(c:(ops[j]?).bind (·.dst)=some d)(hb:lk s.tm d=some (lf (dB b)))(h:Does A P o s a)(e:a=s'):Acts A P ops o s s':=e▸Qpq i c hb h
section
variable {A:Amb}{s:St}
theorem Wk.nilS (t i:Nat)(E:TypeId)(e:Ty)(hi:lk s.tm i=some (lf (.val (.slice none 0 0))))(b:Fresh s t)(c:A.k0≤t):Wk A s ⟨(i,lf (.ref t)) :: s.tm,(t,some (.arr E e [])) :: s.tab⟩:=fun a w r=>by
 obtain ⟨gh,r⟩:=r
 obtain ⟨v,k,l,h,m⟩:=r.tm i _ hi
 simp only[aF,and_true] at h
 subst h
 have j:v= .slice none 0 0:=m
 have n:=r.make t b c [] (by simp) (Q6 w) (fun _ _ _=>rfl) (E:=E) (e:=e) (xs:=[]) (hv:= .slice none 0 0) (fp:=[]) (.inl ⟨rfl,rfl,rfl⟩) bC (by simp)
 exact ⟨_,n.know k (pv:=lf (.ref t)) ⟨_,rfl,fun _=>by simp[j]⟩⟩
theorem Qt (t:Nat){p off:Nat}{E':TypeId}{cs:List LV}(E:TypeId)(e:Ty)(o:s.tab.ent p=some (.box E' cs))(L:cs[off]? =some (.val (.slice none 0 0)))(j:Fresh s t)(l:A.k0≤t):
 Wk A s ⟨s.tm,(p,some (.box E' (splice cs off [.ref t]))) :: (t,some (.arr E e [])) :: s.tab⟩:=fun a w r=>by
 obtain ⟨gh,r⟩:=r
 have c:p≠t:=fun h=>j.al ⟨_,h▸o⟩
 obtain ⟨g,b,y,G,z,H⟩:=r.cx.en p _ o
 obtain ⟨v,I,J⟩:=H.nth L
 have C:v= .slice none 0 0:=J
 have F:=r.make t j l [] (by simp) (Q6 w) (fun _ _ _=>rfl) (E:=E) (e:=e) (xs:=[]) (hv:= .slice none 0 0) (fp:=[]) (.inl ⟨rfl,rfl,rfl⟩) bC (by simp)
 have k:Tab.ent ((t,some (.arr E e [])) :: (UR []++s.tab)) p=some (.box E' cs):=by rw[Qd,if_neg c]; exact o
 obtain ⟨Q,x,u,M,D,O⟩:=F.cx.en p _ k
 simp only[if_neg c] at u M
 rw[y] at u
 cases u
 rw[z] at D
 cases D
 have K:LVs (Tab.al ((t,some (.arr E e [])) :: (UR []++s.tab))) ⟨fun q=>if q=t then .slice none 0 0 else gh.h q,fun q=>if q=t then [] else gh.f q,gh.N⟩ w [.ref t] [v]:=⟨v,[],rfl,fun _=>by simp[C],rfl⟩
 have B:=O.splice K (off:=off)
 have i:b.toList.take off++[v]++b.toList.drop (off+[v].length)=b.toList:=by
  have m:=(ae.1 I)
  obtain ⟨m,n⟩:=m
  conv=>rhs; rw[← bR (off+1) b.toList,bQ m,n]
  rfl
 rw[i] at B
 exact ⟨_,F.mod k (Q6 w) (fun _ _ _=>rfl) ⟨g,b,by simp only[if_neg c]; exact y,by simp only[if_neg c]; exact G,z,B⟩⟩
end
end Go.Proofs.YtgpdhgadmjfokaaGreat
