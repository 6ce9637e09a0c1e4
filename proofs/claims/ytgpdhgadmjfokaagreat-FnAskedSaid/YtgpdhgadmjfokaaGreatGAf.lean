/- Closed facts on the types and functions of the program. -/
import Derived.Test.YtgpdhgadmjfokaaGreatProg
import Derived.Test.YtgpdhgadmjfokaaGreatGAe
import Derived.Test.YtgpdhgadmjfokaaGreatGStr
set_option linter.unusedSimpArgs false
set_option linter.unusedVariables false
set_option linter.unusedSectionVars false
namespace Go.Proofs.YtgpdhgadmjfokaaGreat
open Go.RowKit
theorem mixed:Tryz.prog.follows .mixedOrders=true:=by kernel_rfl
theorem Ji:Tryz.prog.underlying 3=some (.int .i64):=by kernel_rfl
theorem Zn:tsh Tryz.prog 3=some (false,1):=by kernel_rfl
theorem ZL:zer Tryz.prog 3=some (.int .i64 0):=by kernel_rfl
theorem YO:XP Tryz.prog 3 1=true:=by kernel_rfl
theorem Qe3:(Tryz.prog.info? 3).map (fun i=>(i.zero,i.size,i.bytes))=some (some (.int .i64 0),1,8):=by kernel_rfl
theorem WY:Tryz.prog.underlying 4=some .bool:=by kernel_rfl
theorem XO:tsh Tryz.prog 4=some (false,1):=by kernel_rfl
theorem QiD:(Tryz.prog.info? 4).map (fun i=>(i.zero,i.size,i.bytes))=some (some (.bool false),1,1):=by kernel_rfl
theorem Qfi:Tryz.prog.underlying 5=some (.int .u8):=by kernel_rfl
theorem Ys:tsh Tryz.prog 5=some (false,1):=by kernel_rfl
theorem Qq0:zer Tryz.prog 5=some (.int .u8 0):=by kernel_rfl
theorem QrF:(Tryz.prog.info? 5).map (fun i=>(i.zero,i.size,i.bytes))=some (some (.int .u8 0),1,1):=by kernel_rfl
theorem Zx:Tryz.prog.underlying 9=some .string:=by kernel_rfl
theorem VL:tsh Tryz.prog 9=some (false,1):=by kernel_rfl
theorem Hd:zer Tryz.prog 9=some (.string ByteArray.empty):=by kernel_rfl
theorem QcR:XP Tryz.prog 9 1=true:=by kernel_rfl
theorem Qq5:(Tryz.prog.info? 9).map (fun i=>(i.zero,i.size,i.bytes))=some (some (.string ByteArray.empty),1,16):=by kernel_rfl
theorem V3:Tryz.prog.underlying 22=some (.slice 5):=by kernel_rfl
theorem Qho:Tryz.prog.underlying 23=some (.slice 44):=by kernel_rfl
theorem Qpc:tsh Tryz.prog 23=some (false,1):=by kernel_rfl
theorem J5:Tryz.prog.underlying 24=some (.slice 9):=by kernel_rfl
theorem Qo9:tsh Tryz.prog 24=some (false,1):=by kernel_rfl
theorem Qhc:Tryz.prog.underlying 25=some (.slice 46):=by kernel_rfl
theorem ZT:tsh Tryz.prog 27=some (true,3):=by kernel_rfl
theorem Z2:zer Tryz.prog 27=some (.agg #[.slice none 0 0, .slice none 0 0, .slice none 0 0]):=by kernel_rfl
theorem QdZ:bld Tryz.prog 27 [(0,1),(1,1),(2,1)] (.pr (.sl 44 (.pr .str .int)) (.pr (.sl 9 .str) (.sl 46 (.pr .int (.pr .int (.pr .bool .int)))))):=Xl Tryz.underlying27 (by kernel_rfl) Z2
theorem Q9:Tryz.prog.underlying 32=some (.slice 3):=by kernel_rfl
theorem Yt:tsh Tryz.prog 32=some (false,1):=by kernel_rfl
theorem YW:zer Tryz.prog 32=some (.slice none 0 0):=by kernel_rfl
theorem Kg:XP Tryz.prog 32 1=true:=by kernel_rfl
theorem QmP:(Tryz.prog.info? 32).map (fun i=>(i.zero,i.size,i.bytes))=some (some (.slice none 0 0),1,24):=by kernel_rfl
theorem JH:zer Tryz.prog 44=some (.agg #[.string ByteArray.empty, .int .i64 0]):=by kernel_rfl
theorem Qds:XP Tryz.prog 44 2=true:=by kernel_rfl
theorem Qpi:bld Tryz.prog 44 [(0,1),(1,1)] (.pr .str .int):=Xl Tryz.underlying44 (by kernel_rfl) JH
theorem Qg3:tsh Tryz.prog 46=some (true,4):=by kernel_rfl
theorem Qfe:fld Tryz.prog 46 2=some 2:=by kernel_rfl
theorem QmU:fld Tryz.prog 46 3=some 3:=by kernel_rfl
theorem ZJ:zer Tryz.prog 46=some (.agg #[.int .i64 0, .int .i64 0, .bool false, .int .i64 0]):=by kernel_rfl
theorem Qpa:XP Tryz.prog 46 4=true:=by kernel_rfl
theorem Qqe:bld Tryz.prog 46 [(0,1),(1,1),(2,1),(3,1)] (.pr .int (.pr .int (.pr .bool .int))):=Xl Tryz.underlying46 (by kernel_rfl) ZJ
theorem JJ:Tryz.prog.underlying 57=some (.slice 245):=by kernel_rfl
theorem Qlh:tsh Tryz.prog 57=some (false,1):=by kernel_rfl
theorem QdH:tsh Tryz.prog 59=some (true,2):=by kernel_rfl
theorem J2:zer Tryz.prog 59=some (.agg #[.int .i64 0, .slice none 0 0]):=by kernel_rfl
theorem Qdu:bld Tryz.prog 59 [(0,1),(1,1)] (.pr .int (.sl 245 (.pr (.sl 3 .int) (.sl 3 .int)))):=Xl Tryz.underlying59 (by kernel_rfl) J2
theorem QpV:Tryz.prog.underlying 60=some (.slice 86):=by kernel_rfl
theorem QlV:tsh Tryz.prog 60=some (false,1):=by kernel_rfl
theorem Z1:tsh Tryz.prog 62=some (true,5):=by kernel_rfl
theorem Kl:zer Tryz.prog 62=some (.agg #[.int .i64 0, .slice none 0 0, .slice none 0 0, .slice none 0 0, .string ByteArray.empty]):=by kernel_rfl
theorem Qb4:bld Tryz.prog 62 [(0,2),(2,1),(3,1),(4,1)] (.pr (.pr .int (.sl 245 (.pr (.sl 3 .int) (.sl 3 .int)))) (.pr (.sl 44 (.pr .str .int)) (.pr (.sl 86 (.pr .int .bool)) .str))):=Xl Tryz.underlying62 (by kernel_rfl) Kl
theorem Xp:Tryz.prog.underlying 67=some (.slice 32):=by kernel_rfl
theorem Wb:zer Tryz.prog 86=some (.agg #[.int .i64 0, .bool false]):=by kernel_rfl
theorem QaB:XP Tryz.prog 86 2=true:=by kernel_rfl
theorem WR:bld Tryz.prog 86 [(0,1),(1,1)] (.pr .int .bool):=Xl Tryz.underlying86 (by kernel_rfl) Wb
theorem V1:Tryz.prog.underlying 90=some (.slice 4):=by kernel_rfl
theorem Qaf:Tryz.prog.underlying 117=some (.int .u64):=by kernel_rfl
theorem Qei:zer Tryz.prog 160=some (.agg #[.slice none 0 0, .slice none 0 0]):=by kernel_rfl
theorem Qab:bld Tryz.prog 160 [(0,1),(1,1)] (.pr (.sl 9 .str) (.sl 263 (.pr .int (.pr .int .int)))):=Xl Tryz.underlying160 (by kernel_rfl) Qei
theorem Qd3:Tryz.prog.underlying 228=some (.int .u64):=by kernel_rfl
theorem Ux:tsh Tryz.prog 245=some (true,2):=by kernel_rfl
theorem QcI:fld Tryz.prog 245 0=some 0:=by kernel_rfl
theorem QcV:fld Tryz.prog 245 1=some 1:=by kernel_rfl
theorem VB:zer Tryz.prog 245=some (.agg #[.slice none 0 0, .slice none 0 0]):=by kernel_rfl
theorem Qad:XP Tryz.prog 245 2=true:=by kernel_rfl
theorem Qac:bld Tryz.prog 245 [(0,1),(1,1)] (.pr (.sl 3 .int) (.sl 3 .int)):=Xl Tryz.underlying245 (by kernel_rfl) VB
theorem Qaa:zer Tryz.prog 250=some (.agg #[.slice none 0 0, .slice none 0 0, .slice none 0 0, .int .i64 0, .int .i64 0, .bool false]):=by kernel_rfl
theorem Qog:bld Tryz.prog 250 [(0,2),(2,1),(3,1),(4,1),(5,1)] (.pr (.pr (.sl 9 .str) (.sl 263 (.pr .int (.pr .int .int)))) (.pr (.sl 263 (.pr .int (.pr .int .int))) (.pr .int (.pr .int .bool)))):=Xl Tryz.underlying250 (by kernel_rfl) Qaa
theorem Vx:zer Tryz.prog 263=some (.agg #[.int .i64 0, .int .i64 0, .int .i64 0]):=by kernel_rfl
theorem QdS:XP Tryz.prog 263 3=true:=by kernel_rfl
theorem Qaj:bld Tryz.prog 263 [(0,1),(1,1),(2,1)] (.pr .int (.pr .int .int)):=Xl Tryz.underlying263 (by kernel_rfl) Vx
theorem Us:zer Tryz.prog 295=some (.agg #[.int .i64 0, .int .i64 0]):=by kernel_rfl
theorem Qol:XP Tryz.prog 295 2=true:=by kernel_rfl
theorem Qdy:bld Tryz.prog 295 [(0,1),(1,1)] (.pr .int .int):=Xl Tryz.underlying295 (by kernel_rfl) Us
theorem Qof:zer Tryz.prog 341=some (.agg #[.int .i64 0, .slice none 0 0, .slice none 0 0, .slice none 0 0, .string ByteArray.empty, .slice none 0 0, .slice none 0 0]):=by kernel_rfl
theorem QnE:bld Tryz.prog 341 [(0,5),(5,1),(6,1)] (.pr (.pr (.pr .int (.sl 245 (.pr (.sl 3 .int) (.sl 3 .int)))) (.pr (.sl 44 (.pr .str .int)) (.pr (.sl 86 (.pr .int .bool)) .str))) (.pr (.sl 9 .str) (.sl 9 .str))):=Xl Tryz.underlying341 (by kernel_rfl) Qof
theorem Up:zer Tryz.prog 386=some (.agg #[.int .i64 0, .int .i64 0, .int .i64 0]):=by kernel_rfl
theorem Qae:XP Tryz.prog 386 3=true:=by kernel_rfl
theorem H8:bld Tryz.prog 386 [(0,1),(1,1),(2,1)] (.pr .int (.pr .int .int)):=Xl Tryz.underlying386 (by kernel_rfl) Up
theorem QjC:Qg Tryz.prog 48:=fun args W=>Qd Tryz.func48 (by kernel_rfl) rfl args W
theorem QcC:Qg Tryz.prog 49:=fun args W=>Qd Tryz.func49 (by kernel_rfl) rfl args W
theorem Qc4:Qg Tryz.prog 50:=fun args W=>Qd Tryz.func50 (by kernel_rfl) rfl args W
theorem Qj1:Qg Tryz.prog 51:=fun args W=>Qd Tryz.func51 (by kernel_rfl) rfl args W
theorem Qjw:Qg Tryz.prog 52:=fun args W=>Qd Tryz.func52 (by kernel_rfl) rfl args W
theorem Qkq:Qg Tryz.prog 53:=fun args W=>Qd Tryz.func53 (by kernel_rfl) rfl args W
theorem JV:Qg Tryz.prog 54:=fun args W=>Qd Tryz.func54 (by kernel_rfl) rfl args W
theorem JP:Qg Tryz.prog 55:=fun args W=>Qd Tryz.func55 (by kernel_rfl) rfl args W
theorem QjF:Qg Tryz.prog 56:=fun args W=>Qd Tryz.func56 (by kernel_rfl) rfl args W
theorem QcE:Qg Tryz.prog 57:=fun args W=>Qd Tryz.func57 (by kernel_rfl) rfl args W
theorem QcT:Qg Tryz.prog 58:=fun args W=>Qd Tryz.func58 (by kernel_rfl) rfl args W
theorem J4:Qg Tryz.prog 59:=fun args W=>Qd Tryz.func59 (by kernel_rfl) rfl args W
theorem QjP:Qg Tryz.prog 86:=fun args W=>Qd Tryz.func86 (by kernel_rfl) rfl args W
theorem Qjl:Qg Tryz.prog 95:=fun args W=>Qd Tryz.func95 (by kernel_rfl) rfl args W
theorem QcF:Qg Tryz.prog 97:=fun args W=>Qd Tryz.func97 (by kernel_rfl) rfl args W
theorem Qgg:Qg Tryz.prog 105:=fun args W=>Qd Tryz.func105 (by kernel_rfl) rfl args W
theorem QaT:Qg Tryz.prog 106:=fun args W=>Qd Tryz.func106 (by kernel_rfl) rfl args W
theorem Zr:Qg Tryz.prog 107:=fun args W=>Qd Tryz.func107 (by kernel_rfl) rfl args W
theorem Kz:Qg Tryz.prog 110:=fun args W=>Qd Tryz.func110 (by kernel_rfl) rfl args W
theorem Qhl:Qg Tryz.prog 114:=fun args W=>Qd Tryz.func114 (by kernel_rfl) rfl args W
theorem Qf5:Qg Tryz.prog 130:=fun args W=>Qd Tryz.func130 (by kernel_rfl) rfl args W
theorem X6:Qg Tryz.prog 138:=fun args W=>Qd Tryz.func138 (by kernel_rfl) rfl args W
theorem YY:Qg Tryz.prog 143:=fun args W=>Qd Tryz.func143 (by kernel_rfl) rfl args W
theorem QgY:Qg Tryz.prog 154:=fun args W=>Qd Tryz.func154 (by kernel_rfl) rfl args W
theorem QaK:Qg Tryz.prog 155:=fun args W=>Qd Tryz.func155 (by kernel_rfl) rfl args W
theorem Zg:Qg Tryz.prog 156:=fun args W=>Qd Tryz.func156 (by kernel_rfl) rfl args W
theorem Qgm:Qg Tryz.prog 157:=fun args W=>Qd Tryz.func157 (by kernel_rfl) rfl args W
theorem QhG:Qg Tryz.prog 158:=fun args W=>Qd Tryz.func158 (by kernel_rfl) rfl args W
theorem Qav:Qg Tryz.prog 159:=fun args W=>Qd Tryz.func159 (by kernel_rfl) rfl args W
theorem KA:Qg Tryz.prog 160:=fun args W=>Qd Tryz.func160 (by kernel_rfl) rfl args W
theorem Qgj:Qg Tryz.prog 161:=fun args W=>Qd Tryz.func161 (by kernel_rfl) rfl args W
theorem QbS:Qg Tryz.prog 162:=fun args W=>Qd Tryz.func162 (by kernel_rfl) rfl args W
theorem Xk:Qg Tryz.prog 163:=fun args W=>Qd Tryz.func163 (by kernel_rfl) rfl args W
theorem Qh0:Qg Tryz.prog 164:=fun args W=>Qd Tryz.func164 (by kernel_rfl) rfl args W
theorem Qgr:Qg Tryz.prog 190:=fun args W=>Qd Tryz.func190 (by kernel_rfl) rfl args W
theorem QhU:Qg Tryz.prog 191:=fun args W=>Qd Tryz.func191 (by kernel_rfl) rfl args W
theorem QhT:Qg Tryz.prog 199:=fun args W=>Qd Tryz.func199 (by kernel_rfl) rfl args W
theorem QaZ:Qg Tryz.prog 202:=fun args W=>Qd Tryz.func202 (by kernel_rfl) rfl args W
theorem Qbv:Qg Tryz.prog 203:=fun args W=>Qd Tryz.func203 (by kernel_rfl) rfl args W
theorem QgM:Qg Tryz.prog 207:=fun args W=>Qd Tryz.func207 (by kernel_rfl) rfl args W
theorem QgL:Qg Tryz.prog 208:=fun args W=>Qd Tryz.func208 (by kernel_rfl) rfl args W
theorem Qga:Qg Tryz.prog 209:=fun args W=>Qd Tryz.func209 (by kernel_rfl) rfl args W
theorem Qg6:Qg Tryz.prog 210:=fun args W=>Qd Tryz.func210 (by kernel_rfl) rfl args W
theorem Qgo:Qg Tryz.prog 211:=fun args W=>Qd Tryz.func211 (by kernel_rfl) rfl args W
theorem Qf0:Qg Tryz.prog 212:=fun args W=>Qd Tryz.func212 (by kernel_rfl) rfl args W
theorem QbA:Qg Tryz.prog 213:=fun args W=>Qd Tryz.func213 (by kernel_rfl) rfl args W
theorem Qg4:Qg Tryz.prog 214:=fun args W=>Qd Tryz.func214 (by kernel_rfl) rfl args W
theorem YV:Qg Tryz.prog 215:=fun args W=>Qd Tryz.func215 (by kernel_rfl) rfl args W
theorem QgE:Qg Tryz.prog 216:=fun args W=>Qd Tryz.func216 (by kernel_rfl) rfl args W
theorem Qgb:Qg Tryz.prog 217:=fun args W=>Qd Tryz.func217 (by kernel_rfl) rfl args W
theorem Qf2:Qg Tryz.prog 218:=fun args W=>Qd Tryz.func218 (by kernel_rfl) rfl args W
theorem KC:Qg Tryz.prog 220:=fun args W=>Qd Tryz.func220 (by kernel_rfl) rfl args W
theorem Qbj:Qg Tryz.prog 221:=fun args W=>Qd Tryz.func221 (by kernel_rfl) rfl args W
theorem QaE:Qg Tryz.prog 222:=fun args W=>Qd Tryz.func222 (by kernel_rfl) rfl args W
theorem Qb1:Qg Tryz.prog 225:=fun args W=>Qd Tryz.func225 (by kernel_rfl) rfl args W
theorem Qgf:Qg Tryz.prog 226:=fun args W=>Qd Tryz.func226 (by kernel_rfl) rfl args W
theorem Qhx:Qg Tryz.prog 227:=fun args W=>Qd Tryz.func227 (by kernel_rfl) rfl args W
theorem QgP:Qg Tryz.prog 228:=fun args W=>Qd Tryz.func228 (by kernel_rfl) rfl args W
theorem QbQ:Qg Tryz.prog 229:=fun args W=>Qd Tryz.func229 (by kernel_rfl) rfl args W
theorem Qgu:Qg Tryz.prog 230:=fun args W=>Qd Tryz.func230 (by kernel_rfl) rfl args W
theorem Qhr:Qg Tryz.prog 246:=fun args W=>Qd Tryz.func246 (by kernel_rfl) rfl args W
theorem Vl:Qg Tryz.prog 249:=fun args W=>Qd Tryz.func249 (by kernel_rfl) rfl args W
theorem QgK:Qg Tryz.prog 250:=fun args W=>Qd Tryz.func250 (by kernel_rfl) rfl args W
theorem QhV:Qg Tryz.prog 251:=fun args W=>Qd Tryz.func251 (by kernel_rfl) rfl args W
theorem Qgh:Qg Tryz.prog 254:=fun args W=>Qd Tryz.func254 (by kernel_rfl) rfl args W
theorem Qge:Qg Tryz.prog 263:=fun args W=>Qd Tryz.func263 (by kernel_rfl) rfl args W
theorem Qb8:Qg Tryz.prog 264:=fun args W=>Qd Tryz.func264 (by kernel_rfl) rfl args W
theorem QhB:Qg Tryz.prog 272:=fun args W=>Qd Tryz.func272 (by kernel_rfl) rfl args W
theorem KD:Qg Tryz.prog 273:=fun args W=>Qd Tryz.func273 (by kernel_rfl) rfl args W
theorem Qaw:Qg Tryz.prog 274:=fun args W=>Qd Tryz.func274 (by kernel_rfl) rfl args W
theorem QX:Qg Tryz.prog 275:=fun args W=>Qd Tryz.func275 (by kernel_rfl) rfl args W
theorem Km:Qg Tryz.prog 276:=fun args W=>Qd Tryz.func276 (by kernel_rfl) rfl args W
theorem Qbg:Qg Tryz.prog 277:=fun args W=>Qd Tryz.func277 (by kernel_rfl) rfl args W
theorem QfZ:Qg Tryz.prog 278:=fun args W=>Qd Tryz.func278 (by kernel_rfl) rfl args W
theorem QhZ:Qg Tryz.prog 279:=fun args W=>Qd Tryz.func279 (by kernel_rfl) rfl args W
theorem QgV:Qg Tryz.prog 280:=fun args W=>Qd Tryz.func280 (by kernel_rfl) rfl args W
theorem QgN:Qg Tryz.prog 281:=fun args W=>Qd Tryz.func281 (by kernel_rfl) rfl args W
theorem Qgs:Qg Tryz.prog 282:=fun args W=>Qd Tryz.func282 (by kernel_rfl) rfl args W
theorem QbK:Qg Tryz.prog 283:=fun args W=>Qd Tryz.func283 (by kernel_rfl) rfl args W
theorem Qh2:Qg Tryz.prog 284:=fun args W=>Qd Tryz.func284 (by kernel_rfl) rfl args W
theorem Qgt:Qg Tryz.prog 285:=fun args W=>Qd Tryz.func285 (by kernel_rfl) rfl args W
theorem Yy:Qg Tryz.prog 286:=fun args W=>Qd Tryz.func286 (by kernel_rfl) rfl args W
theorem Qca:Qg Tryz.prog 313:=fun args W=>Qd Tryz.func313 (by kernel_rfl) rfl args W
theorem Qgk:Qg Tryz.prog 314:=fun args W=>Qd Tryz.func314 (by kernel_rfl) rfl args W
theorem Kj:Qg Tryz.prog 315:=fun args W=>Qd Tryz.func315 (by kernel_rfl) rfl args W
theorem Xn:Qg Tryz.prog 316:=fun args W=>Qd Tryz.func316 (by kernel_rfl) rfl args W
theorem Qgv:Qg Tryz.prog 319:=fun args W=>Qd Tryz.func319 (by kernel_rfl) rfl args W
theorem QgD:Qg Tryz.prog 320:=fun args W=>Qd Tryz.func320 (by kernel_rfl) rfl args W
theorem Qg5:Qg Tryz.prog 333:=fun args W=>Qd Tryz.func333 (by kernel_rfl) rfl args W
theorem QhX:Qg Tryz.prog 334:=fun args W=>Qd Tryz.func334 (by kernel_rfl) rfl args W
theorem Kf:Qg Tryz.prog 356:=fun args W=>Qd Tryz.func356 (by kernel_rfl) rfl args W
theorem QfQ:Qg Tryz.prog 358:=fun args W=>Qd Tryz.func358 (by kernel_rfl) rfl args W
theorem Qgp:Qg Tryz.prog 359:=fun args W=>Qd Tryz.func359 (by kernel_rfl) rfl args W
theorem QgG:Qg Tryz.prog 360:=fun args W=>Qd Tryz.func360 (by kernel_rfl) rfl args W
theorem Qgx:Qg Tryz.prog 362:=fun args W=>Qd Tryz.func362 (by kernel_rfl) rfl args W
theorem QgB:Qg Tryz.prog 366:=fun args W=>Qd Tryz.func366 (by kernel_rfl) rfl args W
theorem QaM:Qg Tryz.prog 367:=fun args W=>Qd Tryz.func367 (by kernel_rfl) rfl args W
theorem Qhn:Qg Tryz.prog 376:=fun args W=>Qd Tryz.func376 (by kernel_rfl) rfl args W
theorem Qg0:Qg Tryz.prog 377:=fun args W=>Qd Tryz.func377 (by kernel_rfl) rfl args W
theorem Qf8:Qg Tryz.prog 378:=fun args W=>Qd Tryz.func378 (by kernel_rfl) rfl args W
theorem Qh3:Qg Tryz.prog 379:=fun args W=>Qd Tryz.func379 (by kernel_rfl) rfl args W
theorem Ko:Qg Tryz.prog 380:=fun args W=>Qd Tryz.func380 (by kernel_rfl) rfl args W
theorem QfS:Qg Tryz.prog 381:=fun args W=>Qd Tryz.func381 (by kernel_rfl) rfl args W
theorem Qhy:Qg Tryz.prog 382:=fun args W=>Qd Tryz.func382 (by kernel_rfl) rfl args W
theorem QfO:Qg Tryz.prog 383:=fun args W=>Qd Tryz.func383 (by kernel_rfl) rfl args W
theorem Qba:Qg Tryz.prog 384:=fun args W=>Qd Tryz.func384 (by kernel_rfl) rfl args W
theorem Qhd:Qg Tryz.prog 402:=fun args W=>Qd Tryz.func402 (by kernel_rfl) rfl args W
theorem QgH:Qg Tryz.prog 430:=fun args W=>Qd Tryz.func430 (by kernel_rfl) rfl args W
theorem QbI:Qg Tryz.prog 435:=fun args W=>Qd Tryz.func435 (by kernel_rfl) rfl args W
theorem QfT:Qg Tryz.prog 437:=fun args W=>Qd Tryz.func437 (by kernel_rfl) rfl args W
theorem Qg7:Qg Tryz.prog 438:=fun args W=>Qd Tryz.func438 (by kernel_rfl) rfl args W
theorem Qa7:Qg Tryz.prog 439:=fun args W=>Qd Tryz.func439 (by kernel_rfl) rfl args W
theorem Qf1:Qg Tryz.prog 440:=fun args W=>Qd Tryz.func440 (by kernel_rfl) rfl args W
theorem Qbr:Qg Tryz.prog 465:=fun args W=>Qd Tryz.func465 (by kernel_rfl) rfl args W
theorem Qhe:Qg Tryz.prog 468:=fun args W=>Qd Tryz.func468 (by kernel_rfl) rfl args W
theorem QgC:Qg Tryz.prog 479:=fun args W=>Qd Tryz.func479 (by kernel_rfl) rfl args W
theorem QgT:Qg Tryz.prog 480:=fun args W=>Qd Tryz.func480 (by kernel_rfl) rfl args W
theorem Qhw:Qg Tryz.prog 481:=fun args W=>Qd Tryz.func481 (by kernel_rfl) rfl args W
theorem Qgn:Qg Tryz.prog 482:=fun args W=>Qd Tryz.func482 (by kernel_rfl) rfl args W
end Go.Proofs.YtgpdhgadmjfokaaGreat
namespace Go.Proofs.YtgpdhgadmjfokaaGreat
open Go.RowKit
@[reducible] def Is (pv:PV) (T:Tab):PV→Tab→Prop:=fun p T'=>p=pv∧T'=T
def FrL (s:St)(n:Nat):List Nat→Prop
  | []=>True
  | q :: l=>Fresh s (n+q)∧FrL s n l
theorem FrL.get {s:St}{n:Nat}{l:List Nat}(h:FrL s n l):∀q∈l,Fresh s (n+q):=by
  induction l with
  | nil=>simp
  | cons q l ih=>
    intro r hr
    rcases aJ.1 hr with rfl | hr
    · exact h.1
    · exact ih h.2 r hr
section
variable {A:Amb}{P:Program}{s:St}
variable {f:FuncId}{xs:List Operand}{tys:Array TypeId}{args:List (Bool×List LV)}{d:Nat}{ty:TypeId}{pos:String}{af:Array Edge}{g:Option (Nat×Bool)}{pv:PV}{T:Tab}
theorem QgQ (n:Nat)(hc:FC P f args [] 0 (Is pv T))(hE:Qg P f)(ha:EvL A s xs args)(hcl:ZV pv T=true)(hn:Nat.blt d A.n=true)(hfr:FrL s n (Zj T))(hk0:A.k0≤n):
    Does A P ⟨some d, .call ⟨.value (.func f),xs.toArray,tys⟩,ty,pos,af,g⟩ s (s.back d n pv T):=
  fun a w K Q r hK=>DoesT.call n hc hE ha (by rintro _ _ ⟨rfl,rfl⟩; exact hcl) (by rintro _ _ ⟨rfl,rfl⟩ q ⟨e,hq⟩; exact hfr.get q (Q7 hq).1) hk0 hn a w K Q r (by
    rintro s' a' w' ⟨_,_,⟨rfl,rfl⟩,rfl⟩ r'
    exact hK _ _ r')
theorem XF (n:Nat)(hc:FC P f args [] 0 (Is pv T))(hE:Qg P f)(ha:EvLB A s xs args)(hcl:ZV pv T=true)(hf:(pv.fl&&T.fl)=true)(hn:Nat.blt d A.n=true)(hfr:FrL s n (Zj T))(hk0:A.k0≤n):
    Does A P ⟨some d, .call ⟨.value (.func f),xs.toArray,tys⟩,ty,pos,af,g⟩ s (s.back d n pv T):=
  fun a w K Q r hK=>Ui n hc hE ha (by rintro _ _ ⟨rfl,rfl⟩; exact hcl) (by rintro _ _ ⟨rfl,rfl⟩; simpa using hf) (by rintro _ _ ⟨rfl,rfl⟩ q ⟨e,hq⟩; exact hfr.get q (Q7 hq).1) hk0 hn a w K Q r (by
    rintro s' a' w' ⟨_,_,⟨rfl,rfl⟩,rfl⟩ r'
    exact hK _ _ r')
theorem Qpf {fn:Func}{k:Nat}(pv:PV)(T':Tab)(ρ:List (Nat×Nat)){pv0:PV}(h1:Res A P fn s pv0)(h0:pv0=pv.ren (rn ρ))(h2:HasE ⟨[],s.tab⟩ ρ T')(h3:XL (T'.map fun x=>rn ρ x.1)=true)(h4:idB ρ k=true):fin A P fn (U9 (Is pv T') k) .ret s:=
  Qan pv T' ρ (h0▸h1) h2 h3 h4 ⟨rfl,rfl⟩
end
def LV.thaw (T:Tab):LV→LV
  | .ref q=>match T.ent q with
    | some (.arr E e xs)=> .dat (.sl E e) xs
    | _=> .ref q
  | l=>l
def PV.thaw (T:Tab):PV→PV
  | .cm b ls=> .cm b (ls.map (LV.thaw T))
  | .tup cs=> .tup (cs.map fun c=>(c.1,c.2.map (LV.thaw T)))
section
variable {T:Tab}{gh:Gh}{w:World}
theorem LVR.thaw (cx:Cx T gh w){l:LV}{v:Value}(h:LVR T.al gh w l v):LVR (Tab.al []) ⟨gh.h,gh.f,fun g=>gh.N g∨∃q,T.al q∧g∈gh.f q⟩ w (l.thaw T) v:=by
  have hm:∀l,LVR T.al gh w l v→LVR (Tab.al []) ⟨gh.h,gh.f,fun g=>gh.N g∨∃q,T.al q∧g∈gh.f q⟩ w l v:=fun l h=>h.mono (fun q _ h=>absurd h (Zu q)) fun g hg=>⟨.inl hg,rfl⟩
  cases l with
  | ref q=>
    simp only[LV.thaw]
    split
    · rename_i E e xs he
      have hv:v=gh.h q:=h ⟨_,he⟩
      have hO:Own (.sl E e) w (gh.f q) [gh.h q] xs:=cx.en q _ he
      rw[hv]
      exact hO.rd fun g hg=> .inr ⟨q,⟨_,he⟩,hg⟩
    · exact hm _ h
  | _=>exact hm _ h
theorem LVs.thaw (cx:Cx T gh w){ls:List LV}{vs:List Value}(h:LVs T.al gh w ls vs):LVs (Tab.al []) ⟨gh.h,gh.f,fun g=>gh.N g∨∃q,T.al q∧g∈gh.f q⟩ w (ls.map (LV.thaw T)) vs:=by
  induction ls generalizing vs with
  | nil=>exact h
  | cons l ls ih=>obtain ⟨v,vs',rfl,h1,h2⟩:=h; exact ⟨v,_,rfl,h1.thaw cx,ih h2⟩
theorem CmR.thaw (cx:Cx T gh w){c:Bool×List LV}{v:Value}(h:CmR T.al gh w c v):CmR (Tab.al []) ⟨gh.h,gh.f,fun g=>gh.N g∨∃q,T.al q∧g∈gh.f q⟩ w (c.1,c.2.map (LV.thaw T)) v:=by
  obtain ⟨b,ls⟩:=c
  cases b with
  | true=>obtain ⟨vs,rfl,h1⟩:=h; exact ⟨vs,rfl,h1.thaw cx⟩
  | false=>obtain ⟨l,rfl,h1⟩:=h; exact ⟨_,rfl,h1.thaw cx⟩
theorem PVR.thaw (cx:Cx T gh w){pv:PV}{v:Value}(h:PVR T.al gh w pv v):PVR (Tab.al []) ⟨gh.h,gh.f,fun g=>gh.N g∨∃q,T.al q∧g∈gh.f q⟩ w (pv.thaw T) v:=by
  cases pv with
  | cm b ls=>exact CmR.thaw cx (c:=(b,ls)) h
  | tup cs=>
    obtain ⟨vs,rfl,h1⟩:=h
    refine ⟨vs,rfl, ?_⟩
    induction cs generalizing vs with
    | nil=>exact h1
    | cons c cs ih=>obtain ⟨v,vs',rfl,h2,h3⟩:=h1; exact ⟨v,_,rfl,h2.thaw cx,ih _ h3⟩
end
theorem FC.frozenG {P:Program}{f:FuncId}{args:List (Bool×List LV)}{pv:PV}{T:Tab}(h:FC P f args [] 0 (Is pv T)):FC P f args [] 0 (QY (pv.thaw T)):=fun gh w vs cx ha=>
  Calls.mono (h gh w vs cx ha) fun e' w' he=>by
    obtain ⟨v,pv',T',gh',rfl,⟨rfl,rfl⟩,cx',hp,fr,_⟩:=he
    refine ⟨v,_,[],_,rfl,⟨rfl,rfl⟩,Wn Zu _ _ fun g hg=> ?_,hp.thaw cx',⟨fr.gw,fr.kp,fun g hg=> ?_,fun q hq=>absurd hq (Zu q)⟩,fun q hq=>absurd hq (by omega)⟩
    · rcases hg with hg | ⟨q, hq, hg⟩
      · exact cx'.nl g hg
      · exact cx'.lt hq g hg
    · rcases hg with hg | ⟨q, hq, hg⟩
      · exact fr.nn g hg
      · rcases fr.ox q hq g hg with h | ⟨q', h, _⟩
        · exact .inr (.inl h)
        · exact absurd h (Zu q')
theorem Qfh {A:Amb}{P:Program}{ops:Array Oper}{o:Oper}{s s1 s':St}(hg:o.guard=none)(h:Does A P o s s1)(e:s1=s'):Acts A P ops o s s':=e▸Acts.of hg h
theorem QjR {A:Amb}{P:Program}{ops:Array Oper}{o:Oper}{s s1 s':St}{j d:Nat}{b:Bool}(hg:o.guard=some (j,b))(hd:(ops[j]?).bind (·.dst)=some d)(hb:lk s.tm d=some (lf (dB b)))(h:Does A P o s s1)(e:s1=s'):Acts A P ops o s s':=e▸Qlq hg hd hb h
section
variable {A:Amb}{s:St}
theorem Wk.nilS (t i:Nat)(E:TypeId)(e:Ty)(hi:lk s.tm i=some (lf (.val (.slice none 0 0))))(hfr:Fresh s t)(hk0:A.k0≤t):Wk A s ⟨(i,lf (.ref t)) :: s.tm,(t,some (.arr E e [])) :: s.tab⟩:=fun a w r=>by
  obtain ⟨gh,r⟩:=r
  obtain ⟨v,h1,l,h2,h3⟩:=r.tm i _ hi
  simp only[aE,and_true] at h2
  subst h2
  have hv:v= .slice none 0 0:=h3
  have r2:=r.make t hfr hk0 [] (by simp) (Q2 w) (fun _ _ _=>rfl) (E:=E) (e:=e) (xs:=[]) (hv:= .slice none 0 0) (fp:=[]) (.inl ⟨rfl,rfl,rfl⟩) bH (by simp)
  exact ⟨_,r2.know h1 (pv:=lf (.ref t)) ⟨_,rfl,fun _=>by simp[hv]⟩⟩
theorem QL (t:Nat){p off:Nat}{E':TypeId}{cs:List LV}(E:TypeId)(e:Ty)(hp:s.tab.ent p=some (.box E' cs))(ho:cs[off]? =some (.val (.slice none 0 0)))(hfr:Fresh s t)(hk0:A.k0≤t):
    Wk A s ⟨s.tm,(p,some (.box E' (splice cs off [.ref t]))) :: (t,some (.arr E e [])) :: s.tab⟩:=fun a w r=>by
  obtain ⟨gh,r⟩:=r
  have hne:p≠t:=fun h=>hfr.al ⟨_,h▸hp⟩
  obtain ⟨g,cur,h1,h2,h3,h4⟩:=r.cx.en p _ hp
  obtain ⟨v,h5,h6⟩:=h4.nth ho
  have hv:v= .slice none 0 0:=h6
  have r2:=r.make t hfr hk0 [] (by simp) (Q2 w) (fun _ _ _=>rfl) (E:=E) (e:=e) (xs:=[]) (hv:= .slice none 0 0) (fp:=[]) (.inl ⟨rfl,rfl,rfl⟩) bH (by simp)
  have hp':Tab.ent ((t,some (.arr E e [])) :: (WF []++s.tab)) p=some (.box E' cs):=by rw[Qe,if_neg hne]; exact hp
  obtain ⟨g',cur',k1,k2,k3,k4⟩:=r2.cx.en p _ hp'
  simp only[if_neg hne] at k1 k2
  rw[h1] at k1
  cases k1
  rw[h3] at k3
  cases k3
  have hD:LVs (Tab.al ((t,some (.arr E e [])) :: (WF []++s.tab))) ⟨fun q=>if q=t then .slice none 0 0 else gh.h q,fun q=>if q=t then [] else gh.f q,gh.N⟩ w [.ref t] [v]:=⟨v,[],rfl,fun _=>by simp[hv],rfl⟩
  have hS:=k4.splice hD (off:=off)
  have hsame:cur.toList.take off++[v]++cur.toList.drop (off+[v].length)=cur.toList:=by
    have hl:=(ah.1 h5)
    obtain ⟨hl,hl2⟩:=hl
    conv=>rhs; rw[← bE (off+1) cur.toList,bI hl,hl2]
    rfl
  rw[hsame] at hS
  exact ⟨_,r2.mod hp' (Q2 w) (fun _ _ _=>rfl) ⟨g,cur,by simp only[if_neg hne]; exact h1,by simp only[if_neg hne]; exact h2,h3,hS⟩⟩
end
end Go.Proofs.YtgpdhgadmjfokaaGreat
