/- Closed facts on the types and functions of the program. -/
import Derived.Test.YtndabgcpnmeeoaaGreatProg
import Derived.Test.YtndabgcpnmeeoaaGreatPAe
import Derived.Test.YtndabgcpnmeeoaaGreatPOwn
set_option linter.unusedSimpArgs false
set_option linter.unusedVariables false
set_option linter.unusedSectionVars false
namespace Go.Proofs.YtndabgcpnmeeoaaGreat
open Go.RowKit
theorem mixed:Tryz.prog.follows .mixedOrders=true:=by kernel_rfl
theorem Qiz:Tryz.prog.underlying 3=some (.int .i64):=by kernel_rfl
theorem Y6:tsh Tryz.prog 3=some (false,1):=by kernel_rfl
theorem Yk:zer Tryz.prog 3=some (.int .i64 0):=by kernel_rfl
theorem XP:Wx Tryz.prog 3 1=true:=by kernel_rfl
theorem Qpn:(Tryz.prog.info? 3).map (fun i=>(i.zero,i.size,i.bytes))=some (some (.int .i64 0),1,8):=by kernel_rfl
theorem JU:Tryz.prog.underlying 4=some .bool:=by kernel_rfl
theorem QcK:tsh Tryz.prog 4=some (false,1):=by kernel_rfl
theorem Qxy:zer Tryz.prog 4=some (.bool false):=by kernel_rfl
theorem Qvm:(Tryz.prog.info? 4).map (fun i=>(i.zero,i.size,i.bytes))=some (some (.bool false),1,1):=by kernel_rfl
theorem Wq:Tryz.prog.underlying 5=some (.int .u8):=by kernel_rfl
theorem QX:tsh Tryz.prog 5=some (false,1):=by kernel_rfl
theorem QaL:zer Tryz.prog 5=some (.int .u8 0):=by kernel_rfl
theorem Qvk:Wx Tryz.prog 5 1=true:=by kernel_rfl
theorem QsS:(Tryz.prog.info? 5).map (fun i=>(i.zero,i.size,i.bytes))=some (some (.int .u8 0),1,1):=by kernel_rfl
theorem Z7:Tryz.prog.underlying 9=some .string:=by kernel_rfl
theorem VS:tsh Tryz.prog 9=some (false,1):=by kernel_rfl
theorem HQ:zer Tryz.prog 9=some (.string ByteArray.empty):=by kernel_rfl
theorem QhM:Wx Tryz.prog 9 1=true:=by kernel_rfl
theorem Qvn:(Tryz.prog.info? 9).map (fun i=>(i.zero,i.size,i.bytes))=some (some (.string ByteArray.empty),1,16):=by kernel_rfl
theorem Za:Tryz.prog.underlying 22=some (.slice 5):=by kernel_rfl
theorem QdE:Tryz.prog.underlying 24=some (.slice 77):=by kernel_rfl
theorem VJ:Tryz.prog.underlying 25=some (.slice 9):=by kernel_rfl
theorem QtD:tsh Tryz.prog 25=some (false,1):=by kernel_rfl
theorem WF:Tryz.prog.underlying 26=some (.slice 154):=by kernel_rfl
theorem Kk:tsh Tryz.prog 26=some (false,1):=by kernel_rfl
theorem Kl:tsh Tryz.prog 28=some (true,3):=by kernel_rfl
theorem Hy:fld Tryz.prog 28 2=some 2:=by kernel_rfl
theorem Zr:zer Tryz.prog 28=some (.agg #[.slice none 0 0, .slice none 0 0, .slice none 0 0]):=by kernel_rfl
theorem Q8:bld Tryz.prog 28 [(0,1),(1,1),(2,1)] (.pr (.sl 77 (.pr .str .int)) (.pr (.sl 9 .str) (.sl 154 (.pr .int (.pr .int (.pr .bool .int)))))):=WS Tryz.underlying28 (by kernel_rfl) Zr
theorem QtF:Tryz.prog.underlying 46=some (.slice 275):=by kernel_rfl
theorem QwI:zer Tryz.prog 51=some (.agg #[.int .i64 0, .slice none 0 0, .slice none 0 0, .slice none 0 0, .string ByteArray.empty]):=by kernel_rfl
theorem W5:Tryz.prog.underlying 56=some (.slice 123):=by kernel_rfl
theorem VK:zer Tryz.prog 75=some (.agg #[.int .i64 0, .bool false]):=by kernel_rfl
theorem Qsf:Wx Tryz.prog 75 2=true:=by kernel_rfl
theorem VB:bld Tryz.prog 75 [(0,1),(1,1)] (.pr .int .bool):=WS Tryz.underlying75 (by kernel_rfl) VK
theorem VL:zer Tryz.prog 77=some (.agg #[.string ByteArray.empty, .int .i64 0]):=by kernel_rfl
theorem QaU:Wx Tryz.prog 77 2=true:=by kernel_rfl
theorem QrX:bld Tryz.prog 77 [(0,1),(1,1)] (.pr .str .int):=WS Tryz.underlying77 (by kernel_rfl) VL
theorem Z6:Tryz.prog.underlying 123=some (.slice 3):=by kernel_rfl
theorem Xh:tsh Tryz.prog 123=some (false,1):=by kernel_rfl
theorem WG:zer Tryz.prog 123=some (.slice none 0 0):=by kernel_rfl
theorem H5:Wx Tryz.prog 123 1=true:=by kernel_rfl
theorem Qpm:(Tryz.prog.info? 123).map (fun i=>(i.zero,i.size,i.bytes))=some (some (.slice none 0 0),1,24):=by kernel_rfl
theorem QjO:Tryz.prog.underlying 144=some (.slice 4):=by kernel_rfl
theorem X3:tsh Tryz.prog 154=some (true,4):=by kernel_rfl
theorem QU:zer Tryz.prog 154=some (.agg #[.int .i64 0, .int .i64 0, .bool false, .int .i64 0]):=by kernel_rfl
theorem Ww:Wx Tryz.prog 154 4=true:=by kernel_rfl
theorem K9:bld Tryz.prog 154 [(0,1),(1,1),(2,1),(3,1)] (.pr .int (.pr .int (.pr .bool .int))):=WS Tryz.underlying154 (by kernel_rfl) QU
theorem Qu9:tsh Tryz.prog 178=some (true,2):=by kernel_rfl
theorem U4:zer Tryz.prog 178=some (.agg #[.slice none 0 0, .slice none 0 0]):=by kernel_rfl
theorem Ja:bld Tryz.prog 178 [(0,1),(1,1)] (.pr (.sl 9 .str) (.sl 301 (.pr .int (.pr .int .int)))):=WS Tryz.underlying178 (by kernel_rfl) U4
theorem QpP:tsh Tryz.prog 275=some (true,2):=by kernel_rfl
theorem Qve:zer Tryz.prog 275=some (.agg #[.slice none 0 0, .slice none 0 0]):=by kernel_rfl
theorem QjP:Tryz.prog.underlying 279=some (.int .u64):=by kernel_rfl
theorem QeT:zer Tryz.prog 281=some (.agg #[.slice none 0 0, .slice none 0 0, .slice none 0 0, .int .i64 0, .int .i64 0, .bool false]):=by kernel_rfl
theorem Qua:bld Tryz.prog 281 [(0,2),(2,1),(3,1),(4,1),(5,1)] (.pr (.pr (.sl 9 .str) (.sl 301 (.pr .int (.pr .int .int)))) (.pr (.sl 301 (.pr .int (.pr .int .int))) (.pr .int (.pr .int .bool)))):=WS Tryz.underlying281 (by kernel_rfl) QeT
theorem Vj:zer Tryz.prog 301=some (.agg #[.int .i64 0, .int .i64 0, .int .i64 0]):=by kernel_rfl
theorem QbT:Wx Tryz.prog 301 3=true:=by kernel_rfl
theorem H2:bld Tryz.prog 301 [(0,1),(1,1),(2,1)] (.pr .int (.pr .int .int)):=WS Tryz.underlying301 (by kernel_rfl) Vj
theorem VY:zer Tryz.prog 314=some (.agg #[.int .i64 0, .bool false, .int .i64 0, .bool false]):=by kernel_rfl
theorem Qi3:Wx Tryz.prog 314 4=true:=by kernel_rfl
theorem Qew:bld Tryz.prog 314 [(0,2),(2,2)] (.pr (.pr .int .bool) (.pr .int .bool)):=WS Tryz.underlying314 (by kernel_rfl) VY
theorem QpQ:tsh Tryz.prog 325=some (true,7):=by kernel_rfl
theorem JM:zer Tryz.prog 325=some (.agg #[.int .i64 0, .bool false, .int .i64 0, .bool false, .slice none 0 0, .slice none 0 0, .slice none 0 0]):=by kernel_rfl
theorem Qum:Wx Tryz.prog 325 7=true:=by kernel_rfl
theorem QoL:bld Tryz.prog 325 [(0,4),(4,3)] (.pr (.pr (.pr .int .bool) (.pr .int .bool)) (.pr (.sl 77 (.pr .str .int)) (.pr (.sl 9 .str) (.sl 154 (.pr .int (.pr .int (.pr .bool .int))))))):=WS Tryz.underlying325 (by kernel_rfl) JM
theorem QeU:zer Tryz.prog 359=some (.agg #[.int .i64 0, .int .i64 0]):=by kernel_rfl
theorem Qun:Wx Tryz.prog 359 2=true:=by kernel_rfl
theorem Qub:bld Tryz.prog 359 [(0,1),(1,1)] (.pr .int .int):=WS Tryz.underlying359 (by kernel_rfl) QeU
theorem Qam:zer Tryz.prog 382=some (.agg #[.int .i64 0, .int .i64 0, .int .i64 0]):=by kernel_rfl
theorem QeB:Wx Tryz.prog 382 3=true:=by kernel_rfl
theorem Qex:bld Tryz.prog 382 [(0,1),(1,1),(2,1)] (.pr .int (.pr .int .int)):=WS Tryz.underlying382 (by kernel_rfl) Qam
theorem Qvb:Tryz.prog.underlying 436=some (.slice 325):=by kernel_rfl
theorem QjQ:Tryz.prog.underlying 464=some (.map 9 3):=by kernel_rfl
theorem H8:fld Tryz.prog 530 3=some 5:=by kernel_rfl
theorem Qvf:zer Tryz.prog 530=some (.agg #[.slice none 0 0, .slice none 0 0, .slice none 0 0, .string ByteArray.empty, .slice none 0 0, .slice none 0 0, .slice none 0 0, .slice none 0 0]):=by kernel_rfl
theorem Quc:bld Tryz.prog 530 [(0,3),(3,1),(4,1),(5,3)] (.pr (.pr (.sl 77 (.pr .str .int)) (.pr (.sl 9 .str) (.sl 154 (.pr .int (.pr .int (.pr .bool .int)))))) (.pr .str (.pr (.sl 3 .int) (.pr (.sl 77 (.pr .str .int)) (.pr (.sl 9 .str) (.sl 154 (.pr .int (.pr .int (.pr .bool .int))))))))):=WS Tryz.underlying530 (by kernel_rfl) Qvf
theorem QpS:Tryz.prog.underlying 549=some (.map 555 3):=by kernel_rfl
theorem Qvc:Tryz.prog.underlying 550=some (.slice 555):=by kernel_rfl
theorem Qva:tsh Tryz.prog 550=some (false,1):=by kernel_rfl
theorem Qqv:fld Tryz.prog 552 2=some 4:=by kernel_rfl
theorem QpR:tsh Tryz.prog 555=some (true,2):=by kernel_rfl
theorem QeV:zer Tryz.prog 555=some (.agg #[.int .i64 0, .bool false]):=by kernel_rfl
theorem Quo:Wx Tryz.prog 555 2=true:=by kernel_rfl
theorem Va:bld Tryz.prog 555 [(0,1),(1,1)] (.pr .int .bool):=WS Tryz.underlying555 (by kernel_rfl) QeV
theorem Qqg:Qh Tryz.prog 41:=fun a W=>Qc Tryz.func41 (by kernel_rfl) rfl a W
theorem Qqh:Qh Tryz.prog 42:=fun a W=>Qc Tryz.func42 (by kernel_rfl) rfl a W
theorem H6:Qh Tryz.prog 43:=fun a W=>Qc Tryz.func43 (by kernel_rfl) rfl a W
theorem QhN:Qh Tryz.prog 44:=fun a W=>Qc Tryz.func44 (by kernel_rfl) rfl a W
theorem QcZ:Qh Tryz.prog 45:=fun a W=>Qc Tryz.func45 (by kernel_rfl) rfl a W
theorem Qqi:Qh Tryz.prog 46:=fun a W=>Qc Tryz.func46 (by kernel_rfl) rfl a W
theorem Qqj:Qh Tryz.prog 47:=fun a W=>Qc Tryz.func47 (by kernel_rfl) rfl a W
theorem Qqk:Qh Tryz.prog 48:=fun a W=>Qc Tryz.func48 (by kernel_rfl) rfl a W
theorem QhO:Qh Tryz.prog 49:=fun a W=>Qc Tryz.func49 (by kernel_rfl) rfl a W
theorem Qql:Qh Tryz.prog 58:=fun a W=>Qc Tryz.func58 (by kernel_rfl) rfl a W
theorem Qqm:Qh Tryz.prog 77:=fun a W=>Qc Tryz.func77 (by kernel_rfl) rfl a W
theorem V4:Qh Tryz.prog 81:=fun a W=>Qc Tryz.func81 (by kernel_rfl) rfl a W
theorem Qc0:Qh Tryz.prog 82:=fun a W=>Qc Tryz.func82 (by kernel_rfl) rfl a W
theorem Qqn:Qh Tryz.prog 83:=fun a W=>Qc Tryz.func83 (by kernel_rfl) rfl a W
theorem Ym:Qh Tryz.prog 107:=fun a W=>Qc Tryz.func107 (by kernel_rfl) rfl a W
theorem Ql4:Qh Tryz.prog 111:=fun a W=>Qc Tryz.func111 (by kernel_rfl) rfl a W
theorem Ql5:Qh Tryz.prog 119:=fun a W=>Qc Tryz.func119 (by kernel_rfl) rfl a W
theorem Ql6:Qh Tryz.prog 123:=fun a W=>Qc Tryz.func123 (by kernel_rfl) rfl a W
theorem Ql7:Qh Tryz.prog 132:=fun a W=>Qc Tryz.func132 (by kernel_rfl) rfl a W
theorem Ql8:Qh Tryz.prog 148:=fun a W=>Qc Tryz.func148 (by kernel_rfl) rfl a W
theorem QfA:Qh Tryz.prog 152:=fun a W=>Qc Tryz.func152 (by kernel_rfl) rfl a W
theorem Ql9:Qh Tryz.prog 153:=fun a W=>Qc Tryz.func153 (by kernel_rfl) rfl a W
theorem Qma:Qh Tryz.prog 159:=fun a W=>Qc Tryz.func159 (by kernel_rfl) rfl a W
theorem QfB:Qh Tryz.prog 160:=fun a W=>Qc Tryz.func160 (by kernel_rfl) rfl a W
theorem Qmb:Qh Tryz.prog 161:=fun a W=>Qc Tryz.func161 (by kernel_rfl) rfl a W
theorem Qmc:Qh Tryz.prog 162:=fun a W=>Qc Tryz.func162 (by kernel_rfl) rfl a W
theorem Qmd:Qh Tryz.prog 163:=fun a W=>Qc Tryz.func163 (by kernel_rfl) rfl a W
theorem Qme:Qh Tryz.prog 164:=fun a W=>Qc Tryz.func164 (by kernel_rfl) rfl a W
theorem Qmf:Qh Tryz.prog 165:=fun a W=>Qc Tryz.func165 (by kernel_rfl) rfl a W
theorem Qmg:Qh Tryz.prog 166:=fun a W=>Qc Tryz.func166 (by kernel_rfl) rfl a W
theorem Qmh:Qh Tryz.prog 176:=fun a W=>Qc Tryz.func176 (by kernel_rfl) rfl a W
theorem QfC:Qh Tryz.prog 178:=fun a W=>Qc Tryz.func178 (by kernel_rfl) rfl a W
theorem Jg:Qh Tryz.prog 181:=fun a W=>Qc Tryz.func181 (by kernel_rfl) rfl a W
theorem QaV:Qh Tryz.prog 182:=fun a W=>Qc Tryz.func182 (by kernel_rfl) rfl a W
theorem Qmi:Qh Tryz.prog 185:=fun a W=>Qc Tryz.func185 (by kernel_rfl) rfl a W
theorem Um:Qh Tryz.prog 189:=fun a W=>Qc Tryz.func189 (by kernel_rfl) rfl a W
theorem QaW:Qh Tryz.prog 204:=fun a W=>Qc Tryz.func204 (by kernel_rfl) rfl a W
theorem Qmj:Qh Tryz.prog 206:=fun a W=>Qc Tryz.func206 (by kernel_rfl) rfl a W
theorem Qmk:Qh Tryz.prog 214:=fun a W=>Qc Tryz.func214 (by kernel_rfl) rfl a W
theorem WU:Qh Tryz.prog 215:=fun a W=>Qc Tryz.func215 (by kernel_rfl) rfl a W
theorem Qml:Qh Tryz.prog 216:=fun a W=>Qc Tryz.func216 (by kernel_rfl) rfl a W
theorem Qmm:Qh Tryz.prog 217:=fun a W=>Qc Tryz.func217 (by kernel_rfl) rfl a W
theorem Qmn:Qh Tryz.prog 218:=fun a W=>Qc Tryz.func218 (by kernel_rfl) rfl a W
theorem Qmo:Qh Tryz.prog 219:=fun a W=>Qc Tryz.func219 (by kernel_rfl) rfl a W
theorem Qmp:Qh Tryz.prog 220:=fun a W=>Qc Tryz.func220 (by kernel_rfl) rfl a W
theorem Qmq:Qh Tryz.prog 221:=fun a W=>Qc Tryz.func221 (by kernel_rfl) rfl a W
theorem Qmr:Qh Tryz.prog 222:=fun a W=>Qc Tryz.func222 (by kernel_rfl) rfl a W
theorem QaX:Qh Tryz.prog 223:=fun a W=>Qc Tryz.func223 (by kernel_rfl) rfl a W
theorem YZ:Qh Tryz.prog 228:=fun a W=>Qc Tryz.func228 (by kernel_rfl) rfl a W
theorem QfD:Qh Tryz.prog 237:=fun a W=>Qc Tryz.func237 (by kernel_rfl) rfl a W
theorem Qms:Qh Tryz.prog 241:=fun a W=>Qc Tryz.func241 (by kernel_rfl) rfl a W
theorem QfE:Qh Tryz.prog 242:=fun a W=>Qc Tryz.func242 (by kernel_rfl) rfl a W
theorem Qmt:Qh Tryz.prog 243:=fun a W=>Qc Tryz.func243 (by kernel_rfl) rfl a W
theorem Qmu:Qh Tryz.prog 244:=fun a W=>Qc Tryz.func244 (by kernel_rfl) rfl a W
theorem Qmv:Qh Tryz.prog 245:=fun a W=>Qc Tryz.func245 (by kernel_rfl) rfl a W
theorem Qmw:Qh Tryz.prog 253:=fun a W=>Qc Tryz.func253 (by kernel_rfl) rfl a W
theorem Qmx:Qh Tryz.prog 254:=fun a W=>Qc Tryz.func254 (by kernel_rfl) rfl a W
theorem Qmy:Qh Tryz.prog 255:=fun a W=>Qc Tryz.func255 (by kernel_rfl) rfl a W
theorem QfF:Qh Tryz.prog 263:=fun a W=>Qc Tryz.func263 (by kernel_rfl) rfl a W
theorem QfG:Qh Tryz.prog 268:=fun a W=>Qc Tryz.func268 (by kernel_rfl) rfl a W
theorem Qmz:Qh Tryz.prog 272:=fun a W=>Qc Tryz.func272 (by kernel_rfl) rfl a W
theorem QfH:Qh Tryz.prog 273:=fun a W=>Qc Tryz.func273 (by kernel_rfl) rfl a W
theorem QmA:Qh Tryz.prog 283:=fun a W=>Qc Tryz.func283 (by kernel_rfl) rfl a W
theorem X4:Qh Tryz.prog 284:=fun a W=>Qc Tryz.func284 (by kernel_rfl) rfl a W
theorem QmB:Qh Tryz.prog 285:=fun a W=>Qc Tryz.func285 (by kernel_rfl) rfl a W
theorem QfI:Qh Tryz.prog 286:=fun a W=>Qc Tryz.func286 (by kernel_rfl) rfl a W
theorem QaY:Qh Tryz.prog 287:=fun a W=>Qc Tryz.func287 (by kernel_rfl) rfl a W
theorem QmC:Qh Tryz.prog 291:=fun a W=>Qc Tryz.func291 (by kernel_rfl) rfl a W
theorem QmD:Qh Tryz.prog 292:=fun a W=>Qc Tryz.func292 (by kernel_rfl) rfl a W
theorem QaZ:Qh Tryz.prog 293:=fun a W=>Qc Tryz.func293 (by kernel_rfl) rfl a W
theorem QmE:Qh Tryz.prog 294:=fun a W=>Qc Tryz.func294 (by kernel_rfl) rfl a W
theorem QmF:Qh Tryz.prog 295:=fun a W=>Qc Tryz.func295 (by kernel_rfl) rfl a W
theorem QmG:Qh Tryz.prog 300:=fun a W=>Qc Tryz.func300 (by kernel_rfl) rfl a W
theorem Jh:Qh Tryz.prog 301:=fun a W=>Qc Tryz.func301 (by kernel_rfl) rfl a W
theorem QmH:Qh Tryz.prog 312:=fun a W=>Qc Tryz.func312 (by kernel_rfl) rfl a W
theorem QmI:Qh Tryz.prog 316:=fun a W=>Qc Tryz.func316 (by kernel_rfl) rfl a W
theorem QmJ:Qh Tryz.prog 317:=fun a W=>Qc Tryz.func317 (by kernel_rfl) rfl a W
theorem QmK:Qh Tryz.prog 318:=fun a W=>Qc Tryz.func318 (by kernel_rfl) rfl a W
theorem QmL:Qh Tryz.prog 319:=fun a W=>Qc Tryz.func319 (by kernel_rfl) rfl a W
theorem QmM:Qh Tryz.prog 324:=fun a W=>Qc Tryz.func324 (by kernel_rfl) rfl a W
theorem Ji:Qh Tryz.prog 340:=fun a W=>Qc Tryz.func340 (by kernel_rfl) rfl a W
theorem Y2:Qh Tryz.prog 347:=fun a W=>Qc Tryz.func347 (by kernel_rfl) rfl a W
theorem QmN:Qh Tryz.prog 349:=fun a W=>Qc Tryz.func349 (by kernel_rfl) rfl a W
theorem QmO:Qh Tryz.prog 350:=fun a W=>Qc Tryz.func350 (by kernel_rfl) rfl a W
theorem Qa0:Qh Tryz.prog 351:=fun a W=>Qc Tryz.func351 (by kernel_rfl) rfl a W
theorem Un:Qh Tryz.prog 352:=fun a W=>Qc Tryz.func352 (by kernel_rfl) rfl a W
theorem QmP:Qh Tryz.prog 353:=fun a W=>Qc Tryz.func353 (by kernel_rfl) rfl a W
theorem QmQ:Qh Tryz.prog 357:=fun a W=>Qc Tryz.func357 (by kernel_rfl) rfl a W
theorem QmR:Qh Tryz.prog 359:=fun a W=>Qc Tryz.func359 (by kernel_rfl) rfl a W
theorem Qa1:Qh Tryz.prog 360:=fun a W=>Qc Tryz.func360 (by kernel_rfl) rfl a W
theorem QfJ:Qh Tryz.prog 361:=fun a W=>Qc Tryz.func361 (by kernel_rfl) rfl a W
theorem QfK:Qh Tryz.prog 362:=fun a W=>Qc Tryz.func362 (by kernel_rfl) rfl a W
theorem QmS:Qh Tryz.prog 377:=fun a W=>Qc Tryz.func377 (by kernel_rfl) rfl a W
theorem QmT:Qh Tryz.prog 378:=fun a W=>Qc Tryz.func378 (by kernel_rfl) rfl a W
theorem QmU:Qh Tryz.prog 379:=fun a W=>Qc Tryz.func379 (by kernel_rfl) rfl a W
theorem QmV:Qh Tryz.prog 386:=fun a W=>Qc Tryz.func386 (by kernel_rfl) rfl a W
theorem QmW:Qh Tryz.prog 387:=fun a W=>Qc Tryz.func387 (by kernel_rfl) rfl a W
theorem Jj:Qh Tryz.prog 389:=fun a W=>Qc Tryz.func389 (by kernel_rfl) rfl a W
theorem QmX:Qh Tryz.prog 390:=fun a W=>Qc Tryz.func390 (by kernel_rfl) rfl a W
theorem QfL:Qh Tryz.prog 400:=fun a W=>Qc Tryz.func400 (by kernel_rfl) rfl a W
theorem QmY:Qh Tryz.prog 401:=fun a W=>Qc Tryz.func401 (by kernel_rfl) rfl a W
theorem QmZ:Qh Tryz.prog 402:=fun a W=>Qc Tryz.func402 (by kernel_rfl) rfl a W
theorem Qm0:Qh Tryz.prog 403:=fun a W=>Qc Tryz.func403 (by kernel_rfl) rfl a W
theorem Qm1:Qh Tryz.prog 404:=fun a W=>Qc Tryz.func404 (by kernel_rfl) rfl a W
theorem Qm2:Qh Tryz.prog 405:=fun a W=>Qc Tryz.func405 (by kernel_rfl) rfl a W
theorem Qm3:Qh Tryz.prog 406:=fun a W=>Qc Tryz.func406 (by kernel_rfl) rfl a W
theorem QfM:Qh Tryz.prog 407:=fun a W=>Qc Tryz.func407 (by kernel_rfl) rfl a W
theorem Qa2:Qh Tryz.prog 409:=fun a W=>Qc Tryz.func409 (by kernel_rfl) rfl a W
theorem QfN:Qh Tryz.prog 410:=fun a W=>Qc Tryz.func410 (by kernel_rfl) rfl a W
theorem WV:Qh Tryz.prog 411:=fun a W=>Qc Tryz.func411 (by kernel_rfl) rfl a W
theorem Qm4:Qh Tryz.prog 412:=fun a W=>Qc Tryz.func412 (by kernel_rfl) rfl a W
theorem Qm5:Qh Tryz.prog 413:=fun a W=>Qc Tryz.func413 (by kernel_rfl) rfl a W
theorem QfO:Qh Tryz.prog 414:=fun a W=>Qc Tryz.func414 (by kernel_rfl) rfl a W
theorem Qm6:Qh Tryz.prog 415:=fun a W=>Qc Tryz.func415 (by kernel_rfl) rfl a W
theorem Qm7:Qh Tryz.prog 416:=fun a W=>Qc Tryz.func416 (by kernel_rfl) rfl a W
theorem QfP:Qh Tryz.prog 418:=fun a W=>Qc Tryz.func418 (by kernel_rfl) rfl a W
theorem Qm8:Qh Tryz.prog 438:=fun a W=>Qc Tryz.func438 (by kernel_rfl) rfl a W
theorem Qm9:Qh Tryz.prog 440:=fun a W=>Qc Tryz.func440 (by kernel_rfl) rfl a W
theorem QfQ:Qh Tryz.prog 462:=fun a W=>Qc Tryz.func462 (by kernel_rfl) rfl a W
theorem Qna:Qh Tryz.prog 465:=fun a W=>Qc Tryz.func465 (by kernel_rfl) rfl a W
theorem Qnb:Qh Tryz.prog 466:=fun a W=>Qc Tryz.func466 (by kernel_rfl) rfl a W
theorem QfR:Qh Tryz.prog 491:=fun a W=>Qc Tryz.func491 (by kernel_rfl) rfl a W
theorem QfS:Qh Tryz.prog 492:=fun a W=>Qc Tryz.func492 (by kernel_rfl) rfl a W
theorem QfT:Qh Tryz.prog 493:=fun a W=>Qc Tryz.func493 (by kernel_rfl) rfl a W
theorem Qnc:Qh Tryz.prog 494:=fun a W=>Qc Tryz.func494 (by kernel_rfl) rfl a W
theorem Qa3:Qh Tryz.prog 495:=fun a W=>Qc Tryz.func495 (by kernel_rfl) rfl a W
theorem Jk:Qh Tryz.prog 496:=fun a W=>Qc Tryz.func496 (by kernel_rfl) rfl a W
theorem Qnd:Qh Tryz.prog 497:=fun a W=>Qc Tryz.func497 (by kernel_rfl) rfl a W
theorem Qne:Qh Tryz.prog 498:=fun a W=>Qc Tryz.func498 (by kernel_rfl) rfl a W
theorem QfU:Qh Tryz.prog 499:=fun a W=>Qc Tryz.func499 (by kernel_rfl) rfl a W
theorem Qnf:Qh Tryz.prog 500:=fun a W=>Qc Tryz.func500 (by kernel_rfl) rfl a W
theorem Qng:Qh Tryz.prog 501:=fun a W=>Qc Tryz.func501 (by kernel_rfl) rfl a W
theorem Qnh:Qh Tryz.prog 503:=fun a W=>Qc Tryz.func503 (by kernel_rfl) rfl a W
theorem Qni:Qh Tryz.prog 504:=fun a W=>Qc Tryz.func504 (by kernel_rfl) rfl a W
theorem QfV:Qh Tryz.prog 505:=fun a W=>Qc Tryz.func505 (by kernel_rfl) rfl a W
theorem Qnj:Qh Tryz.prog 506:=fun a W=>Qc Tryz.func506 (by kernel_rfl) rfl a W
theorem Qa4:Qh Tryz.prog 546:=fun a W=>Qc Tryz.func546 (by kernel_rfl) rfl a W
theorem Qnk:Qh Tryz.prog 547:=fun a W=>Qc Tryz.func547 (by kernel_rfl) rfl a W
theorem Qa5:Qh Tryz.prog 548:=fun a W=>Qc Tryz.func548 (by kernel_rfl) rfl a W
theorem Qnl:Qh Tryz.prog 549:=fun a W=>Qc Tryz.func549 (by kernel_rfl) rfl a W
theorem X5:Qh Tryz.prog 550:=fun a W=>Qc Tryz.func550 (by kernel_rfl) rfl a W
theorem Qnm:Qh Tryz.prog 551:=fun a W=>Qc Tryz.func551 (by kernel_rfl) rfl a W
theorem Qnn:Qh Tryz.prog 552:=fun a W=>Qc Tryz.func552 (by kernel_rfl) rfl a W
theorem Qno:Qh Tryz.prog 553:=fun a W=>Qc Tryz.func553 (by kernel_rfl) rfl a W
theorem Qnp:Qh Tryz.prog 554:=fun a W=>Qc Tryz.func554 (by kernel_rfl) rfl a W
theorem Qnq:Qh Tryz.prog 555:=fun a W=>Qc Tryz.func555 (by kernel_rfl) rfl a W
theorem Jl:Qh Tryz.prog 556:=fun a W=>Qc Tryz.func556 (by kernel_rfl) rfl a W
theorem Qnr:Qh Tryz.prog 557:=fun a W=>Qc Tryz.func557 (by kernel_rfl) rfl a W
theorem Qns:Qh Tryz.prog 558:=fun a W=>Qc Tryz.func558 (by kernel_rfl) rfl a W
theorem QfW:Qh Tryz.prog 559:=fun a W=>Qc Tryz.func559 (by kernel_rfl) rfl a W
theorem Qnt:Qh Tryz.prog 573:=fun a W=>Qc Tryz.func573 (by kernel_rfl) rfl a W
theorem QfX:Qh Tryz.prog 574:=fun a W=>Qc Tryz.func574 (by kernel_rfl) rfl a W
theorem Qnu:Qh Tryz.prog 575:=fun a W=>Qc Tryz.func575 (by kernel_rfl) rfl a W
theorem Qnv:Qh Tryz.prog 576:=fun a W=>Qc Tryz.func576 (by kernel_rfl) rfl a W
theorem QfY:Qh Tryz.prog 577:=fun a W=>Qc Tryz.func577 (by kernel_rfl) rfl a W
theorem Qnw:Qh Tryz.prog 578:=fun a W=>Qc Tryz.func578 (by kernel_rfl) rfl a W
theorem QfZ:Qh Tryz.prog 579:=fun a W=>Qc Tryz.func579 (by kernel_rfl) rfl a W
theorem Qnx:Qh Tryz.prog 580:=fun a W=>Qc Tryz.func580 (by kernel_rfl) rfl a W
theorem Qny:Qh Tryz.prog 583:=fun a W=>Qc Tryz.func583 (by kernel_rfl) rfl a W
theorem Qnz:Qh Tryz.prog 584:=fun a W=>Qc Tryz.func584 (by kernel_rfl) rfl a W
theorem QnA:Qh Tryz.prog 585:=fun a W=>Qc Tryz.func585 (by kernel_rfl) rfl a W
theorem QnB:Qh Tryz.prog 586:=fun a W=>Qc Tryz.func586 (by kernel_rfl) rfl a W
theorem Qa6:Qh Tryz.prog 587:=fun a W=>Qc Tryz.func587 (by kernel_rfl) rfl a W
theorem QnC:Qh Tryz.prog 588:=fun a W=>Qc Tryz.func588 (by kernel_rfl) rfl a W
theorem QnD:Qh Tryz.prog 589:=fun a W=>Qc Tryz.func589 (by kernel_rfl) rfl a W
theorem QnE:Qh Tryz.prog 591:=fun a W=>Qc Tryz.func591 (by kernel_rfl) rfl a W
theorem Xr:Qh Tryz.prog 592:=fun a W=>Qc Tryz.func592 (by kernel_rfl) rfl a W
theorem QnF:Qh Tryz.prog 593:=fun a W=>Qc Tryz.func593 (by kernel_rfl) rfl a W
theorem QnG:Qh Tryz.prog 595:=fun a W=>Qc Tryz.func595 (by kernel_rfl) rfl a W
theorem QnH:Qh Tryz.prog 596:=fun a W=>Qc Tryz.func596 (by kernel_rfl) rfl a W
theorem Qf0:Qh Tryz.prog 597:=fun a W=>Qc Tryz.func597 (by kernel_rfl) rfl a W
end Go.Proofs.YtndabgcpnmeeoaaGreat
namespace Go.Proofs.YtndabgcpnmeeoaaGreat
open Go.RowKit
@[reducible] def Is (pv:PV) (T:Tab):PV→Tab→Prop:=fun p T'=>p=pv∧T'=T
def FrL (s:St)(n:Nat):List Nat→Prop
 | []=>True
 | q :: l=>Fresh s (n+q)∧FrL s n l
theorem FrL.get {s:St}{n:Nat}{l:List Nat}(h:FrL s n l):∀q∈l,Fresh s (n+q):=by
 induction l with
 | nil=>simp
 | cons q l b=>
  intro r a
  rcases aK.1 a with rfl | a
  ·exact h.1
  ·exact b h.2 r a
section
variable {A:Amb}{P:Program}{s:St}
variable {f:FuncId}{xs:List Operand}{tys:Array TypeId}{args:List (Bool×List LV)}{d:Nat}{ty:TypeId}{pos:String}{af:Array Edge}{g:Option (Nat×Bool)}{pv:PV}{T:Tab}
theorem QlF (n:Nat)(l:FC P f args [] 0 (Is pv T))(i:Qh P f)(k:EvL A s xs args)(b:YY pv T=true)(m:Nat.blt d A.n=true)(c:FrL s n (ZS T))(h:A.k0≤n):
 Does A P ⟨some d, .call ⟨.value (.func f),xs.toArray,tys⟩,ty,pos,af,g⟩ s (s.back d n pv T):=
 fun a w K Q r j=>DoesT.call n l i k (by rintro _ _ ⟨rfl,rfl⟩; exact b) (by rintro _ _ ⟨rfl,rfl⟩ q ⟨e,o⟩; exact c.get q (ZL o).1) h m a w K Q r (by
  rintro u t v ⟨_,_,⟨rfl,rfl⟩,rfl⟩ p
  exact j _ _ p)
theorem YX (n:Nat)(l:FC P f args [] 0 (Is pv T))(i:Qh P f)(k:EvLB A s xs args)(b:YY pv T=true)(m:(pv.fl&&T.fl)=true)(o:Nat.blt d A.n=true)(c:FrL s n (ZS T))(h:A.k0≤n):
 Does A P ⟨some d, .call ⟨.value (.func f),xs.toArray,tys⟩,ty,pos,af,g⟩ s (s.back d n pv T):=
 fun a w K Q r j=>UI n l i k (by rintro _ _ ⟨rfl,rfl⟩; exact b) (by rintro _ _ ⟨rfl,rfl⟩; simpa using m) (by rintro _ _ ⟨rfl,rfl⟩ q ⟨e,p⟩; exact c.get q (ZL p).1) h o a w K Q r (by
  rintro v u x ⟨_,_,⟨rfl,rfl⟩,rfl⟩ t
  exact j _ _ t)
theorem QvT {fn:Func}{k:Nat}(pv:PV)(b:Tab)(ρ:List (Nat×Nat)){a:PV}(c:Res A P fn s a)(h0:a=pv.ren (rn ρ))(e:HasE ⟨[],s.tab⟩ ρ b)(h:UC (b.map fun x=>rn ρ x.1)=true)(i:idB ρ k=true):fin A P fn (QbF (Is pv b) k) .ret s:=
 Qi8 pv b ρ (h0▸c) e h i ⟨rfl,rfl⟩
end
def LV.thaw (T:Tab):LV→LV
 | .ref q=>match T.ent q with
  | some (.arr E e xs)=> .dat (.sl E e) xs
  | _=> .ref q
 | l=>l
def PV.thaw (T:Tab):PV→PV
 | .cm b ls=> .cm b (ls.map (LV.thaw T))
 | .tup cs=> .tup (cs.map fun c=>(c.1,c.2.map (LV.thaw T)))
section
variable {T:Tab}{gh:Gh}{w:World}
theorem LVR.thaw (i:Cx T gh w){l:LV}{v:Value}(h:LVR T.al gh w l v):LVR (Tab.al []) ⟨gh.h,gh.f,fun g=>gh.N g∨∃q,T.al q∧g∈gh.f q⟩ w (l.thaw T) v:=by
 have c:∀l,LVR T.al gh w l v→LVR (Tab.al []) ⟨gh.h,gh.f,fun g=>gh.N g∨∃q,T.al q∧g∈gh.f q⟩ w l v:=fun l h=>h.mono (fun q _ h=>absurd h (Yc q)) fun g b=>⟨.inl b,rfl⟩
 cases l with
 | ref q=>
  simp only[LV.thaw]
  split
  ·rename_i E e xs a
   have k:v=gh.h q:=h ⟨_,a⟩
   have j:Own (.sl E e) w (gh.f q) [gh.h q] xs:=i.en q _ a
   rw[k]
   exact j.rd fun g b=> .inr ⟨q,⟨_,a⟩,b⟩
  ·exact c _ h
 | _=>exact c _ h
theorem LVs.thaw (a:Cx T gh w){ls:List LV}{vs:List Value}(h:LVs T.al gh w ls vs):LVs (Tab.al []) ⟨gh.h,gh.f,fun g=>gh.N g∨∃q,T.al q∧g∈gh.f q⟩ w (ls.map (LV.thaw T)) vs:=by
 induction ls generalizing vs with
 | nil=>exact h
 | cons l ls e=>obtain ⟨v,i,rfl,b,c⟩:=h; exact ⟨v,_,rfl,b.thaw a,e c⟩
theorem CmR.thaw (e:Cx T gh w){c:Bool×List LV}{v:Value}(h:CmR T.al gh w c v):CmR (Tab.al []) ⟨gh.h,gh.f,fun g=>gh.N g∨∃q,T.al q∧g∈gh.f q⟩ w (c.1,c.2.map (LV.thaw T)) v:=by
 obtain ⟨b,j⟩:=c
 cases b with
 | true=>obtain ⟨i,rfl,a⟩:=h; exact ⟨i,rfl,a.thaw e⟩
 | false=>obtain ⟨l,rfl,a⟩:=h; exact ⟨_,rfl,a.thaw e⟩
theorem PVR.thaw (e:Cx T gh w){pv:PV}{v:Value}(h:PVR T.al gh w pv v):PVR (Tab.al []) ⟨gh.h,gh.f,fun g=>gh.N g∨∃q,T.al q∧g∈gh.f q⟩ w (pv.thaw T) v:=by
 cases pv with
 | cm b n=>exact CmR.thaw e (c:=(b,n)) h
 | tup a=>
  obtain ⟨j,rfl,i⟩:=h
  refine ⟨j,rfl, ?_⟩
  induction a generalizing j with
  | nil=>exact i
  | cons c a m=>obtain ⟨v,o,rfl,k,l⟩:=i; exact ⟨v,_,rfl,k.thaw e,m _ l⟩
end
theorem QjU {A:Amb}{P:Program}{ops:Array Oper}{o:Oper}{s a s':St}(b:o.guard=none)(h:Does A P o s a)(e:a=s'):Acts A P ops o s s':=e▸Acts.of b h
theorem QpV {A:Amb}{P:Program}{ops:Array Oper}{o:Oper}{s a s':St}{j d:Nat}{b:Bool}(k:o.guard=some (j,b))(i:(ops[j]?).bind (·.dst)=some d)(c:lk s.tm d=some (lf (dB b)))(h:Does A P o s a)(e:a=s'):Acts A P ops o s s':=e▸Qrk k i c h
section
variable {A:Amb}{s:St}
theorem Wk.nilS (t i:Nat)(E:TypeId)(e:Ty)(hi:lk s.tm i=some (lf (.val (.slice none 0 0))))(b:Fresh s t)(c:A.k0≤t):Wk A s ⟨(i,lf (.ref t)) :: s.tm,(t,some (.arr E e [])) :: s.tab⟩:=fun a w r=>by
 obtain ⟨gh,r⟩:=r
 obtain ⟨v,k,l,h,m⟩:=r.tm i _ hi
 simp only[aC,and_true] at h
 subst h
 have j:v= .slice none 0 0:=m
 have n:=r.make t b c [] (by simp) (Zk w) (fun _ _ _=>rfl) (E:=E) (e:=e) (xs:=[]) (hv:= .slice none 0 0) (fp:=[]) (.inl ⟨rfl,rfl,rfl⟩) bL (by simp)
 exact ⟨_,n.know k (pv:=lf (.ref t)) ⟨_,rfl,fun _=>by simp[j]⟩⟩
theorem Qp (t:Nat){p off:Nat}{E':TypeId}{cs:List LV}(E:TypeId)(e:Ty)(o:s.tab.ent p=some (.box E' cs))(L:cs[off]? =some (.val (.slice none 0 0)))(j:Fresh s t)(l:A.k0≤t):
 Wk A s ⟨s.tm,(p,some (.box E' (splice cs off [.ref t]))) :: (t,some (.arr E e [])) :: s.tab⟩:=fun a w r=>by
 obtain ⟨gh,r⟩:=r
 have c:p≠t:=fun h=>j.al ⟨_,h▸o⟩
 obtain ⟨g,b,y,G,z,H⟩:=r.cx.en p _ o
 obtain ⟨v,I,J⟩:=H.nth L
 have C:v= .slice none 0 0:=J
 have F:=r.make t j l [] (by simp) (Zk w) (fun _ _ _=>rfl) (E:=E) (e:=e) (xs:=[]) (hv:= .slice none 0 0) (fp:=[]) (.inl ⟨rfl,rfl,rfl⟩) bL (by simp)
 have k:Tab.ent ((t,some (.arr E e [])) :: (U1 []++s.tab)) p=some (.box E' cs):=by rw[Qj,if_neg c]; exact o
 obtain ⟨Q,x,u,M,D,O⟩:=F.cx.en p _ k
 simp only[if_neg c] at u M
 rw[y] at u
 cases u
 rw[z] at D
 cases D
 have K:LVs (Tab.al ((t,some (.arr E e [])) :: (U1 []++s.tab))) ⟨fun q=>if q=t then .slice none 0 0 else gh.h q,fun q=>if q=t then [] else gh.f q,gh.N⟩ w [.ref t] [v]:=⟨v,[],rfl,fun _=>by simp[C],rfl⟩
 have B:=O.splice K (off:=off)
 have i:b.toList.take off++[v]++b.toList.drop (off+[v].length)=b.toList:=by
  have m:=(ai.1 I)
  obtain ⟨m,n⟩:=m
  conv=>rhs; rw[← bI (off+1) b.toList,bD m,n]
  rfl
 rw[i] at B
 exact ⟨_,F.mod k (Zk w) (fun _ _ _=>rfl) ⟨g,b,by simp only[if_neg c]; exact y,by simp only[if_neg c]; exact G,z,B⟩⟩
end
end Go.Proofs.YtndabgcpnmeeoaaGreat
