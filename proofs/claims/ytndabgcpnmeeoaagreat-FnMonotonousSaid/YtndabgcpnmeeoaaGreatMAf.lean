/- Closed facts on the types and functions of the program. -/
import Derived.Test.YtndabgcpnmeeoaaGreatProg
import Derived.Test.YtndabgcpnmeeoaaGreatMAe
import Derived.Test.YtndabgcpnmeeoaaGreatMStr
set_option linter.unusedSimpArgs false
set_option linter.unusedVariables false
set_option linter.unusedSectionVars false
namespace Go.Proofs.YtndabgcpnmeeoaaGreat
open Go.RowKit
theorem mixed:Tryz.prog.follows .mixedOrders=true:=by kernel_rfl
theorem H8:Tryz.prog.underlying 3=some (.int .i64):=by kernel_rfl
theorem ZY:tsh Tryz.prog 3=some (false,1):=by kernel_rfl
theorem Yt:zer Tryz.prog 3=some (.int .i64 0):=by kernel_rfl
theorem XC:WD Tryz.prog 3 1=true:=by kernel_rfl
theorem QhG:(Tryz.prog.info? 3).map (fun i=>(i.zero,i.size,i.bytes))=some (some (.int .i64 0),1,8):=by kernel_rfl
theorem Zv:Tryz.prog.underlying 4=some .bool:=by kernel_rfl
theorem Up:tsh Tryz.prog 4=some (false,1):=by kernel_rfl
theorem Qvx:zer Tryz.prog 4=some (.bool false):=by kernel_rfl
theorem QpO:(Tryz.prog.info? 4).map (fun i=>(i.zero,i.size,i.bytes))=some (some (.bool false),1,1):=by kernel_rfl
theorem Qhw:Tryz.prog.underlying 5=some (.int .u8):=by kernel_rfl
theorem Xh:tsh Tryz.prog 5=some (false,1):=by kernel_rfl
theorem Qv6:zer Tryz.prog 5=some (.int .u8 0):=by kernel_rfl
theorem Qwz:(Tryz.prog.info? 5).map (fun i=>(i.zero,i.size,i.bytes))=some (some (.int .u8 0),1,1):=by kernel_rfl
theorem Zz:Tryz.prog.underlying 9=some .string:=by kernel_rfl
theorem UA:tsh Tryz.prog 9=some (false,1):=by kernel_rfl
theorem Ya:zer Tryz.prog 9=some (.string ByteArray.empty):=by kernel_rfl
theorem VT:WD Tryz.prog 9 1=true:=by kernel_rfl
theorem Qwu:(Tryz.prog.info? 9).map (fun i=>(i.zero,i.size,i.bytes))=some (some (.string ByteArray.empty),1,16):=by kernel_rfl
theorem KU:Tryz.prog.underlying 22=some (.slice 5):=by kernel_rfl
theorem Qjl:Tryz.prog.underlying 24=some (.slice 77):=by kernel_rfl
theorem QuK:tsh Tryz.prog 24=some (false,1):=by kernel_rfl
theorem Qbq:Tryz.prog.underlying 25=some (.slice 9):=by kernel_rfl
theorem QqQ:tsh Tryz.prog 25=some (false,1):=by kernel_rfl
theorem QkW:Tryz.prog.underlying 26=some (.slice 154):=by kernel_rfl
theorem ZM:tsh Tryz.prog 28=some (true,3):=by kernel_rfl
theorem Zt:zer Tryz.prog 28=some (.agg #[.slice none 0 0, .slice none 0 0, .slice none 0 0]):=by kernel_rfl
theorem Qf9:bld Tryz.prog 28 [(0,1),(1,1),(2,1)] (.pr (.sl 77 (.pr .str .int)) (.pr (.sl 9 .str) (.sl 154 (.pr .int (.pr .int (.pr .bool .int)))))):=XX Tryz.underlying28 (by kernel_rfl) Zt
theorem QfY:Tryz.prog.underlying 30=some (.slice 139):=by kernel_rfl
theorem QaZ:Tryz.prog.underlying 46=some (.slice 275):=by kernel_rfl
theorem Qpu:tsh Tryz.prog 46=some (false,1):=by kernel_rfl
theorem QgR:tsh Tryz.prog 48=some (true,2):=by kernel_rfl
theorem Qa3:zer Tryz.prog 48=some (.agg #[.int .i64 0, .slice none 0 0]):=by kernel_rfl
theorem Qgh:bld Tryz.prog 48 [(0,1),(1,1)] (.pr .int (.sl 275 (.pr (.sl 3 .int) (.sl 3 .int)))):=XX Tryz.underlying48 (by kernel_rfl) Qa3
theorem Qud:Tryz.prog.underlying 49=some (.slice 75):=by kernel_rfl
theorem QoN:tsh Tryz.prog 49=some (false,1):=by kernel_rfl
theorem YN:tsh Tryz.prog 51=some (true,5):=by kernel_rfl
theorem HD:zer Tryz.prog 51=some (.agg #[.int .i64 0, .slice none 0 0, .slice none 0 0, .slice none 0 0, .string ByteArray.empty]):=by kernel_rfl
theorem Qeh:bld Tryz.prog 51 [(0,2),(2,1),(3,1),(4,1)] (.pr (.pr .int (.sl 275 (.pr (.sl 3 .int) (.sl 3 .int)))) (.pr (.sl 77 (.pr .str .int)) (.pr (.sl 75 (.pr .int .bool)) .str))):=XX Tryz.underlying51 (by kernel_rfl) HD
theorem Wl:Tryz.prog.underlying 56=some (.slice 123):=by kernel_rfl
theorem XY:zer Tryz.prog 75=some (.agg #[.int .i64 0, .bool false]):=by kernel_rfl
theorem Qbh:WD Tryz.prog 75 2=true:=by kernel_rfl
theorem XJ:bld Tryz.prog 75 [(0,1),(1,1)] (.pr .int .bool):=XX Tryz.underlying75 (by kernel_rfl) XY
theorem HI:zer Tryz.prog 77=some (.agg #[.string ByteArray.empty, .int .i64 0]):=by kernel_rfl
theorem QgW:WD Tryz.prog 77 2=true:=by kernel_rfl
theorem Qu2:bld Tryz.prog 77 [(0,1),(1,1)] (.pr .str .int):=XX Tryz.underlying77 (by kernel_rfl) HI
theorem Zf:Tryz.prog.underlying 123=some (.slice 3):=by kernel_rfl
theorem Yv:tsh Tryz.prog 123=some (false,1):=by kernel_rfl
theorem YR:zer Tryz.prog 123=some (.slice none 0 0):=by kernel_rfl
theorem UZ:WD Tryz.prog 123 1=true:=by kernel_rfl
theorem Qli:(Tryz.prog.info? 123).map (fun i=>(i.zero,i.size,i.bytes))=some (some (.slice none 0 0),1,24):=by kernel_rfl
theorem Qcu:Tryz.prog.underlying 132=some (.int .u64):=by kernel_rfl
theorem Qb4:tsh Tryz.prog 139=some (true,3):=by kernel_rfl
theorem XF:zer Tryz.prog 139=some (.agg #[.int .i64 0, .bool false, .slice none 0 0]):=by kernel_rfl
theorem QlJ:WD Tryz.prog 139 3=true:=by kernel_rfl
theorem Qmj:bld Tryz.prog 139 [(0,1),(1,1),(2,1)] (.pr .int (.pr .bool (.sl 9 .str))):=XX Tryz.underlying139 (by kernel_rfl) XF
theorem H0:Tryz.prog.underlying 144=some (.slice 4):=by kernel_rfl
theorem QgA:tsh Tryz.prog 154=some (true,4):=by kernel_rfl
theorem QeZ:fld Tryz.prog 154 2=some 2:=by kernel_rfl
theorem QnQ:fld Tryz.prog 154 3=some 3:=by kernel_rfl
theorem ZG:zer Tryz.prog 154=some (.agg #[.int .i64 0, .int .i64 0, .bool false, .int .i64 0]):=by kernel_rfl
theorem Qs4:WD Tryz.prog 154 4=true:=by kernel_rfl
theorem QlU:bld Tryz.prog 154 [(0,1),(1,1),(2,1),(3,1)] (.pr .int (.pr .int (.pr .bool .int))):=XX Tryz.underlying154 (by kernel_rfl) ZG
theorem QgO:zer Tryz.prog 178=some (.agg #[.slice none 0 0, .slice none 0 0]):=by kernel_rfl
theorem Qcp:bld Tryz.prog 178 [(0,1),(1,1)] (.pr (.sl 9 .str) (.sl 301 (.pr .int (.pr .int .int)))):=XX Tryz.underlying178 (by kernel_rfl) QgO
theorem K6:tsh Tryz.prog 275=some (true,2):=by kernel_rfl
theorem Qfa:fld Tryz.prog 275 0=some 0:=by kernel_rfl
theorem Qe5:fld Tryz.prog 275 1=some 1:=by kernel_rfl
theorem UP:zer Tryz.prog 275=some (.agg #[.slice none 0 0, .slice none 0 0]):=by kernel_rfl
theorem Qcf:WD Tryz.prog 275 2=true:=by kernel_rfl
theorem Qb5:bld Tryz.prog 275 [(0,1),(1,1)] (.pr (.sl 3 .int) (.sl 3 .int)):=XX Tryz.underlying275 (by kernel_rfl) UP
theorem QgT:Tryz.prog.underlying 279=some (.int .u64):=by kernel_rfl
theorem Qcq:zer Tryz.prog 281=some (.agg #[.slice none 0 0, .slice none 0 0, .slice none 0 0, .int .i64 0, .int .i64 0, .bool false]):=by kernel_rfl
theorem Qse:bld Tryz.prog 281 [(0,2),(2,1),(3,1),(4,1),(5,1)] (.pr (.pr (.sl 9 .str) (.sl 301 (.pr .int (.pr .int .int)))) (.pr (.sl 301 (.pr .int (.pr .int .int))) (.pr .int (.pr .int .bool)))):=XX Tryz.underlying281 (by kernel_rfl) Qcq
theorem UI:zer Tryz.prog 301=some (.agg #[.int .i64 0, .int .i64 0, .int .i64 0]):=by kernel_rfl
theorem Qg8:WD Tryz.prog 301 3=true:=by kernel_rfl
theorem Qb7:bld Tryz.prog 301 [(0,1),(1,1),(2,1)] (.pr .int (.pr .int .int)):=XX Tryz.underlying301 (by kernel_rfl) UI
theorem JB:zer Tryz.prog 359=some (.agg #[.int .i64 0, .int .i64 0]):=by kernel_rfl
theorem Qry:WD Tryz.prog 359 2=true:=by kernel_rfl
theorem QgV:bld Tryz.prog 359 [(0,1),(1,1)] (.pr .int .int):=XX Tryz.underlying359 (by kernel_rfl) JB
theorem QrE:zer Tryz.prog 373=some (.agg #[.int .i64 0, .slice none 0 0, .slice none 0 0, .slice none 0 0, .string ByteArray.empty, .slice none 0 0, .slice none 0 0]):=by kernel_rfl
theorem QrA:bld Tryz.prog 373 [(0,5),(5,1),(6,1)] (.pr (.pr (.pr .int (.sl 275 (.pr (.sl 3 .int) (.sl 3 .int)))) (.pr (.sl 77 (.pr .str .int)) (.pr (.sl 75 (.pr .int .bool)) .str))) (.pr (.sl 9 .str) (.sl 9 .str))):=XX Tryz.underlying373 (by kernel_rfl) QrE
theorem Jo:zer Tryz.prog 382=some (.agg #[.int .i64 0, .int .i64 0, .int .i64 0]):=by kernel_rfl
theorem Qcm:WD Tryz.prog 382 3=true:=by kernel_rfl
theorem Qci:bld Tryz.prog 382 [(0,1),(1,1),(2,1)] (.pr .int (.pr .int .int)):=XX Tryz.underlying382 (by kernel_rfl) Jo
theorem Qpw:Qg Tryz.prog 8:=fun a W=>Qc Tryz.func8 (by kernel_rfl) rfl a W
theorem Qqv:Qg Tryz.prog 9:=fun a W=>Qc Tryz.func9 (by kernel_rfl) rfl a W
theorem Qm4:Qg Tryz.prog 10:=fun a W=>Qc Tryz.func10 (by kernel_rfl) rfl a W
theorem QeU:Qg Tryz.prog 11:=fun a W=>Qc Tryz.func11 (by kernel_rfl) rfl a W
theorem Qnv:Qg Tryz.prog 12:=fun a W=>Qc Tryz.func12 (by kernel_rfl) rfl a W
theorem Y1:Qg Tryz.prog 13:=fun a W=>Qc Tryz.func13 (by kernel_rfl) rfl a W
theorem YY:Qg Tryz.prog 14:=fun a W=>Qc Tryz.func14 (by kernel_rfl) rfl a W
theorem Y0:Qg Tryz.prog 15:=fun a W=>Qc Tryz.func15 (by kernel_rfl) rfl a W
theorem Y3:Qg Tryz.prog 16:=fun a W=>Qc Tryz.func16 (by kernel_rfl) rfl a W
theorem Qbn:Qg Tryz.prog 17:=fun a W=>Qc Tryz.func17 (by kernel_rfl) rfl a W
theorem Ji:Qg Tryz.prog 18:=fun a W=>Qc Tryz.func18 (by kernel_rfl) rfl a W
theorem Jc:Qg Tryz.prog 19:=fun a W=>Qc Tryz.func19 (by kernel_rfl) rfl a W
theorem QaQ:Qg Tryz.prog 20:=fun a W=>Qc Tryz.func20 (by kernel_rfl) rfl a W
theorem Jd:Qg Tryz.prog 21:=fun a W=>Qc Tryz.func21 (by kernel_rfl) rfl a W
theorem Va:Qg Tryz.prog 22:=fun a W=>Qc Tryz.func22 (by kernel_rfl) rfl a W
theorem Xt:Qg Tryz.prog 23:=fun a W=>Qc Tryz.func23 (by kernel_rfl) rfl a W
theorem QnE:Qg Tryz.prog 58:=fun a W=>Qc Tryz.func58 (by kernel_rfl) rfl a W
theorem QaJ:Qg Tryz.prog 76:=fun a W=>Qc Tryz.func76 (by kernel_rfl) rfl a W
theorem Jp:Qg Tryz.prog 77:=fun a W=>Qc Tryz.func77 (by kernel_rfl) rfl a W
theorem Qfu:Qg Tryz.prog 78:=fun a W=>Qc Tryz.func78 (by kernel_rfl) rfl a W
theorem Jm:Qg Tryz.prog 79:=fun a W=>Qc Tryz.func79 (by kernel_rfl) rfl a W
theorem Qe7:Qg Tryz.prog 80:=fun a W=>Qc Tryz.func80 (by kernel_rfl) rfl a W
theorem JA:Qg Tryz.prog 81:=fun a W=>Qc Tryz.func81 (by kernel_rfl) rfl a W
theorem Uc:Qg Tryz.prog 82:=fun a W=>Qc Tryz.func82 (by kernel_rfl) rfl a W
theorem Jb:Qg Tryz.prog 83:=fun a W=>Qc Tryz.func83 (by kernel_rfl) rfl a W
theorem Vb:Qg Tryz.prog 84:=fun a W=>Qc Tryz.func84 (by kernel_rfl) rfl a W
theorem QfK:Qg Tryz.prog 85:=fun a W=>Qc Tryz.func85 (by kernel_rfl) rfl a W
theorem Qfq:Qg Tryz.prog 86:=fun a W=>Qc Tryz.func86 (by kernel_rfl) rfl a W
theorem Qoa:Qg Tryz.prog 87:=fun a W=>Qc Tryz.func87 (by kernel_rfl) rfl a W
theorem QfO:Qg Tryz.prog 88:=fun a W=>Qc Tryz.func88 (by kernel_rfl) rfl a W
theorem QfG:Qg Tryz.prog 89:=fun a W=>Qc Tryz.func89 (by kernel_rfl) rfl a W
theorem Qn6:Qg Tryz.prog 90:=fun a W=>Qc Tryz.func90 (by kernel_rfl) rfl a W
theorem Qm6:Qg Tryz.prog 91:=fun a W=>Qc Tryz.func91 (by kernel_rfl) rfl a W
theorem QfR:Qg Tryz.prog 92:=fun a W=>Qc Tryz.func92 (by kernel_rfl) rfl a W
theorem Qn1:Qg Tryz.prog 93:=fun a W=>Qc Tryz.func93 (by kernel_rfl) rfl a W
theorem QnS:Qg Tryz.prog 94:=fun a W=>Qc Tryz.func94 (by kernel_rfl) rfl a W
theorem Qm7:Qg Tryz.prog 95:=fun a W=>Qc Tryz.func95 (by kernel_rfl) rfl a W
theorem Qny:Qg Tryz.prog 96:=fun a W=>Qc Tryz.func96 (by kernel_rfl) rfl a W
theorem Wg:Qg Tryz.prog 97:=fun a W=>Qc Tryz.func97 (by kernel_rfl) rfl a W
theorem Qba:Qg Tryz.prog 98:=fun a W=>Qc Tryz.func98 (by kernel_rfl) rfl a W
theorem Zl:Qg Tryz.prog 99:=fun a W=>Qc Tryz.func99 (by kernel_rfl) rfl a W
theorem QkY:Qg Tryz.prog 100:=fun a W=>Qc Tryz.func100 (by kernel_rfl) rfl a W
theorem Qc7:Qg Tryz.prog 101:=fun a W=>Qc Tryz.func101 (by kernel_rfl) rfl a W
theorem HG:Qg Tryz.prog 102:=fun a W=>Qc Tryz.func102 (by kernel_rfl) rfl a W
theorem Qet:Qg Tryz.prog 103:=fun a W=>Qc Tryz.func103 (by kernel_rfl) rfl a W
theorem Qek:Qg Tryz.prog 104:=fun a W=>Qc Tryz.func104 (by kernel_rfl) rfl a W
theorem Hm:Qg Tryz.prog 105:=fun a W=>Qc Tryz.func105 (by kernel_rfl) rfl a W
theorem Qd0:Qg Tryz.prog 106:=fun a W=>Qc Tryz.func106 (by kernel_rfl) rfl a W
theorem ZP:Qg Tryz.prog 107:=fun a W=>Qc Tryz.func107 (by kernel_rfl) rfl a W
theorem Hc:Qg Tryz.prog 108:=fun a W=>Qc Tryz.func108 (by kernel_rfl) rfl a W
theorem QiP:Qg Tryz.prog 109:=fun a W=>Qc Tryz.func109 (by kernel_rfl) rfl a W
theorem QiV:Qg Tryz.prog 119:=fun a W=>Qc Tryz.func119 (by kernel_rfl) rfl a W
theorem QiU:Qg Tryz.prog 129:=fun a W=>Qc Tryz.func129 (by kernel_rfl) rfl a W
theorem XI:Qg Tryz.prog 132:=fun a W=>Qc Tryz.func132 (by kernel_rfl) rfl a W
theorem Qjw:Qg Tryz.prog 152:=fun a W=>Qc Tryz.func152 (by kernel_rfl) rfl a W
theorem Qjb:Qg Tryz.prog 167:=fun a W=>Qc Tryz.func167 (by kernel_rfl) rfl a W
theorem Qk6:Qg Tryz.prog 176:=fun a W=>Qc Tryz.func176 (by kernel_rfl) rfl a W
theorem QcP:Qg Tryz.prog 178:=fun a W=>Qc Tryz.func178 (by kernel_rfl) rfl a W
theorem Qjy:Qg Tryz.prog 181:=fun a W=>Qc Tryz.func181 (by kernel_rfl) rfl a W
theorem Qjp:Qg Tryz.prog 184:=fun a W=>Qc Tryz.func184 (by kernel_rfl) rfl a W
theorem QkD:Qg Tryz.prog 185:=fun a W=>Qc Tryz.func185 (by kernel_rfl) rfl a W
theorem Xk:Qg Tryz.prog 189:=fun a W=>Qc Tryz.func189 (by kernel_rfl) rfl a W
theorem QjO:Qg Tryz.prog 202:=fun a W=>Qc Tryz.func202 (by kernel_rfl) rfl a W
theorem QdQ:Qg Tryz.prog 204:=fun a W=>Qc Tryz.func204 (by kernel_rfl) rfl a W
theorem QjZ:Qg Tryz.prog 206:=fun a W=>Qc Tryz.func206 (by kernel_rfl) rfl a W
theorem Hz:Qg Tryz.prog 208:=fun a W=>Qc Tryz.func208 (by kernel_rfl) rfl a W
theorem Zm:Qg Tryz.prog 209:=fun a W=>Qc Tryz.func209 (by kernel_rfl) rfl a W
theorem Qkq:Qg Tryz.prog 210:=fun a W=>Qc Tryz.func210 (by kernel_rfl) rfl a W
theorem Qjk:Qg Tryz.prog 211:=fun a W=>Qc Tryz.func211 (by kernel_rfl) rfl a W
theorem QdO:Qg Tryz.prog 212:=fun a W=>Qc Tryz.func212 (by kernel_rfl) rfl a W
theorem QkM:Qg Tryz.prog 213:=fun a W=>Qc Tryz.func213 (by kernel_rfl) rfl a W
theorem Qkk:Qg Tryz.prog 214:=fun a W=>Qc Tryz.func214 (by kernel_rfl) rfl a W
theorem Xd:Qg Tryz.prog 215:=fun a W=>Qc Tryz.func215 (by kernel_rfl) rfl a W
theorem QkB:Qg Tryz.prog 216:=fun a W=>Qc Tryz.func216 (by kernel_rfl) rfl a W
theorem QkS:Qg Tryz.prog 217:=fun a W=>Qc Tryz.func217 (by kernel_rfl) rfl a W
theorem Qi1:Qg Tryz.prog 218:=fun a W=>Qc Tryz.func218 (by kernel_rfl) rfl a W
theorem QiO:Qg Tryz.prog 219:=fun a W=>Qc Tryz.func219 (by kernel_rfl) rfl a W
theorem QjV:Qg Tryz.prog 220:=fun a W=>Qc Tryz.func220 (by kernel_rfl) rfl a W
theorem Qko:Qg Tryz.prog 221:=fun a W=>Qc Tryz.func221 (by kernel_rfl) rfl a W
theorem QiN:Qg Tryz.prog 222:=fun a W=>Qc Tryz.func222 (by kernel_rfl) rfl a W
theorem Ha:Qg Tryz.prog 223:=fun a W=>Qc Tryz.func223 (by kernel_rfl) rfl a W
theorem Qi4:Qg Tryz.prog 224:=fun a W=>Qc Tryz.func224 (by kernel_rfl) rfl a W
theorem Qji:Qg Tryz.prog 225:=fun a W=>Qc Tryz.func225 (by kernel_rfl) rfl a W
theorem QjT:Qg Tryz.prog 226:=fun a W=>Qc Tryz.func226 (by kernel_rfl) rfl a W
theorem Qd3:Qg Tryz.prog 227:=fun a W=>Qc Tryz.func227 (by kernel_rfl) rfl a W
theorem UY:Qg Tryz.prog 228:=fun a W=>Qc Tryz.func228 (by kernel_rfl) rfl a W
theorem QjF:Qg Tryz.prog 229:=fun a W=>Qc Tryz.func229 (by kernel_rfl) rfl a W
theorem Qkt:Qg Tryz.prog 230:=fun a W=>Qc Tryz.func230 (by kernel_rfl) rfl a W
theorem Qeg:Qg Tryz.prog 231:=fun a W=>Qc Tryz.func231 (by kernel_rfl) rfl a W
theorem Qc1:Qg Tryz.prog 232:=fun a W=>Qc Tryz.func232 (by kernel_rfl) rfl a W
theorem Qkx:Qg Tryz.prog 233:=fun a W=>Qc Tryz.func233 (by kernel_rfl) rfl a W
theorem Hj:Qg Tryz.prog 234:=fun a W=>Qc Tryz.func234 (by kernel_rfl) rfl a W
theorem QdC:Qg Tryz.prog 235:=fun a W=>Qc Tryz.func235 (by kernel_rfl) rfl a W
theorem UR:Qg Tryz.prog 236:=fun a W=>Qc Tryz.func236 (by kernel_rfl) rfl a W
theorem YA:Qg Tryz.prog 237:=fun a W=>Qc Tryz.func237 (by kernel_rfl) rfl a W
theorem Qi6:Qg Tryz.prog 238:=fun a W=>Qc Tryz.func238 (by kernel_rfl) rfl a W
theorem UX:Qg Tryz.prog 239:=fun a W=>Qc Tryz.func239 (by kernel_rfl) rfl a W
theorem Qkv:Qg Tryz.prog 240:=fun a W=>Qc Tryz.func240 (by kernel_rfl) rfl a W
theorem U0:Qg Tryz.prog 253:=fun a W=>Qc Tryz.func253 (by kernel_rfl) rfl a W
theorem QkC:Qg Tryz.prog 254:=fun a W=>Qc Tryz.func254 (by kernel_rfl) rfl a W
theorem Qjh:Qg Tryz.prog 255:=fun a W=>Qc Tryz.func255 (by kernel_rfl) rfl a W
theorem QkZ:Qg Tryz.prog 258:=fun a W=>Qc Tryz.func258 (by kernel_rfl) rfl a W
theorem Qkf:Qg Tryz.prog 259:=fun a W=>Qc Tryz.func259 (by kernel_rfl) rfl a W
theorem QcH:Qg Tryz.prog 263:=fun a W=>Qc Tryz.func263 (by kernel_rfl) rfl a W
theorem Hy:Qg Tryz.prog 268:=fun a W=>Qc Tryz.func268 (by kernel_rfl) rfl a W
theorem QiZ:Qg Tryz.prog 270:=fun a W=>Qc Tryz.func270 (by kernel_rfl) rfl a W
theorem QjK:Qg Tryz.prog 272:=fun a W=>Qc Tryz.func272 (by kernel_rfl) rfl a W
theorem Qdn:Qg Tryz.prog 273:=fun a W=>Qc Tryz.func273 (by kernel_rfl) rfl a W
theorem QkT:Qg Tryz.prog 291:=fun a W=>Qc Tryz.func291 (by kernel_rfl) rfl a W
theorem Qjg:Qg Tryz.prog 292:=fun a W=>Qc Tryz.func292 (by kernel_rfl) rfl a W
theorem QkJ:Qg Tryz.prog 293:=fun a W=>Qc Tryz.func293 (by kernel_rfl) rfl a W
theorem QjU:Qg Tryz.prog 302:=fun a W=>Qc Tryz.func302 (by kernel_rfl) rfl a W
theorem Qkb:Qg Tryz.prog 316:=fun a W=>Qc Tryz.func316 (by kernel_rfl) rfl a W
theorem QkH:Qg Tryz.prog 317:=fun a W=>Qc Tryz.func317 (by kernel_rfl) rfl a W
theorem Qj3:Qg Tryz.prog 318:=fun a W=>Qc Tryz.func318 (by kernel_rfl) rfl a W
theorem Qjs:Qg Tryz.prog 319:=fun a W=>Qc Tryz.func319 (by kernel_rfl) rfl a W
theorem QjS:Qg Tryz.prog 321:=fun a W=>Qc Tryz.func321 (by kernel_rfl) rfl a W
theorem QkU:Qg Tryz.prog 324:=fun a W=>Qc Tryz.func324 (by kernel_rfl) rfl a W
theorem QcI:Qg Tryz.prog 340:=fun a W=>Qc Tryz.func340 (by kernel_rfl) rfl a W
theorem Hi:Qg Tryz.prog 342:=fun a W=>Qc Tryz.func342 (by kernel_rfl) rfl a W
theorem Qkg:Qg Tryz.prog 343:=fun a W=>Qc Tryz.func343 (by kernel_rfl) rfl a W
theorem QjB:Qg Tryz.prog 344:=fun a W=>Qc Tryz.func344 (by kernel_rfl) rfl a W
theorem QjX:Qg Tryz.prog 345:=fun a W=>Qc Tryz.func345 (by kernel_rfl) rfl a W
theorem QdH:Qg Tryz.prog 346:=fun a W=>Qc Tryz.func346 (by kernel_rfl) rfl a W
theorem J4:Qg Tryz.prog 347:=fun a W=>Qc Tryz.func347 (by kernel_rfl) rfl a W
theorem Qez:Qg Tryz.prog 348:=fun a W=>Qc Tryz.func348 (by kernel_rfl) rfl a W
theorem QiY:Qg Tryz.prog 350:=fun a W=>Qc Tryz.func350 (by kernel_rfl) rfl a W
theorem HE:Qg Tryz.prog 351:=fun a W=>Qc Tryz.func351 (by kernel_rfl) rfl a W
theorem Wp:Qg Tryz.prog 352:=fun a W=>Qc Tryz.func352 (by kernel_rfl) rfl a W
theorem Qke:Qg Tryz.prog 353:=fun a W=>Qc Tryz.func353 (by kernel_rfl) rfl a W
theorem QiK:Qg Tryz.prog 357:=fun a W=>Qc Tryz.func357 (by kernel_rfl) rfl a W
theorem Qjj:Qg Tryz.prog 358:=fun a W=>Qc Tryz.func358 (by kernel_rfl) rfl a W
theorem Qku:Qg Tryz.prog 362:=fun a W=>Qc Tryz.func362 (by kernel_rfl) rfl a W
theorem Hr:Qg Tryz.prog 375:=fun a W=>Qc Tryz.func375 (by kernel_rfl) rfl a W
theorem Qi8:Qg Tryz.prog 377:=fun a W=>Qc Tryz.func377 (by kernel_rfl) rfl a W
theorem Qj6:Qg Tryz.prog 378:=fun a W=>Qc Tryz.func378 (by kernel_rfl) rfl a W
theorem Qj9:Qg Tryz.prog 379:=fun a W=>Qc Tryz.func379 (by kernel_rfl) rfl a W
theorem Qjd:Qg Tryz.prog 381:=fun a W=>Qc Tryz.func381 (by kernel_rfl) rfl a W
theorem Qk2:Qg Tryz.prog 385:=fun a W=>Qc Tryz.func385 (by kernel_rfl) rfl a W
theorem Qdx:Qg Tryz.prog 386:=fun a W=>Qc Tryz.func386 (by kernel_rfl) rfl a W
theorem QdF:Qg Tryz.prog 387:=fun a W=>Qc Tryz.func387 (by kernel_rfl) rfl a W
theorem Qde:Qg Tryz.prog 389:=fun a W=>Qc Tryz.func389 (by kernel_rfl) rfl a W
theorem QcF:Qg Tryz.prog 409:=fun a W=>Qc Tryz.func409 (by kernel_rfl) rfl a W
theorem QiS:Qg Tryz.prog 410:=fun a W=>Qc Tryz.func410 (by kernel_rfl) rfl a W
theorem Qdg:Qg Tryz.prog 411:=fun a W=>Qc Tryz.func411 (by kernel_rfl) rfl a W
theorem QjJ:Qg Tryz.prog 412:=fun a W=>Qc Tryz.func412 (by kernel_rfl) rfl a W
theorem Qjo:Qg Tryz.prog 413:=fun a W=>Qc Tryz.func413 (by kernel_rfl) rfl a W
theorem QdY:Qg Tryz.prog 414:=fun a W=>Qc Tryz.func414 (by kernel_rfl) rfl a W
theorem Qjf:Qg Tryz.prog 415:=fun a W=>Qc Tryz.func415 (by kernel_rfl) rfl a W
theorem QjC:Qg Tryz.prog 440:=fun a W=>Qc Tryz.func440 (by kernel_rfl) rfl a W
theorem Qjm:Qg Tryz.prog 460:=fun a W=>Qc Tryz.func460 (by kernel_rfl) rfl a W
theorem Qdh:Qg Tryz.prog 461:=fun a W=>Qc Tryz.func461 (by kernel_rfl) rfl a W
theorem QdU:Qg Tryz.prog 462:=fun a W=>Qc Tryz.func462 (by kernel_rfl) rfl a W
theorem Qje:Qg Tryz.prog 473:=fun a W=>Qc Tryz.func473 (by kernel_rfl) rfl a W
theorem QcU:Qg Tryz.prog 478:=fun a W=>Qc Tryz.func478 (by kernel_rfl) rfl a W
theorem Qjz:Qg Tryz.prog 499:=fun a W=>Qc Tryz.func499 (by kernel_rfl) rfl a W
theorem QkA:Qg Tryz.prog 503:=fun a W=>Qc Tryz.func503 (by kernel_rfl) rfl a W
theorem QkQ:Qg Tryz.prog 504:=fun a W=>Qc Tryz.func504 (by kernel_rfl) rfl a W
theorem Qc0:Qg Tryz.prog 530:=fun a W=>Qc Tryz.func530 (by kernel_rfl) rfl a W
end Go.Proofs.YtndabgcpnmeeoaaGreat
namespace Go.Proofs.YtndabgcpnmeeoaaGreat
open Go.RowKit
@[reducible] def Is (pv:PV) (T:Tab):PV→Tab→Prop:=fun p T'=>p=pv∧T'=T
def FrL (s:St)(n:Nat):List Nat→Prop
 | []=>True
 | q :: l=>Fresh s (n+q)∧FrL s n l
theorem FrL.get {s:St}{n:Nat}{l:List Nat}(h:FrL s n l):∀q∈l,Fresh s (n+q):=by
 induction l with
 | nil=>simp
 | cons q l b=>
  intro r a
  rcases aC.1 a with rfl | a
  ·exact h.1
  ·exact b h.2 r a
section
variable {A:Amb}{P:Program}{s:St}
variable {f:FuncId}{xs:List Operand}{tys:Array TypeId}{args:List (Bool×List LV)}{d:Nat}{ty:TypeId}{pos:String}{af:Array Edge}{g:Option (Nat×Bool)}{pv:PV}{T:Tab}
theorem QjY (n:Nat)(l:FC P f args [] 0 (Is pv T))(i:Qg P f)(k:EvL A s xs args)(b:YG pv T=true)(m:Nat.blt d A.n=true)(c:FrL s n (ZU T))(h:A.k0≤n):
 Does A P ⟨some d, .call ⟨.value (.func f),xs.toArray,tys⟩,ty,pos,af,g⟩ s (s.back d n pv T):=
 fun a w K Q r j=>DoesT.call n l i k (by rintro _ _ ⟨rfl,rfl⟩; exact b) (by rintro _ _ ⟨rfl,rfl⟩ q ⟨e,o⟩; exact c.get q (Zx o).1) h m a w K Q r (by
  rintro u t v ⟨_,_,⟨rfl,rfl⟩,rfl⟩ p
  exact j _ _ p)
theorem WC (n:Nat)(l:FC P f args [] 0 (Is pv T))(i:Qg P f)(k:EvLB A s xs args)(b:YG pv T=true)(m:(pv.fl&&T.fl)=true)(o:Nat.blt d A.n=true)(c:FrL s n (ZU T))(h:A.k0≤n):
 Does A P ⟨some d, .call ⟨.value (.func f),xs.toArray,tys⟩,ty,pos,af,g⟩ s (s.back d n pv T):=
 fun a w K Q r j=>KM n l i k (by rintro _ _ ⟨rfl,rfl⟩; exact b) (by rintro _ _ ⟨rfl,rfl⟩; simpa using m) (by rintro _ _ ⟨rfl,rfl⟩ q ⟨e,p⟩; exact c.get q (Zx p).1) h o a w K Q r (by
  rintro v u x ⟨_,_,⟨rfl,rfl⟩,rfl⟩ t
  exact j _ _ t)
theorem Qut {fn:Func}{k:Nat}(pv:PV)(b:Tab)(ρ:List (Nat×Nat)){a:PV}(c:Res A P fn s a)(h0:a=pv.ren (rn ρ))(e:HasE ⟨[],s.tab⟩ ρ b)(h:Wc (b.map fun x=>rn ρ x.1)=true)(i:idB ρ k=true):fin A P fn (Hx (Is pv b) k) .ret s:=
 Qct pv b ρ (h0▸c) e h i ⟨rfl,rfl⟩
end
def LV.thaw (T:Tab):LV→LV
 | .ref q=>match T.ent q with
  | some (.arr E e xs)=> .dat (.sl E e) xs
  | _=> .ref q
 | l=>l
def PV.thaw (T:Tab):PV→PV
 | .cm b ls=> .cm b (ls.map (LV.thaw T))
 | .tup cs=> .tup (cs.map fun c=>(c.1,c.2.map (LV.thaw T)))
section
variable {T:Tab}{gh:Gh}{w:World}
theorem LVR.thaw (i:Cx T gh w){l:LV}{v:Value}(h:LVR T.al gh w l v):LVR (Tab.al []) ⟨gh.h,gh.f,fun g=>gh.N g∨∃q,T.al q∧g∈gh.f q⟩ w (l.thaw T) v:=by
 have c:∀l,LVR T.al gh w l v→LVR (Tab.al []) ⟨gh.h,gh.f,fun g=>gh.N g∨∃q,T.al q∧g∈gh.f q⟩ w l v:=fun l h=>h.mono (fun q _ h=>absurd h (Z0 q)) fun g b=>⟨.inl b,rfl⟩
 cases l with
 | ref q=>
  simp only[LV.thaw]
  split
  ·rename_i E e xs a
   have k:v=gh.h q:=h ⟨_,a⟩
   have j:Own (.sl E e) w (gh.f q) [gh.h q] xs:=i.en q _ a
   rw[k]
   exact j.rd fun g b=> .inr ⟨q,⟨_,a⟩,b⟩
  ·exact c _ h
 | _=>exact c _ h
theorem LVs.thaw (a:Cx T gh w){ls:List LV}{vs:List Value}(h:LVs T.al gh w ls vs):LVs (Tab.al []) ⟨gh.h,gh.f,fun g=>gh.N g∨∃q,T.al q∧g∈gh.f q⟩ w (ls.map (LV.thaw T)) vs:=by
 induction ls generalizing vs with
 | nil=>exact h
 | cons l ls e=>obtain ⟨v,i,rfl,b,c⟩:=h; exact ⟨v,_,rfl,b.thaw a,e c⟩
theorem CmR.thaw (e:Cx T gh w){c:Bool×List LV}{v:Value}(h:CmR T.al gh w c v):CmR (Tab.al []) ⟨gh.h,gh.f,fun g=>gh.N g∨∃q,T.al q∧g∈gh.f q⟩ w (c.1,c.2.map (LV.thaw T)) v:=by
 obtain ⟨b,j⟩:=c
 cases b with
 | true=>obtain ⟨i,rfl,a⟩:=h; exact ⟨i,rfl,a.thaw e⟩
 | false=>obtain ⟨l,rfl,a⟩:=h; exact ⟨_,rfl,a.thaw e⟩
theorem PVR.thaw (e:Cx T gh w){pv:PV}{v:Value}(h:PVR T.al gh w pv v):PVR (Tab.al []) ⟨gh.h,gh.f,fun g=>gh.N g∨∃q,T.al q∧g∈gh.f q⟩ w (pv.thaw T) v:=by
 cases pv with
 | cm b n=>exact CmR.thaw e (c:=(b,n)) h
 | tup a=>
  obtain ⟨j,rfl,i⟩:=h
  refine ⟨j,rfl, ?_⟩
  induction a generalizing j with
  | nil=>exact i
  | cons c a m=>obtain ⟨v,o,rfl,k,l⟩:=i; exact ⟨v,_,rfl,k.thaw e,m _ l⟩
end
theorem FC.frozenG {P:Program}{f:FuncId}{args:List (Bool×List LV)}{pv:PV}{T:Tab}(h:FC P f args [] 0 (Is pv T)):FC P f args [] 0 (QX (pv.thaw T)):=fun gh w p i k=>
 Calls.mono (h gh w p i k) fun t u l=>by
  obtain ⟨v,n,r,j,rfl,⟨rfl,rfl⟩,b,m,e,_⟩:=l
  refine ⟨v,_,[],_,rfl,⟨rfl,rfl⟩,WE Z0 _ _ fun g a=> ?_,m.thaw b,⟨e.gw,e.kp,fun g a=> ?_,fun q c=>absurd c (Z0 q)⟩,fun q c=>absurd c (by omega)⟩
  ·rcases a with a | ⟨q,c,a⟩
   ·exact b.nl g a
   ·exact b.lt c g a
  ·rcases a with a | ⟨q,c,a⟩
   ·exact e.nn g a
   ·rcases e.ox q c g a with h | ⟨o,h,_⟩
    ·exact .inr (.inl h)
    ·exact absurd h (Z0 o)
theorem Qij {A:Amb}{P:Program}{ops:Array Oper}{o:Oper}{s a s':St}(b:o.guard=none)(h:Does A P o s a)(e:a=s'):Acts A P ops o s s':=e▸Acts.of b h
theorem Qn2 {A:Amb}{P:Program}{ops:Array Oper}{o:Oper}{s a s':St}{j d:Nat}{b:Bool}(i:o.guard=some (j,b))(c:(ops[j]?).bind (·.dst)=some d)(hb:lk s.tm d=some (lf (dB b)))(h:Does A P o s a)(e:a=s'):Acts A P ops o s s':=e▸QpZ i c hb h
section
variable {A:Amb}{s:St}
theorem Wk.nilS (t i:Nat)(E:TypeId)(e:Ty)(hi:lk s.tm i=some (lf (.val (.slice none 0 0))))(b:Fresh s t)(c:A.k0≤t):Wk A s ⟨(i,lf (.ref t)) :: s.tm,(t,some (.arr E e [])) :: s.tab⟩:=fun a w r=>by
 obtain ⟨gh,r⟩:=r
 obtain ⟨v,k,l,h,m⟩:=r.tm i _ hi
 simp only[aH,and_true] at h
 subst h
 have j:v= .slice none 0 0:=m
 have n:=r.make t b c [] (by simp) (ZA w) (fun _ _ _=>rfl) (E:=E) (e:=e) (xs:=[]) (hv:= .slice none 0 0) (fp:=[]) (.inl ⟨rfl,rfl,rfl⟩) bJ (by simp)
 exact ⟨_,n.know k (pv:=lf (.ref t)) ⟨_,rfl,fun _=>by simp[j]⟩⟩
theorem QZ (t:Nat){p off:Nat}{E':TypeId}{cs:List LV}(E:TypeId)(e:Ty)(o:s.tab.ent p=some (.box E' cs))(L:cs[off]? =some (.val (.slice none 0 0)))(j:Fresh s t)(l:A.k0≤t):
 Wk A s ⟨s.tm,(p,some (.box E' (splice cs off [.ref t]))) :: (t,some (.arr E e [])) :: s.tab⟩:=fun a w r=>by
 obtain ⟨gh,r⟩:=r
 have c:p≠t:=fun h=>j.al ⟨_,h▸o⟩
 obtain ⟨g,b,y,G,z,H⟩:=r.cx.en p _ o
 obtain ⟨v,I,J⟩:=H.nth L
 have C:v= .slice none 0 0:=J
 have F:=r.make t j l [] (by simp) (ZA w) (fun _ _ _=>rfl) (E:=E) (e:=e) (xs:=[]) (hv:= .slice none 0 0) (fp:=[]) (.inl ⟨rfl,rfl,rfl⟩) bJ (by simp)
 have k:Tab.ent ((t,some (.arr E e [])) :: (VS []++s.tab)) p=some (.box E' cs):=by rw[Qf,if_neg c]; exact o
 obtain ⟨Q,x,u,M,D,O⟩:=F.cx.en p _ k
 simp only[if_neg c] at u M
 rw[y] at u
 cases u
 rw[z] at D
 cases D
 have K:LVs (Tab.al ((t,some (.arr E e [])) :: (VS []++s.tab))) ⟨fun q=>if q=t then .slice none 0 0 else gh.h q,fun q=>if q=t then [] else gh.f q,gh.N⟩ w [.ref t] [v]:=⟨v,[],rfl,fun _=>by simp[C],rfl⟩
 have B:=O.splice K (off:=off)
 have i:b.toList.take off++[v]++b.toList.drop (off+[v].length)=b.toList:=by
  have m:=(ah.1 I)
  obtain ⟨m,n⟩:=m
  conv=>rhs; rw[← bL (off+1) b.toList,bQ m,n]
  rfl
 rw[i] at B
 exact ⟨_,F.mod k (ZA w) (fun _ _ _=>rfl) ⟨g,b,by simp only[if_neg c]; exact y,by simp only[if_neg c]; exact G,z,B⟩⟩
end
end Go.Proofs.YtndabgcpnmeeoaaGreat
