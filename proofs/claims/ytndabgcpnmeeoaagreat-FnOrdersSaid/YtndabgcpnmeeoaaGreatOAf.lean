/- Closed facts on the types and functions of the program. -/
import Derived.Test.YtndabgcpnmeeoaaGreatProg
import Derived.Test.YtndabgcpnmeeoaaGreatOAe
import Derived.Test.YtndabgcpnmeeoaaGreatOIdx
set_option linter.unusedSimpArgs false
set_option linter.unusedVariables false
set_option linter.unusedSectionVars false
namespace Go.Proofs.YtndabgcpnmeeoaaGreat
open Go.RowKit
theorem mixed:Tryz.prog.follows .mixedOrders=true:=by kernel_rfl
theorem Jw:Tryz.prog.underlying 3=some (.int .i64):=by kernel_rfl
theorem Xe:tsh Tryz.prog 3=some (false,1):=by kernel_rfl
theorem Zq:zer Tryz.prog 3=some (.int .i64 0):=by kernel_rfl
theorem YO:Wt Tryz.prog 3 1=true:=by kernel_rfl
theorem Qr8:(Tryz.prog.info? 3).map (fun i=>(i.zero,i.size,i.bytes))=some (some (.int .i64 0),1,8):=by kernel_rfl
theorem Jx:Tryz.prog.underlying 4=some .bool:=by kernel_rfl
theorem QoE:tsh Tryz.prog 4=some (false,1):=by kernel_rfl
theorem QvA:zer Tryz.prog 4=some (.bool false):=by kernel_rfl
theorem Qx2:(Tryz.prog.info? 4).map (fun i=>(i.zero,i.size,i.bytes))=some (some (.bool false),1,1):=by kernel_rfl
theorem QbT:Tryz.prog.underlying 5=some (.int .u8):=by kernel_rfl
theorem ZH:tsh Tryz.prog 5=some (false,1):=by kernel_rfl
theorem Qkz:zer Tryz.prog 5=some (.int .u8 0):=by kernel_rfl
theorem Qvm:(Tryz.prog.info? 5).map (fun i=>(i.zero,i.size,i.bytes))=some (some (.int .u8 0),1,1):=by kernel_rfl
theorem ZN:Tryz.prog.underlying 9=some .string:=by kernel_rfl
theorem Xw:tsh Tryz.prog 9=some (false,1):=by kernel_rfl
theorem Ut:zer Tryz.prog 9=some (.string ByteArray.empty):=by kernel_rfl
theorem Jm:Wt Tryz.prog 9 1=true:=by kernel_rfl
theorem Qvn:(Tryz.prog.info? 9).map (fun i=>(i.zero,i.size,i.bytes))=some (some (.string ByteArray.empty),1,16):=by kernel_rfl
theorem YN:Tryz.prog.underlying 22=some (.slice 5):=by kernel_rfl
theorem Jf:Tryz.prog.underlying 24=some (.slice 77):=by kernel_rfl
theorem QwX:tsh Tryz.prog 24=some (false,1):=by kernel_rfl
theorem XQ:Tryz.prog.underlying 25=some (.slice 9):=by kernel_rfl
theorem Qw6:zer Tryz.prog 25=some (.slice none 0 0):=by kernel_rfl
theorem Qtc:tsh Tryz.prog 28=some (true,3):=by kernel_rfl
theorem VB:zer Tryz.prog 28=some (.agg #[.slice none 0 0, .slice none 0 0, .slice none 0 0]):=by kernel_rfl
theorem JL:bld Tryz.prog 28 [(0,1),(1,1),(2,1)] (.pr (.sl 77 (.pr .str .int)) (.pr (.sl 9 .str) (.sl 154 (.pr .int (.pr .int (.pr .bool .int)))))):=Wr Tryz.underlying28 (by kernel_rfl) VB
theorem WD:Tryz.prog.underlying 46=some (.slice 275):=by kernel_rfl
theorem QiK:tsh Tryz.prog 46=some (false,1):=by kernel_rfl
theorem QiL:tsh Tryz.prog 48=some (true,2):=by kernel_rfl
theorem Jk:zer Tryz.prog 48=some (.agg #[.int .i64 0, .slice none 0 0]):=by kernel_rfl
theorem Qb7:bld Tryz.prog 48 [(0,1),(1,1)] (.pr .int (.sl 275 (.pr (.sl 3 .int) (.sl 3 .int)))):=Wr Tryz.underlying48 (by kernel_rfl) Jk
theorem Qf2:Tryz.prog.underlying 49=some (.slice 75):=by kernel_rfl
theorem Qtd:tsh Tryz.prog 49=some (false,1):=by kernel_rfl
theorem Q3:tsh Tryz.prog 51=some (true,5):=by kernel_rfl
theorem Q5:zer Tryz.prog 51=some (.agg #[.int .i64 0, .slice none 0 0, .slice none 0 0, .slice none 0 0, .string ByteArray.empty]):=by kernel_rfl
theorem Xj:bld Tryz.prog 51 [(0,2),(2,1),(3,1),(4,1)] (.pr (.pr .int (.sl 275 (.pr (.sl 3 .int) (.sl 3 .int)))) (.pr (.sl 77 (.pr .str .int)) (.pr (.sl 75 (.pr .int .bool)) .str))):=Wr Tryz.underlying51 (by kernel_rfl) Q5
theorem ZW:Tryz.prog.underlying 56=some (.slice 123):=by kernel_rfl
theorem QwY:tsh Tryz.prog 60=some (true,3):=by kernel_rfl
theorem VC:zer Tryz.prog 60=some (.agg #[.int .i64 0, .int .i64 0, .bool false]):=by kernel_rfl
theorem Qro:Wt Tryz.prog 60 3=true:=by kernel_rfl
theorem QkU:bld Tryz.prog 60 [(0,1),(1,1),(2,1)] (.pr .int (.pr .int .bool)):=Wr Tryz.underlying60 (by kernel_rfl) VC
theorem Qte:tsh Tryz.prog 75=some (true,2):=by kernel_rfl
theorem QrH:fld Tryz.prog 75 0=some 0:=by kernel_rfl
theorem Xy:zer Tryz.prog 75=some (.agg #[.int .i64 0, .bool false]):=by kernel_rfl
theorem Qat:Wt Tryz.prog 75 2=true:=by kernel_rfl
theorem Qaq:bld Tryz.prog 75 [(0,1),(1,1)] (.pr .int .bool):=Wr Tryz.underlying75 (by kernel_rfl) Xy
theorem Qtf:tsh Tryz.prog 77=some (true,2):=by kernel_rfl
theorem QrI:fld Tryz.prog 77 0=some 0:=by kernel_rfl
theorem QrJ:fld Tryz.prog 77 1=some 1:=by kernel_rfl
theorem Hg:zer Tryz.prog 77=some (.agg #[.string ByteArray.empty, .int .i64 0]):=by kernel_rfl
theorem Qau:Wt Tryz.prog 77 2=true:=by kernel_rfl
theorem QvK:bld Tryz.prog 77 [(0,1),(1,1)] (.pr .str .int):=Wr Tryz.underlying77 (by kernel_rfl) Hg
theorem ZZ:Tryz.prog.underlying 123=some (.slice 3):=by kernel_rfl
theorem QX:tsh Tryz.prog 123=some (false,1):=by kernel_rfl
theorem X0:zer Tryz.prog 123=some (.slice none 0 0):=by kernel_rfl
theorem Ws:Wt Tryz.prog 123 1=true:=by kernel_rfl
theorem Quv:(Tryz.prog.info? 123).map (fun i=>(i.zero,i.size,i.bytes))=some (some (.slice none 0 0),1,24):=by kernel_rfl
theorem Qd0:Tryz.prog.underlying 132=some (.int .u64):=by kernel_rfl
theorem Qu5:Tryz.prog.underlying 144=some (.slice 4):=by kernel_rfl
theorem XH:zer Tryz.prog 154=some (.agg #[.int .i64 0, .int .i64 0, .bool false, .int .i64 0]):=by kernel_rfl
theorem Qnz:Wt Tryz.prog 154 4=true:=by kernel_rfl
theorem Qnm:bld Tryz.prog 154 [(0,1),(1,1),(2,1),(3,1)] (.pr .int (.pr .int (.pr .bool .int))):=Wr Tryz.underlying154 (by kernel_rfl) XH
theorem Qu4:tsh Tryz.prog 178=some (true,2):=by kernel_rfl
theorem XI:zer Tryz.prog 178=some (.agg #[.slice none 0 0, .slice none 0 0]):=by kernel_rfl
theorem KM:bld Tryz.prog 178 [(0,1),(1,1)] (.pr (.sl 9 .str) (.sl 301 (.pr .int (.pr .int .int)))):=Wr Tryz.underlying178 (by kernel_rfl) XI
theorem Xd:tsh Tryz.prog 275=some (true,2):=by kernel_rfl
theorem VY:fld Tryz.prog 275 0=some 0:=by kernel_rfl
theorem VZ:fld Tryz.prog 275 1=some 1:=by kernel_rfl
theorem X1:zer Tryz.prog 275=some (.agg #[.slice none 0 0, .slice none 0 0]):=by kernel_rfl
theorem Hv:Wt Tryz.prog 275 2=true:=by kernel_rfl
theorem Hp:bld Tryz.prog 275 [(0,1),(1,1)] (.pr (.sl 3 .int) (.sl 3 .int)):=Wr Tryz.underlying275 (by kernel_rfl) X1
theorem QiO:Tryz.prog.underlying 279=some (.int .u64):=by kernel_rfl
theorem Qd1:zer Tryz.prog 281=some (.agg #[.slice none 0 0, .slice none 0 0, .slice none 0 0, .int .i64 0, .int .i64 0, .bool false]):=by kernel_rfl
theorem QtL:bld Tryz.prog 281 [(0,2),(2,1),(3,1),(4,1),(5,1)] (.pr (.pr (.sl 9 .str) (.sl 301 (.pr .int (.pr .int .int)))) (.pr (.sl 301 (.pr .int (.pr .int .int))) (.pr .int (.pr .int .bool)))):=Wr Tryz.underlying281 (by kernel_rfl) Qd1
theorem Jg:Tryz.prog.underlying 292=some (.map 9 123):=by kernel_rfl
theorem YX:zer Tryz.prog 301=some (.agg #[.int .i64 0, .int .i64 0, .int .i64 0]):=by kernel_rfl
theorem Hw:Wt Tryz.prog 301 3=true:=by kernel_rfl
theorem Hq:bld Tryz.prog 301 [(0,1),(1,1),(2,1)] (.pr .int (.pr .int .int)):=Wr Tryz.underlying301 (by kernel_rfl) YX
theorem Jd:tsh Tryz.prog 303=some (true,3):=by kernel_rfl
theorem Qg2:fld Tryz.prog 303 0=some 0:=by kernel_rfl
theorem Qg3:fld Tryz.prog 303 1=some 1:=by kernel_rfl
theorem Qpq:fld Tryz.prog 303 2=some 2:=by kernel_rfl
theorem QbV:zer Tryz.prog 303=some (.agg #[.string ByteArray.empty, .slice none 0 0, .int .i64 0]):=by kernel_rfl
theorem Qt5:Wt Tryz.prog 303 3=true:=by kernel_rfl
theorem Qnn:bld Tryz.prog 303 [(0,1),(1,1),(2,1)] (.pr .str (.pr (.sl 3 .int) .int)):=Wr Tryz.underlying303 (by kernel_rfl) QbV
theorem Jh:Tryz.prog.underlying 304=some (.slice 303):=by kernel_rfl
theorem Qd2:zer Tryz.prog 359=some (.agg #[.int .i64 0, .int .i64 0]):=by kernel_rfl
theorem Qt6:Wt Tryz.prog 359 2=true:=by kernel_rfl
theorem QtM:bld Tryz.prog 359 [(0,1),(1,1)] (.pr .int .int):=Wr Tryz.underlying359 (by kernel_rfl) Qd2
theorem Qu9:zer Tryz.prog 373=some (.agg #[.int .i64 0, .slice none 0 0, .slice none 0 0, .slice none 0 0, .string ByteArray.empty, .slice none 0 0, .slice none 0 0]):=by kernel_rfl
theorem QtN:bld Tryz.prog 373 [(0,5),(5,1),(6,1)] (.pr (.pr (.pr .int (.sl 275 (.pr (.sl 3 .int) (.sl 3 .int)))) (.pr (.sl 77 (.pr .str .int)) (.pr (.sl 75 (.pr .int .bool)) .str))) (.pr (.sl 9 .str) (.sl 9 .str))):=Wr Tryz.underlying373 (by kernel_rfl) Qu9
theorem QiP:Tryz.prog.underlying 464=some (.map 9 3):=by kernel_rfl
theorem QoF:Tryz.prog.underlying 482=some (.map 9 4):=by kernel_rfl
theorem Qo8:Qg Tryz.prog 24:=fun a W=>Qc Tryz.func24 (by kernel_rfl) rfl a W
theorem Qo9:Qg Tryz.prog 25:=fun a W=>Qc Tryz.func25 (by kernel_rfl) rfl a W
theorem QgM:Qg Tryz.prog 26:=fun a W=>Qc Tryz.func26 (by kernel_rfl) rfl a W
theorem Qce:Qg Tryz.prog 27:=fun a W=>Qc Tryz.func27 (by kernel_rfl) rfl a W
theorem Qpa:Qg Tryz.prog 28:=fun a W=>Qc Tryz.func28 (by kernel_rfl) rfl a W
theorem QgN:Qg Tryz.prog 29:=fun a W=>Qc Tryz.func29 (by kernel_rfl) rfl a W
theorem Qcf:Qg Tryz.prog 30:=fun a W=>Qc Tryz.func30 (by kernel_rfl) rfl a W
theorem QgO:Qg Tryz.prog 31:=fun a W=>Qc Tryz.func31 (by kernel_rfl) rfl a W
theorem Qpb:Qg Tryz.prog 32:=fun a W=>Qc Tryz.func32 (by kernel_rfl) rfl a W
theorem QgP:Qg Tryz.prog 33:=fun a W=>Qc Tryz.func33 (by kernel_rfl) rfl a W
theorem Qpc:Qg Tryz.prog 34:=fun a W=>Qc Tryz.func34 (by kernel_rfl) rfl a W
theorem QgQ:Qg Tryz.prog 35:=fun a W=>Qc Tryz.func35 (by kernel_rfl) rfl a W
theorem Qcg:Qg Tryz.prog 36:=fun a W=>Qc Tryz.func36 (by kernel_rfl) rfl a W
theorem QgR:Qg Tryz.prog 37:=fun a W=>Qc Tryz.func37 (by kernel_rfl) rfl a W
theorem Qpd:Qg Tryz.prog 38:=fun a W=>Qc Tryz.func38 (by kernel_rfl) rfl a W
theorem Qpe:Qg Tryz.prog 39:=fun a W=>Qc Tryz.func39 (by kernel_rfl) rfl a W
theorem Qpf:Qg Tryz.prog 40:=fun a W=>Qc Tryz.func40 (by kernel_rfl) rfl a W
theorem Qpg:Qg Tryz.prog 81:=fun a W=>Qc Tryz.func81 (by kernel_rfl) rfl a W
theorem Qph:Qg Tryz.prog 90:=fun a W=>Qc Tryz.func90 (by kernel_rfl) rfl a W
theorem Kd:Qg Tryz.prog 97:=fun a W=>Qc Tryz.func97 (by kernel_rfl) rfl a W
theorem Yf:Qg Tryz.prog 99:=fun a W=>Qc Tryz.func99 (by kernel_rfl) rfl a W
theorem Zf:Qg Tryz.prog 107:=fun a W=>Qc Tryz.func107 (by kernel_rfl) rfl a W
theorem Qk4:Qg Tryz.prog 110:=fun a W=>Qc Tryz.func110 (by kernel_rfl) rfl a W
theorem KS:Qg Tryz.prog 111:=fun a W=>Qc Tryz.func111 (by kernel_rfl) rfl a W
theorem Qex:Qg Tryz.prog 112:=fun a W=>Qc Tryz.func112 (by kernel_rfl) rfl a W
theorem Qk5:Qg Tryz.prog 113:=fun a W=>Qc Tryz.func113 (by kernel_rfl) rfl a W
theorem Qey:Qg Tryz.prog 114:=fun a W=>Qc Tryz.func114 (by kernel_rfl) rfl a W
theorem Qk6:Qg Tryz.prog 116:=fun a W=>Qc Tryz.func116 (by kernel_rfl) rfl a W
theorem Qav:Qg Tryz.prog 117:=fun a W=>Qc Tryz.func117 (by kernel_rfl) rfl a W
theorem Qk7:Qg Tryz.prog 118:=fun a W=>Qc Tryz.func118 (by kernel_rfl) rfl a W
theorem KT:Qg Tryz.prog 119:=fun a W=>Qc Tryz.func119 (by kernel_rfl) rfl a W
theorem Qez:Qg Tryz.prog 120:=fun a W=>Qc Tryz.func120 (by kernel_rfl) rfl a W
theorem KU:Qg Tryz.prog 121:=fun a W=>Qc Tryz.func121 (by kernel_rfl) rfl a W
theorem Qk8:Qg Tryz.prog 122:=fun a W=>Qc Tryz.func122 (by kernel_rfl) rfl a W
theorem KW:Qg Tryz.prog 123:=fun a W=>Qc Tryz.func123 (by kernel_rfl) rfl a W
theorem Qk9:Qg Tryz.prog 124:=fun a W=>Qc Tryz.func124 (by kernel_rfl) rfl a W
theorem Qla:Qg Tryz.prog 125:=fun a W=>Qc Tryz.func125 (by kernel_rfl) rfl a W
theorem QeA:Qg Tryz.prog 126:=fun a W=>Qc Tryz.func126 (by kernel_rfl) rfl a W
theorem Uc:Qg Tryz.prog 127:=fun a W=>Qc Tryz.func127 (by kernel_rfl) rfl a W
theorem QeB:Qg Tryz.prog 128:=fun a W=>Qc Tryz.func128 (by kernel_rfl) rfl a W
theorem Qlb:Qg Tryz.prog 129:=fun a W=>Qc Tryz.func129 (by kernel_rfl) rfl a W
theorem Qlc:Qg Tryz.prog 130:=fun a W=>Qc Tryz.func130 (by kernel_rfl) rfl a W
theorem Qld:Qg Tryz.prog 131:=fun a W=>Qc Tryz.func131 (by kernel_rfl) rfl a W
theorem Qaw:Qg Tryz.prog 132:=fun a W=>Qc Tryz.func132 (by kernel_rfl) rfl a W
theorem QeC:Qg Tryz.prog 133:=fun a W=>Qc Tryz.func133 (by kernel_rfl) rfl a W
theorem Qle:Qg Tryz.prog 134:=fun a W=>Qc Tryz.func134 (by kernel_rfl) rfl a W
theorem QeD:Qg Tryz.prog 135:=fun a W=>Qc Tryz.func135 (by kernel_rfl) rfl a W
theorem Qlf:Qg Tryz.prog 136:=fun a W=>Qc Tryz.func136 (by kernel_rfl) rfl a W
theorem Qlg:Qg Tryz.prog 137:=fun a W=>Qc Tryz.func137 (by kernel_rfl) rfl a W
theorem Qax:Qg Tryz.prog 138:=fun a W=>Qc Tryz.func138 (by kernel_rfl) rfl a W
theorem QeE:Qg Tryz.prog 139:=fun a W=>Qc Tryz.func139 (by kernel_rfl) rfl a W
theorem Qlh:Qg Tryz.prog 140:=fun a W=>Qc Tryz.func140 (by kernel_rfl) rfl a W
theorem QeF:Qg Tryz.prog 141:=fun a W=>Qc Tryz.func141 (by kernel_rfl) rfl a W
theorem WR:Qg Tryz.prog 142:=fun a W=>Qc Tryz.func142 (by kernel_rfl) rfl a W
theorem Qli:Qg Tryz.prog 143:=fun a W=>Qc Tryz.func143 (by kernel_rfl) rfl a W
theorem Qlj:Qg Tryz.prog 144:=fun a W=>Qc Tryz.func144 (by kernel_rfl) rfl a W
theorem Qlk:Qg Tryz.prog 176:=fun a W=>Qc Tryz.func176 (by kernel_rfl) rfl a W
theorem Qll:Qg Tryz.prog 181:=fun a W=>Qc Tryz.func181 (by kernel_rfl) rfl a W
theorem Qay:Qg Tryz.prog 182:=fun a W=>Qc Tryz.func182 (by kernel_rfl) rfl a W
theorem QeG:Qg Tryz.prog 208:=fun a W=>Qc Tryz.func208 (by kernel_rfl) rfl a W
theorem ZU:Qg Tryz.prog 209:=fun a W=>Qc Tryz.func209 (by kernel_rfl) rfl a W
theorem Qlm:Qg Tryz.prog 214:=fun a W=>Qc Tryz.func214 (by kernel_rfl) rfl a W
theorem ZV:Qg Tryz.prog 215:=fun a W=>Qc Tryz.func215 (by kernel_rfl) rfl a W
theorem Qln:Qg Tryz.prog 216:=fun a W=>Qc Tryz.func216 (by kernel_rfl) rfl a W
theorem Qlo:Qg Tryz.prog 217:=fun a W=>Qc Tryz.func217 (by kernel_rfl) rfl a W
theorem Qlp:Qg Tryz.prog 218:=fun a W=>Qc Tryz.func218 (by kernel_rfl) rfl a W
theorem QeH:Qg Tryz.prog 225:=fun a W=>Qc Tryz.func225 (by kernel_rfl) rfl a W
theorem KX:Qg Tryz.prog 228:=fun a W=>Qc Tryz.func228 (by kernel_rfl) rfl a W
theorem Qlq:Qg Tryz.prog 234:=fun a W=>Qc Tryz.func234 (by kernel_rfl) rfl a W
theorem QeI:Qg Tryz.prog 235:=fun a W=>Qc Tryz.func235 (by kernel_rfl) rfl a W
theorem Ud:Qg Tryz.prog 237:=fun a W=>Qc Tryz.func237 (by kernel_rfl) rfl a W
theorem Qaz:Qg Tryz.prog 241:=fun a W=>Qc Tryz.func241 (by kernel_rfl) rfl a W
theorem Qlr:Qg Tryz.prog 242:=fun a W=>Qc Tryz.func242 (by kernel_rfl) rfl a W
theorem Qls:Qg Tryz.prog 243:=fun a W=>Qc Tryz.func243 (by kernel_rfl) rfl a W
theorem Qlt:Qg Tryz.prog 244:=fun a W=>Qc Tryz.func244 (by kernel_rfl) rfl a W
theorem QeJ:Qg Tryz.prog 245:=fun a W=>Qc Tryz.func245 (by kernel_rfl) rfl a W
theorem Qlu:Qg Tryz.prog 246:=fun a W=>Qc Tryz.func246 (by kernel_rfl) rfl a W
theorem Qlv:Qg Tryz.prog 247:=fun a W=>Qc Tryz.func247 (by kernel_rfl) rfl a W
theorem QaA:Qg Tryz.prog 251:=fun a W=>Qc Tryz.func251 (by kernel_rfl) rfl a W
theorem Qlw:Qg Tryz.prog 252:=fun a W=>Qc Tryz.func252 (by kernel_rfl) rfl a W
theorem Xl:Qg Tryz.prog 253:=fun a W=>Qc Tryz.func253 (by kernel_rfl) rfl a W
theorem Qlx:Qg Tryz.prog 254:=fun a W=>Qc Tryz.func254 (by kernel_rfl) rfl a W
theorem QeK:Qg Tryz.prog 255:=fun a W=>Qc Tryz.func255 (by kernel_rfl) rfl a W
theorem Qly:Qg Tryz.prog 256:=fun a W=>Qc Tryz.func256 (by kernel_rfl) rfl a W
theorem Qlz:Qg Tryz.prog 257:=fun a W=>Qc Tryz.func257 (by kernel_rfl) rfl a W
theorem QlA:Qg Tryz.prog 258:=fun a W=>Qc Tryz.func258 (by kernel_rfl) rfl a W
theorem QlB:Qg Tryz.prog 259:=fun a W=>Qc Tryz.func259 (by kernel_rfl) rfl a W
theorem QeL:Qg Tryz.prog 263:=fun a W=>Qc Tryz.func263 (by kernel_rfl) rfl a W
theorem QlC:Qg Tryz.prog 264:=fun a W=>Qc Tryz.func264 (by kernel_rfl) rfl a W
theorem QlD:Qg Tryz.prog 265:=fun a W=>Qc Tryz.func265 (by kernel_rfl) rfl a W
theorem QeM:Qg Tryz.prog 266:=fun a W=>Qc Tryz.func266 (by kernel_rfl) rfl a W
theorem QlE:Qg Tryz.prog 267:=fun a W=>Qc Tryz.func267 (by kernel_rfl) rfl a W
theorem QlF:Qg Tryz.prog 268:=fun a W=>Qc Tryz.func268 (by kernel_rfl) rfl a W
theorem QlG:Qg Tryz.prog 269:=fun a W=>Qc Tryz.func269 (by kernel_rfl) rfl a W
theorem QlH:Qg Tryz.prog 270:=fun a W=>Qc Tryz.func270 (by kernel_rfl) rfl a W
theorem QlI:Qg Tryz.prog 271:=fun a W=>Qc Tryz.func271 (by kernel_rfl) rfl a W
theorem QlJ:Qg Tryz.prog 272:=fun a W=>Qc Tryz.func272 (by kernel_rfl) rfl a W
theorem QeN:Qg Tryz.prog 273:=fun a W=>Qc Tryz.func273 (by kernel_rfl) rfl a W
theorem QeO:Qg Tryz.prog 274:=fun a W=>Qc Tryz.func274 (by kernel_rfl) rfl a W
theorem QlK:Qg Tryz.prog 275:=fun a W=>Qc Tryz.func275 (by kernel_rfl) rfl a W
theorem QlL:Qg Tryz.prog 276:=fun a W=>Qc Tryz.func276 (by kernel_rfl) rfl a W
theorem QlM:Qg Tryz.prog 277:=fun a W=>Qc Tryz.func277 (by kernel_rfl) rfl a W
theorem QlN:Qg Tryz.prog 278:=fun a W=>Qc Tryz.func278 (by kernel_rfl) rfl a W
theorem QlO:Qg Tryz.prog 279:=fun a W=>Qc Tryz.func279 (by kernel_rfl) rfl a W
theorem QlP:Qg Tryz.prog 280:=fun a W=>Qc Tryz.func280 (by kernel_rfl) rfl a W
theorem QlQ:Qg Tryz.prog 316:=fun a W=>Qc Tryz.func316 (by kernel_rfl) rfl a W
theorem QlR:Qg Tryz.prog 317:=fun a W=>Qc Tryz.func317 (by kernel_rfl) rfl a W
theorem QlS:Qg Tryz.prog 318:=fun a W=>Qc Tryz.func318 (by kernel_rfl) rfl a W
theorem QlT:Qg Tryz.prog 319:=fun a W=>Qc Tryz.func319 (by kernel_rfl) rfl a W
theorem QlU:Qg Tryz.prog 324:=fun a W=>Qc Tryz.func324 (by kernel_rfl) rfl a W
theorem QaB:Qg Tryz.prog 342:=fun a W=>Qc Tryz.func342 (by kernel_rfl) rfl a W
theorem QlV:Qg Tryz.prog 343:=fun a W=>Qc Tryz.func343 (by kernel_rfl) rfl a W
theorem QlW:Qg Tryz.prog 344:=fun a W=>Qc Tryz.func344 (by kernel_rfl) rfl a W
theorem QlX:Qg Tryz.prog 347:=fun a W=>Qc Tryz.func347 (by kernel_rfl) rfl a W
theorem QlY:Qg Tryz.prog 350:=fun a W=>Qc Tryz.func350 (by kernel_rfl) rfl a W
theorem QaC:Qg Tryz.prog 351:=fun a W=>Qc Tryz.func351 (by kernel_rfl) rfl a W
theorem Ue:Qg Tryz.prog 352:=fun a W=>Qc Tryz.func352 (by kernel_rfl) rfl a W
theorem QlZ:Qg Tryz.prog 357:=fun a W=>Qc Tryz.func357 (by kernel_rfl) rfl a W
theorem Ql0:Qg Tryz.prog 359:=fun a W=>Qc Tryz.func359 (by kernel_rfl) rfl a W
theorem QaD:Qg Tryz.prog 360:=fun a W=>Qc Tryz.func360 (by kernel_rfl) rfl a W
theorem QeP:Qg Tryz.prog 361:=fun a W=>Qc Tryz.func361 (by kernel_rfl) rfl a W
theorem QeQ:Qg Tryz.prog 362:=fun a W=>Qc Tryz.func362 (by kernel_rfl) rfl a W
theorem Ql1:Qg Tryz.prog 363:=fun a W=>Qc Tryz.func363 (by kernel_rfl) rfl a W
theorem QaE:Qg Tryz.prog 375:=fun a W=>Qc Tryz.func375 (by kernel_rfl) rfl a W
theorem Ql2:Qg Tryz.prog 377:=fun a W=>Qc Tryz.func377 (by kernel_rfl) rfl a W
theorem QeR:Qg Tryz.prog 378:=fun a W=>Qc Tryz.func378 (by kernel_rfl) rfl a W
theorem Ql3:Qg Tryz.prog 379:=fun a W=>Qc Tryz.func379 (by kernel_rfl) rfl a W
theorem Ql4:Qg Tryz.prog 380:=fun a W=>Qc Tryz.func380 (by kernel_rfl) rfl a W
theorem Ql5:Qg Tryz.prog 381:=fun a W=>Qc Tryz.func381 (by kernel_rfl) rfl a W
theorem Ql6:Qg Tryz.prog 384:=fun a W=>Qc Tryz.func384 (by kernel_rfl) rfl a W
theorem QeS:Qg Tryz.prog 385:=fun a W=>Qc Tryz.func385 (by kernel_rfl) rfl a W
theorem Ql7:Qg Tryz.prog 386:=fun a W=>Qc Tryz.func386 (by kernel_rfl) rfl a W
theorem Ql8:Qg Tryz.prog 387:=fun a W=>Qc Tryz.func387 (by kernel_rfl) rfl a W
theorem Uf:Qg Tryz.prog 389:=fun a W=>Qc Tryz.func389 (by kernel_rfl) rfl a W
theorem KY:Qg Tryz.prog 390:=fun a W=>Qc Tryz.func390 (by kernel_rfl) rfl a W
theorem Ql9:Qg Tryz.prog 391:=fun a W=>Qc Tryz.func391 (by kernel_rfl) rfl a W
theorem Qma:Qg Tryz.prog 392:=fun a W=>Qc Tryz.func392 (by kernel_rfl) rfl a W
theorem QeT:Qg Tryz.prog 393:=fun a W=>Qc Tryz.func393 (by kernel_rfl) rfl a W
theorem QeU:Qg Tryz.prog 394:=fun a W=>Qc Tryz.func394 (by kernel_rfl) rfl a W
theorem Qmb:Qg Tryz.prog 395:=fun a W=>Qc Tryz.func395 (by kernel_rfl) rfl a W
theorem Qmc:Qg Tryz.prog 396:=fun a W=>Qc Tryz.func396 (by kernel_rfl) rfl a W
theorem QaF:Qg Tryz.prog 397:=fun a W=>Qc Tryz.func397 (by kernel_rfl) rfl a W
theorem Qmd:Qg Tryz.prog 398:=fun a W=>Qc Tryz.func398 (by kernel_rfl) rfl a W
theorem Qme:Qg Tryz.prog 440:=fun a W=>Qc Tryz.func440 (by kernel_rfl) rfl a W
theorem Qmf:Qg Tryz.prog 460:=fun a W=>Qc Tryz.func460 (by kernel_rfl) rfl a W
theorem QeV:Qg Tryz.prog 461:=fun a W=>Qc Tryz.func461 (by kernel_rfl) rfl a W
theorem QeW:Qg Tryz.prog 462:=fun a W=>Qc Tryz.func462 (by kernel_rfl) rfl a W
theorem Qmg:Qg Tryz.prog 465:=fun a W=>Qc Tryz.func465 (by kernel_rfl) rfl a W
theorem Qmh:Qg Tryz.prog 466:=fun a W=>Qc Tryz.func466 (by kernel_rfl) rfl a W
theorem Qmi:Qg Tryz.prog 473:=fun a W=>Qc Tryz.func473 (by kernel_rfl) rfl a W
theorem Qmj:Qg Tryz.prog 477:=fun a W=>Qc Tryz.func477 (by kernel_rfl) rfl a W
theorem QeX:Qg Tryz.prog 478:=fun a W=>Qc Tryz.func478 (by kernel_rfl) rfl a W
theorem QeY:Qg Tryz.prog 489:=fun a W=>Qc Tryz.func489 (by kernel_rfl) rfl a W
theorem Qmk:Qg Tryz.prog 499:=fun a W=>Qc Tryz.func499 (by kernel_rfl) rfl a W
theorem QeZ:Qg Tryz.prog 530:=fun a W=>Qc Tryz.func530 (by kernel_rfl) rfl a W
theorem KZ:Qg Tryz.prog 532:=fun a W=>Qc Tryz.func532 (by kernel_rfl) rfl a W
end Go.Proofs.YtndabgcpnmeeoaaGreat
namespace Go.Proofs.YtndabgcpnmeeoaaGreat
open Go.RowKit
@[reducible] def Is (pv:PV) (T:Tab):PV→Tab→Prop:=fun p T'=>p=pv∧T'=T
def FrL (s:St)(n:Nat):List Nat→Prop
 | []=>True
 | q :: l=>Fresh s (n+q)∧FrL s n l
theorem FrL.get {s:St}{n:Nat}{l:List Nat}(h:FrL s n l):∀q∈l,Fresh s (n+q):=by
 induction l with
 | nil=>simp
 | cons q l b=>
  intro r a
  rcases aE.1 a with rfl | a
  ·exact h.1
  ·exact b h.2 r a
section
variable {A:Amb}{P:Program}{s:St}
variable {f:FuncId}{xs:List Operand}{tys:Array TypeId}{args:List (Bool×List LV)}{d:Nat}{ty:TypeId}{pos:String}{af:Array Edge}{g:Option (Nat×Bool)}{pv:PV}{T:Tab}
theorem Qd6 (n:Nat)(l:FC P f args [] 0 (Is pv T))(i:Qg P f)(k:EvL A s xs args)(b:Yk pv T=true)(m:Nat.blt d A.n=true)(c:FrL s n (ZD T))(h:A.k0≤n):
 Does A P ⟨some d, .call ⟨.value (.func f),xs.toArray,tys⟩,ty,pos,af,g⟩ s (s.back d n pv T):=
 fun a w K Q r j=>DoesT.call n l i k (by rintro _ _ ⟨rfl,rfl⟩; exact b) (by rintro _ _ ⟨rfl,rfl⟩ q ⟨e,o⟩; exact c.get q (Zp o).1) h m a w K Q r (by
  rintro u t v ⟨_,_,⟨rfl,rfl⟩,rfl⟩ p
  exact j _ _ p)
theorem Ve (n:Nat)(l:FC P f args [] 0 (Is pv T))(i:Qg P f)(k:EvLB A s xs args)(b:Yk pv T=true)(m:(pv.fl&&T.fl)=true)(o:Nat.blt d A.n=true)(c:FrL s n (ZD T))(h:A.k0≤n):
 Does A P ⟨some d, .call ⟨.value (.func f),xs.toArray,tys⟩,ty,pos,af,g⟩ s (s.back d n pv T):=
 fun a w K Q r j=>JE n l i k (by rintro _ _ ⟨rfl,rfl⟩; exact b) (by rintro _ _ ⟨rfl,rfl⟩; simpa using m) (by rintro _ _ ⟨rfl,rfl⟩ q ⟨e,p⟩; exact c.get q (Zp p).1) h o a w K Q r (by
  rintro v u x ⟨_,_,⟨rfl,rfl⟩,rfl⟩ t
  exact j _ _ t)
theorem Qv3 {fn:Func}{k:Nat}(pv:PV)(b:Tab)(ρ:List (Nat×Nat)){a:PV}(c:Res A P fn s a)(h0:a=pv.ren (rn ρ))(e:HasE ⟨[],s.tab⟩ ρ b)(h:WQ (b.map fun x=>rn ρ x.1)=true)(i:idB ρ k=true):fin A P fn (Qao (Is pv b) k) .ret s:=
 QdK pv b ρ (h0▸c) e h i ⟨rfl,rfl⟩
end
def LV.thaw (T:Tab):LV→LV
 | .ref q=>match T.ent q with
  | some (.arr E e xs)=> .dat (.sl E e) xs
  | _=> .ref q
 | l=>l
def PV.thaw (T:Tab):PV→PV
 | .cm b ls=> .cm b (ls.map (LV.thaw T))
 | .tup cs=> .tup (cs.map fun c=>(c.1,c.2.map (LV.thaw T)))
section
variable {T:Tab}{gh:Gh}{w:World}
theorem LVR.thaw (i:Cx T gh w){l:LV}{v:Value}(h:LVR T.al gh w l v):LVR (Tab.al []) ⟨gh.h,gh.f,fun g=>gh.N g∨∃q,T.al q∧g∈gh.f q⟩ w (l.thaw T) v:=by
 have c:∀l,LVR T.al gh w l v→LVR (Tab.al []) ⟨gh.h,gh.f,fun g=>gh.N g∨∃q,T.al q∧g∈gh.f q⟩ w l v:=fun l h=>h.mono (fun q _ h=>absurd h (ZE q)) fun g b=>⟨.inl b,rfl⟩
 cases l with
 | ref q=>
  simp only[LV.thaw]
  split
  ·rename_i E e xs a
   have k:v=gh.h q:=h ⟨_,a⟩
   have j:Own (.sl E e) w (gh.f q) [gh.h q] xs:=i.en q _ a
   rw[k]
   exact j.rd fun g b=> .inr ⟨q,⟨_,a⟩,b⟩
  ·exact c _ h
 | _=>exact c _ h
theorem LVs.thaw (a:Cx T gh w){ls:List LV}{vs:List Value}(h:LVs T.al gh w ls vs):LVs (Tab.al []) ⟨gh.h,gh.f,fun g=>gh.N g∨∃q,T.al q∧g∈gh.f q⟩ w (ls.map (LV.thaw T)) vs:=by
 induction ls generalizing vs with
 | nil=>exact h
 | cons l ls e=>obtain ⟨v,i,rfl,b,c⟩:=h; exact ⟨v,_,rfl,b.thaw a,e c⟩
theorem CmR.thaw (e:Cx T gh w){c:Bool×List LV}{v:Value}(h:CmR T.al gh w c v):CmR (Tab.al []) ⟨gh.h,gh.f,fun g=>gh.N g∨∃q,T.al q∧g∈gh.f q⟩ w (c.1,c.2.map (LV.thaw T)) v:=by
 obtain ⟨b,j⟩:=c
 cases b with
 | true=>obtain ⟨i,rfl,a⟩:=h; exact ⟨i,rfl,a.thaw e⟩
 | false=>obtain ⟨l,rfl,a⟩:=h; exact ⟨_,rfl,a.thaw e⟩
theorem PVR.thaw (e:Cx T gh w){pv:PV}{v:Value}(h:PVR T.al gh w pv v):PVR (Tab.al []) ⟨gh.h,gh.f,fun g=>gh.N g∨∃q,T.al q∧g∈gh.f q⟩ w (pv.thaw T) v:=by
 cases pv with
 | cm b n=>exact CmR.thaw e (c:=(b,n)) h
 | tup a=>
  obtain ⟨j,rfl,i⟩:=h
  refine ⟨j,rfl, ?_⟩
  induction a generalizing j with
  | nil=>exact i
  | cons c a m=>obtain ⟨v,o,rfl,k,l⟩:=i; exact ⟨v,_,rfl,k.thaw e,m _ l⟩
end
theorem FC.frozenG {P:Program}{f:FuncId}{args:List (Bool×List LV)}{pv:PV}{T:Tab}(h:FC P f args [] 0 (Is pv T)):FC P f args [] 0 (Za (pv.thaw T)):=fun gh w p i k=>
 Calls.mono (h gh w p i k) fun t u l=>by
  obtain ⟨v,n,r,j,rfl,⟨rfl,rfl⟩,b,m,e,_⟩:=l
  refine ⟨v,_,[],_,rfl,⟨rfl,rfl⟩,Vt ZE _ _ fun g a=> ?_,m.thaw b,⟨e.gw,e.kp,fun g a=> ?_,fun q c=>absurd c (ZE q)⟩,fun q c=>absurd c (by omega)⟩
  ·rcases a with a | ⟨q,c,a⟩
   ·exact b.nl g a
   ·exact b.lt c g a
  ·rcases a with a | ⟨q,c,a⟩
   ·exact e.nn g a
   ·rcases e.ox q c g a with h | ⟨o,h,_⟩
    ·exact .inr (.inl h)
    ·exact absurd h (ZE o)
theorem QiS {A:Amb}{P:Program}{ops:Array Oper}{o:Oper}{s a s':St}(b:o.guard=none)(h:Does A P o s a)(e:a=s'):Acts A P ops o s s':=e▸Acts.of b h
theorem QoI {A:Amb}{P:Program}{ops:Array Oper}{o:Oper}{s a s':St}{j d:Nat}{b:Bool}(i:o.guard=some (j,b))(c:(ops[j]?).bind (·.dst)=some d)(hb:lk s.tm d=some (lf (dB b)))(h:Does A P o s a)(e:a=s'):Acts A P ops o s s':=e▸Qqn i c hb h
section
variable {A:Amb}{s:St}
theorem Wk.nilS (t i:Nat)(E:TypeId)(e:Ty)(hi:lk s.tm i=some (lf (.val (.slice none 0 0))))(b:Fresh s t)(c:A.k0≤t):Wk A s ⟨(i,lf (.ref t)) :: s.tm,(t,some (.arr E e [])) :: s.tab⟩:=fun a w r=>by
 obtain ⟨gh,r⟩:=r
 obtain ⟨v,k,l,h,m⟩:=r.tm i _ hi
 simp only[aD,and_true] at h
 subst h
 have j:v= .slice none 0 0:=m
 have n:=r.make t b c [] (by simp) (QV w) (fun _ _ _=>rfl) (E:=E) (e:=e) (xs:=[]) (hv:= .slice none 0 0) (fp:=[]) (.inl ⟨rfl,rfl,rfl⟩) bL (by simp)
 exact ⟨_,n.know k (pv:=lf (.ref t)) ⟨_,rfl,fun _=>by simp[j]⟩⟩
theorem Qq (t:Nat){p off:Nat}{E':TypeId}{cs:List LV}(E:TypeId)(e:Ty)(o:s.tab.ent p=some (.box E' cs))(L:cs[off]? =some (.val (.slice none 0 0)))(j:Fresh s t)(l:A.k0≤t):
 Wk A s ⟨s.tm,(p,some (.box E' (splice cs off [.ref t]))) :: (t,some (.arr E e [])) :: s.tab⟩:=fun a w r=>by
 obtain ⟨gh,r⟩:=r
 have c:p≠t:=fun h=>j.al ⟨_,h▸o⟩
 obtain ⟨g,b,y,G,z,H⟩:=r.cx.en p _ o
 obtain ⟨v,I,J⟩:=H.nth L
 have C:v= .slice none 0 0:=J
 have F:=r.make t j l [] (by simp) (QV w) (fun _ _ _=>rfl) (E:=E) (e:=e) (xs:=[]) (hv:= .slice none 0 0) (fp:=[]) (.inl ⟨rfl,rfl,rfl⟩) bL (by simp)
 have k:Tab.ent ((t,some (.arr E e [])) :: (VG []++s.tab)) p=some (.box E' cs):=by rw[Qd,if_neg c]; exact o
 obtain ⟨Q,x,u,M,D,O⟩:=F.cx.en p _ k
 simp only[if_neg c] at u M
 rw[y] at u
 cases u
 rw[z] at D
 cases D
 have K:LVs (Tab.al ((t,some (.arr E e [])) :: (VG []++s.tab))) ⟨fun q=>if q=t then .slice none 0 0 else gh.h q,fun q=>if q=t then [] else gh.f q,gh.N⟩ w [.ref t] [v]:=⟨v,[],rfl,fun _=>by simp[C],rfl⟩
 have B:=O.splice K (off:=off)
 have i:b.toList.take off++[v]++b.toList.drop (off+[v].length)=b.toList:=by
  have m:=(ah.1 I)
  obtain ⟨m,n⟩:=m
  conv=>rhs; rw[← bR (off+1) b.toList,cq m,n]
  rfl
 rw[i] at B
 exact ⟨_,F.mod k (QV w) (fun _ _ _=>rfl) ⟨g,b,by simp only[if_neg c]; exact y,by simp only[if_neg c]; exact G,z,B⟩⟩
end
end Go.Proofs.YtndabgcpnmeeoaaGreat
