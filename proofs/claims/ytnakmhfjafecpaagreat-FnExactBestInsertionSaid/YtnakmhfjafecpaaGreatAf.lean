/- Closed facts on the types and functions of the program. -/
import Derived.Test.YtnakmhfjafecpaaGreatProg
import Derived.Test.YtnakmhfjafecpaaGreatAe
import Derived.Test.YtnakmhfjafecpaaGreatSz
set_option linter.unusedSimpArgs false
set_option linter.unusedVariables false
namespace Go.Proofs.YtnakmhfjafecpaaGreat
open Go.RowKit
theorem mixed:Tryz.prog.follows .mixedOrders=true:=by kernel_rfl
theorem Qeh:Tryz.prog.underlying 3=some (.int .i64):=by kernel_rfl
theorem Qz:tsh Tryz.prog 3=some (false,1):=by kernel_rfl
theorem Xg:zer Tryz.prog 3=some (.int .i64 0):=by kernel_rfl
theorem WP:Vj Tryz.prog 3 1=true:=by kernel_rfl
theorem QjL:(Tryz.prog.info? 3).map (fun i=>(i.zero,i.size,i.bytes))=some (some (.int .i64 0),1,8):=by kernel_rfl
theorem Vh:Tryz.prog.underlying 4=some .bool:=by kernel_rfl
theorem ZD:tsh Tryz.prog 4=some (false,1):=by kernel_rfl
theorem Qpm:zer Tryz.prog 4=some (.bool false):=by kernel_rfl
theorem Qob:(Tryz.prog.info? 4).map (fun i=>(i.zero,i.size,i.bytes))=some (some (.bool false),1,1):=by kernel_rfl
theorem VV:Tryz.prog.underlying 5=some (.int .u8):=by kernel_rfl
theorem Zw:tsh Tryz.prog 5=some (false,1):=by kernel_rfl
theorem Qc9:zer Tryz.prog 5=some (.int .u8 0):=by kernel_rfl
theorem Qn3:Vj Tryz.prog 5 1=true:=by kernel_rfl
theorem Qp0:(Tryz.prog.info? 5).map (fun i=>(i.zero,i.size,i.bytes))=some (some (.int .u8 0),1,1):=by kernel_rfl
theorem Zb:Tryz.prog.underlying 9=some .string:=by kernel_rfl
theorem ZF:tsh Tryz.prog 9=some (false,1):=by kernel_rfl
theorem Qgk:zer Tryz.prog 9=some (.string ByteArray.empty):=by kernel_rfl
theorem Qon:Vj Tryz.prog 9 1=true:=by kernel_rfl
theorem YH:Tryz.prog.underlying 30=some (.slice 106):=by kernel_rfl
theorem YD:Tryz.prog.underlying 36=some (.slice 145):=by kernel_rfl
theorem Qc3:tsh Tryz.prog 36=some (false,1):=by kernel_rfl
theorem UW:Tryz.prog.underlying 37=some (.slice 61):=by kernel_rfl
theorem Yg:Tryz.prog.underlying 46=some (.slice 9):=by kernel_rfl
theorem Xe:tsh Tryz.prog 46=some (false,1):=by kernel_rfl
theorem Qfs:tsh Tryz.prog 49=some (true,3):=by kernel_rfl
theorem Qlk:tsh Tryz.prog 53=some (true,4):=by kernel_rfl
theorem Zg:Tryz.prog.underlying 57=some (.slice 179):=by kernel_rfl
theorem Vs:tsh Tryz.prog 57=some (false,1):=by kernel_rfl
theorem QU:tsh Tryz.prog 59=some (true,3):=by kernel_rfl
theorem Qc0:fld Tryz.prog 59 0=some 0:=by kernel_rfl
theorem Yd:fld Tryz.prog 59 1=some 1:=by kernel_rfl
theorem Xn:fld Tryz.prog 59 2=some 2:=by kernel_rfl
theorem Xd:zer Tryz.prog 59=some (.agg #[.slice none 0 0, .slice none 0 0, .slice none 0 0]):=by kernel_rfl
theorem XR:bld Tryz.prog 59 [(0,1),(1,1),(2,1)] (.pr (.sl 145 (.pr .str .int)) (.pr (.sl 9 .str) (.sl 179 (.pr .int (.pr .int (.pr .bool .int)))))):=UX Tryz.underlying59 (by kernel_rfl) Xd
theorem YI:tsh Tryz.prog 61=some (true,2):=by kernel_rfl
theorem Ql4:fld Tryz.prog 61 0=some 0:=by kernel_rfl
theorem Qlj:fld Tryz.prog 61 1=some 1:=by kernel_rfl
theorem Vy:zer Tryz.prog 61=some (.agg #[.int .i64 0, .bool false]):=by kernel_rfl
theorem QlA:Vj Tryz.prog 61 2=true:=by kernel_rfl
theorem WY:bld Tryz.prog 61 [(0,1),(1,1)] (.pr .int .bool):=UX Tryz.underlying61 (by kernel_rfl) Vy
theorem ZK:tsh Tryz.prog 63=some (true,4):=by kernel_rfl
theorem Wu:zer Tryz.prog 63=some (.agg #[.int .i64 0, .bool false, .int .i64 0, .bool false]):=by kernel_rfl
theorem Qma:Vj Tryz.prog 63 4=true:=by kernel_rfl
theorem QaL:bld Tryz.prog 63 [(0,2),(2,2)] (.pr (.pr .int .bool) (.pr .int .bool)):=UX Tryz.underlying63 (by kernel_rfl) Wu
theorem XF:Tryz.prog.underlying 71=some (.slice 63):=by kernel_rfl
theorem QL:Tryz.prog.underlying 106=some (.slice 3):=by kernel_rfl
theorem Zx:tsh Tryz.prog 106=some (false,1):=by kernel_rfl
theorem K6:zer Tryz.prog 106=some (.slice none 0 0):=by kernel_rfl
theorem Qjs:Vj Tryz.prog 106 1=true:=by kernel_rfl
theorem QjM:(Tryz.prog.info? 106).map (fun i=>(i.zero,i.size,i.bytes))=some (some (.slice none 0 0),1,24):=by kernel_rfl
theorem Xy:tsh Tryz.prog 129=some (true,7):=by kernel_rfl
theorem VH:zer Tryz.prog 129=some (.agg #[.int .i64 0, .bool false, .int .i64 0, .bool false, .slice none 0 0, .slice none 0 0, .slice none 0 0]):=by kernel_rfl
theorem Qns:Vj Tryz.prog 129 7=true:=by kernel_rfl
theorem Qjo:bld Tryz.prog 129 [(0,4),(4,3)] (.pr (.pr (.pr .int .bool) (.pr .int .bool)) (.pr (.sl 145 (.pr .str .int)) (.pr (.sl 9 .str) (.sl 179 (.pr .int (.pr .int (.pr .bool .int))))))):=UX Tryz.underlying129 (by kernel_rfl) VH
theorem H1:Tryz.prog.underlying 134=some (.slice 129):=by kernel_rfl
theorem Wi:Tryz.prog.underlying 143=some (.slice 4):=by kernel_rfl
theorem YA:tsh Tryz.prog 145=some (true,2):=by kernel_rfl
theorem W7:zer Tryz.prog 145=some (.agg #[.string ByteArray.empty, .int .i64 0]):=by kernel_rfl
theorem Qbz:Vj Tryz.prog 145 2=true:=by kernel_rfl
theorem QjF:bld Tryz.prog 145 [(0,1),(1,1)] (.pr .str .int):=UX Tryz.underlying145 (by kernel_rfl) W7
theorem QJ:tsh Tryz.prog 179=some (true,4):=by kernel_rfl
theorem Zl:fld Tryz.prog 179 0=some 0:=by kernel_rfl
theorem ZQ:fld Tryz.prog 179 1=some 1:=by kernel_rfl
theorem YQ:fld Tryz.prog 179 2=some 2:=by kernel_rfl
theorem Ze:fld Tryz.prog 179 3=some 3:=by kernel_rfl
theorem Zn:zer Tryz.prog 179=some (.agg #[.int .i64 0, .int .i64 0, .bool false, .int .i64 0]):=by kernel_rfl
theorem UH:Vj Tryz.prog 179 4=true:=by kernel_rfl
theorem HK:bld Tryz.prog 179 [(0,1),(1,1),(2,1),(3,1)] (.pr .int (.pr .int (.pr .bool .int))):=UX Tryz.underlying179 (by kernel_rfl) Zn
theorem Qbq:Tryz.prog.underlying 203=some (.slice 258):=by kernel_rfl
theorem Za:Tryz.prog.underlying 209=some (.slice 5):=by kernel_rfl
theorem Qfe:Tryz.prog.underlying 214=some (.int .u64):=by kernel_rfl
theorem QbF:tsh Tryz.prog 258=some (true,2):=by kernel_rfl
theorem QdT:fld Tryz.prog 258 0=some 0:=by kernel_rfl
theorem Qk9:fld Tryz.prog 258 1=some 1:=by kernel_rfl
theorem Qbw:zer Tryz.prog 258=some (.agg #[.int .i64 0, .int .i64 0]):=by kernel_rfl
theorem Qnn:Vj Tryz.prog 258 2=true:=by kernel_rfl
theorem Qne:bld Tryz.prog 258 [(0,1),(1,1)] (.pr .int .int):=UX Tryz.underlying258 (by kernel_rfl) Qbw
theorem QkE:fld Tryz.prog 288 0=some 0:=by kernel_rfl
theorem QaJ:fld Tryz.prog 288 1=some 3:=by kernel_rfl
theorem Qei:fld Tryz.prog 288 2=some 4:=by kernel_rfl
theorem Xa:fld Tryz.prog 288 3=some 5:=by kernel_rfl
theorem Qn1:zer Tryz.prog 288=some (.agg #[.slice none 0 0, .slice none 0 0, .slice none 0 0, .string ByteArray.empty, .slice none 0 0, .slice none 0 0, .slice none 0 0, .slice none 0 0]):=by kernel_rfl
theorem QnJ:bld Tryz.prog 288 [(0,3),(3,1),(4,1),(5,3)] (.pr (.pr (.sl 145 (.pr .str .int)) (.pr (.sl 9 .str) (.sl 179 (.pr .int (.pr .int (.pr .bool .int)))))) (.pr .str (.pr (.sl 3 .int) (.pr (.sl 145 (.pr .str .int)) (.pr (.sl 9 .str) (.sl 179 (.pr .int (.pr .int (.pr .bool .int))))))))):=UX Tryz.underlying288 (by kernel_rfl) Qn1
theorem Qjd:Tryz.prog.underlying 294=some (.map 300 3):=by kernel_rfl
theorem QjY:tsh Tryz.prog 294=some (false,1):=by kernel_rfl
theorem Qbx:Tryz.prog.underlying 295=some (.slice 300):=by kernel_rfl
theorem Qfd:tsh Tryz.prog 295=some (false,1):=by kernel_rfl
theorem QaV:fld Tryz.prog 297 0=some 0:=by kernel_rfl
theorem Uo:fld Tryz.prog 297 1=some 3:=by kernel_rfl
theorem K7:fld Tryz.prog 297 2=some 4:=by kernel_rfl
theorem QaD:fld Tryz.prog 297 3=some 7:=by kernel_rfl
theorem Qek:fld Tryz.prog 297 4=some 8:=by kernel_rfl
theorem We:tsh Tryz.prog 300=some (true,2):=by kernel_rfl
theorem QaX:fld Tryz.prog 300 0=some 0:=by kernel_rfl
theorem Yv:fld Tryz.prog 300 1=some 1:=by kernel_rfl
theorem Qbo:zer Tryz.prog 300=some (.agg #[.int .i64 0, .bool false]):=by kernel_rfl
theorem Qnx:Vj Tryz.prog 300 2=true:=by kernel_rfl
theorem WD:bld Tryz.prog 300 [(0,1),(1,1)] (.pr .int .bool):=UX Tryz.underlying300 (by kernel_rfl) Qbo
theorem Qab:Qr Tryz.prog 20:=fun args W=>Qi Tryz.func20 (by kernel_rfl) rfl args W
theorem QdR:Qr Tryz.prog 21:=fun args W=>Qi Tryz.func21 (by kernel_rfl) rfl args W
theorem Xb:Qr Tryz.prog 22:=fun args W=>Qi Tryz.func22 (by kernel_rfl) rfl args W
theorem Qdy:Qr Tryz.prog 23:=fun args W=>Qi Tryz.func23 (by kernel_rfl) rfl args W
theorem Qk4:Qr Tryz.prog 24:=fun args W=>Qi Tryz.func24 (by kernel_rfl) rfl args W
theorem QaG:Qr Tryz.prog 25:=fun args W=>Qi Tryz.func25 (by kernel_rfl) rfl args W
theorem Qkd:Qr Tryz.prog 26:=fun args W=>Qi Tryz.func26 (by kernel_rfl) rfl args W
theorem Qlc:Qr Tryz.prog 27:=fun args W=>Qi Tryz.func27 (by kernel_rfl) rfl args W
theorem Qel:Qr Tryz.prog 28:=fun args W=>Qi Tryz.func28 (by kernel_rfl) rfl args W
theorem Qk7:Qr Tryz.prog 29:=fun args W=>Qi Tryz.func29 (by kernel_rfl) rfl args W
theorem Qem:Qr Tryz.prog 30:=fun args W=>Qi Tryz.func30 (by kernel_rfl) rfl args W
theorem QaQ:Qr Tryz.prog 31:=fun args W=>Qi Tryz.func31 (by kernel_rfl) rfl args W
theorem QkO:Qr Tryz.prog 32:=fun args W=>Qi Tryz.func32 (by kernel_rfl) rfl args W
theorem Qkt:Qr Tryz.prog 33:=fun args W=>Qi Tryz.func33 (by kernel_rfl) rfl args W
theorem Qd2:Qr Tryz.prog 34:=fun args W=>Qi Tryz.func34 (by kernel_rfl) rfl args W
theorem Qk3:Qr Tryz.prog 63:=fun args W=>Qi Tryz.func63 (by kernel_rfl) rfl args W
theorem QkJ:Qr Tryz.prog 69:=fun args W=>Qi Tryz.func69 (by kernel_rfl) rfl args W
theorem Qes:Qr Tryz.prog 70:=fun args W=>Qi Tryz.func70 (by kernel_rfl) rfl args W
theorem Qki:Qr Tryz.prog 71:=fun args W=>Qi Tryz.func71 (by kernel_rfl) rfl args W
theorem QdO:Qr Tryz.prog 74:=fun args W=>Qi Tryz.func74 (by kernel_rfl) rfl args W
theorem QkZ:Qr Tryz.prog 75:=fun args W=>Qi Tryz.func75 (by kernel_rfl) rfl args W
theorem Qd1:Qr Tryz.prog 76:=fun args W=>Qi Tryz.func76 (by kernel_rfl) rfl args W
theorem QdU:Qr Tryz.prog 77:=fun args W=>Qi Tryz.func77 (by kernel_rfl) rfl args W
theorem Wv:Qr Tryz.prog 80:=fun args W=>Qi Tryz.func80 (by kernel_rfl) rfl args W
theorem Qk1:Qr Tryz.prog 81:=fun args W=>Qi Tryz.func81 (by kernel_rfl) rfl args W
theorem Um:Qr Tryz.prog 82:=fun args W=>Qi Tryz.func82 (by kernel_rfl) rfl args W
theorem Qku:Qr Tryz.prog 83:=fun args W=>Qi Tryz.func83 (by kernel_rfl) rfl args W
theorem QdW:Qr Tryz.prog 84:=fun args W=>Qi Tryz.func84 (by kernel_rfl) rfl args W
theorem Qef:Qr Tryz.prog 85:=fun args W=>Qi Tryz.func85 (by kernel_rfl) rfl args W
theorem Qec:Qr Tryz.prog 86:=fun args W=>Qi Tryz.func86 (by kernel_rfl) rfl args W
theorem Qks:Qr Tryz.prog 87:=fun args W=>Qi Tryz.func87 (by kernel_rfl) rfl args W
theorem QkV:Qr Tryz.prog 88:=fun args W=>Qi Tryz.func88 (by kernel_rfl) rfl args W
theorem Qcu:Qr Tryz.prog 121:=fun args W=>Qi Tryz.func121 (by kernel_rfl) rfl args W
theorem QcF:Qr Tryz.prog 122:=fun args W=>Qi Tryz.func122 (by kernel_rfl) rfl args W
theorem QiB:Qr Tryz.prog 123:=fun args W=>Qi Tryz.func123 (by kernel_rfl) rfl args W
theorem QhK:Qr Tryz.prog 124:=fun args W=>Qi Tryz.func124 (by kernel_rfl) rfl args W
theorem QhL:Qr Tryz.prog 125:=fun args W=>Qi Tryz.func125 (by kernel_rfl) rfl args W
theorem QhR:Qr Tryz.prog 126:=fun args W=>Qi Tryz.func126 (by kernel_rfl) rfl args W
theorem QcI:Qr Tryz.prog 127:=fun args W=>Qi Tryz.func127 (by kernel_rfl) rfl args W
theorem Qdd:Qr Tryz.prog 128:=fun args W=>Qi Tryz.func128 (by kernel_rfl) rfl args W
theorem QbN:Qr Tryz.prog 130:=fun args W=>Qi Tryz.func130 (by kernel_rfl) rfl args W
theorem Qc5:Qr Tryz.prog 131:=fun args W=>Qi Tryz.func131 (by kernel_rfl) rfl args W
theorem Qh4:Qr Tryz.prog 132:=fun args W=>Qi Tryz.func132 (by kernel_rfl) rfl args W
theorem QcE:Qr Tryz.prog 133:=fun args W=>Qi Tryz.func133 (by kernel_rfl) rfl args W
theorem QhN:Qr Tryz.prog 134:=fun args W=>Qi Tryz.func134 (by kernel_rfl) rfl args W
theorem UI:Qr Tryz.prog 135:=fun args W=>Qi Tryz.func135 (by kernel_rfl) rfl args W
theorem U6:Qr Tryz.prog 136:=fun args W=>Qi Tryz.func136 (by kernel_rfl) rfl args W
theorem Qhh:Qr Tryz.prog 137:=fun args W=>Qi Tryz.func137 (by kernel_rfl) rfl args W
theorem Qiz:Qr Tryz.prog 138:=fun args W=>Qi Tryz.func138 (by kernel_rfl) rfl args W
theorem Qcl:Qr Tryz.prog 139:=fun args W=>Qi Tryz.func139 (by kernel_rfl) rfl args W
theorem Qc4:Qr Tryz.prog 140:=fun args W=>Qi Tryz.func140 (by kernel_rfl) rfl args W
theorem Qcv:Qr Tryz.prog 141:=fun args W=>Qi Tryz.func141 (by kernel_rfl) rfl args W
theorem Qia:Qr Tryz.prog 142:=fun args W=>Qi Tryz.func142 (by kernel_rfl) rfl args W
theorem Qif:Qr Tryz.prog 143:=fun args W=>Qi Tryz.func143 (by kernel_rfl) rfl args W
theorem Qb5:Qr Tryz.prog 144:=fun args W=>Qi Tryz.func144 (by kernel_rfl) rfl args W
theorem QhI:Qr Tryz.prog 145:=fun args W=>Qi Tryz.func145 (by kernel_rfl) rfl args W
theorem Qh7:Qr Tryz.prog 146:=fun args W=>Qi Tryz.func146 (by kernel_rfl) rfl args W
theorem QiC:Qr Tryz.prog 148:=fun args W=>Qi Tryz.func148 (by kernel_rfl) rfl args W
theorem Wr:Qr Tryz.prog 149:=fun args W=>Qi Tryz.func149 (by kernel_rfl) rfl args W
theorem Qil:Qr Tryz.prog 150:=fun args W=>Qi Tryz.func150 (by kernel_rfl) rfl args W
theorem Qg8:Qr Tryz.prog 151:=fun args W=>Qi Tryz.func151 (by kernel_rfl) rfl args W
theorem QhP:Qr Tryz.prog 152:=fun args W=>Qi Tryz.func152 (by kernel_rfl) rfl args W
theorem Qiv:Qr Tryz.prog 153:=fun args W=>Qi Tryz.func153 (by kernel_rfl) rfl args W
theorem Yz:Qr Tryz.prog 154:=fun args W=>Qi Tryz.func154 (by kernel_rfl) rfl args W
theorem Qie:Qr Tryz.prog 155:=fun args W=>Qi Tryz.func155 (by kernel_rfl) rfl args W
theorem Qc1:Qr Tryz.prog 156:=fun args W=>Qi Tryz.func156 (by kernel_rfl) rfl args W
theorem Qh6:Qr Tryz.prog 157:=fun args W=>Qi Tryz.func157 (by kernel_rfl) rfl args W
theorem Qda:Qr Tryz.prog 158:=fun args W=>Qi Tryz.func158 (by kernel_rfl) rfl args W
theorem Qiu:Qr Tryz.prog 159:=fun args W=>Qi Tryz.func159 (by kernel_rfl) rfl args W
theorem QhE:Qr Tryz.prog 160:=fun args W=>Qi Tryz.func160 (by kernel_rfl) rfl args W
theorem QcV:Qr Tryz.prog 161:=fun args W=>Qi Tryz.func161 (by kernel_rfl) rfl args W
theorem Qb4:Qr Tryz.prog 162:=fun args W=>Qi Tryz.func162 (by kernel_rfl) rfl args W
theorem Qiw:Qr Tryz.prog 168:=fun args W=>Qi Tryz.func168 (by kernel_rfl) rfl args W
theorem Qh2:Qr Tryz.prog 181:=fun args W=>Qi Tryz.func181 (by kernel_rfl) rfl args W
theorem YZ:Qr Tryz.prog 187:=fun args W=>Qi Tryz.func187 (by kernel_rfl) rfl args W
theorem QiF:Qr Tryz.prog 195:=fun args W=>Qi Tryz.func195 (by kernel_rfl) rfl args W
theorem JQ:Qr Tryz.prog 196:=fun args W=>Qi Tryz.func196 (by kernel_rfl) rfl args W
theorem UY:Qr Tryz.prog 197:=fun args W=>Qi Tryz.func197 (by kernel_rfl) rfl args W
theorem Qg3:Qr Tryz.prog 198:=fun args W=>Qi Tryz.func198 (by kernel_rfl) rfl args W
theorem QhF:Qr Tryz.prog 199:=fun args W=>Qi Tryz.func199 (by kernel_rfl) rfl args W
theorem QhV:Qr Tryz.prog 200:=fun args W=>Qi Tryz.func200 (by kernel_rfl) rfl args W
theorem QcZ:Qr Tryz.prog 201:=fun args W=>Qi Tryz.func201 (by kernel_rfl) rfl args W
theorem Qio:Qr Tryz.prog 202:=fun args W=>Qi Tryz.func202 (by kernel_rfl) rfl args W
theorem Qhs:Qr Tryz.prog 203:=fun args W=>Qi Tryz.func203 (by kernel_rfl) rfl args W
theorem Qhu:Qr Tryz.prog 204:=fun args W=>Qi Tryz.func204 (by kernel_rfl) rfl args W
theorem QbS:Qr Tryz.prog 205:=fun args W=>Qi Tryz.func205 (by kernel_rfl) rfl args W
theorem Qhf:Qr Tryz.prog 206:=fun args W=>Qi Tryz.func206 (by kernel_rfl) rfl args W
theorem QiD:Qr Tryz.prog 207:=fun args W=>Qi Tryz.func207 (by kernel_rfl) rfl args W
theorem YX:Qr Tryz.prog 208:=fun args W=>Qi Tryz.func208 (by kernel_rfl) rfl args W
theorem Qcy:Qr Tryz.prog 209:=fun args W=>Qi Tryz.func209 (by kernel_rfl) rfl args W
theorem Qih:Qr Tryz.prog 210:=fun args W=>Qi Tryz.func210 (by kernel_rfl) rfl args W
theorem Qca:Qr Tryz.prog 211:=fun args W=>Qi Tryz.func211 (by kernel_rfl) rfl args W
theorem JT:Qr Tryz.prog 212:=fun args W=>Qi Tryz.func212 (by kernel_rfl) rfl args W
theorem Qhe:Qr Tryz.prog 213:=fun args W=>Qi Tryz.func213 (by kernel_rfl) rfl args W
theorem Qde:Qr Tryz.prog 214:=fun args W=>Qi Tryz.func214 (by kernel_rfl) rfl args W
theorem QiK:Qr Tryz.prog 215:=fun args W=>Qi Tryz.func215 (by kernel_rfl) rfl args W
theorem QiM:Qr Tryz.prog 216:=fun args W=>Qi Tryz.func216 (by kernel_rfl) rfl args W
theorem QhH:Qr Tryz.prog 217:=fun args W=>Qi Tryz.func217 (by kernel_rfl) rfl args W
theorem Qg5:Qr Tryz.prog 218:=fun args W=>Qi Tryz.func218 (by kernel_rfl) rfl args W
theorem JM:Qr Tryz.prog 219:=fun args W=>Qi Tryz.func219 (by kernel_rfl) rfl args W
theorem Jv:Qr Tryz.prog 220:=fun args W=>Qi Tryz.func220 (by kernel_rfl) rfl args W
theorem QiH:Qr Tryz.prog 221:=fun args W=>Qi Tryz.func221 (by kernel_rfl) rfl args W
theorem Qh1:Qr Tryz.prog 224:=fun args W=>Qi Tryz.func224 (by kernel_rfl) rfl args W
theorem QhS:Qr Tryz.prog 225:=fun args W=>Qi Tryz.func225 (by kernel_rfl) rfl args W
theorem QhJ:Qr Tryz.prog 229:=fun args W=>Qi Tryz.func229 (by kernel_rfl) rfl args W
theorem Jz:Qr Tryz.prog 256:=fun args W=>Qi Tryz.func256 (by kernel_rfl) rfl args W
theorem UU:Qr Tryz.prog 257:=fun args W=>Qi Tryz.func257 (by kernel_rfl) rfl args W
theorem Qij:Qr Tryz.prog 258:=fun args W=>Qi Tryz.func258 (by kernel_rfl) rfl args W
theorem JO:Qr Tryz.prog 259:=fun args W=>Qi Tryz.func259 (by kernel_rfl) rfl args W
theorem QhD:Qr Tryz.prog 260:=fun args W=>Qi Tryz.func260 (by kernel_rfl) rfl args W
theorem XT:Qr Tryz.prog 261:=fun args W=>Qi Tryz.func261 (by kernel_rfl) rfl args W
theorem Qhb:Qr Tryz.prog 262:=fun args W=>Qi Tryz.func262 (by kernel_rfl) rfl args W
theorem Qhg:Qr Tryz.prog 263:=fun args W=>Qi Tryz.func263 (by kernel_rfl) rfl args W
theorem Qhv:Qr Tryz.prog 264:=fun args W=>Qi Tryz.func264 (by kernel_rfl) rfl args W
theorem QhZ:Qr Tryz.prog 265:=fun args W=>Qi Tryz.func265 (by kernel_rfl) rfl args W
theorem QiA:Qr Tryz.prog 266:=fun args W=>Qi Tryz.func266 (by kernel_rfl) rfl args W
theorem QhC:Qr Tryz.prog 267:=fun args W=>Qi Tryz.func267 (by kernel_rfl) rfl args W
theorem Qhx:Qr Tryz.prog 268:=fun args W=>Qi Tryz.func268 (by kernel_rfl) rfl args W
theorem QhW:Qr Tryz.prog 269:=fun args W=>Qi Tryz.func269 (by kernel_rfl) rfl args W
theorem JR:Qr Tryz.prog 270:=fun args W=>Qi Tryz.func270 (by kernel_rfl) rfl args W
theorem QhA:Qr Tryz.prog 271:=fun args W=>Qi Tryz.func271 (by kernel_rfl) rfl args W
theorem Qht:Qr Tryz.prog 272:=fun args W=>Qi Tryz.func272 (by kernel_rfl) rfl args W
theorem Qhl:Qr Tryz.prog 273:=fun args W=>Qi Tryz.func273 (by kernel_rfl) rfl args W
theorem QhG:Qr Tryz.prog 274:=fun args W=>Qi Tryz.func274 (by kernel_rfl) rfl args W
theorem Qhz:Qr Tryz.prog 290:=fun args W=>Qi Tryz.func290 (by kernel_rfl) rfl args W
theorem Qcn:Qr Tryz.prog 291:=fun args W=>Qi Tryz.func291 (by kernel_rfl) rfl args W
theorem Qh3:Qr Tryz.prog 293:=fun args W=>Qi Tryz.func293 (by kernel_rfl) rfl args W
theorem Xp:Qr Tryz.prog 294:=fun args W=>Qi Tryz.func294 (by kernel_rfl) rfl args W
theorem Qic:Qr Tryz.prog 295:=fun args W=>Qi Tryz.func295 (by kernel_rfl) rfl args W
theorem Qid:Qr Tryz.prog 319:=fun args W=>Qi Tryz.func319 (by kernel_rfl) rfl args W
theorem QhQ:Qr Tryz.prog 320:=fun args W=>Qi Tryz.func320 (by kernel_rfl) rfl args W
theorem QcN:Qr Tryz.prog 321:=fun args W=>Qi Tryz.func321 (by kernel_rfl) rfl args W
end Go.Proofs.YtnakmhfjafecpaaGreat
namespace Go.Proofs.YtnakmhfjafecpaaGreat
open Go.RowKit
@[reducible] def Is (pv:PV) (T:Tab):PV→Tab→Prop:=fun p T'=>p=pv∧T'=T
def FrL (s:St)(n:Nat):List Nat→Prop
  | []=>True
  | q :: l=>Fresh s (n+q)∧FrL s n l
theorem FrL.get {s:St}{n:Nat}{l:List Nat}(h:FrL s n l):∀q∈l,Fresh s (n+q):=by
  induction l with
  | nil=>simp
  | cons q l ih=>
    intro r hr
    rcases List.mem_cons.1 hr with rfl | hr
    · exact h.1
    · exact ih h.2 r hr
section
variable {A:Amb}{P:Program}{s:St}
variable {f:FuncId}{xs:List Operand}{tys:Array TypeId}{args:List (Bool×List LV)}{d:Nat}{ty:TypeId}{pos:String}{af:Array Edge}{g:Option (Nat×Bool)}{pv:PV}{T:Tab}
theorem Zu (n:Nat)(hc:FC P f args [] 0 (Is pv T))(hE:Qr P f)(ha:EvL A s xs args)(hcl:Wb pv T=true)(hn:Nat.blt d A.n=true)(hfr:FrL s n (Yr T))(hk0:A.k0≤n):
    Does A P ⟨some d, .call ⟨.value (.func f),xs.toArray,tys⟩,ty,pos,af,g⟩ s (s.back d n pv T):=
  fun a w K Q r hK=>DoesT.call n hc hE ha (by rintro _ _ ⟨rfl,rfl⟩; exact hcl) (by rintro _ _ ⟨rfl,rfl⟩ q ⟨e,hq⟩; exact hfr.get q (Z5 hq).1) hk0 hn a w K Q r (by
    rintro s' a' w' ⟨_,_,⟨rfl,rfl⟩,rfl⟩ r'
    exact hK _ _ r')
theorem Kv (n:Nat)(hc:FC P f args [] 0 (Is pv T))(hE:Qr P f)(ha:EvLB A s xs args)(hcl:Wb pv T=true)(hf:(pv.fl&&T.fl)=true)(hn:Nat.blt d A.n=true)(hfr:FrL s n (Yr T))(hk0:A.k0≤n):
    Does A P ⟨some d, .call ⟨.value (.func f),xs.toArray,tys⟩,ty,pos,af,g⟩ s (s.back d n pv T):=
  fun a w K Q r hK=>Kt n hc hE ha (by rintro _ _ ⟨rfl,rfl⟩; exact hcl) (by rintro _ _ ⟨rfl,rfl⟩; simpa using hf) (by rintro _ _ ⟨rfl,rfl⟩ q ⟨e,hq⟩; exact hfr.get q (Z5 hq).1) hk0 hn a w K Q r (by
    rintro s' a' w' ⟨_,_,⟨rfl,rfl⟩,rfl⟩ r'
    exact hK _ _ r')
theorem Q0 {fn:Func}{k:Nat}(pv:PV)(T':Tab)(ρ:List (Nat×Nat)){pv0:PV}(h1:Res A P fn s pv0)(h0:pv0=pv.ren (rn ρ))(h2:HasE ⟨[],s.tab⟩ ρ T')(h3:Jt (T'.map fun x=>rn ρ x.1)=true)(h4:idB ρ k=true):fin A P fn (Qkk (Is pv T') k) .ret s:=
  Qe3 pv T' ρ (h0▸h1) h2 h3 h4 ⟨rfl,rfl⟩
end
def LV.thaw (T:Tab):LV→LV
  | .ref q=>match T.ent q with
    | some (.arr E e xs)=> .dat (.sl E e) xs
    | _=> .ref q
  | l=>l
def PV.thaw (T:Tab):PV→PV
  | .cm b ls=> .cm b (ls.map (LV.thaw T))
  | .tup cs=> .tup (cs.map fun c=>(c.1,c.2.map (LV.thaw T)))
section
variable {T:Tab}{gh:Gh}{w:World}
theorem LVR.thaw (cx:Cx T gh w){l:LV}{v:Value}(h:LVR T.al gh w l v):LVR (Tab.al []) ⟨gh.h,gh.f,fun g=>gh.N g∨∃q,T.al q∧g∈gh.f q⟩ w (l.thaw T) v:=by
  have hm:∀l,LVR T.al gh w l v→LVR (Tab.al []) ⟨gh.h,gh.f,fun g=>gh.N g∨∃q,T.al q∧g∈gh.f q⟩ w l v:=fun l h=>h.mono (fun q _ h=>absurd h (Ym q)) fun g hg=>⟨.inl hg,rfl⟩
  cases l with
  | ref q=>
    simp only[LV.thaw]
    split
    · rename_i E e xs he
      have hv:v=gh.h q:=h ⟨_,he⟩
      have hO:Own (.sl E e) w (gh.f q) [gh.h q] xs:=cx.en q _ he
      rw[hv]
      exact hO.rd fun g hg=> .inr ⟨q,⟨_,he⟩,hg⟩
    · exact hm _ h
  | _=>exact hm _ h
theorem LVs.thaw (cx:Cx T gh w){ls:List LV}{vs:List Value}(h:LVs T.al gh w ls vs):LVs (Tab.al []) ⟨gh.h,gh.f,fun g=>gh.N g∨∃q,T.al q∧g∈gh.f q⟩ w (ls.map (LV.thaw T)) vs:=by
  induction ls generalizing vs with
  | nil=>exact h
  | cons l ls ih=>obtain ⟨v,vs',rfl,h1,h2⟩:=h; exact ⟨v,_,rfl,h1.thaw cx,ih h2⟩
theorem CmR.thaw (cx:Cx T gh w){c:Bool×List LV}{v:Value}(h:CmR T.al gh w c v):CmR (Tab.al []) ⟨gh.h,gh.f,fun g=>gh.N g∨∃q,T.al q∧g∈gh.f q⟩ w (c.1,c.2.map (LV.thaw T)) v:=by
  obtain ⟨b,ls⟩:=c
  cases b with
  | true=>obtain ⟨vs,rfl,h1⟩:=h; exact ⟨vs,rfl,h1.thaw cx⟩
  | false=>obtain ⟨l,rfl,h1⟩:=h; exact ⟨_,rfl,h1.thaw cx⟩
theorem PVR.thaw (cx:Cx T gh w){pv:PV}{v:Value}(h:PVR T.al gh w pv v):PVR (Tab.al []) ⟨gh.h,gh.f,fun g=>gh.N g∨∃q,T.al q∧g∈gh.f q⟩ w (pv.thaw T) v:=by
  cases pv with
  | cm b ls=>exact CmR.thaw cx (c:=(b,ls)) h
  | tup cs=>
    obtain ⟨vs,rfl,h1⟩:=h
    refine ⟨vs,rfl, ?_⟩
    induction cs generalizing vs with
    | nil=>exact h1
    | cons c cs ih=>obtain ⟨v,vs',rfl,h2,h3⟩:=h1; exact ⟨v,_,rfl,h2.thaw cx,ih _ h3⟩
end
theorem FC.frozenG {P:Program}{f:FuncId}{args:List (Bool×List LV)}{pv:PV}{T:Tab}(h:FC P f args [] 0 (Is pv T)):FC P f args [] 0 (Zo (pv.thaw T)):=fun gh w vs cx ha=>
  Calls.mono (h gh w vs cx ha) fun e' w' he=>by
    obtain ⟨v,pv',T',gh',rfl,⟨rfl,rfl⟩,cx',hp,fr,_⟩:=he
    refine ⟨v,_,[],_,rfl,⟨rfl,rfl⟩,Vv Ym _ _ fun g hg=> ?_,hp.thaw cx',⟨fr.gw,fr.kp,fun g hg=> ?_,fun q hq=>absurd hq (Ym q)⟩,fun q hq=>absurd hq (by omega)⟩
    · rcases hg with hg | ⟨q, hq, hg⟩
      · exact cx'.nl g hg
      · exact cx'.lt hq g hg
    · rcases hg with hg | ⟨q, hq, hg⟩
      · exact fr.nn g hg
      · rcases fr.ox q hq g hg with h | ⟨q', h, _⟩
        · exact .inr (.inl h)
        · exact absurd h (Ym q')
theorem QgN {A:Amb}{P:Program}{ops:Array Oper}{o:Oper}{s s1 s':St}(hg:o.guard=none)(h:Does A P o s s1)(e:s1=s'):Acts A P ops o s s':=e▸Acts.of hg h
theorem QkT {A:Amb}{P:Program}{ops:Array Oper}{o:Oper}{s s1 s':St}{j d:Nat}{b:Bool}(hg:o.guard=some (j,b))(hd:(ops[j]?).bind (·.dst)=some d)(hb:lk s.tm d=some (lf (dB b)))(h:Does A P o s s1)(e:s1=s'):Acts A P ops o s s':=e▸Qlh hg hd hb h
section
variable {A:Amb}{s:St}
theorem Wk.nilS (t i:Nat)(E:TypeId)(e:Ty)(hi:lk s.tm i=some (lf (.val (.slice none 0 0))))(hfr:Fresh s t)(hk0:A.k0≤t):Wk A s ⟨(i,lf (.ref t)) :: s.tm,(t,some (.arr E e [])) :: s.tab⟩:=fun a w r=>by
  obtain ⟨gh,r⟩:=r
  obtain ⟨v,h1,l,h2,h3⟩:=r.tm i _ hi
  simp only[List.cons.injEq,and_true] at h2
  subst h2
  have hv:v= .slice none 0 0:=h3
  have r2:=r.make t hfr hk0 [] (by simp) (Ye w) (fun _ _ _=>rfl) (E:=E) (e:=e) (xs:=[]) (hv:= .slice none 0 0) (fp:=[]) (.inl ⟨rfl,rfl,rfl⟩) List.nodup_nil (by simp)
  exact ⟨_,r2.know h1 (pv:=lf (.ref t)) ⟨_,rfl,fun _=>by simp[hv]⟩⟩
theorem Q5 (t:Nat){p off:Nat}{E':TypeId}{cs:List LV}(E:TypeId)(e:Ty)(hp:s.tab.ent p=some (.box E' cs))(ho:cs[off]? =some (.val (.slice none 0 0)))(hfr:Fresh s t)(hk0:A.k0≤t):
    Wk A s ⟨s.tm,(p,some (.box E' (splice cs off [.ref t]))) :: (t,some (.arr E e [])) :: s.tab⟩:=fun a w r=>by
  obtain ⟨gh,r⟩:=r
  have hne:p≠t:=fun h=>hfr.al ⟨_,h▸hp⟩
  obtain ⟨g,cur,h1,h2,h3,h4⟩:=r.cx.en p _ hp
  obtain ⟨v,h5,h6⟩:=h4.nth ho
  have hv:v= .slice none 0 0:=h6
  have r2:=r.make t hfr hk0 [] (by simp) (Ye w) (fun _ _ _=>rfl) (E:=E) (e:=e) (xs:=[]) (hv:= .slice none 0 0) (fp:=[]) (.inl ⟨rfl,rfl,rfl⟩) List.nodup_nil (by simp)
  have hp':Tab.ent ((t,some (.arr E e [])) :: (KJ []++s.tab)) p=some (.box E' cs):=by rw[Qw,if_neg hne]; exact hp
  obtain ⟨g',cur',k1,k2,k3,k4⟩:=r2.cx.en p _ hp'
  simp only[if_neg hne] at k1 k2
  rw[h1] at k1
  cases k1
  rw[h3] at k3
  cases k3
  have hD:LVs (Tab.al ((t,some (.arr E e [])) :: (KJ []++s.tab))) ⟨fun q=>if q=t then .slice none 0 0 else gh.h q,fun q=>if q=t then [] else gh.f q,gh.N⟩ w [.ref t] [v]:=⟨v,[],rfl,fun _=>by simp[hv],rfl⟩
  have hS:=k4.splice hD (off:=off)
  have hsame:cur.toList.take off++[v]++cur.toList.drop (off+[v].length)=cur.toList:=by
    have hl:=(List.getElem?_eq_some_iff.1 h5)
    obtain ⟨hl,hl2⟩:=hl
    conv=>rhs; rw[← List.take_append_drop (off+1) cur.toList,List.take_succ_eq_append_getElem hl,hl2]
    rfl
  rw[hsame] at hS
  exact ⟨_,r2.mod hp' (Ye w) (fun _ _ _=>rfl) ⟨g,cur,by simp only[if_neg hne]; exact h1,by simp only[if_neg hne]; exact h2,h3,hS⟩⟩
end
end Go.Proofs.YtnakmhfjafecpaaGreat
