/- Closed facts on the types and functions of the program. -/
import Derived.Test.YtnakmhfjafecpaaGreatProg
import Derived.Test.YtnakmhfjafecpaaGreatAe
import Derived.Test.YtnakmhfjafecpaaGreatSz
set_option linter.unusedSimpArgs false
set_option linter.unusedVariables false
set_option linter.unusedSectionVars false
namespace Go.Proofs.YtnakmhfjafecpaaGreat
open Go.RowKit
theorem mixed:Tryz.prog.follows .mixedOrders=true:=by kernel_rfl
theorem QdP:Tryz.prog.underlying 3=some (.int .i64):=by kernel_rfl
theorem QD:tsh Tryz.prog 3=some (false,1):=by kernel_rfl
theorem Xl:zer Tryz.prog 3=some (.int .i64 0):=by kernel_rfl
theorem WX:Vx Tryz.prog 3 1=true:=by kernel_rfl
theorem Qjt:(Tryz.prog.info? 3).map (fun i=>(i.zero,i.size,i.bytes))=some (some (.int .i64 0),1,8):=by kernel_rfl
theorem VV:Tryz.prog.underlying 4=some .bool:=by kernel_rfl
theorem ZH:tsh Tryz.prog 4=some (false,1):=by kernel_rfl
theorem QpI:zer Tryz.prog 4=some (.bool false):=by kernel_rfl
theorem Qom:(Tryz.prog.info? 4).map (fun i=>(i.zero,i.size,i.bytes))=some (some (.bool false),1,1):=by kernel_rfl
theorem VX:Tryz.prog.underlying 5=some (.int .u8):=by kernel_rfl
theorem ZA:tsh Tryz.prog 5=some (false,1):=by kernel_rfl
theorem Qco:zer Tryz.prog 5=some (.int .u8 0):=by kernel_rfl
theorem Qov:Vx Tryz.prog 5 1=true:=by kernel_rfl
theorem Qp0:(Tryz.prog.info? 5).map (fun i=>(i.zero,i.size,i.bytes))=some (some (.int .u8 0),1,1):=by kernel_rfl
theorem Zd:Tryz.prog.underlying 9=some .string:=by kernel_rfl
theorem Zx:tsh Tryz.prog 9=some (false,1):=by kernel_rfl
theorem Qcu:zer Tryz.prog 9=some (.string ByteArray.empty):=by kernel_rfl
theorem QjD:Vx Tryz.prog 9 1=true:=by kernel_rfl
theorem YK:Tryz.prog.underlying 30=some (.slice 106):=by kernel_rfl
theorem Yh:Tryz.prog.underlying 36=some (.slice 145):=by kernel_rfl
theorem JQ:tsh Tryz.prog 36=some (false,1):=by kernel_rfl
theorem U3:Tryz.prog.underlying 37=some (.slice 61):=by kernel_rfl
theorem ZL:Tryz.prog.underlying 46=some (.slice 9):=by kernel_rfl
theorem Xc:tsh Tryz.prog 46=some (false,1):=by kernel_rfl
theorem Qpd:tsh Tryz.prog 49=some (true,3):=by kernel_rfl
theorem Q9:Tryz.prog.underlying 57=some (.slice 179):=by kernel_rfl
theorem WD:tsh Tryz.prog 57=some (false,1):=by kernel_rfl
theorem QK:tsh Tryz.prog 59=some (true,3):=by kernel_rfl
theorem KS:fld Tryz.prog 59 0=some 0:=by kernel_rfl
theorem Z9:fld Tryz.prog 59 1=some 1:=by kernel_rfl
theorem YZ:fld Tryz.prog 59 2=some 2:=by kernel_rfl
theorem YB:zer Tryz.prog 59=some (.agg #[.slice none 0 0, .slice none 0 0, .slice none 0 0]):=by kernel_rfl
theorem Yw:bld Tryz.prog 59 [(0,1),(1,1),(2,1)] (.pr (.sl 145 (.pr .str .int)) (.pr (.sl 9 .str) (.sl 179 (.pr .int (.pr .int (.pr .bool .int)))))):=UI Tryz.underlying59 (by kernel_rfl) YB
theorem Xt:tsh Tryz.prog 61=some (true,2):=by kernel_rfl
theorem QmZ:fld Tryz.prog 61 0=some 0:=by kernel_rfl
theorem Qm2:fld Tryz.prog 61 1=some 1:=by kernel_rfl
theorem U0:zer Tryz.prog 61=some (.agg #[.int .i64 0, .bool false]):=by kernel_rfl
theorem QlH:Vx Tryz.prog 61 2=true:=by kernel_rfl
theorem W5:bld Tryz.prog 61 [(0,1),(1,1)] (.pr .int .bool):=UI Tryz.underlying61 (by kernel_rfl) U0
theorem Yt:tsh Tryz.prog 63=some (true,4):=by kernel_rfl
theorem U1:zer Tryz.prog 63=some (.agg #[.int .i64 0, .bool false, .int .i64 0, .bool false]):=by kernel_rfl
theorem Qhq:Vx Tryz.prog 63 4=true:=by kernel_rfl
theorem QeZ:bld Tryz.prog 63 [(0,2),(2,2)] (.pr (.pr .int .bool) (.pr .int .bool)):=UI Tryz.underlying63 (by kernel_rfl) U1
theorem Xk:Tryz.prog.underlying 71=some (.slice 63):=by kernel_rfl
theorem QO:Tryz.prog.underlying 106=some (.slice 3):=by kernel_rfl
theorem ZB:tsh Tryz.prog 106=some (false,1):=by kernel_rfl
theorem KZ:zer Tryz.prog 106=some (.slice none 0 0):=by kernel_rfl
theorem Qja:Vx Tryz.prog 106 1=true:=by kernel_rfl
theorem Qke:(Tryz.prog.info? 106).map (fun i=>(i.zero,i.size,i.bytes))=some (some (.slice none 0 0),1,24):=by kernel_rfl
theorem XX:tsh Tryz.prog 129=some (true,7):=by kernel_rfl
theorem Qkw:fld Tryz.prog 129 0=some 0:=by kernel_rfl
theorem Qky:fld Tryz.prog 129 1=some 4:=by kernel_rfl
theorem UV:zer Tryz.prog 129=some (.agg #[.int .i64 0, .bool false, .int .i64 0, .bool false, .slice none 0 0, .slice none 0 0, .slice none 0 0]):=by kernel_rfl
theorem QnE:Vx Tryz.prog 129 7=true:=by kernel_rfl
theorem QjS:bld Tryz.prog 129 [(0,4),(4,3)] (.pr (.pr (.pr .int .bool) (.pr .int .bool)) (.pr (.sl 145 (.pr .str .int)) (.pr (.sl 9 .str) (.sl 179 (.pr .int (.pr .int (.pr .bool .int))))))):=UI Tryz.underlying129 (by kernel_rfl) UV
theorem QbL:Tryz.prog.underlying 134=some (.slice 129):=by kernel_rfl
theorem Wr:Tryz.prog.underlying 143=some (.slice 4):=by kernel_rfl
theorem Yj:tsh Tryz.prog 145=some (true,2):=by kernel_rfl
theorem Qk6:fld Tryz.prog 145 0=some 0:=by kernel_rfl
theorem Wq:zer Tryz.prog 145=some (.agg #[.string ByteArray.empty, .int .i64 0]):=by kernel_rfl
theorem K8:Vx Tryz.prog 145 2=true:=by kernel_rfl
theorem Qj9:bld Tryz.prog 145 [(0,1),(1,1)] (.pr .str .int):=UI Tryz.underlying145 (by kernel_rfl) Wq
theorem QJ:tsh Tryz.prog 179=some (true,4):=by kernel_rfl
theorem Zr:fld Tryz.prog 179 0=some 0:=by kernel_rfl
theorem ZN:fld Tryz.prog 179 1=some 1:=by kernel_rfl
theorem YY:fld Tryz.prog 179 2=some 2:=by kernel_rfl
theorem Zg:fld Tryz.prog 179 3=some 3:=by kernel_rfl
theorem Zq:zer Tryz.prog 179=some (.agg #[.int .i64 0, .int .i64 0, .bool false, .int .i64 0]):=by kernel_rfl
theorem Vh:Vx Tryz.prog 179 4=true:=by kernel_rfl
theorem Hv:bld Tryz.prog 179 [(0,1),(1,1),(2,1),(3,1)] (.pr .int (.pr .int (.pr .bool .int))):=UI Tryz.underlying179 (by kernel_rfl) Zq
theorem QbA:Tryz.prog.underlying 203=some (.slice 258):=by kernel_rfl
theorem Zc:Tryz.prog.underlying 209=some (.slice 5):=by kernel_rfl
theorem Qfa:Tryz.prog.underlying 214=some (.int .u64):=by kernel_rfl
theorem QbK:tsh Tryz.prog 258=some (true,2):=by kernel_rfl
theorem Qel:fld Tryz.prog 258 0=some 0:=by kernel_rfl
theorem Qkq:fld Tryz.prog 258 1=some 1:=by kernel_rfl
theorem QbN:zer Tryz.prog 258=some (.agg #[.int .i64 0, .int .i64 0]):=by kernel_rfl
theorem Qny:Vx Tryz.prog 258 2=true:=by kernel_rfl
theorem QnP:bld Tryz.prog 258 [(0,1),(1,1)] (.pr .int .int):=UI Tryz.underlying258 (by kernel_rfl) QbN
theorem Qkh:fld Tryz.prog 288 0=some 0:=by kernel_rfl
theorem QaK:fld Tryz.prog 288 1=some 3:=by kernel_rfl
theorem Qez:fld Tryz.prog 288 2=some 4:=by kernel_rfl
theorem Xi:fld Tryz.prog 288 3=some 5:=by kernel_rfl
theorem QnN:zer Tryz.prog 288=some (.agg #[.slice none 0 0, .slice none 0 0, .slice none 0 0, .string ByteArray.empty, .slice none 0 0, .slice none 0 0, .slice none 0 0, .slice none 0 0]):=by kernel_rfl
theorem Qnu:bld Tryz.prog 288 [(0,3),(3,1),(4,1),(5,3)] (.pr (.pr (.sl 145 (.pr .str .int)) (.pr (.sl 9 .str) (.sl 179 (.pr .int (.pr .int (.pr .bool .int)))))) (.pr .str (.pr (.sl 3 .int) (.pr (.sl 145 (.pr .str .int)) (.pr (.sl 9 .str) (.sl 179 (.pr .int (.pr .int (.pr .bool .int))))))))):=UI Tryz.underlying288 (by kernel_rfl) QnN
theorem Qi5:Tryz.prog.underlying 294=some (.map 300 3):=by kernel_rfl
theorem QjE:tsh Tryz.prog 294=some (false,1):=by kernel_rfl
theorem QbH:Tryz.prog.underlying 295=some (.slice 300):=by kernel_rfl
theorem Qe2:tsh Tryz.prog 295=some (false,1):=by kernel_rfl
theorem Qa3:fld Tryz.prog 297 0=some 0:=by kernel_rfl
theorem Ug:fld Tryz.prog 297 1=some 3:=by kernel_rfl
theorem Je:fld Tryz.prog 297 2=some 4:=by kernel_rfl
theorem QaY:fld Tryz.prog 297 3=some 7:=by kernel_rfl
theorem Qea:fld Tryz.prog 297 4=some 8:=by kernel_rfl
theorem Wh:tsh Tryz.prog 300=some (true,2):=by kernel_rfl
theorem Qan:fld Tryz.prog 300 0=some 0:=by kernel_rfl
theorem YF:fld Tryz.prog 300 1=some 1:=by kernel_rfl
theorem Qbx:zer Tryz.prog 300=some (.agg #[.int .i64 0, .bool false]):=by kernel_rfl
theorem QnB:Vx Tryz.prog 300 2=true:=by kernel_rfl
theorem WK:bld Tryz.prog 300 [(0,1),(1,1)] (.pr .int .bool):=UI Tryz.underlying300 (by kernel_rfl) Qbx
theorem Qks:Qt Tryz.prog 20:=fun args W=>Qi Tryz.func20 (by kernel_rfl) rfl args W
theorem Qep:Qt Tryz.prog 21:=fun args W=>Qi Tryz.func21 (by kernel_rfl) rfl args W
theorem Jd:Qt Tryz.prog 22:=fun args W=>Qi Tryz.func22 (by kernel_rfl) rfl args W
theorem K4:Qt Tryz.prog 25:=fun args W=>Qi Tryz.func25 (by kernel_rfl) rfl args W
theorem Qk3:Qt Tryz.prog 28:=fun args W=>Qi Tryz.func28 (by kernel_rfl) rfl args W
theorem Qat:Qt Tryz.prog 31:=fun args W=>Qi Tryz.func31 (by kernel_rfl) rfl args W
theorem QdD:Qt Tryz.prog 32:=fun args W=>Qi Tryz.func32 (by kernel_rfl) rfl args W
theorem Qkl:Qt Tryz.prog 33:=fun args W=>Qi Tryz.func33 (by kernel_rfl) rfl args W
theorem QdZ:Qt Tryz.prog 34:=fun args W=>Qi Tryz.func34 (by kernel_rfl) rfl args W
theorem QkT:Qt Tryz.prog 46:=fun args W=>Qi Tryz.func46 (by kernel_rfl) rfl args W
theorem Qd3:Qt Tryz.prog 47:=fun args W=>Qi Tryz.func47 (by kernel_rfl) rfl args W
theorem Qeg:Qt Tryz.prog 48:=fun args W=>Qi Tryz.func48 (by kernel_rfl) rfl args W
theorem Qla:Qt Tryz.prog 63:=fun args W=>Qi Tryz.func63 (by kernel_rfl) rfl args W
theorem Qko:Qt Tryz.prog 69:=fun args W=>Qi Tryz.func69 (by kernel_rfl) rfl args W
theorem Qak:Qt Tryz.prog 70:=fun args W=>Qi Tryz.func70 (by kernel_rfl) rfl args W
theorem WG:Qt Tryz.prog 71:=fun args W=>Qi Tryz.func71 (by kernel_rfl) rfl args W
theorem Qlj:Qt Tryz.prog 76:=fun args W=>Qi Tryz.func76 (by kernel_rfl) rfl args W
theorem Qef:Qt Tryz.prog 77:=fun args W=>Qi Tryz.func77 (by kernel_rfl) rfl args W
theorem Vs:Qt Tryz.prog 80:=fun args W=>Qi Tryz.func80 (by kernel_rfl) rfl args W
theorem QkD:Qt Tryz.prog 81:=fun args W=>Qi Tryz.func81 (by kernel_rfl) rfl args W
theorem Qao:Qt Tryz.prog 82:=fun args W=>Qi Tryz.func82 (by kernel_rfl) rfl args W
theorem QkO:Qt Tryz.prog 83:=fun args W=>Qi Tryz.func83 (by kernel_rfl) rfl args W
theorem QdN:Qt Tryz.prog 84:=fun args W=>Qi Tryz.func84 (by kernel_rfl) rfl args W
theorem Qle:Qt Tryz.prog 85:=fun args W=>Qi Tryz.func85 (by kernel_rfl) rfl args W
theorem QkS:Qt Tryz.prog 86:=fun args W=>Qi Tryz.func86 (by kernel_rfl) rfl args W
theorem QkV:Qt Tryz.prog 87:=fun args W=>Qi Tryz.func87 (by kernel_rfl) rfl args W
theorem QkY:Qt Tryz.prog 88:=fun args W=>Qi Tryz.func88 (by kernel_rfl) rfl args W
theorem Qlb:Qt Tryz.prog 99:=fun args W=>Qi Tryz.func99 (by kernel_rfl) rfl args W
theorem QhD:Qt Tryz.prog 100:=fun args W=>Qi Tryz.func100 (by kernel_rfl) rfl args W
theorem Qg7:Qt Tryz.prog 101:=fun args W=>Qi Tryz.func101 (by kernel_rfl) rfl args W
theorem QiE:Qt Tryz.prog 102:=fun args W=>Qi Tryz.func102 (by kernel_rfl) rfl args W
theorem Qii:Qt Tryz.prog 103:=fun args W=>Qi Tryz.func103 (by kernel_rfl) rfl args W
theorem U4:Qt Tryz.prog 121:=fun args W=>Qi Tryz.func121 (by kernel_rfl) rfl args W
theorem QcN:Qt Tryz.prog 122:=fun args W=>Qi Tryz.func122 (by kernel_rfl) rfl args W
theorem QhF:Qt Tryz.prog 123:=fun args W=>Qi Tryz.func123 (by kernel_rfl) rfl args W
theorem QiO:Qt Tryz.prog 124:=fun args W=>Qi Tryz.func124 (by kernel_rfl) rfl args W
theorem Qiz:Qt Tryz.prog 125:=fun args W=>Qi Tryz.func125 (by kernel_rfl) rfl args W
theorem Qil:Qt Tryz.prog 126:=fun args W=>Qi Tryz.func126 (by kernel_rfl) rfl args W
theorem QcU:Qt Tryz.prog 127:=fun args W=>Qi Tryz.func127 (by kernel_rfl) rfl args W
theorem Qc9:Qt Tryz.prog 128:=fun args W=>Qi Tryz.func128 (by kernel_rfl) rfl args W
theorem Qip:Qt Tryz.prog 131:=fun args W=>Qi Tryz.func131 (by kernel_rfl) rfl args W
theorem Qhy:Qt Tryz.prog 132:=fun args W=>Qi Tryz.func132 (by kernel_rfl) rfl args W
theorem Qcs:Qt Tryz.prog 133:=fun args W=>Qi Tryz.func133 (by kernel_rfl) rfl args W
theorem QhJ:Qt Tryz.prog 134:=fun args W=>Qi Tryz.func134 (by kernel_rfl) rfl args W
theorem UQ:Qt Tryz.prog 135:=fun args W=>Qi Tryz.func135 (by kernel_rfl) rfl args W
theorem UL:Qt Tryz.prog 136:=fun args W=>Qi Tryz.func136 (by kernel_rfl) rfl args W
theorem QhL:Qt Tryz.prog 137:=fun args W=>Qi Tryz.func137 (by kernel_rfl) rfl args W
theorem Qh4:Qt Tryz.prog 138:=fun args W=>Qi Tryz.func138 (by kernel_rfl) rfl args W
theorem Qdj:Qt Tryz.prog 139:=fun args W=>Qi Tryz.func139 (by kernel_rfl) rfl args W
theorem QbU:Qt Tryz.prog 140:=fun args W=>Qi Tryz.func140 (by kernel_rfl) rfl args W
theorem Qc8:Qt Tryz.prog 141:=fun args W=>Qi Tryz.func141 (by kernel_rfl) rfl args W
theorem QhX:Qt Tryz.prog 142:=fun args W=>Qi Tryz.func142 (by kernel_rfl) rfl args W
theorem Qir:Qt Tryz.prog 143:=fun args W=>Qi Tryz.func143 (by kernel_rfl) rfl args W
theorem Qcz:Qt Tryz.prog 144:=fun args W=>Qi Tryz.func144 (by kernel_rfl) rfl args W
theorem Qhc:Qt Tryz.prog 145:=fun args W=>Qi Tryz.func145 (by kernel_rfl) rfl args W
theorem Qhg:Qt Tryz.prog 146:=fun args W=>Qi Tryz.func146 (by kernel_rfl) rfl args W
theorem QhB:Qt Tryz.prog 148:=fun args W=>Qi Tryz.func148 (by kernel_rfl) rfl args W
theorem WI:Qt Tryz.prog 149:=fun args W=>Qi Tryz.func149 (by kernel_rfl) rfl args W
theorem Qh8:Qt Tryz.prog 150:=fun args W=>Qi Tryz.func150 (by kernel_rfl) rfl args W
theorem Qh5:Qt Tryz.prog 151:=fun args W=>Qi Tryz.func151 (by kernel_rfl) rfl args W
theorem Qid:Qt Tryz.prog 152:=fun args W=>Qi Tryz.func152 (by kernel_rfl) rfl args W
theorem Qin:Qt Tryz.prog 153:=fun args W=>Qi Tryz.func153 (by kernel_rfl) rfl args W
theorem YO:Qt Tryz.prog 154:=fun args W=>Qi Tryz.func154 (by kernel_rfl) rfl args W
theorem Qhx:Qt Tryz.prog 155:=fun args W=>Qi Tryz.func155 (by kernel_rfl) rfl args W
theorem Qcy:Qt Tryz.prog 156:=fun args W=>Qi Tryz.func156 (by kernel_rfl) rfl args W
theorem Qhd:Qt Tryz.prog 157:=fun args W=>Qi Tryz.func157 (by kernel_rfl) rfl args W
theorem Qcm:Qt Tryz.prog 158:=fun args W=>Qi Tryz.func158 (by kernel_rfl) rfl args W
theorem QhS:Qt Tryz.prog 159:=fun args W=>Qi Tryz.func159 (by kernel_rfl) rfl args W
theorem QiG:Qt Tryz.prog 160:=fun args W=>Qi Tryz.func160 (by kernel_rfl) rfl args W
theorem QcL:Qt Tryz.prog 161:=fun args W=>Qi Tryz.func161 (by kernel_rfl) rfl args W
theorem QcD:Qt Tryz.prog 162:=fun args W=>Qi Tryz.func162 (by kernel_rfl) rfl args W
theorem QhW:Qt Tryz.prog 168:=fun args W=>Qi Tryz.func168 (by kernel_rfl) rfl args W
theorem Qic:Qt Tryz.prog 179:=fun args W=>Qi Tryz.func179 (by kernel_rfl) rfl args W
theorem Qhu:Qt Tryz.prog 181:=fun args W=>Qi Tryz.func181 (by kernel_rfl) rfl args W
theorem Y9:Qt Tryz.prog 187:=fun args W=>Qi Tryz.func187 (by kernel_rfl) rfl args W
theorem QiD:Qt Tryz.prog 195:=fun args W=>Qi Tryz.func195 (by kernel_rfl) rfl args W
theorem JJ:Qt Tryz.prog 196:=fun args W=>Qi Tryz.func196 (by kernel_rfl) rfl args W
theorem UU:Qt Tryz.prog 197:=fun args W=>Qi Tryz.func197 (by kernel_rfl) rfl args W
theorem Qhb:Qt Tryz.prog 198:=fun args W=>Qi Tryz.func198 (by kernel_rfl) rfl args W
theorem Qib:Qt Tryz.prog 199:=fun args W=>Qi Tryz.func199 (by kernel_rfl) rfl args W
theorem QhR:Qt Tryz.prog 200:=fun args W=>Qi Tryz.func200 (by kernel_rfl) rfl args W
theorem Qdc:Qt Tryz.prog 201:=fun args W=>Qi Tryz.func201 (by kernel_rfl) rfl args W
theorem Qh0:Qt Tryz.prog 202:=fun args W=>Qi Tryz.func202 (by kernel_rfl) rfl args W
theorem Qg8:Qt Tryz.prog 203:=fun args W=>Qi Tryz.func203 (by kernel_rfl) rfl args W
theorem Qhj:Qt Tryz.prog 204:=fun args W=>Qi Tryz.func204 (by kernel_rfl) rfl args W
theorem Qcr:Qt Tryz.prog 205:=fun args W=>Qi Tryz.func205 (by kernel_rfl) rfl args W
theorem QhQ:Qt Tryz.prog 206:=fun args W=>Qi Tryz.func206 (by kernel_rfl) rfl args W
theorem QhK:Qt Tryz.prog 207:=fun args W=>Qi Tryz.func207 (by kernel_rfl) rfl args W
theorem Y8:Qt Tryz.prog 208:=fun args W=>Qi Tryz.func208 (by kernel_rfl) rfl args W
theorem Qb0:Qt Tryz.prog 209:=fun args W=>Qi Tryz.func209 (by kernel_rfl) rfl args W
theorem Qhw:Qt Tryz.prog 210:=fun args W=>Qi Tryz.func210 (by kernel_rfl) rfl args W
theorem Qcl:Qt Tryz.prog 211:=fun args W=>Qi Tryz.func211 (by kernel_rfl) rfl args W
theorem JH:Qt Tryz.prog 212:=fun args W=>Qi Tryz.func212 (by kernel_rfl) rfl args W
theorem Qit:Qt Tryz.prog 213:=fun args W=>Qi Tryz.func213 (by kernel_rfl) rfl args W
theorem Qda:Qt Tryz.prog 214:=fun args W=>Qi Tryz.func214 (by kernel_rfl) rfl args W
theorem QhM:Qt Tryz.prog 215:=fun args W=>Qi Tryz.func215 (by kernel_rfl) rfl args W
theorem Qik:Qt Tryz.prog 216:=fun args W=>Qi Tryz.func216 (by kernel_rfl) rfl args W
theorem Qhp:Qt Tryz.prog 217:=fun args W=>Qi Tryz.func217 (by kernel_rfl) rfl args W
theorem Qhz:Qt Tryz.prog 218:=fun args W=>Qi Tryz.func218 (by kernel_rfl) rfl args W
theorem JF:Qt Tryz.prog 219:=fun args W=>Qi Tryz.func219 (by kernel_rfl) rfl args W
theorem JP:Qt Tryz.prog 220:=fun args W=>Qi Tryz.func220 (by kernel_rfl) rfl args W
theorem Qij:Qt Tryz.prog 221:=fun args W=>Qi Tryz.func221 (by kernel_rfl) rfl args W
theorem Qiv:Qt Tryz.prog 224:=fun args W=>Qi Tryz.func224 (by kernel_rfl) rfl args W
theorem Qiu:Qt Tryz.prog 225:=fun args W=>Qi Tryz.func225 (by kernel_rfl) rfl args W
theorem QiA:Qt Tryz.prog 229:=fun args W=>Qi Tryz.func229 (by kernel_rfl) rfl args W
theorem JT:Qt Tryz.prog 256:=fun args W=>Qi Tryz.func256 (by kernel_rfl) rfl args W
theorem UO:Qt Tryz.prog 257:=fun args W=>Qi Tryz.func257 (by kernel_rfl) rfl args W
theorem QhN:Qt Tryz.prog 258:=fun args W=>Qi Tryz.func258 (by kernel_rfl) rfl args W
theorem J0:Qt Tryz.prog 259:=fun args W=>Qi Tryz.func259 (by kernel_rfl) rfl args W
theorem Qh6:Qt Tryz.prog 260:=fun args W=>Qi Tryz.func260 (by kernel_rfl) rfl args W
theorem X4:Qt Tryz.prog 261:=fun args W=>Qi Tryz.func261 (by kernel_rfl) rfl args W
theorem QiM:Qt Tryz.prog 262:=fun args W=>Qi Tryz.func262 (by kernel_rfl) rfl args W
theorem QhG:Qt Tryz.prog 263:=fun args W=>Qi Tryz.func263 (by kernel_rfl) rfl args W
theorem QiS:Qt Tryz.prog 264:=fun args W=>Qi Tryz.func264 (by kernel_rfl) rfl args W
theorem QiR:Qt Tryz.prog 265:=fun args W=>Qi Tryz.func265 (by kernel_rfl) rfl args W
theorem Qhl:Qt Tryz.prog 266:=fun args W=>Qi Tryz.func266 (by kernel_rfl) rfl args W
theorem QhI:Qt Tryz.prog 267:=fun args W=>Qi Tryz.func267 (by kernel_rfl) rfl args W
theorem QiH:Qt Tryz.prog 268:=fun args W=>Qi Tryz.func268 (by kernel_rfl) rfl args W
theorem QhA:Qt Tryz.prog 269:=fun args W=>Qi Tryz.func269 (by kernel_rfl) rfl args W
theorem J3:Qt Tryz.prog 270:=fun args W=>Qi Tryz.func270 (by kernel_rfl) rfl args W
theorem Qiy:Qt Tryz.prog 271:=fun args W=>Qi Tryz.func271 (by kernel_rfl) rfl args W
theorem Qiq:Qt Tryz.prog 272:=fun args W=>Qi Tryz.func272 (by kernel_rfl) rfl args W
theorem QiF:Qt Tryz.prog 273:=fun args W=>Qi Tryz.func273 (by kernel_rfl) rfl args W
theorem Qiw:Qt Tryz.prog 274:=fun args W=>Qi Tryz.func274 (by kernel_rfl) rfl args W
theorem QiU:Qt Tryz.prog 290:=fun args W=>Qi Tryz.func290 (by kernel_rfl) rfl args W
theorem QcY:Qt Tryz.prog 291:=fun args W=>Qi Tryz.func291 (by kernel_rfl) rfl args W
theorem Qho:Qt Tryz.prog 293:=fun args W=>Qi Tryz.func293 (by kernel_rfl) rfl args W
theorem Xo:Qt Tryz.prog 294:=fun args W=>Qi Tryz.func294 (by kernel_rfl) rfl args W
theorem QhH:Qt Tryz.prog 295:=fun args W=>Qi Tryz.func295 (by kernel_rfl) rfl args W
theorem Qh9:Qt Tryz.prog 319:=fun args W=>Qi Tryz.func319 (by kernel_rfl) rfl args W
theorem QiK:Qt Tryz.prog 320:=fun args W=>Qi Tryz.func320 (by kernel_rfl) rfl args W
theorem Qdm:Qt Tryz.prog 321:=fun args W=>Qi Tryz.func321 (by kernel_rfl) rfl args W
end Go.Proofs.YtnakmhfjafecpaaGreat
namespace Go.Proofs.YtnakmhfjafecpaaGreat
open Go.RowKit
@[reducible] def Is (pv:PV) (T:Tab):PV→Tab→Prop:=fun p T'=>p=pv∧T'=T
def FrL (s:St)(n:Nat):List Nat→Prop
  | []=>True
  | q :: l=>Fresh s (n+q)∧FrL s n l
theorem FrL.get {s:St}{n:Nat}{l:List Nat}(h:FrL s n l):∀q∈l,Fresh s (n+q):=by
  induction l with
  | nil=>simp
  | cons q l ih=>
    intro r hr
    rcases List.mem_cons.1 hr with rfl | hr
    · exact h.1
    · exact ih h.2 r hr
section
variable {A:Amb}{P:Program}{s:St}
variable {f:FuncId}{xs:List Operand}{tys:Array TypeId}{args:List (Bool×List LV)}{d:Nat}{ty:TypeId}{pos:String}{af:Array Edge}{g:Option (Nat×Bool)}{pv:PV}{T:Tab}
theorem Ya (n:Nat)(hc:FC P f args [] 0 (Is pv T))(hE:Qt P f)(ha:EvL A s xs args)(hcl:XH pv T=true)(hn:Nat.blt d A.n=true)(hfr:FrL s n (Yq T))(hk0:A.k0≤n):
    Does A P ⟨some d, .call ⟨.value (.func f),xs.toArray,tys⟩,ty,pos,af,g⟩ s (s.back d n pv T):=
  fun a w K Q r hK=>DoesT.call n hc hE ha (by rintro _ _ ⟨rfl,rfl⟩; exact hcl) (by rintro _ _ ⟨rfl,rfl⟩ q ⟨e,hq⟩; exact hfr.get q (Z7 hq).1) hk0 hn a w K Q r (by
    rintro s' a' w' ⟨_,_,⟨rfl,rfl⟩,rfl⟩ r'
    exact hK _ _ r')
theorem WT (n:Nat)(hc:FC P f args [] 0 (Is pv T))(hE:Qt P f)(ha:EvLB A s xs args)(hcl:XH pv T=true)(hf:(pv.fl&&T.fl)=true)(hn:Nat.blt d A.n=true)(hfr:FrL s n (Yq T))(hk0:A.k0≤n):
    Does A P ⟨some d, .call ⟨.value (.func f),xs.toArray,tys⟩,ty,pos,af,g⟩ s (s.back d n pv T):=
  fun a w K Q r hK=>VS n hc hE ha (by rintro _ _ ⟨rfl,rfl⟩; exact hcl) (by rintro _ _ ⟨rfl,rfl⟩; simpa using hf) (by rintro _ _ ⟨rfl,rfl⟩ q ⟨e,hq⟩; exact hfr.get q (Z7 hq).1) hk0 hn a w K Q r (by
    rintro s' a' w' ⟨_,_,⟨rfl,rfl⟩,rfl⟩ r'
    exact hK _ _ r')
theorem Q2 {fn:Func}{k:Nat}(pv:PV)(T':Tab)(ρ:List (Nat×Nat)){pv0:PV}(h1:Res A P fn s pv0)(h0:pv0=pv.ren (rn ρ))(h2:HasE ⟨[],s.tab⟩ ρ T')(h3:KH (T'.map fun x=>rn ρ x.1)=true)(h4:idB ρ k=true):fin A P fn (QkU (Is pv T') k) .ret s:=
  Qe6 pv T' ρ (h0▸h1) h2 h3 h4 ⟨rfl,rfl⟩
end
def LV.thaw (T:Tab):LV→LV
  | .ref q=>match T.ent q with
    | some (.arr E e xs)=> .dat (.sl E e) xs
    | _=> .ref q
  | l=>l
def PV.thaw (T:Tab):PV→PV
  | .cm b ls=> .cm b (ls.map (LV.thaw T))
  | .tup cs=> .tup (cs.map fun c=>(c.1,c.2.map (LV.thaw T)))
section
variable {T:Tab}{gh:Gh}{w:World}
theorem LVR.thaw (cx:Cx T gh w){l:LV}{v:Value}(h:LVR T.al gh w l v):LVR (Tab.al []) ⟨gh.h,gh.f,fun g=>gh.N g∨∃q,T.al q∧g∈gh.f q⟩ w (l.thaw T) v:=by
  have hm:∀l,LVR T.al gh w l v→LVR (Tab.al []) ⟨gh.h,gh.f,fun g=>gh.N g∨∃q,T.al q∧g∈gh.f q⟩ w l v:=fun l h=>h.mono (fun q _ h=>absurd h (Yy q)) fun g hg=>⟨.inl hg,rfl⟩
  cases l with
  | ref q=>
    simp only[LV.thaw]
    split
    · rename_i E e xs he
      have hv:v=gh.h q:=h ⟨_,he⟩
      have hO:Own (.sl E e) w (gh.f q) [gh.h q] xs:=cx.en q _ he
      rw[hv]
      exact hO.rd fun g hg=> .inr ⟨q,⟨_,he⟩,hg⟩
    · exact hm _ h
  | _=>exact hm _ h
theorem LVs.thaw (cx:Cx T gh w){ls:List LV}{vs:List Value}(h:LVs T.al gh w ls vs):LVs (Tab.al []) ⟨gh.h,gh.f,fun g=>gh.N g∨∃q,T.al q∧g∈gh.f q⟩ w (ls.map (LV.thaw T)) vs:=by
  induction ls generalizing vs with
  | nil=>exact h
  | cons l ls ih=>obtain ⟨v,vs',rfl,h1,h2⟩:=h; exact ⟨v,_,rfl,h1.thaw cx,ih h2⟩
theorem CmR.thaw (cx:Cx T gh w){c:Bool×List LV}{v:Value}(h:CmR T.al gh w c v):CmR (Tab.al []) ⟨gh.h,gh.f,fun g=>gh.N g∨∃q,T.al q∧g∈gh.f q⟩ w (c.1,c.2.map (LV.thaw T)) v:=by
  obtain ⟨b,ls⟩:=c
  cases b with
  | true=>obtain ⟨vs,rfl,h1⟩:=h; exact ⟨vs,rfl,h1.thaw cx⟩
  | false=>obtain ⟨l,rfl,h1⟩:=h; exact ⟨_,rfl,h1.thaw cx⟩
theorem PVR.thaw (cx:Cx T gh w){pv:PV}{v:Value}(h:PVR T.al gh w pv v):PVR (Tab.al []) ⟨gh.h,gh.f,fun g=>gh.N g∨∃q,T.al q∧g∈gh.f q⟩ w (pv.thaw T) v:=by
  cases pv with
  | cm b ls=>exact CmR.thaw cx (c:=(b,ls)) h
  | tup cs=>
    obtain ⟨vs,rfl,h1⟩:=h
    refine ⟨vs,rfl, ?_⟩
    induction cs generalizing vs with
    | nil=>exact h1
    | cons c cs ih=>obtain ⟨v,vs',rfl,h2,h3⟩:=h1; exact ⟨v,_,rfl,h2.thaw cx,ih _ h3⟩
end
theorem Qf3 {A:Amb}{P:Program}{ops:Array Oper}{o:Oper}{s s1 s':St}(hg:o.guard=none)(h:Does A P o s s1)(e:s1=s'):Acts A P ops o s s':=e▸Acts.of hg h
theorem QkQ {A:Amb}{P:Program}{ops:Array Oper}{o:Oper}{s s1 s':St}{j d:Nat}{b:Bool}(hg:o.guard=some (j,b))(hd:(ops[j]?).bind (·.dst)=some d)(hb:lk s.tm d=some (lf (dB b)))(h:Does A P o s s1)(e:s1=s'):Acts A P ops o s s':=e▸Qm5 hg hd hb h
section
variable {A:Amb}{s:St}
theorem Wk.nilS (t i:Nat)(E:TypeId)(e:Ty)(hi:lk s.tm i=some (lf (.val (.slice none 0 0))))(hfr:Fresh s t)(hk0:A.k0≤t):Wk A s ⟨(i,lf (.ref t)) :: s.tm,(t,some (.arr E e [])) :: s.tab⟩:=fun a w r=>by
  obtain ⟨gh,r⟩:=r
  obtain ⟨v,h1,l,h2,h3⟩:=r.tm i _ hi
  simp only[List.cons.injEq,and_true] at h2
  subst h2
  have hv:v= .slice none 0 0:=h3
  have r2:=r.make t hfr hk0 [] (by simp) (ZO w) (fun _ _ _=>rfl) (E:=E) (e:=e) (xs:=[]) (hv:= .slice none 0 0) (fp:=[]) (.inl ⟨rfl,rfl,rfl⟩) List.nodup_nil (by simp)
  exact ⟨_,r2.know h1 (pv:=lf (.ref t)) ⟨_,rfl,fun _=>by simp[hv]⟩⟩
theorem QR (t:Nat){p off:Nat}{E':TypeId}{cs:List LV}(E:TypeId)(e:Ty)(hp:s.tab.ent p=some (.box E' cs))(ho:cs[off]? =some (.val (.slice none 0 0)))(hfr:Fresh s t)(hk0:A.k0≤t):
    Wk A s ⟨s.tm,(p,some (.box E' (splice cs off [.ref t]))) :: (t,some (.arr E e [])) :: s.tab⟩:=fun a w r=>by
  obtain ⟨gh,r⟩:=r
  have hne:p≠t:=fun h=>hfr.al ⟨_,h▸hp⟩
  obtain ⟨g,cur,h1,h2,h3,h4⟩:=r.cx.en p _ hp
  obtain ⟨v,h5,h6⟩:=h4.nth ho
  have hv:v= .slice none 0 0:=h6
  have r2:=r.make t hfr hk0 [] (by simp) (ZO w) (fun _ _ _=>rfl) (E:=E) (e:=e) (xs:=[]) (hv:= .slice none 0 0) (fp:=[]) (.inl ⟨rfl,rfl,rfl⟩) List.nodup_nil (by simp)
  have hp':Tab.ent ((t,some (.arr E e [])) :: (KC []++s.tab)) p=some (.box E' cs):=by rw[Qp,if_neg hne]; exact hp
  obtain ⟨g',cur',k1,k2,k3,k4⟩:=r2.cx.en p _ hp'
  simp only[if_neg hne] at k1 k2
  rw[h1] at k1
  cases k1
  rw[h3] at k3
  cases k3
  have hD:LVs (Tab.al ((t,some (.arr E e [])) :: (KC []++s.tab))) ⟨fun q=>if q=t then .slice none 0 0 else gh.h q,fun q=>if q=t then [] else gh.f q,gh.N⟩ w [.ref t] [v]:=⟨v,[],rfl,fun _=>by simp[hv],rfl⟩
  have hS:=k4.splice hD (off:=off)
  have hsame:cur.toList.take off++[v]++cur.toList.drop (off+[v].length)=cur.toList:=by
    have hl:=(List.getElem?_eq_some_iff.1 h5)
    obtain ⟨hl,hl2⟩:=hl
    conv=>rhs; rw[← List.take_append_drop (off+1) cur.toList,List.take_succ_eq_append_getElem hl,hl2]
    rfl
  rw[hsame] at hS
  exact ⟨_,r2.mod hp' (ZO w) (fun _ _ _=>rfl) ⟨g,cur,by simp only[if_neg hne]; exact h1,by simp only[if_neg hne]; exact h2,h3,hS⟩⟩
end
end Go.Proofs.YtnakmhfjafecpaaGreat
