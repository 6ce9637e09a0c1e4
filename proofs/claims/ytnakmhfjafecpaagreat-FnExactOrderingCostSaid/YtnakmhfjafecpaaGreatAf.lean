/- Closed facts on the types and functions of the program. -/
import Derived.Test.YtnakmhfjafecpaaGreatProg
import Derived.Test.YtnakmhfjafecpaaGreatAe
import Derived.Test.YtnakmhfjafecpaaGreatOwn
set_option linter.unusedSimpArgs false
set_option linter.unusedVariables false
set_option linter.unusedSectionVars false
namespace Go.Proofs.YtnakmhfjafecpaaGreat
open Go.RowKit
theorem mixed:Tryz.prog.follows .mixedOrders=true:=by kernel_rfl
theorem QgD:Tryz.prog.underlying 3=some (.int .i64):=by kernel_rfl
theorem QO:tsh Tryz.prog 3=some (false,1):=by kernel_rfl
theorem Yf:zer Tryz.prog 3=some (.int .i64 0):=by kernel_rfl
theorem VB:WB Tryz.prog 3 1=true:=by kernel_rfl
theorem Qpr:(Tryz.prog.info? 3).map (fun i=>(i.zero,i.size,i.bytes))=some (some (.int .i64 0),1,8):=by kernel_rfl
theorem QgP:Tryz.prog.underlying 4=some .bool:=by kernel_rfl
theorem WW:tsh Tryz.prog 4=some (false,1):=by kernel_rfl
theorem Qn5:zer Tryz.prog 4=some (.bool false):=by kernel_rfl
theorem Hm:Tryz.prog.underlying 5=some (.int .u8):=by kernel_rfl
theorem QS:tsh Tryz.prog 5=some (false,1):=by kernel_rfl
theorem Qf8:zer Tryz.prog 5=some (.int .u8 0):=by kernel_rfl
theorem Qn7:(Tryz.prog.info? 5).map (fun i=>(i.zero,i.size,i.bytes))=some (some (.int .u8 0),1,1):=by kernel_rfl
theorem W9:Tryz.prog.underlying 9=some .string:=by kernel_rfl
theorem Ze:tsh Tryz.prog 9=some (false,1):=by kernel_rfl
theorem QiT:zer Tryz.prog 9=some (.string ByteArray.empty):=by kernel_rfl
theorem Qn3:WB Tryz.prog 9 1=true:=by kernel_rfl
theorem Qoc:(Tryz.prog.info? 9).map (fun i=>(i.zero,i.size,i.bytes))=some (some (.string ByteArray.empty),1,16):=by kernel_rfl
theorem QhS:tsh Tryz.prog 28=some (true,5):=by kernel_rfl
theorem Q1:Tryz.prog.underlying 30=some (.slice 106):=by kernel_rfl
theorem ZO:Tryz.prog.underlying 33=some (.slice 159):=by kernel_rfl
theorem Y7:tsh Tryz.prog 33=some (false,1):=by kernel_rfl
theorem XO:tsh Tryz.prog 35=some (true,2):=by kernel_rfl
theorem Qdi:fld Tryz.prog 35 0=some 0:=by kernel_rfl
theorem ZW:fld Tryz.prog 35 1=some 1:=by kernel_rfl
theorem H8:zer Tryz.prog 35=some (.agg #[.int .i64 0, .slice none 0 0]):=by kernel_rfl
theorem Qia:bld Tryz.prog 35 [(0,1),(1,1)] (.pr .int (.sl 159 (.pr (.sl 3 .int) (.sl 3 .int)))):=VP Tryz.underlying35 (by kernel_rfl) H8
theorem YQ:Tryz.prog.underlying 36=some (.slice 145):=by kernel_rfl
theorem QeI:tsh Tryz.prog 36=some (false,1):=by kernel_rfl
theorem X2:Tryz.prog.underlying 37=some (.slice 61):=by kernel_rfl
theorem Qim:tsh Tryz.prog 37=some (false,1):=by kernel_rfl
theorem Q9:tsh Tryz.prog 39=some (true,5):=by kernel_rfl
theorem ZP:fld Tryz.prog 39 0=some 0:=by kernel_rfl
theorem Hg:fld Tryz.prog 39 1=some 2:=by kernel_rfl
theorem QcA:fld Tryz.prog 39 2=some 3:=by kernel_rfl
theorem V7:fld Tryz.prog 39 3=some 4:=by kernel_rfl
theorem XH:zer Tryz.prog 39=some (.agg #[.int .i64 0, .slice none 0 0, .slice none 0 0, .slice none 0 0, .string ByteArray.empty]):=by kernel_rfl
theorem WY:bld Tryz.prog 39 [(0,2),(2,1),(3,1),(4,1)] (.pr (.pr .int (.sl 159 (.pr (.sl 3 .int) (.sl 3 .int)))) (.pr (.sl 145 (.pr .str .int)) (.pr (.sl 61 (.pr .int .bool)) .str))):=VP Tryz.underlying39 (by kernel_rfl) XH
theorem Zi:Tryz.prog.underlying 46=some (.slice 9):=by kernel_rfl
theorem Xe:tsh Tryz.prog 46=some (false,1):=by kernel_rfl
theorem Ks:Tryz.prog.underlying 57=some (.slice 179):=by kernel_rfl
theorem Qop:tsh Tryz.prog 57=some (false,1):=by kernel_rfl
theorem ZA:tsh Tryz.prog 59=some (true,3):=by kernel_rfl
theorem W8:fld Tryz.prog 59 1=some 1:=by kernel_rfl
theorem VR:zer Tryz.prog 59=some (.agg #[.slice none 0 0, .slice none 0 0, .slice none 0 0]):=by kernel_rfl
theorem KC:bld Tryz.prog 59 [(0,1),(1,1),(2,1)] (.pr (.sl 145 (.pr .str .int)) (.pr (.sl 9 .str) (.sl 179 (.pr .int (.pr .int (.pr .bool .int)))))):=VP Tryz.underlying59 (by kernel_rfl) VR
theorem Yr:tsh Tryz.prog 61=some (true,2):=by kernel_rfl
theorem QkT:fld Tryz.prog 61 0=some 0:=by kernel_rfl
theorem Qg1:fld Tryz.prog 61 1=some 1:=by kernel_rfl
theorem JY:zer Tryz.prog 61=some (.agg #[.int .i64 0, .bool false]):=by kernel_rfl
theorem QmJ:WB Tryz.prog 61 2=true:=by kernel_rfl
theorem QoB:bld Tryz.prog 61 [(0,1),(1,1)] (.pr .int .bool):=VP Tryz.underlying61 (by kernel_rfl) JY
theorem Uz:Tryz.prog.underlying 77=some (.slice 85):=by kernel_rfl
theorem QkZ:tsh Tryz.prog 83=some (true,3):=by kernel_rfl
theorem ZF:tsh Tryz.prog 85=some (true,3):=by kernel_rfl
theorem Qcn:fld Tryz.prog 85 0=some 0:=by kernel_rfl
theorem QcY:fld Tryz.prog 85 1=some 1:=by kernel_rfl
theorem Ql6:fld Tryz.prog 85 2=some 2:=by kernel_rfl
theorem Xj:zer Tryz.prog 85=some (.agg #[.int .i64 0, .int .i64 0, .bool false]):=by kernel_rfl
theorem Qls:WB Tryz.prog 85 3=true:=by kernel_rfl
theorem Qfu:bld Tryz.prog 85 [(0,1),(1,1),(2,1)] (.pr .int (.pr .int .bool)):=VP Tryz.underlying85 (by kernel_rfl) Xj
theorem Z6:Tryz.prog.underlying 96=some (.slice 226):=by kernel_rfl
theorem QbT:tsh Tryz.prog 96=some (false,1):=by kernel_rfl
theorem ZD:tsh Tryz.prog 98=some (true,2):=by kernel_rfl
theorem VY:fld Tryz.prog 98 0=some 0:=by kernel_rfl
theorem Wr:zer Tryz.prog 98=some (.agg #[.slice none 0 0, .slice none 0 0]):=by kernel_rfl
theorem JI:bld Tryz.prog 98 [(0,1),(1,1)] (.pr (.sl 9 .str) (.sl 226 (.pr .int (.pr .int .int)))):=VP Tryz.underlying98 (by kernel_rfl) Wr
theorem QE:Tryz.prog.underlying 106=some (.slice 3):=by kernel_rfl
theorem QI:tsh Tryz.prog 106=some (false,1):=by kernel_rfl
theorem Z9:zer Tryz.prog 106=some (.slice none 0 0):=by kernel_rfl
theorem Y5:WB Tryz.prog 106 1=true:=by kernel_rfl
theorem Qbi:Tryz.prog.underlying 143=some (.slice 4):=by kernel_rfl
theorem Z4:tsh Tryz.prog 145=some (true,2):=by kernel_rfl
theorem K1:zer Tryz.prog 145=some (.agg #[.string ByteArray.empty, .int .i64 0]):=by kernel_rfl
theorem Qbc:WB Tryz.prog 145 2=true:=by kernel_rfl
theorem Vr:tsh Tryz.prog 155=some (true,6):=by kernel_rfl
theorem Qd5:fld Tryz.prog 155 0=some 0:=by kernel_rfl
theorem Qbs:zer Tryz.prog 155=some (.agg #[.slice none 0 0, .slice none 0 0, .slice none 0 0, .int .i64 0, .int .i64 0, .bool false]):=by kernel_rfl
theorem Qnb:bld Tryz.prog 155 [(0,2),(2,1),(3,1),(4,1),(5,1)] (.pr (.pr (.sl 9 .str) (.sl 226 (.pr .int (.pr .int .int)))) (.pr (.sl 226 (.pr .int (.pr .int .int))) (.pr .int (.pr .int .bool)))):=VP Tryz.underlying155 (by kernel_rfl) Qbs
theorem Zh:tsh Tryz.prog 159=some (true,2):=by kernel_rfl
theorem Yo:fld Tryz.prog 159 0=some 0:=by kernel_rfl
theorem XY:fld Tryz.prog 159 1=some 1:=by kernel_rfl
theorem Vq:zer Tryz.prog 159=some (.agg #[.slice none 0 0, .slice none 0 0]):=by kernel_rfl
theorem QeR:WB Tryz.prog 159 2=true:=by kernel_rfl
theorem Qfc:bld Tryz.prog 159 [(0,1),(1,1)] (.pr (.sl 3 .int) (.sl 3 .int)):=VP Tryz.underlying159 (by kernel_rfl) Vq
theorem WF:tsh Tryz.prog 179=some (true,4):=by kernel_rfl
theorem QeE:fld Tryz.prog 179 0=some 0:=by kernel_rfl
theorem Qkb:fld Tryz.prog 179 1=some 1:=by kernel_rfl
theorem QaC:fld Tryz.prog 179 2=some 2:=by kernel_rfl
theorem QkD:fld Tryz.prog 179 3=some 3:=by kernel_rfl
theorem UE:zer Tryz.prog 179=some (.agg #[.int .i64 0, .int .i64 0, .bool false, .int .i64 0]):=by kernel_rfl
theorem Qju:WB Tryz.prog 179 4=true:=by kernel_rfl
theorem Qjt:bld Tryz.prog 179 [(0,1),(1,1),(2,1),(3,1)] (.pr .int (.pr .int (.pr .bool .int))):=VP Tryz.underlying179 (by kernel_rfl) UE
theorem QV:Tryz.prog.underlying 209=some (.slice 5):=by kernel_rfl
theorem Zr:tsh Tryz.prog 226=some (true,3):=by kernel_rfl
theorem Yu:zer Tryz.prog 226=some (.agg #[.int .i64 0, .int .i64 0, .int .i64 0]):=by kernel_rfl
theorem KI:WB Tryz.prog 226 3=true:=by kernel_rfl
theorem K0:bld Tryz.prog 226 [(0,1),(1,1),(2,1)] (.pr .int (.pr .int .int)):=VP Tryz.underlying226 (by kernel_rfl) Yu
theorem Qfv:Tryz.prog.underlying 282=some (.map 9 3):=by kernel_rfl
theorem Qi5:Tryz.prog.underlying 340=some (.map 9 4):=by kernel_rfl
theorem QdP:Qt Tryz.prog 11:=fun args W=>Qj Tryz.func11 (by kernel_rfl) rfl args W
theorem WM:Qt Tryz.prog 13:=fun args W=>Qj Tryz.func13 (by kernel_rfl) rfl args W
theorem QeF:Qt Tryz.prog 16:=fun args W=>Qj Tryz.func16 (by kernel_rfl) rfl args W
theorem Qeq:Qt Tryz.prog 36:=fun args W=>Qj Tryz.func36 (by kernel_rfl) rfl args W
theorem QkB:Qt Tryz.prog 40:=fun args W=>Qj Tryz.func40 (by kernel_rfl) rfl args W
theorem Qd6:Qt Tryz.prog 41:=fun args W=>Qj Tryz.func41 (by kernel_rfl) rfl args W
theorem QkS:Qt Tryz.prog 42:=fun args W=>Qj Tryz.func42 (by kernel_rfl) rfl args W
theorem Qke:Qt Tryz.prog 43:=fun args W=>Qj Tryz.func43 (by kernel_rfl) rfl args W
theorem Qj7:Qt Tryz.prog 44:=fun args W=>Qj Tryz.func44 (by kernel_rfl) rfl args W
theorem Qj1:Qt Tryz.prog 45:=fun args W=>Qj Tryz.func45 (by kernel_rfl) rfl args W
theorem Qav:Qt Tryz.prog 52:=fun args W=>Qj Tryz.func52 (by kernel_rfl) rfl args W
theorem Qj9:Qt Tryz.prog 53:=fun args W=>Qj Tryz.func53 (by kernel_rfl) rfl args W
theorem Qkx:Qt Tryz.prog 57:=fun args W=>Qj Tryz.func57 (by kernel_rfl) rfl args W
theorem Qkr:Qt Tryz.prog 71:=fun args W=>Qj Tryz.func71 (by kernel_rfl) rfl args W
theorem QkF:Qt Tryz.prog 77:=fun args W=>Qj Tryz.func77 (by kernel_rfl) rfl args W
theorem KX:Qt Tryz.prog 89:=fun args W=>Qj Tryz.func89 (by kernel_rfl) rfl args W
theorem Qed:Qt Tryz.prog 90:=fun args W=>Qj Tryz.func90 (by kernel_rfl) rfl args W
theorem Qaw:Qt Tryz.prog 91:=fun args W=>Qj Tryz.func91 (by kernel_rfl) rfl args W
theorem QjX:Qt Tryz.prog 92:=fun args W=>Qj Tryz.func92 (by kernel_rfl) rfl args W
theorem QeA:Qt Tryz.prog 93:=fun args W=>Qj Tryz.func93 (by kernel_rfl) rfl args W
theorem Qkd:Qt Tryz.prog 95:=fun args W=>Qj Tryz.func95 (by kernel_rfl) rfl args W
theorem Qea:Qt Tryz.prog 96:=fun args W=>Qj Tryz.func96 (by kernel_rfl) rfl args W
theorem Qku:Qt Tryz.prog 97:=fun args W=>Qj Tryz.func97 (by kernel_rfl) rfl args W
theorem QdK:Qt Tryz.prog 98:=fun args W=>Qj Tryz.func98 (by kernel_rfl) rfl args W
theorem W2:Qt Tryz.prog 106:=fun args W=>Qj Tryz.func106 (by kernel_rfl) rfl args W
theorem Qh2:Qt Tryz.prog 107:=fun args W=>Qj Tryz.func107 (by kernel_rfl) rfl args W
theorem QbM:Qt Tryz.prog 108:=fun args W=>Qj Tryz.func108 (by kernel_rfl) rfl args W
theorem Qhh:Qt Tryz.prog 109:=fun args W=>Qj Tryz.func109 (by kernel_rfl) rfl args W
theorem Qhy:Qt Tryz.prog 110:=fun args W=>Qj Tryz.func110 (by kernel_rfl) rfl args W
theorem JR:Qt Tryz.prog 113:=fun args W=>Qj Tryz.func113 (by kernel_rfl) rfl args W
theorem QcI:Qt Tryz.prog 114:=fun args W=>Qj Tryz.func114 (by kernel_rfl) rfl args W
theorem Qh3:Qt Tryz.prog 115:=fun args W=>Qj Tryz.func115 (by kernel_rfl) rfl args W
theorem QhU:Qt Tryz.prog 116:=fun args W=>Qj Tryz.func116 (by kernel_rfl) rfl args W
theorem JA:Qt Tryz.prog 117:=fun args W=>Qj Tryz.func117 (by kernel_rfl) rfl args W
theorem QcX:Qt Tryz.prog 128:=fun args W=>Qj Tryz.func128 (by kernel_rfl) rfl args W
theorem Qh1:Qt Tryz.prog 140:=fun args W=>Qj Tryz.func140 (by kernel_rfl) rfl args W
theorem Qh5:Qt Tryz.prog 141:=fun args W=>Qj Tryz.func141 (by kernel_rfl) rfl args W
theorem Qij:Qt Tryz.prog 142:=fun args W=>Qj Tryz.func142 (by kernel_rfl) rfl args W
theorem Qho:Qt Tryz.prog 143:=fun args W=>Qj Tryz.func143 (by kernel_rfl) rfl args W
theorem Qc7:Qt Tryz.prog 144:=fun args W=>Qj Tryz.func144 (by kernel_rfl) rfl args W
theorem JT:Qt Tryz.prog 145:=fun args W=>Qj Tryz.func145 (by kernel_rfl) rfl args W
theorem QhQ:Qt Tryz.prog 146:=fun args W=>Qj Tryz.func146 (by kernel_rfl) rfl args W
theorem Xl:Qt Tryz.prog 149:=fun args W=>Qj Tryz.func149 (by kernel_rfl) rfl args W
theorem Xf:Qt Tryz.prog 154:=fun args W=>Qj Tryz.func154 (by kernel_rfl) rfl args W
theorem QiL:Qt Tryz.prog 158:=fun args W=>Qj Tryz.func158 (by kernel_rfl) rfl args W
theorem QcG:Qt Tryz.prog 163:=fun args W=>Qj Tryz.func163 (by kernel_rfl) rfl args W
theorem JP:Qt Tryz.prog 164:=fun args W=>Qj Tryz.func164 (by kernel_rfl) rfl args W
theorem QbL:Qt Tryz.prog 165:=fun args W=>Qj Tryz.func165 (by kernel_rfl) rfl args W
theorem QcF:Qt Tryz.prog 166:=fun args W=>Qj Tryz.func166 (by kernel_rfl) rfl args W
theorem QhI:Qt Tryz.prog 167:=fun args W=>Qj Tryz.func167 (by kernel_rfl) rfl args W
theorem Qhb:Qt Tryz.prog 168:=fun args W=>Qj Tryz.func168 (by kernel_rfl) rfl args W
theorem QiJ:Qt Tryz.prog 169:=fun args W=>Qj Tryz.func169 (by kernel_rfl) rfl args W
theorem QiR:Qt Tryz.prog 170:=fun args W=>Qj Tryz.func170 (by kernel_rfl) rfl args W
theorem QhG:Qt Tryz.prog 174:=fun args W=>Qj Tryz.func174 (by kernel_rfl) rfl args W
theorem QhN:Qt Tryz.prog 175:=fun args W=>Qj Tryz.func175 (by kernel_rfl) rfl args W
theorem Qcs:Qt Tryz.prog 176:=fun args W=>Qj Tryz.func176 (by kernel_rfl) rfl args W
theorem Qh9:Qt Tryz.prog 177:=fun args W=>Qj Tryz.func177 (by kernel_rfl) rfl args W
theorem QbS:Qt Tryz.prog 178:=fun args W=>Qj Tryz.func178 (by kernel_rfl) rfl args W
theorem Qhd:Qt Tryz.prog 184:=fun args W=>Qj Tryz.func184 (by kernel_rfl) rfl args W
theorem Qct:Qt Tryz.prog 185:=fun args W=>Qj Tryz.func185 (by kernel_rfl) rfl args W
theorem QhB:Qt Tryz.prog 186:=fun args W=>Qj Tryz.func186 (by kernel_rfl) rfl args W
theorem QiF:Qt Tryz.prog 187:=fun args W=>Qj Tryz.func187 (by kernel_rfl) rfl args W
theorem Qiv:Qt Tryz.prog 188:=fun args W=>Qj Tryz.func188 (by kernel_rfl) rfl args W
theorem UO:Qt Tryz.prog 190:=fun args W=>Qj Tryz.func190 (by kernel_rfl) rfl args W
theorem QiN:Qt Tryz.prog 191:=fun args W=>Qj Tryz.func191 (by kernel_rfl) rfl args W
theorem Qb6:Qt Tryz.prog 192:=fun args W=>Qj Tryz.func192 (by kernel_rfl) rfl args W
theorem Qhm:Qt Tryz.prog 193:=fun args W=>Qj Tryz.func193 (by kernel_rfl) rfl args W
theorem QiE:Qt Tryz.prog 204:=fun args W=>Qj Tryz.func204 (by kernel_rfl) rfl args W
theorem QhD:Qt Tryz.prog 205:=fun args W=>Qj Tryz.func205 (by kernel_rfl) rfl args W
theorem Qhu:Qt Tryz.prog 216:=fun args W=>Qj Tryz.func216 (by kernel_rfl) rfl args W
theorem Qhk:Qt Tryz.prog 217:=fun args W=>Qj Tryz.func217 (by kernel_rfl) rfl args W
theorem JJ:Qt Tryz.prog 218:=fun args W=>Qj Tryz.func218 (by kernel_rfl) rfl args W
theorem Qcp:Qt Tryz.prog 220:=fun args W=>Qj Tryz.func220 (by kernel_rfl) rfl args W
theorem Qiw:Qt Tryz.prog 224:=fun args W=>Qj Tryz.func224 (by kernel_rfl) rfl args W
theorem QiQ:Qt Tryz.prog 226:=fun args W=>Qj Tryz.func226 (by kernel_rfl) rfl args W
theorem QcQ:Qt Tryz.prog 227:=fun args W=>Qj Tryz.func227 (by kernel_rfl) rfl args W
theorem Qhr:Qt Tryz.prog 228:=fun args W=>Qj Tryz.func228 (by kernel_rfl) rfl args W
theorem JU:Qt Tryz.prog 229:=fun args W=>Qj Tryz.func229 (by kernel_rfl) rfl args W
theorem JE:Qt Tryz.prog 230:=fun args W=>Qj Tryz.func230 (by kernel_rfl) rfl args W
theorem QhL:Qt Tryz.prog 242:=fun args W=>Qj Tryz.func242 (by kernel_rfl) rfl args W
theorem QcU:Qt Tryz.prog 243:=fun args W=>Qj Tryz.func243 (by kernel_rfl) rfl args W
theorem QiD:Qt Tryz.prog 244:=fun args W=>Qj Tryz.func244 (by kernel_rfl) rfl args W
theorem Qhi:Qt Tryz.prog 245:=fun args W=>Qj Tryz.func245 (by kernel_rfl) rfl args W
theorem Qhg:Qt Tryz.prog 246:=fun args W=>Qj Tryz.func246 (by kernel_rfl) rfl args W
theorem Qid:Qt Tryz.prog 247:=fun args W=>Qj Tryz.func247 (by kernel_rfl) rfl args W
theorem QhH:Qt Tryz.prog 254:=fun args W=>Qj Tryz.func254 (by kernel_rfl) rfl args W
theorem QhA:Qt Tryz.prog 255:=fun args W=>Qj Tryz.func255 (by kernel_rfl) rfl args W
theorem Qiz:Qt Tryz.prog 275:=fun args W=>Qj Tryz.func275 (by kernel_rfl) rfl args W
theorem QiI:Qt Tryz.prog 276:=fun args W=>Qj Tryz.func276 (by kernel_rfl) rfl args W
theorem QbK:Qt Tryz.prog 277:=fun args W=>Qj Tryz.func277 (by kernel_rfl) rfl args W
theorem Qhp:Qt Tryz.prog 283:=fun args W=>Qj Tryz.func283 (by kernel_rfl) rfl args W
theorem Qhl:Qt Tryz.prog 284:=fun args W=>Qj Tryz.func284 (by kernel_rfl) rfl args W
theorem QiM:Qt Tryz.prog 285:=fun args W=>Qj Tryz.func285 (by kernel_rfl) rfl args W
theorem Qii:Qt Tryz.prog 286:=fun args W=>Qj Tryz.func286 (by kernel_rfl) rfl args W
theorem QhE:Qt Tryz.prog 298:=fun args W=>Qj Tryz.func298 (by kernel_rfl) rfl args W
theorem QiP:Qt Tryz.prog 299:=fun args W=>Qj Tryz.func299 (by kernel_rfl) rfl args W
theorem Qdb:Qt Tryz.prog 301:=fun args W=>Qj Tryz.func301 (by kernel_rfl) rfl args W
theorem QbP:Qt Tryz.prog 302:=fun args W=>Qj Tryz.func302 (by kernel_rfl) rfl args W
theorem Qhc:Qt Tryz.prog 303:=fun args W=>Qj Tryz.func303 (by kernel_rfl) rfl args W
theorem QiG:Qt Tryz.prog 304:=fun args W=>Qj Tryz.func304 (by kernel_rfl) rfl args W
theorem Qca:Qt Tryz.prog 305:=fun args W=>Qj Tryz.func305 (by kernel_rfl) rfl args W
theorem QhO:Qt Tryz.prog 306:=fun args W=>Qj Tryz.func306 (by kernel_rfl) rfl args W
theorem JC:Qt Tryz.prog 322:=fun args W=>Qj Tryz.func322 (by kernel_rfl) rfl args W
theorem Qh0:Qt Tryz.prog 323:=fun args W=>Qj Tryz.func323 (by kernel_rfl) rfl args W
theorem Qda:Qt Tryz.prog 324:=fun args W=>Qj Tryz.func324 (by kernel_rfl) rfl args W
theorem UI:Qt Tryz.prog 325:=fun args W=>Qj Tryz.func325 (by kernel_rfl) rfl args W
end Go.Proofs.YtnakmhfjafecpaaGreat
namespace Go.Proofs.YtnakmhfjafecpaaGreat
open Go.RowKit
@[reducible] def Is (pv:PV) (T:Tab):PV→Tab→Prop:=fun p T'=>p=pv∧T'=T
def FrL (s:St)(n:Nat):List Nat→Prop
  | []=>True
  | q :: l=>Fresh s (n+q)∧FrL s n l
theorem FrL.get {s:St}{n:Nat}{l:List Nat}(h:FrL s n l):∀q∈l,Fresh s (n+q):=by
  induction l with
  | nil=>simp
  | cons q l ih=>
    intro r hr
    rcases List.mem_cons.1 hr with rfl | hr
    · exact h.1
    · exact ih h.2 r hr
section
variable {A:Amb}{P:Program}{s:St}
variable {f:FuncId}{xs:List Operand}{tys:Array TypeId}{args:List (Bool×List LV)}{d:Nat}{ty:TypeId}{pos:String}{af:Array Edge}{g:Option (Nat×Bool)}{pv:PV}{T:Tab}
theorem Q6 (n:Nat)(hc:FC P f args [] 0 (Is pv T))(hE:Qt P f)(ha:EvL A s xs args)(hcl:YC pv T=true)(hn:Nat.blt d A.n=true)(hfr:FrL s n (ZT T))(hk0:A.k0≤n):
    Does A P ⟨some d, .call ⟨.value (.func f),xs.toArray,tys⟩,ty,pos,af,g⟩ s (s.back d n pv T):=
  fun a w K Q r hK=>DoesT.call n hc hE ha (by rintro _ _ ⟨rfl,rfl⟩; exact hcl) (by rintro _ _ ⟨rfl,rfl⟩ q ⟨e,hq⟩; exact hfr.get q (ZC hq).1) hk0 hn a w K Q r (by
    rintro s' a' w' ⟨_,_,⟨rfl,rfl⟩,rfl⟩ r'
    exact hK _ _ r')
theorem Wo (n:Nat)(hc:FC P f args [] 0 (Is pv T))(hE:Qt P f)(ha:EvLB A s xs args)(hcl:YC pv T=true)(hf:(pv.fl&&T.fl)=true)(hn:Nat.blt d A.n=true)(hfr:FrL s n (ZT T))(hk0:A.k0≤n):
    Does A P ⟨some d, .call ⟨.value (.func f),xs.toArray,tys⟩,ty,pos,af,g⟩ s (s.back d n pv T):=
  fun a w K Q r hK=>Kt n hc hE ha (by rintro _ _ ⟨rfl,rfl⟩; exact hcl) (by rintro _ _ ⟨rfl,rfl⟩; simpa using hf) (by rintro _ _ ⟨rfl,rfl⟩ q ⟨e,hq⟩; exact hfr.get q (ZC hq).1) hk0 hn a w K Q r (by
    rintro s' a' w' ⟨_,_,⟨rfl,rfl⟩,rfl⟩ r'
    exact hK _ _ r')
theorem QF {fn:Func}{k:Nat}(pv:PV)(T':Tab)(ρ:List (Nat×Nat)){pv0:PV}(h1:Res A P fn s pv0)(h0:pv0=pv.ren (rn ρ))(h2:HasE ⟨[],s.tab⟩ ρ T')(h3:KA (T'.map fun x=>rn ρ x.1)=true)(h4:idB ρ k=true):fin A P fn (QkG (Is pv T') k) .ret s:=
  QeY pv T' ρ (h0▸h1) h2 h3 h4 ⟨rfl,rfl⟩
end
def LV.thaw (T:Tab):LV→LV
  | .ref q=>match T.ent q with
    | some (.arr E e xs)=> .dat (.sl E e) xs
    | _=> .ref q
  | l=>l
def PV.thaw (T:Tab):PV→PV
  | .cm b ls=> .cm b (ls.map (LV.thaw T))
  | .tup cs=> .tup (cs.map fun c=>(c.1,c.2.map (LV.thaw T)))
section
variable {T:Tab}{gh:Gh}{w:World}
theorem LVR.thaw (cx:Cx T gh w){l:LV}{v:Value}(h:LVR T.al gh w l v):LVR (Tab.al []) ⟨gh.h,gh.f,fun g=>gh.N g∨∃q,T.al q∧g∈gh.f q⟩ w (l.thaw T) v:=by
  have hm:∀l,LVR T.al gh w l v→LVR (Tab.al []) ⟨gh.h,gh.f,fun g=>gh.N g∨∃q,T.al q∧g∈gh.f q⟩ w l v:=fun l h=>h.mono (fun q _ h=>absurd h (Zv q)) fun g hg=>⟨.inl hg,rfl⟩
  cases l with
  | ref q=>
    simp only[LV.thaw]
    split
    · rename_i E e xs he
      have hv:v=gh.h q:=h ⟨_,he⟩
      have hO:Own (.sl E e) w (gh.f q) [gh.h q] xs:=cx.en q _ he
      rw[hv]
      exact hO.rd fun g hg=> .inr ⟨q,⟨_,he⟩,hg⟩
    · exact hm _ h
  | _=>exact hm _ h
theorem LVs.thaw (cx:Cx T gh w){ls:List LV}{vs:List Value}(h:LVs T.al gh w ls vs):LVs (Tab.al []) ⟨gh.h,gh.f,fun g=>gh.N g∨∃q,T.al q∧g∈gh.f q⟩ w (ls.map (LV.thaw T)) vs:=by
  induction ls generalizing vs with
  | nil=>exact h
  | cons l ls ih=>obtain ⟨v,vs',rfl,h1,h2⟩:=h; exact ⟨v,_,rfl,h1.thaw cx,ih h2⟩
theorem CmR.thaw (cx:Cx T gh w){c:Bool×List LV}{v:Value}(h:CmR T.al gh w c v):CmR (Tab.al []) ⟨gh.h,gh.f,fun g=>gh.N g∨∃q,T.al q∧g∈gh.f q⟩ w (c.1,c.2.map (LV.thaw T)) v:=by
  obtain ⟨b,ls⟩:=c
  cases b with
  | true=>obtain ⟨vs,rfl,h1⟩:=h; exact ⟨vs,rfl,h1.thaw cx⟩
  | false=>obtain ⟨l,rfl,h1⟩:=h; exact ⟨_,rfl,h1.thaw cx⟩
theorem PVR.thaw (cx:Cx T gh w){pv:PV}{v:Value}(h:PVR T.al gh w pv v):PVR (Tab.al []) ⟨gh.h,gh.f,fun g=>gh.N g∨∃q,T.al q∧g∈gh.f q⟩ w (pv.thaw T) v:=by
  cases pv with
  | cm b ls=>exact CmR.thaw cx (c:=(b,ls)) h
  | tup cs=>
    obtain ⟨vs,rfl,h1⟩:=h
    refine ⟨vs,rfl, ?_⟩
    induction cs generalizing vs with
    | nil=>exact h1
    | cons c cs ih=>obtain ⟨v,vs',rfl,h2,h3⟩:=h1; exact ⟨v,_,rfl,h2.thaw cx,ih _ h3⟩
end
theorem FC.frozenG {P:Program}{f:FuncId}{args:List (Bool×List LV)}{pv:PV}{T:Tab}(h:FC P f args [] 0 (Is pv T)):FC P f args [] 0 (Zq (pv.thaw T)):=fun gh w vs cx ha=>
  Calls.mono (h gh w vs cx ha) fun e' w' he=>by
    obtain ⟨v,pv',T',gh',rfl,⟨rfl,rfl⟩,cx',hp,fr,_⟩:=he
    refine ⟨v,_,[],_,rfl,⟨rfl,rfl⟩,We Zv _ _ fun g hg=> ?_,hp.thaw cx',⟨fr.gw,fr.kp,fun g hg=> ?_,fun q hq=>absurd hq (Zv q)⟩,fun q hq=>absurd hq (by omega)⟩
    · rcases hg with hg | ⟨q, hq, hg⟩
      · exact cx'.nl g hg
      · exact cx'.lt hq g hg
    · rcases hg with hg | ⟨q, hq, hg⟩
      · exact fr.nn g hg
      · rcases fr.ox q hq g hg with h | ⟨q', h, _⟩
        · exact .inr (.inl h)
        · exact absurd h (Zv q')
theorem Qf5 {A:Amb}{P:Program}{ops:Array Oper}{o:Oper}{s s1 s':St}(hg:o.guard=none)(h:Does A P o s s1)(e:s1=s'):Acts A P ops o s s':=e▸Acts.of hg h
theorem QjW {A:Amb}{P:Program}{ops:Array Oper}{o:Oper}{s s1 s':St}{j d:Nat}{b:Bool}(hg:o.guard=some (j,b))(hd:(ops[j]?).bind (·.dst)=some d)(hb:lk s.tm d=some (lf (dB b)))(h:Does A P o s s1)(e:s1=s'):Acts A P ops o s s':=e▸Qlk hg hd hb h
section
variable {A:Amb}{s:St}
theorem Wk.nilS (t i:Nat)(E:TypeId)(e:Ty)(hi:lk s.tm i=some (lf (.val (.slice none 0 0))))(hfr:Fresh s t)(hk0:A.k0≤t):Wk A s ⟨(i,lf (.ref t)) :: s.tm,(t,some (.arr E e [])) :: s.tab⟩:=fun a w r=>by
  obtain ⟨gh,r⟩:=r
  obtain ⟨v,h1,l,h2,h3⟩:=r.tm i _ hi
  simp only[List.cons.injEq,and_true] at h2
  subst h2
  have hv:v= .slice none 0 0:=h3
  have r2:=r.make t hfr hk0 [] (by simp) (Zl w) (fun _ _ _=>rfl) (E:=E) (e:=e) (xs:=[]) (hv:= .slice none 0 0) (fp:=[]) (.inl ⟨rfl,rfl,rfl⟩) List.nodup_nil (by simp)
  exact ⟨_,r2.know h1 (pv:=lf (.ref t)) ⟨_,rfl,fun _=>by simp[hv]⟩⟩
theorem QR (t:Nat){p off:Nat}{E':TypeId}{cs:List LV}(E:TypeId)(e:Ty)(hp:s.tab.ent p=some (.box E' cs))(ho:cs[off]? =some (.val (.slice none 0 0)))(hfr:Fresh s t)(hk0:A.k0≤t):
    Wk A s ⟨s.tm,(p,some (.box E' (splice cs off [.ref t]))) :: (t,some (.arr E e [])) :: s.tab⟩:=fun a w r=>by
  obtain ⟨gh,r⟩:=r
  have hne:p≠t:=fun h=>hfr.al ⟨_,h▸hp⟩
  obtain ⟨g,cur,h1,h2,h3,h4⟩:=r.cx.en p _ hp
  obtain ⟨v,h5,h6⟩:=h4.nth ho
  have hv:v= .slice none 0 0:=h6
  have r2:=r.make t hfr hk0 [] (by simp) (Zl w) (fun _ _ _=>rfl) (E:=E) (e:=e) (xs:=[]) (hv:= .slice none 0 0) (fp:=[]) (.inl ⟨rfl,rfl,rfl⟩) List.nodup_nil (by simp)
  have hp':Tab.ent ((t,some (.arr E e [])) :: (Wz []++s.tab)) p=some (.box E' cs):=by rw[Qi,if_neg hne]; exact hp
  obtain ⟨g',cur',k1,k2,k3,k4⟩:=r2.cx.en p _ hp'
  simp only[if_neg hne] at k1 k2
  rw[h1] at k1
  cases k1
  rw[h3] at k3
  cases k3
  have hD:LVs (Tab.al ((t,some (.arr E e [])) :: (Wz []++s.tab))) ⟨fun q=>if q=t then .slice none 0 0 else gh.h q,fun q=>if q=t then [] else gh.f q,gh.N⟩ w [.ref t] [v]:=⟨v,[],rfl,fun _=>by simp[hv],rfl⟩
  have hS:=k4.splice hD (off:=off)
  have hsame:cur.toList.take off++[v]++cur.toList.drop (off+[v].length)=cur.toList:=by
    have hl:=(List.getElem?_eq_some_iff.1 h5)
    obtain ⟨hl,hl2⟩:=hl
    conv=>rhs; rw[← List.take_append_drop (off+1) cur.toList,List.take_succ_eq_append_getElem hl,hl2]
    rfl
  rw[hsame] at hS
  exact ⟨_,r2.mod hp' (Zl w) (fun _ _ _=>rfl) ⟨g,cur,by simp only[if_neg hne]; exact h1,by simp only[if_neg hne]; exact h2,h3,hS⟩⟩
end
end Go.Proofs.YtnakmhfjafecpaaGreat
