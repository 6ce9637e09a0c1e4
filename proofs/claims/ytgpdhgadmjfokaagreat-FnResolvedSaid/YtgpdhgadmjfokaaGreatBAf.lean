/- Closed facts on the types and functions of the program. -/
import Derived.Test.YtgpdhgadmjfokaaGreatProg
import Derived.Test.YtgpdhgadmjfokaaGreatBAe
import Derived.Test.YtgpdhgadmjfokaaGreatBStr
set_option linter.unusedSimpArgs false
set_option linter.unusedVariables false
set_option linter.unusedSectionVars false
namespace Go.Proofs.YtgpdhgadmjfokaaGreat
open Go.RowKit
theorem mixed:Tryz.prog.follows .mixedOrders=true:=by kernel_rfl
theorem Uu:Tryz.prog.underlying 3=some (.int .i64):=by kernel_rfl
theorem Yw:tsh Tryz.prog 3=some (false,1):=by kernel_rfl
theorem Yj:zer Tryz.prog 3=some (.int .i64 0):=by kernel_rfl
theorem Y4:WH Tryz.prog 3 1=true:=by kernel_rfl
theorem Qn8:(Tryz.prog.info? 3).map (fun i=>(i.zero,i.size,i.bytes))=some (some (.int .i64 0),1,8):=by kernel_rfl
theorem Jr:Tryz.prog.underlying 4=some .bool:=by kernel_rfl
theorem HR:tsh Tryz.prog 4=some (false,1):=by kernel_rfl
theorem Qyi:zer Tryz.prog 4=some (.bool false):=by kernel_rfl
theorem QvJ:(Tryz.prog.info? 4).map (fun i=>(i.zero,i.size,i.bytes))=some (some (.bool false),1,1):=by kernel_rfl
theorem Vl:Tryz.prog.underlying 5=some (.int .u8):=by kernel_rfl
theorem Zd:tsh Tryz.prog 5=some (false,1):=by kernel_rfl
theorem Qfc:zer Tryz.prog 5=some (.int .u8 0):=by kernel_rfl
theorem QvB:WH Tryz.prog 5 1=true:=by kernel_rfl
theorem QvF:(Tryz.prog.info? 5).map (fun i=>(i.zero,i.size,i.bytes))=some (some (.int .u8 0),1,1):=by kernel_rfl
theorem Zf:Tryz.prog.underlying 9=some .string:=by kernel_rfl
theorem U1:tsh Tryz.prog 9=some (false,1):=by kernel_rfl
theorem Va:zer Tryz.prog 9=some (.string ByteArray.empty):=by kernel_rfl
theorem Js:WH Tryz.prog 9 1=true:=by kernel_rfl
theorem Qyg:(Tryz.prog.info? 9).map (fun i=>(i.zero,i.size,i.bytes))=some (some (.string ByteArray.empty),1,16):=by kernel_rfl
theorem ZD:Tryz.prog.underlying 22=some (.slice 5):=by kernel_rfl
theorem JT:Tryz.prog.underlying 23=some (.slice 44):=by kernel_rfl
theorem Qxf:tsh Tryz.prog 23=some (false,1):=by kernel_rfl
theorem UF:Tryz.prog.underlying 24=some (.slice 9):=by kernel_rfl
theorem Qm5:tsh Tryz.prog 24=some (false,1):=by kernel_rfl
theorem WM:Tryz.prog.underlying 25=some (.slice 46):=by kernel_rfl
theorem UL:tsh Tryz.prog 25=some (false,1):=by kernel_rfl
theorem YL:tsh Tryz.prog 27=some (true,3):=by kernel_rfl
theorem JE:fld Tryz.prog 27 2=some 2:=by kernel_rfl
theorem ZC:zer Tryz.prog 27=some (.agg #[.slice none 0 0, .slice none 0 0, .slice none 0 0]):=by kernel_rfl
theorem ZU:bld Tryz.prog 27 [(0,1),(1,1),(2,1)] (.pr (.sl 44 (.pr .str .int)) (.pr (.sl 9 .str) (.sl 46 (.pr .int (.pr .int (.pr .bool .int)))))):=XN Tryz.underlying27 (by kernel_rfl) ZC
theorem Yg:Tryz.prog.underlying 32=some (.slice 3):=by kernel_rfl
theorem X3:tsh Tryz.prog 32=some (false,1):=by kernel_rfl
theorem Qao:zer Tryz.prog 32=some (.slice none 0 0):=by kernel_rfl
theorem Qrk:WH Tryz.prog 32 1=true:=by kernel_rfl
theorem Qq0:(Tryz.prog.info? 32).map (fun i=>(i.zero,i.size,i.bytes))=some (some (.slice none 0 0),1,24):=by kernel_rfl
theorem WA:zer Tryz.prog 44=some (.agg #[.string ByteArray.empty, .int .i64 0]):=by kernel_rfl
theorem UG:WH Tryz.prog 44 2=true:=by kernel_rfl
theorem Qlc:bld Tryz.prog 44 [(0,1),(1,1)] (.pr .str .int):=XN Tryz.underlying44 (by kernel_rfl) WA
theorem V0:tsh Tryz.prog 46=some (true,4):=by kernel_rfl
theorem Qj7:fld Tryz.prog 46 2=some 2:=by kernel_rfl
theorem Qte:fld Tryz.prog 46 3=some 3:=by kernel_rfl
theorem Zg:zer Tryz.prog 46=some (.agg #[.int .i64 0, .int .i64 0, .bool false, .int .i64 0]):=by kernel_rfl
theorem UM:WH Tryz.prog 46 4=true:=by kernel_rfl
theorem QcF:bld Tryz.prog 46 [(0,1),(1,1),(2,1),(3,1)] (.pr .int (.pr .int (.pr .bool .int))):=XN Tryz.underlying46 (by kernel_rfl) Zg
theorem QcH:Tryz.prog.underlying 57=some (.slice 245):=by kernel_rfl
theorem Qq5:tsh Tryz.prog 57=some (false,1):=by kernel_rfl
theorem Qit:tsh Tryz.prog 59=some (true,2):=by kernel_rfl
theorem QcI:zer Tryz.prog 59=some (.agg #[.int .i64 0, .slice none 0 0]):=by kernel_rfl
theorem Qhk:bld Tryz.prog 59 [(0,1),(1,1)] (.pr .int (.sl 245 (.pr (.sl 3 .int) (.sl 3 .int)))):=XN Tryz.underlying59 (by kernel_rfl) QcI
theorem Qxe:Tryz.prog.underlying 60=some (.slice 86):=by kernel_rfl
theorem Qry:tsh Tryz.prog 60=some (false,1):=by kernel_rfl
theorem YK:tsh Tryz.prog 62=some (true,5):=by kernel_rfl
theorem H9:zer Tryz.prog 62=some (.agg #[.int .i64 0, .slice none 0 0, .slice none 0 0, .slice none 0 0, .string ByteArray.empty]):=by kernel_rfl
theorem Qfo:bld Tryz.prog 62 [(0,2),(2,1),(3,1),(4,1)] (.pr (.pr .int (.sl 245 (.pr (.sl 3 .int) (.sl 3 .int)))) (.pr (.sl 44 (.pr .str .int)) (.pr (.sl 86 (.pr .int .bool)) .str))):=XN Tryz.underlying62 (by kernel_rfl) H9
theorem V9:Tryz.prog.underlying 67=some (.slice 32):=by kernel_rfl
theorem Qs7:tsh Tryz.prog 86=some (true,2):=by kernel_rfl
theorem Y8:zer Tryz.prog 86=some (.agg #[.int .i64 0, .bool false]):=by kernel_rfl
theorem Qag:WH Tryz.prog 86 2=true:=by kernel_rfl
theorem Ws:bld Tryz.prog 86 [(0,1),(1,1)] (.pr .int .bool):=XN Tryz.underlying86 (by kernel_rfl) Y8
theorem QlJ:Tryz.prog.underlying 90=some (.slice 4):=by kernel_rfl
theorem QdP:Tryz.prog.underlying 117=some (.int .u64):=by kernel_rfl
theorem KU:Tryz.prog.underlying 134=some (.map 9 32):=by kernel_rfl
theorem VE:zer Tryz.prog 141=some (.agg #[.int .i64 0, .bool false, .int .i64 0, .bool false]):=by kernel_rfl
theorem QhX:WH Tryz.prog 141 4=true:=by kernel_rfl
theorem Qdr:bld Tryz.prog 141 [(0,2),(2,2)] (.pr (.pr .int .bool) (.pr .int .bool)):=XN Tryz.underlying141 (by kernel_rfl) VE
theorem Qn4:tsh Tryz.prog 143=some (true,7):=by kernel_rfl
theorem KM:zer Tryz.prog 143=some (.agg #[.int .i64 0, .bool false, .int .i64 0, .bool false, .slice none 0 0, .slice none 0 0, .slice none 0 0]):=by kernel_rfl
theorem QuP:WH Tryz.prog 143 7=true:=by kernel_rfl
theorem QnV:bld Tryz.prog 143 [(0,4),(4,3)] (.pr (.pr (.pr .int .bool) (.pr .int .bool)) (.pr (.sl 44 (.pr .str .int)) (.pr (.sl 9 .str) (.sl 46 (.pr .int (.pr .int (.pr .bool .int))))))):=XN Tryz.underlying143 (by kernel_rfl) KM
theorem QiC:zer Tryz.prog 160=some (.agg #[.slice none 0 0, .slice none 0 0]):=by kernel_rfl
theorem Qdn:bld Tryz.prog 160 [(0,1),(1,1)] (.pr (.sl 9 .str) (.sl 263 (.pr .int (.pr .int .int)))):=XN Tryz.underlying160 (by kernel_rfl) QiC
theorem Qns:Tryz.prog.underlying 200=some (.map 207 3):=by kernel_rfl
theorem QtX:Tryz.prog.underlying 201=some (.slice 207):=by kernel_rfl
theorem Qva:tsh Tryz.prog 201=some (false,1):=by kernel_rfl
theorem Qpd:fld Tryz.prog 203 2=some 4:=by kernel_rfl
theorem QoF:tsh Tryz.prog 207=some (true,2):=by kernel_rfl
theorem QdR:zer Tryz.prog 207=some (.agg #[.int .i64 0, .bool false]):=by kernel_rfl
theorem Qvj:WH Tryz.prog 207 2=true:=by kernel_rfl
theorem W7:bld Tryz.prog 207 [(0,1),(1,1)] (.pr .int .bool):=XN Tryz.underlying207 (by kernel_rfl) QdR
theorem Qip:Tryz.prog.underlying 228=some (.int .u64):=by kernel_rfl
theorem QuV:Tryz.prog.underlying 231=some (.slice 143):=by kernel_rfl
theorem Hw:tsh Tryz.prog 245=some (true,2):=by kernel_rfl
theorem QgG:fld Tryz.prog 245 0=some 0:=by kernel_rfl
theorem Qhi:fld Tryz.prog 245 1=some 1:=by kernel_rfl
theorem KN:zer Tryz.prog 245=some (.agg #[.slice none 0 0, .slice none 0 0]):=by kernel_rfl
theorem QdK:WH Tryz.prog 245 2=true:=by kernel_rfl
theorem QdG:bld Tryz.prog 245 [(0,1),(1,1)] (.pr (.sl 3 .int) (.sl 3 .int)):=XN Tryz.underlying245 (by kernel_rfl) KN
theorem Qdx:zer Tryz.prog 250=some (.agg #[.slice none 0 0, .slice none 0 0, .slice none 0 0, .int .i64 0, .int .i64 0, .bool false]):=by kernel_rfl
theorem QuN:bld Tryz.prog 250 [(0,2),(2,1),(3,1),(4,1),(5,1)] (.pr (.pr (.sl 9 .str) (.sl 263 (.pr .int (.pr .int .int)))) (.pr (.sl 263 (.pr .int (.pr .int .int))) (.pr .int (.pr .int .bool)))):=XN Tryz.underlying250 (by kernel_rfl) Qdx
theorem KI:zer Tryz.prog 263=some (.agg #[.int .i64 0, .int .i64 0, .int .i64 0]):=by kernel_rfl
theorem Qh7:WH Tryz.prog 263 3=true:=by kernel_rfl
theorem QdC:bld Tryz.prog 263 [(0,1),(1,1),(2,1)] (.pr .int (.pr .int .int)):=XN Tryz.underlying263 (by kernel_rfl) KI
theorem Hu:fld Tryz.prog 287 3=some 5:=by kernel_rfl
theorem Quv:zer Tryz.prog 287=some (.agg #[.slice none 0 0, .slice none 0 0, .slice none 0 0, .string ByteArray.empty, .slice none 0 0, .slice none 0 0, .slice none 0 0, .slice none 0 0]):=by kernel_rfl
theorem Quy:bld Tryz.prog 287 [(0,3),(3,1),(4,1),(5,3)] (.pr (.pr (.sl 44 (.pr .str .int)) (.pr (.sl 9 .str) (.sl 46 (.pr .int (.pr .int (.pr .bool .int)))))) (.pr .str (.pr (.sl 3 .int) (.pr (.sl 44 (.pr .str .int)) (.pr (.sl 9 .str) (.sl 46 (.pr .int (.pr .int (.pr .bool .int))))))))):=XN Tryz.underlying287 (by kernel_rfl) Quv
theorem QdD:zer Tryz.prog 295=some (.agg #[.int .i64 0, .int .i64 0]):=by kernel_rfl
theorem Qt1:WH Tryz.prog 295 2=true:=by kernel_rfl
theorem QuO:bld Tryz.prog 295 [(0,1),(1,1)] (.pr .int .int):=XN Tryz.underlying295 (by kernel_rfl) QdD
theorem QtU:zer Tryz.prog 341=some (.agg #[.int .i64 0, .slice none 0 0, .slice none 0 0, .slice none 0 0, .string ByteArray.empty, .slice none 0 0, .slice none 0 0]):=by kernel_rfl
theorem QtG:bld Tryz.prog 341 [(0,5),(5,1),(6,1)] (.pr (.pr (.pr .int (.sl 245 (.pr (.sl 3 .int) (.sl 3 .int)))) (.pr (.sl 44 (.pr .str .int)) (.pr (.sl 86 (.pr .int .bool)) .str))) (.pr (.sl 9 .str) (.sl 9 .str))):=XN Tryz.underlying341 (by kernel_rfl) QtU
theorem QoY:Qh Tryz.prog 10:=fun a W=>Qc Tryz.func10 (by kernel_rfl) rfl a W
theorem QoX:Qh Tryz.prog 19:=fun a W=>Qc Tryz.func19 (by kernel_rfl) rfl a W
theorem Qqo:Qh Tryz.prog 21:=fun a W=>Qc Tryz.func21 (by kernel_rfl) rfl a W
theorem Ho:Qh Tryz.prog 24:=fun a W=>Qc Tryz.func24 (by kernel_rfl) rfl a W
theorem QgF:Qh Tryz.prog 25:=fun a W=>Qc Tryz.func25 (by kernel_rfl) rfl a W
theorem Qpe:Qh Tryz.prog 26:=fun a W=>Qc Tryz.func26 (by kernel_rfl) rfl a W
theorem QpS:Qh Tryz.prog 27:=fun a W=>Qc Tryz.func27 (by kernel_rfl) rfl a W
theorem QpN:Qh Tryz.prog 28:=fun a W=>Qc Tryz.func28 (by kernel_rfl) rfl a W
theorem QpP:Qh Tryz.prog 29:=fun a W=>Qc Tryz.func29 (by kernel_rfl) rfl a W
theorem Qpt:Qh Tryz.prog 30:=fun a W=>Qc Tryz.func30 (by kernel_rfl) rfl a W
theorem QoS:Qh Tryz.prog 86:=fun a W=>Qc Tryz.func86 (by kernel_rfl) rfl a W
theorem Qpk:Qh Tryz.prog 89:=fun a W=>Qc Tryz.func89 (by kernel_rfl) rfl a W
theorem Qo8:Qh Tryz.prog 90:=fun a W=>Qc Tryz.func90 (by kernel_rfl) rfl a W
theorem Hg:Qh Tryz.prog 92:=fun a W=>Qc Tryz.func92 (by kernel_rfl) rfl a W
theorem Qqv:Qh Tryz.prog 93:=fun a W=>Qc Tryz.func93 (by kernel_rfl) rfl a W
theorem Qo2:Qh Tryz.prog 94:=fun a W=>Qc Tryz.func94 (by kernel_rfl) rfl a W
theorem QoV:Qh Tryz.prog 95:=fun a W=>Qc Tryz.func95 (by kernel_rfl) rfl a W
theorem Hf:Qh Tryz.prog 97:=fun a W=>Qc Tryz.func97 (by kernel_rfl) rfl a W
theorem Qqq:Qh Tryz.prog 98:=fun a W=>Qc Tryz.func98 (by kernel_rfl) rfl a W
theorem Qp6:Qh Tryz.prog 99:=fun a W=>Qc Tryz.func99 (by kernel_rfl) rfl a W
theorem QeQ:Qh Tryz.prog 100:=fun a W=>Qc Tryz.func100 (by kernel_rfl) rfl a W
theorem Qlj:Qh Tryz.prog 101:=fun a W=>Qc Tryz.func101 (by kernel_rfl) rfl a W
theorem KF:Qh Tryz.prog 102:=fun a W=>Qc Tryz.func102 (by kernel_rfl) rfl a W
theorem QlH:Qh Tryz.prog 103:=fun a W=>Qc Tryz.func103 (by kernel_rfl) rfl a W
theorem Qk9:Qh Tryz.prog 104:=fun a W=>Qc Tryz.func104 (by kernel_rfl) rfl a W
theorem WZ:Qh Tryz.prog 105:=fun a W=>Qc Tryz.func105 (by kernel_rfl) rfl a W
theorem V4:Qh Tryz.prog 106:=fun a W=>Qc Tryz.func106 (by kernel_rfl) rfl a W
theorem Yh:Qh Tryz.prog 107:=fun a W=>Qc Tryz.func107 (by kernel_rfl) rfl a W
theorem Qem:Qh Tryz.prog 108:=fun a W=>Qc Tryz.func108 (by kernel_rfl) rfl a W
theorem QmV:Qh Tryz.prog 109:=fun a W=>Qc Tryz.func109 (by kernel_rfl) rfl a W
theorem H7:Qh Tryz.prog 110:=fun a W=>Qc Tryz.func110 (by kernel_rfl) rfl a W
theorem QlP:Qh Tryz.prog 111:=fun a W=>Qc Tryz.func111 (by kernel_rfl) rfl a W
theorem QlO:Qh Tryz.prog 112:=fun a W=>Qc Tryz.func112 (by kernel_rfl) rfl a W
theorem QkH:Qh Tryz.prog 113:=fun a W=>Qc Tryz.func113 (by kernel_rfl) rfl a W
theorem Qaw:Qh Tryz.prog 114:=fun a W=>Qc Tryz.func114 (by kernel_rfl) rfl a W
theorem QmJ:Qh Tryz.prog 115:=fun a W=>Qc Tryz.func115 (by kernel_rfl) rfl a W
theorem QmL:Qh Tryz.prog 116:=fun a W=>Qc Tryz.func116 (by kernel_rfl) rfl a W
theorem Wb:Qh Tryz.prog 117:=fun a W=>Qc Tryz.func117 (by kernel_rfl) rfl a W
theorem QmF:Qh Tryz.prog 118:=fun a W=>Qc Tryz.func118 (by kernel_rfl) rfl a W
theorem Qe4:Qh Tryz.prog 119:=fun a W=>Qc Tryz.func119 (by kernel_rfl) rfl a W
theorem Qaz:Qh Tryz.prog 120:=fun a W=>Qc Tryz.func120 (by kernel_rfl) rfl a W
theorem Qmg:Qh Tryz.prog 130:=fun a W=>Qc Tryz.func130 (by kernel_rfl) rfl a W
theorem Qfh:Qh Tryz.prog 143:=fun a W=>Qc Tryz.func143 (by kernel_rfl) rfl a W
theorem Xl:Qh Tryz.prog 156:=fun a W=>Qc Tryz.func156 (by kernel_rfl) rfl a W
theorem WQ:Qh Tryz.prog 163:=fun a W=>Qc Tryz.func163 (by kernel_rfl) rfl a W
theorem Qlu:Qh Tryz.prog 179:=fun a W=>Qc Tryz.func179 (by kernel_rfl) rfl a W
theorem QkV:Qh Tryz.prog 190:=fun a W=>Qc Tryz.func190 (by kernel_rfl) rfl a W
theorem Ql4:Qh Tryz.prog 191:=fun a W=>Qc Tryz.func191 (by kernel_rfl) rfl a W
theorem Qk1:Qh Tryz.prog 193:=fun a W=>Qc Tryz.func193 (by kernel_rfl) rfl a W
theorem QeO:Qh Tryz.prog 194:=fun a W=>Qc Tryz.func194 (by kernel_rfl) rfl a W
theorem Qlw:Qh Tryz.prog 195:=fun a W=>Qc Tryz.func195 (by kernel_rfl) rfl a W
theorem Qat:Qh Tryz.prog 196:=fun a W=>Qc Tryz.func196 (by kernel_rfl) rfl a W
theorem Qly:Qh Tryz.prog 197:=fun a W=>Qc Tryz.func197 (by kernel_rfl) rfl a W
theorem QlD:Qh Tryz.prog 198:=fun a W=>Qc Tryz.func198 (by kernel_rfl) rfl a W
theorem Qaf:Qh Tryz.prog 199:=fun a W=>Qc Tryz.func199 (by kernel_rfl) rfl a W
theorem Qmc:Qh Tryz.prog 200:=fun a W=>Qc Tryz.func200 (by kernel_rfl) rfl a W
theorem Qae:Qh Tryz.prog 201:=fun a W=>Qc Tryz.func201 (by kernel_rfl) rfl a W
theorem QlA:Qh Tryz.prog 202:=fun a W=>Qc Tryz.func202 (by kernel_rfl) rfl a W
theorem Qfv:Qh Tryz.prog 203:=fun a W=>Qc Tryz.func203 (by kernel_rfl) rfl a W
theorem QmX:Qh Tryz.prog 204:=fun a W=>Qc Tryz.func204 (by kernel_rfl) rfl a W
theorem QkP:Qh Tryz.prog 205:=fun a W=>Qc Tryz.func205 (by kernel_rfl) rfl a W
theorem QkS:Qh Tryz.prog 206:=fun a W=>Qc Tryz.func206 (by kernel_rfl) rfl a W
theorem QlM:Qh Tryz.prog 207:=fun a W=>Qc Tryz.func207 (by kernel_rfl) rfl a W
theorem QlX:Qh Tryz.prog 208:=fun a W=>Qc Tryz.func208 (by kernel_rfl) rfl a W
theorem Qm3:Qh Tryz.prog 209:=fun a W=>Qc Tryz.func209 (by kernel_rfl) rfl a W
theorem Qkv:Qh Tryz.prog 210:=fun a W=>Qc Tryz.func210 (by kernel_rfl) rfl a W
theorem Qmn:Qh Tryz.prog 211:=fun a W=>Qc Tryz.func211 (by kernel_rfl) rfl a W
theorem Qlx:Qh Tryz.prog 212:=fun a W=>Qc Tryz.func212 (by kernel_rfl) rfl a W
theorem QeT:Qh Tryz.prog 213:=fun a W=>Qc Tryz.func213 (by kernel_rfl) rfl a W
theorem QmH:Qh Tryz.prog 214:=fun a W=>Qc Tryz.func214 (by kernel_rfl) rfl a W
theorem VT:Qh Tryz.prog 215:=fun a W=>Qc Tryz.func215 (by kernel_rfl) rfl a W
theorem QmM:Qh Tryz.prog 216:=fun a W=>Qc Tryz.func216 (by kernel_rfl) rfl a W
theorem QkD:Qh Tryz.prog 217:=fun a W=>Qc Tryz.func217 (by kernel_rfl) rfl a W
theorem Qln:Qh Tryz.prog 218:=fun a W=>Qc Tryz.func218 (by kernel_rfl) rfl a W
theorem QkI:Qh Tryz.prog 219:=fun a W=>Qc Tryz.func219 (by kernel_rfl) rfl a W
theorem YH:Qh Tryz.prog 220:=fun a W=>Qc Tryz.func220 (by kernel_rfl) rfl a W
theorem QmI:Qh Tryz.prog 221:=fun a W=>Qc Tryz.func221 (by kernel_rfl) rfl a W
theorem QmC:Qh Tryz.prog 222:=fun a W=>Qc Tryz.func222 (by kernel_rfl) rfl a W
theorem Qej:Qh Tryz.prog 225:=fun a W=>Qc Tryz.func225 (by kernel_rfl) rfl a W
theorem Qep:Qh Tryz.prog 226:=fun a W=>Qc Tryz.func226 (by kernel_rfl) rfl a W
theorem QkZ:Qh Tryz.prog 227:=fun a W=>Qc Tryz.func227 (by kernel_rfl) rfl a W
theorem QlK:Qh Tryz.prog 228:=fun a W=>Qc Tryz.func228 (by kernel_rfl) rfl a W
theorem QfK:Qh Tryz.prog 229:=fun a W=>Qc Tryz.func229 (by kernel_rfl) rfl a W
theorem Qlb:Qh Tryz.prog 230:=fun a W=>Qc Tryz.func230 (by kernel_rfl) rfl a W
theorem Qk3:Qh Tryz.prog 231:=fun a W=>Qc Tryz.func231 (by kernel_rfl) rfl a W
theorem QeZ:Qh Tryz.prog 232:=fun a W=>Qc Tryz.func232 (by kernel_rfl) rfl a W
theorem Qmk:Qh Tryz.prog 233:=fun a W=>Qc Tryz.func233 (by kernel_rfl) rfl a W
theorem Qky:Qh Tryz.prog 234:=fun a W=>Qc Tryz.func234 (by kernel_rfl) rfl a W
theorem Qk2:Qh Tryz.prog 235:=fun a W=>Qc Tryz.func235 (by kernel_rfl) rfl a W
theorem Qmq:Qh Tryz.prog 236:=fun a W=>Qc Tryz.func236 (by kernel_rfl) rfl a W
theorem Qet:Qh Tryz.prog 237:=fun a W=>Qc Tryz.func237 (by kernel_rfl) rfl a W
theorem Ky:Qh Tryz.prog 249:=fun a W=>Qc Tryz.func249 (by kernel_rfl) rfl a W
theorem Qmb:Qh Tryz.prog 250:=fun a W=>Qc Tryz.func250 (by kernel_rfl) rfl a W
theorem QlR:Qh Tryz.prog 251:=fun a W=>Qc Tryz.func251 (by kernel_rfl) rfl a W
theorem Qmx:Qh Tryz.prog 254:=fun a W=>Qc Tryz.func254 (by kernel_rfl) rfl a W
theorem Qlp:Qh Tryz.prog 259:=fun a W=>Qc Tryz.func259 (by kernel_rfl) rfl a W
theorem Qk0:Qh Tryz.prog 263:=fun a W=>Qc Tryz.func263 (by kernel_rfl) rfl a W
theorem Qeg:Qh Tryz.prog 264:=fun a W=>Qc Tryz.func264 (by kernel_rfl) rfl a W
theorem Qfj:Qh Tryz.prog 273:=fun a W=>Qc Tryz.func273 (by kernel_rfl) rfl a W
theorem ZX:Qh Tryz.prog 275:=fun a W=>Qc Tryz.func275 (by kernel_rfl) rfl a W
theorem Qfr:Qh Tryz.prog 277:=fun a W=>Qc Tryz.func277 (by kernel_rfl) rfl a W
theorem YX:Qh Tryz.prog 285:=fun a W=>Qc Tryz.func285 (by kernel_rfl) rfl a W
theorem Qk4:Qh Tryz.prog 286:=fun a W=>Qc Tryz.func286 (by kernel_rfl) rfl a W
theorem QmN:Qh Tryz.prog 307:=fun a W=>Qc Tryz.func307 (by kernel_rfl) rfl a W
theorem Qmd:Qh Tryz.prog 308:=fun a W=>Qc Tryz.func308 (by kernel_rfl) rfl a W
theorem Xm:Qh Tryz.prog 309:=fun a W=>Qc Tryz.func309 (by kernel_rfl) rfl a W
theorem Qmz:Qh Tryz.prog 310:=fun a W=>Qc Tryz.func310 (by kernel_rfl) rfl a W
theorem XZ:Qh Tryz.prog 311:=fun a W=>Qc Tryz.func311 (by kernel_rfl) rfl a W
theorem Qml:Qh Tryz.prog 312:=fun a W=>Qc Tryz.func312 (by kernel_rfl) rfl a W
theorem QaA:Qh Tryz.prog 313:=fun a W=>Qc Tryz.func313 (by kernel_rfl) rfl a W
theorem Qla:Qh Tryz.prog 314:=fun a W=>Qc Tryz.func314 (by kernel_rfl) rfl a W
theorem QaF:Qh Tryz.prog 315:=fun a W=>Qc Tryz.func315 (by kernel_rfl) rfl a W
theorem V8:Qh Tryz.prog 316:=fun a W=>Qc Tryz.func316 (by kernel_rfl) rfl a W
theorem QkG:Qh Tryz.prog 319:=fun a W=>Qc Tryz.func319 (by kernel_rfl) rfl a W
theorem Qkx:Qh Tryz.prog 320:=fun a W=>Qc Tryz.func320 (by kernel_rfl) rfl a W
theorem QkW:Qh Tryz.prog 333:=fun a W=>Qc Tryz.func333 (by kernel_rfl) rfl a W
theorem Qm2:Qh Tryz.prog 334:=fun a W=>Qc Tryz.func334 (by kernel_rfl) rfl a W
theorem QfE:Qh Tryz.prog 335:=fun a W=>Qc Tryz.func335 (by kernel_rfl) rfl a W
theorem QkN:Qh Tryz.prog 336:=fun a W=>Qc Tryz.func336 (by kernel_rfl) rfl a W
theorem Qeb:Qh Tryz.prog 337:=fun a W=>Qc Tryz.func337 (by kernel_rfl) rfl a W
theorem Qfb:Qh Tryz.prog 338:=fun a W=>Qc Tryz.func338 (by kernel_rfl) rfl a W
theorem Qe6:Qh Tryz.prog 339:=fun a W=>Qc Tryz.func339 (by kernel_rfl) rfl a W
theorem Ql7:Qh Tryz.prog 340:=fun a W=>Qc Tryz.func340 (by kernel_rfl) rfl a W
theorem H3:Qh Tryz.prog 341:=fun a W=>Qc Tryz.func341 (by kernel_rfl) rfl a W
theorem QmR:Qh Tryz.prog 342:=fun a W=>Qc Tryz.func342 (by kernel_rfl) rfl a W
theorem H8:Qh Tryz.prog 356:=fun a W=>Qc Tryz.func356 (by kernel_rfl) rfl a W
theorem QlF:Qh Tryz.prog 358:=fun a W=>Qc Tryz.func358 (by kernel_rfl) rfl a W
theorem Ql1:Qh Tryz.prog 359:=fun a W=>Qc Tryz.func359 (by kernel_rfl) rfl a W
theorem Qmw:Qh Tryz.prog 360:=fun a W=>Qc Tryz.func360 (by kernel_rfl) rfl a W
theorem Qmh:Qh Tryz.prog 362:=fun a W=>Qc Tryz.func362 (by kernel_rfl) rfl a W
theorem QlI:Qh Tryz.prog 366:=fun a W=>Qc Tryz.func366 (by kernel_rfl) rfl a W
theorem WP:Qh Tryz.prog 367:=fun a W=>Qc Tryz.func367 (by kernel_rfl) rfl a W
theorem Qap:Qh Tryz.prog 380:=fun a W=>Qc Tryz.func380 (by kernel_rfl) rfl a W
theorem Qlt:Qh Tryz.prog 381:=fun a W=>Qc Tryz.func381 (by kernel_rfl) rfl a W
theorem QlG:Qh Tryz.prog 396:=fun a W=>Qc Tryz.func396 (by kernel_rfl) rfl a W
theorem Qmm:Qh Tryz.prog 397:=fun a W=>Qc Tryz.func397 (by kernel_rfl) rfl a W
theorem Qmt:Qh Tryz.prog 398:=fun a W=>Qc Tryz.func398 (by kernel_rfl) rfl a W
theorem Qfi:Qh Tryz.prog 399:=fun a W=>Qc Tryz.func399 (by kernel_rfl) rfl a W
theorem Ql9:Qh Tryz.prog 400:=fun a W=>Qc Tryz.func400 (by kernel_rfl) rfl a W
theorem QeI:Qh Tryz.prog 401:=fun a W=>Qc Tryz.func401 (by kernel_rfl) rfl a W
theorem QmP:Qh Tryz.prog 402:=fun a W=>Qc Tryz.func402 (by kernel_rfl) rfl a W
theorem QmO:Qh Tryz.prog 418:=fun a W=>Qc Tryz.func418 (by kernel_rfl) rfl a W
theorem Qkw:Qh Tryz.prog 419:=fun a W=>Qc Tryz.func419 (by kernel_rfl) rfl a W
theorem Qlh:Qh Tryz.prog 420:=fun a W=>Qc Tryz.func420 (by kernel_rfl) rfl a W
theorem QeP:Qh Tryz.prog 421:=fun a W=>Qc Tryz.func421 (by kernel_rfl) rfl a W
theorem Qau:Qh Tryz.prog 422:=fun a W=>Qc Tryz.func422 (by kernel_rfl) rfl a W
theorem QkA:Qh Tryz.prog 423:=fun a W=>Qc Tryz.func423 (by kernel_rfl) rfl a W
theorem Qld:Qh Tryz.prog 430:=fun a W=>Qc Tryz.func430 (by kernel_rfl) rfl a W
theorem QeB:Qh Tryz.prog 435:=fun a W=>Qc Tryz.func435 (by kernel_rfl) rfl a W
theorem QmE:Qh Tryz.prog 438:=fun a W=>Qc Tryz.func438 (by kernel_rfl) rfl a W
theorem Qfg:Qh Tryz.prog 439:=fun a W=>Qc Tryz.func439 (by kernel_rfl) rfl a W
theorem QmQ:Qh Tryz.prog 460:=fun a W=>Qc Tryz.func460 (by kernel_rfl) rfl a W
theorem QkR:Qh Tryz.prog 461:=fun a W=>Qc Tryz.func461 (by kernel_rfl) rfl a W
theorem Qlm:Qh Tryz.prog 462:=fun a W=>Qc Tryz.func462 (by kernel_rfl) rfl a W
theorem Qfu:Qh Tryz.prog 465:=fun a W=>Qc Tryz.func465 (by kernel_rfl) rfl a W
theorem Qmr:Qh Tryz.prog 478:=fun a W=>Qc Tryz.func478 (by kernel_rfl) rfl a W
theorem Qm1:Qh Tryz.prog 479:=fun a W=>Qc Tryz.func479 (by kernel_rfl) rfl a W
end Go.Proofs.YtgpdhgadmjfokaaGreat
namespace Go.Proofs.YtgpdhgadmjfokaaGreat
open Go.RowKit
@[reducible] def Is (pv:PV) (T:Tab):PV→Tab→Prop:=fun p T'=>p=pv∧T'=T
def FrL (s:St)(n:Nat):List Nat→Prop
 | []=>True
 | q :: l=>Fresh s (n+q)∧FrL s n l
theorem FrL.get {s:St}{n:Nat}{l:List Nat}(h:FrL s n l):∀q∈l,Fresh s (n+q):=by
 induction l with
 | nil=>simp
 | cons q l b=>
  intro r a
  rcases aD.1 a with rfl | a
  ·exact h.1
  ·exact b h.2 r a
section
variable {A:Amb}{P:Program}{s:St}
variable {f:FuncId}{xs:List Operand}{tys:Array TypeId}{args:List (Bool×List LV)}{d:Nat}{ty:TypeId}{pos:String}{af:Array Edge}{g:Option (Nat×Bool)}{pv:PV}{T:Tab}
theorem QkB (n:Nat)(l:FC P f args [] 0 (Is pv T))(i:Qh P f)(k:EvL A s xs args)(b:YD pv T=true)(m:Nat.blt d A.n=true)(c:FrL s n (ZN T))(h:A.k0≤n):
 Does A P ⟨some d, .call ⟨.value (.func f),xs.toArray,tys⟩,ty,pos,af,g⟩ s (s.back d n pv T):=
 fun a w K Q r j=>DoesT.call n l i k (by rintro _ _ ⟨rfl,rfl⟩; exact b) (by rintro _ _ ⟨rfl,rfl⟩ q ⟨e,o⟩; exact c.get q (Zv o).1) h m a w K Q r (by
  rintro u t v ⟨_,_,⟨rfl,rfl⟩,rfl⟩ p
  exact j _ _ p)
theorem Uk (n:Nat)(l:FC P f args [] 0 (Is pv T))(i:Qh P f)(k:EvLB A s xs args)(b:YD pv T=true)(m:(pv.fl&&T.fl)=true)(o:Nat.blt d A.n=true)(c:FrL s n (ZN T))(h:A.k0≤n):
 Does A P ⟨some d, .call ⟨.value (.func f),xs.toArray,tys⟩,ty,pos,af,g⟩ s (s.back d n pv T):=
 fun a w K Q r j=>Uy n l i k (by rintro _ _ ⟨rfl,rfl⟩; exact b) (by rintro _ _ ⟨rfl,rfl⟩; simpa using m) (by rintro _ _ ⟨rfl,rfl⟩ q ⟨e,p⟩; exact c.get q (Zv p).1) h o a w K Q r (by
  rintro v u x ⟨_,_,⟨rfl,rfl⟩,rfl⟩ t
  exact j _ _ t)
theorem QwH {fn:Func}{k:Nat}(pv:PV)(b:Tab)(ρ:List (Nat×Nat)){a:PV}(c:Res A P fn s a)(h0:a=pv.ren (rn ρ))(e:HasE ⟨[],s.tab⟩ ρ b)(h:WR (b.map fun x=>rn ρ x.1)=true)(i:idB ρ k=true):fin A P fn (Qav (Is pv b) k) .ret s:=
 QdB pv b ρ (h0▸c) e h i ⟨rfl,rfl⟩
end
def LV.thaw (T:Tab):LV→LV
 | .ref q=>match T.ent q with
  | some (.arr E e xs)=> .dat (.sl E e) xs
  | _=> .ref q
 | l=>l
def PV.thaw (T:Tab):PV→PV
 | .cm b ls=> .cm b (ls.map (LV.thaw T))
 | .tup cs=> .tup (cs.map fun c=>(c.1,c.2.map (LV.thaw T)))
section
variable {T:Tab}{gh:Gh}{w:World}
theorem LVR.thaw (i:Cx T gh w){l:LV}{v:Value}(h:LVR T.al gh w l v):LVR (Tab.al []) ⟨gh.h,gh.f,fun g=>gh.N g∨∃q,T.al q∧g∈gh.f q⟩ w (l.thaw T) v:=by
 have c:∀l,LVR T.al gh w l v→LVR (Tab.al []) ⟨gh.h,gh.f,fun g=>gh.N g∨∃q,T.al q∧g∈gh.f q⟩ w l v:=fun l h=>h.mono (fun q _ h=>absurd h (Z6 q)) fun g b=>⟨.inl b,rfl⟩
 cases l with
 | ref q=>
  simp only[LV.thaw]
  split
  ·rename_i E e xs a
   have k:v=gh.h q:=h ⟨_,a⟩
   have j:Own (.sl E e) w (gh.f q) [gh.h q] xs:=i.en q _ a
   rw[k]
   exact j.rd fun g b=> .inr ⟨q,⟨_,a⟩,b⟩
  ·exact c _ h
 | _=>exact c _ h
theorem LVs.thaw (a:Cx T gh w){ls:List LV}{vs:List Value}(h:LVs T.al gh w ls vs):LVs (Tab.al []) ⟨gh.h,gh.f,fun g=>gh.N g∨∃q,T.al q∧g∈gh.f q⟩ w (ls.map (LV.thaw T)) vs:=by
 induction ls generalizing vs with
 | nil=>exact h
 | cons l ls e=>obtain ⟨v,i,rfl,b,c⟩:=h; exact ⟨v,_,rfl,b.thaw a,e c⟩
theorem CmR.thaw (e:Cx T gh w){c:Bool×List LV}{v:Value}(h:CmR T.al gh w c v):CmR (Tab.al []) ⟨gh.h,gh.f,fun g=>gh.N g∨∃q,T.al q∧g∈gh.f q⟩ w (c.1,c.2.map (LV.thaw T)) v:=by
 obtain ⟨b,j⟩:=c
 cases b with
 | true=>obtain ⟨i,rfl,a⟩:=h; exact ⟨i,rfl,a.thaw e⟩
 | false=>obtain ⟨l,rfl,a⟩:=h; exact ⟨_,rfl,a.thaw e⟩
theorem PVR.thaw (e:Cx T gh w){pv:PV}{v:Value}(h:PVR T.al gh w pv v):PVR (Tab.al []) ⟨gh.h,gh.f,fun g=>gh.N g∨∃q,T.al q∧g∈gh.f q⟩ w (pv.thaw T) v:=by
 cases pv with
 | cm b n=>exact CmR.thaw e (c:=(b,n)) h
 | tup a=>
  obtain ⟨j,rfl,i⟩:=h
  refine ⟨j,rfl, ?_⟩
  induction a generalizing j with
  | nil=>exact i
  | cons c a m=>obtain ⟨v,o,rfl,k,l⟩:=i; exact ⟨v,_,rfl,k.thaw e,m _ l⟩
end
theorem FC.frozenG {P:Program}{f:FuncId}{args:List (Bool×List LV)}{pv:PV}{T:Tab}(h:FC P f args [] 0 (Is pv T)):FC P f args [] 0 (Q7 (pv.thaw T)):=fun gh w p i k=>
 Calls.mono (h gh w p i k) fun t u l=>by
  obtain ⟨v,n,r,j,rfl,⟨rfl,rfl⟩,b,m,e,_⟩:=l
  refine ⟨v,_,[],_,rfl,⟨rfl,rfl⟩,Uf Z6 _ _ fun g a=> ?_,m.thaw b,⟨e.gw,e.kp,fun g a=> ?_,fun q c=>absurd c (Z6 q)⟩,fun q c=>absurd c (by omega)⟩
  ·rcases a with a | ⟨q,c,a⟩
   ·exact b.nl g a
   ·exact b.lt c g a
  ·rcases a with a | ⟨q,c,a⟩
   ·exact e.nn g a
   ·rcases e.ox q c g a with h | ⟨o,h,_⟩
    ·exact .inr (.inl h)
    ·exact absurd h (Z6 o)
theorem Qjy {A:Amb}{P:Program}{ops:Array Oper}{o:Oper}{s a s':St}(b:o.guard=none)(h:Does A P o s a)(e:a=s'):Acts A P ops o s s':=e▸Acts.of b h
theorem Qpa {A:Amb}{P:Program}{ops:Array Oper}{o:Oper}{s a s':St}{j d:Nat}{b:Bool}(i:o.guard=some (j,b))(c:(ops[j]?).bind (·.dst)=some d)(hb:lk s.tm d=some (lf (dB b)))(h:Does A P o s a)(e:a=s'):Acts A P ops o s s':=e▸QqV i c hb h
section
variable {A:Amb}{s:St}
theorem Wk.nilS (t i:Nat)(E:TypeId)(e:Ty)(hi:lk s.tm i=some (lf (.val (.slice none 0 0))))(b:Fresh s t)(c:A.k0≤t):Wk A s ⟨(i,lf (.ref t)) :: s.tm,(t,some (.arr E e [])) :: s.tab⟩:=fun a w r=>by
 obtain ⟨gh,r⟩:=r
 obtain ⟨v,k,l,h,m⟩:=r.tm i _ hi
 simp only[aJ,and_true] at h
 subst h
 have j:v= .slice none 0 0:=m
 have n:=r.make t b c [] (by simp) (Q9 w) (fun _ _ _=>rfl) (E:=E) (e:=e) (xs:=[]) (hv:= .slice none 0 0) (fp:=[]) (.inl ⟨rfl,rfl,rfl⟩) bI (by simp)
 exact ⟨_,n.know k (pv:=lf (.ref t)) ⟨_,rfl,fun _=>by simp[j]⟩⟩
theorem Qn (t:Nat){p off:Nat}{E':TypeId}{cs:List LV}(E:TypeId)(e:Ty)(o:s.tab.ent p=some (.box E' cs))(L:cs[off]? =some (.val (.slice none 0 0)))(j:Fresh s t)(l:A.k0≤t):
 Wk A s ⟨s.tm,(p,some (.box E' (splice cs off [.ref t]))) :: (t,some (.arr E e [])) :: s.tab⟩:=fun a w r=>by
 obtain ⟨gh,r⟩:=r
 have c:p≠t:=fun h=>j.al ⟨_,h▸o⟩
 obtain ⟨g,b,y,G,z,H⟩:=r.cx.en p _ o
 obtain ⟨v,I,J⟩:=H.nth L
 have C:v= .slice none 0 0:=J
 have F:=r.make t j l [] (by simp) (Q9 w) (fun _ _ _=>rfl) (E:=E) (e:=e) (xs:=[]) (hv:= .slice none 0 0) (fp:=[]) (.inl ⟨rfl,rfl,rfl⟩) bI (by simp)
 have k:Tab.ent ((t,some (.arr E e [])) :: (K9 []++s.tab)) p=some (.box E' cs):=by rw[Qf,if_neg c]; exact o
 obtain ⟨Q,x,u,M,D,O⟩:=F.cx.en p _ k
 simp only[if_neg c] at u M
 rw[y] at u
 cases u
 rw[z] at D
 cases D
 have K:LVs (Tab.al ((t,some (.arr E e [])) :: (K9 []++s.tab))) ⟨fun q=>if q=t then .slice none 0 0 else gh.h q,fun q=>if q=t then [] else gh.f q,gh.N⟩ w [.ref t] [v]:=⟨v,[],rfl,fun _=>by simp[C],rfl⟩
 have B:=O.splice K (off:=off)
 have i:b.toList.take off++[v]++b.toList.drop (off+[v].length)=b.toList:=by
  have m:=(ai.1 I)
  obtain ⟨m,n⟩:=m
  conv=>rhs; rw[← bW (off+1) b.toList,bM m,n]
  rfl
 rw[i] at B
 exact ⟨_,F.mod k (Q9 w) (fun _ _ _=>rfl) ⟨g,b,by simp only[if_neg c]; exact y,by simp only[if_neg c]; exact G,z,B⟩⟩
end
end Go.Proofs.YtgpdhgadmjfokaaGreat
