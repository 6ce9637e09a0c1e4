/- Closed facts on the types and functions of the program. -/
import Derived.Test.YtjfpbcmfbnnooaaGreatProg
import Derived.Test.YtjfpbcmfbnnooaaGreatGAe
import Derived.Test.YtjfpbcmfbnnooaaGreatGStr
set_option linter.unusedSimpArgs false
set_option linter.unusedVariables false
set_option linter.unusedSectionVars false
namespace Go.Proofs.YtjfpbcmfbnnooaaGreat
open Go.RowKit
theorem mixed:Tryz.prog.follows .mixedOrders=true:=by kernel_rfl
theorem Qac:Tryz.prog.underlying 3=some (.int .i64):=by kernel_rfl
theorem Wl:tsh Tryz.prog 3=some (false,1):=by kernel_rfl
theorem Xt:zer Tryz.prog 3=some (.int .i64 0):=by kernel_rfl
theorem Vh:X1 Tryz.prog 3 1=true:=by kernel_rfl
theorem Qn1:(Tryz.prog.info? 3).map (fun i=>(i.zero,i.size,i.bytes))=some (some (.int .i64 0),1,8):=by kernel_rfl
theorem Y7:Tryz.prog.underlying 4=some .bool:=by kernel_rfl
theorem Qky:tsh Tryz.prog 4=some (false,1):=by kernel_rfl
theorem Qzs:(Tryz.prog.info? 4).map (fun i=>(i.zero,i.size,i.bytes))=some (some (.bool false),1,1):=by kernel_rfl
theorem QkB:Tryz.prog.underlying 5=some (.int .u8):=by kernel_rfl
theorem Xs:tsh Tryz.prog 5=some (false,1):=by kernel_rfl
theorem QAn:zer Tryz.prog 5=some (.int .u8 0):=by kernel_rfl
theorem Qzt:(Tryz.prog.info? 5).map (fun i=>(i.zero,i.size,i.bytes))=some (some (.int .u8 0),1,1):=by kernel_rfl
theorem Zo:Tryz.prog.underlying 9=some .string:=by kernel_rfl
theorem ZX:tsh Tryz.prog 9=some (false,1):=by kernel_rfl
theorem Z3:zer Tryz.prog 9=some (.string ByteArray.empty):=by kernel_rfl
theorem YW:X1 Tryz.prog 9 1=true:=by kernel_rfl
theorem Qzu:(Tryz.prog.info? 9).map (fun i=>(i.zero,i.size,i.bytes))=some (some (.string ByteArray.empty),1,16):=by kernel_rfl
theorem He:Tryz.prog.underlying 22=some (.slice 5):=by kernel_rfl
theorem QcH:Tryz.prog.underlying 24=some (.slice 103):=by kernel_rfl
theorem Qx1:tsh Tryz.prog 24=some (false,1):=by kernel_rfl
theorem Zz:Tryz.prog.underlying 25=some (.slice 9):=by kernel_rfl
theorem QaS:tsh Tryz.prog 25=some (false,1):=by kernel_rfl
theorem Qm4:Tryz.prog.underlying 26=some (.slice 139):=by kernel_rfl
theorem XJ:tsh Tryz.prog 28=some (true,3):=by kernel_rfl
theorem Y3:zer Tryz.prog 28=some (.agg #[.slice none 0 0,.slice none 0 0,.slice none 0 0]):=by kernel_rfl
theorem Qev:bld Tryz.prog 28 [(0,1),(1,1),(2,1)] (.pr (.sl 103 (.pr .str .int)) (.pr (.sl 9 .str) (.sl 139 (.pr .int (.pr .int (.pr .bool .int)))))):=Y2 Tryz.underlying28 (by kernel_rfl) Y3
theorem Wn:Tryz.prog.underlying 30=some (.slice 90):=by kernel_rfl
theorem Qgf:tsh Tryz.prog 32=some (true,2):=by kernel_rfl
theorem Yd:zer Tryz.prog 32=some (.agg #[.slice none 0 0,.slice none 0 0]):=by kernel_rfl
theorem YR:bld Tryz.prog 32 [(0,1),(1,1)] (.pr (.sl 103 (.pr .str .int)) (.sl 90 (.pr .int (.pr .int (.pr (.sl 9 .str) (.sl 9 .str)))))):=Y2 Tryz.underlying32 (by kernel_rfl) Yd
theorem Qtx:Tryz.prog.underlying 36=some (.slice 32):=by kernel_rfl
theorem YV:Tryz.prog.underlying 62=some (.slice 3):=by kernel_rfl
theorem XK:tsh Tryz.prog 62=some (false,1):=by kernel_rfl
theorem UU:zer Tryz.prog 62=some (.slice none 0 0):=by kernel_rfl
theorem QeF:X1 Tryz.prog 62 1=true:=by kernel_rfl
theorem QsB:(Tryz.prog.info? 62).map (fun i=>(i.zero,i.size,i.bytes))=some (some (.slice none 0 0),1,24):=by kernel_rfl
theorem Qi0:Tryz.prog.underlying 84=some (.int .u64):=by kernel_rfl
theorem Hb:tsh Tryz.prog 90=some (true,4):=by kernel_rfl
theorem QrS:fld Tryz.prog 90 0=some 0:=by kernel_rfl
theorem QrT:fld Tryz.prog 90 1=some 1:=by kernel_rfl
theorem QrU:fld Tryz.prog 90 2=some 2:=by kernel_rfl
theorem QrV:fld Tryz.prog 90 3=some 3:=by kernel_rfl
theorem Xu:zer Tryz.prog 90=some (.agg #[.int .i64 0,.int .i64 0,.slice none 0 0,.slice none 0 0]):=by kernel_rfl
theorem Qig:X1 Tryz.prog 90 4=true:=by kernel_rfl
theorem Qew:bld Tryz.prog 90 [(0,1),(1,1),(2,1),(3,1)] (.pr .int (.pr .int (.pr (.sl 9 .str) (.sl 9 .str)))):=Y2 Tryz.underlying90 (by kernel_rfl) Xu
theorem YE:zer Tryz.prog 98=some (.agg #[.slice none 0 0,.slice none 0 0]):=by kernel_rfl
theorem JF:bld Tryz.prog 98 [(0,1),(1,1)] (.pr (.sl 9 .str) (.sl 9 .str)):=Y2 Tryz.underlying98 (by kernel_rfl) YE
theorem WO:zer Tryz.prog 103=some (.agg #[.string ByteArray.empty,.int .i64 0]):=by kernel_rfl
theorem Hp:X1 Tryz.prog 103 2=true:=by kernel_rfl
theorem Qt2:bld Tryz.prog 103 [(0,1),(1,1)] (.pr .str .int):=Y2 Tryz.underlying103 (by kernel_rfl) WO
theorem Wm:Tryz.prog.underlying 119=some (.slice 62):=by kernel_rfl
theorem QiW:tsh Tryz.prog 139=some (true,4):=by kernel_rfl
theorem Qhg:fld Tryz.prog 139 2=some 2:=by kernel_rfl
theorem QpB:fld Tryz.prog 139 3=some 3:=by kernel_rfl
theorem YJ:zer Tryz.prog 139=some (.agg #[.int .i64 0,.int .i64 0,.bool false,.int .i64 0]):=by kernel_rfl
theorem QuI:X1 Tryz.prog 139 4=true:=by kernel_rfl
theorem Qt3:bld Tryz.prog 139 [(0,1),(1,1),(2,1),(3,1)] (.pr .int (.pr .int (.pr .bool .int))):=Y2 Tryz.underlying139 (by kernel_rfl) YJ
theorem HG:Tryz.prog.underlying 159=some (.slice 290):=by kernel_rfl
theorem QoF:tsh Tryz.prog 159=some (false,1):=by kernel_rfl
theorem Qea:tsh Tryz.prog 161=some (true,2):=by kernel_rfl
theorem HI:zer Tryz.prog 161=some (.agg #[.int .i64 0,.slice none 0 0]):=by kernel_rfl
theorem QdD:bld Tryz.prog 161 [(0,1),(1,1)] (.pr .int (.sl 290 (.pr (.sl 3 .int) (.sl 3 .int)))):=Y2 Tryz.underlying161 (by kernel_rfl) HI
theorem QvL:Tryz.prog.underlying 162=some (.slice 183):=by kernel_rfl
theorem QoG:tsh Tryz.prog 162=some (false,1):=by kernel_rfl
theorem Z9:tsh Tryz.prog 164=some (true,5):=by kernel_rfl
theorem Vx:zer Tryz.prog 164=some (.agg #[.int .i64 0,.slice none 0 0,.slice none 0 0,.slice none 0 0,.string ByteArray.empty]):=by kernel_rfl
theorem Qbb:bld Tryz.prog 164 [(0,2),(2,1),(3,1),(4,1)] (.pr (.pr .int (.sl 290 (.pr (.sl 3 .int) (.sl 3 .int)))) (.pr (.sl 103 (.pr .str .int)) (.pr (.sl 183 (.pr .int .bool)) .str))):=Y2 Tryz.underlying164 (by kernel_rfl) Vx
theorem QvS:zer Tryz.prog 174=some (.agg #[.slice none 0 0,.slice none 0 0,.bool false]):=by kernel_rfl
theorem Qt4:bld Tryz.prog 174 [(0,1),(1,1),(2,1)] (.pr (.sl 9 .str) (.pr (.sl 9 .str) .bool)):=Y2 Tryz.underlying174 (by kernel_rfl) QvS
theorem WP:zer Tryz.prog 183=some (.agg #[.int .i64 0,.bool false]):=by kernel_rfl
theorem Qbg:X1 Tryz.prog 183 2=true:=by kernel_rfl
theorem KG:bld Tryz.prog 183 [(0,1),(1,1)] (.pr .int .bool):=Y2 Tryz.underlying183 (by kernel_rfl) WP
theorem Qeb:zer Tryz.prog 204=some (.agg #[.int .i64 0,.int .i64 0]):=by kernel_rfl
theorem QuJ:X1 Tryz.prog 204 2=true:=by kernel_rfl
theorem Qt5:bld Tryz.prog 204 [(0,1),(1,1)] (.pr .int .int):=Y2 Tryz.underlying204 (by kernel_rfl) Qeb
theorem Qi2:zer Tryz.prog 227=some (.agg #[.slice none 0 0,.slice none 0 0]):=by kernel_rfl
theorem QdE:bld Tryz.prog 227 [(0,1),(1,1)] (.pr (.sl 9 .str) (.sl 229 (.pr .int (.pr .int .int)))):=Y2 Tryz.underlying227 (by kernel_rfl) Qi2
theorem K5:zer Tryz.prog 229=some (.agg #[.int .i64 0,.int .i64 0,.int .i64 0]):=by kernel_rfl
theorem Qif:X1 Tryz.prog 229 3=true:=by kernel_rfl
theorem QdF:bld Tryz.prog 229 [(0,1),(1,1),(2,1)] (.pr .int (.pr .int .int)):=Y2 Tryz.underlying229 (by kernel_rfl) K5
theorem QvT:zer Tryz.prog 242=some (.agg #[.int .i64 0,.slice none 0 0,.slice none 0 0,.slice none 0 0,.string ByteArray.empty,.slice none 0 0,.slice none 0 0]):=by kernel_rfl
theorem Qt6:bld Tryz.prog 242 [(0,5),(5,1),(6,1)] (.pr (.pr (.pr .int (.sl 290 (.pr (.sl 3 .int) (.sl 3 .int)))) (.pr (.sl 103 (.pr .str .int)) (.pr (.sl 183 (.pr .int .bool)) .str))) (.pr (.sl 9 .str) (.sl 9 .str))):=Y2 Tryz.underlying242 (by kernel_rfl) QvT
theorem QvM:Tryz.prog.underlying 251=some (.slice 4):=by kernel_rfl
theorem HJ:zer Tryz.prog 253=some (.agg #[.int .i64 0,.int .i64 0,.int .i64 0]):=by kernel_rfl
theorem QdN:X1 Tryz.prog 253 3=true:=by kernel_rfl
theorem QdG:bld Tryz.prog 253 [(0,1),(1,1),(2,1)] (.pr .int (.pr .int .int)):=Y2 Tryz.underlying253 (by kernel_rfl) HJ
theorem QiZ:Tryz.prog.underlying 263=some (.int .u64):=by kernel_rfl
theorem Qec:zer Tryz.prog 286=some (.agg #[.slice none 0 0,.slice none 0 0,.slice none 0 0,.int .i64 0,.int .i64 0,.bool false]):=by kernel_rfl
theorem Qt7:bld Tryz.prog 286 [(0,2),(2,1),(3,1),(4,1),(5,1)] (.pr (.pr (.sl 9 .str) (.sl 229 (.pr .int (.pr .int .int)))) (.pr (.sl 229 (.pr .int (.pr .int .int))) (.pr .int (.pr .int .bool)))):=Y2 Tryz.underlying286 (by kernel_rfl) Qec
theorem HE:tsh Tryz.prog 290=some (true,2):=by kernel_rfl
theorem Qhh:fld Tryz.prog 290 0=some 0:=by kernel_rfl
theorem Qhi:fld Tryz.prog 290 1=some 1:=by kernel_rfl
theorem K6:zer Tryz.prog 290=some (.agg #[.slice none 0 0,.slice none 0 0]):=by kernel_rfl
theorem QdO:X1 Tryz.prog 290 2=true:=by kernel_rfl
theorem QdH:bld Tryz.prog 290 [(0,1),(1,1)] (.pr (.sl 3 .int) (.sl 3 .int)):=Y2 Tryz.underlying290 (by kernel_rfl) K6
theorem QvU:zer Tryz.prog 296=some (.agg #[.slice none 0 0,.slice none 0 0,.slice none 0 0,.bool false]):=by kernel_rfl
theorem Qt8:bld Tryz.prog 296 [(0,1),(1,1),(2,1),(3,1)] (.pr (.sl 9 .str) (.pr (.sl 9 .str) (.pr (.sl 9 .str) .bool))):=Y2 Tryz.underlying296 (by kernel_rfl) QvU
theorem QrH:Qf Tryz.prog 6:=fun a W=>Qc Tryz.func6 (by kernel_rfl) rfl a W
theorem QrI:Qf Tryz.prog 7:=fun a W=>Qc Tryz.func7 (by kernel_rfl) rfl a W
theorem QrJ:Qf Tryz.prog 8:=fun a W=>Qc Tryz.func8 (by kernel_rfl) rfl a W
theorem Qbi:Qf Tryz.prog 9:=fun a W=>Qc Tryz.func9 (by kernel_rfl) rfl a W
theorem Qo6:Qf Tryz.prog 10:=fun a W=>Qc Tryz.func10 (by kernel_rfl) rfl a W
theorem Qb4:Qf Tryz.prog 11:=fun a W=>Qc Tryz.func11 (by kernel_rfl) rfl a W
theorem QgX:Qf Tryz.prog 12:=fun a W=>Qc Tryz.func12 (by kernel_rfl) rfl a W
theorem VB:Qf Tryz.prog 13:=fun a W=>Qc Tryz.func13 (by kernel_rfl) rfl a W
theorem QgY:Qf Tryz.prog 14:=fun a W=>Qc Tryz.func14 (by kernel_rfl) rfl a W
theorem Qb5:Qf Tryz.prog 15:=fun a W=>Qc Tryz.func15 (by kernel_rfl) rfl a W
theorem Qo7:Qf Tryz.prog 16:=fun a W=>Qc Tryz.func16 (by kernel_rfl) rfl a W
theorem Qo8:Qf Tryz.prog 17:=fun a W=>Qc Tryz.func17 (by kernel_rfl) rfl a W
theorem Qo9:Qf Tryz.prog 18:=fun a W=>Qc Tryz.func18 (by kernel_rfl) rfl a W
theorem Qpa:Qf Tryz.prog 19:=fun a W=>Qc Tryz.func19 (by kernel_rfl) rfl a W
theorem Qpb:Qf Tryz.prog 20:=fun a W=>Qc Tryz.func20 (by kernel_rfl) rfl a W
theorem Qpc:Qf Tryz.prog 47:=fun a W=>Qc Tryz.func47 (by kernel_rfl) rfl a W
theorem QgZ:Qf Tryz.prog 48:=fun a W=>Qc Tryz.func48 (by kernel_rfl) rfl a W
theorem Qpd:Qf Tryz.prog 49:=fun a W=>Qc Tryz.func49 (by kernel_rfl) rfl a W
theorem Qpe:Qf Tryz.prog 50:=fun a W=>Qc Tryz.func50 (by kernel_rfl) rfl a W
theorem Hq:Qf Tryz.prog 51:=fun a W=>Qc Tryz.func51 (by kernel_rfl) rfl a W
theorem Qg0:Qf Tryz.prog 52:=fun a W=>Qc Tryz.func52 (by kernel_rfl) rfl a W
theorem Qg1:Qf Tryz.prog 53:=fun a W=>Qc Tryz.func53 (by kernel_rfl) rfl a W
theorem Qpf:Qf Tryz.prog 54:=fun a W=>Qc Tryz.func54 (by kernel_rfl) rfl a W
theorem Qpg:Qf Tryz.prog 55:=fun a W=>Qc Tryz.func55 (by kernel_rfl) rfl a W
theorem Qph:Qf Tryz.prog 56:=fun a W=>Qc Tryz.func56 (by kernel_rfl) rfl a W
theorem Qb6:Qf Tryz.prog 57:=fun a W=>Qc Tryz.func57 (by kernel_rfl) rfl a W
theorem Qg2:Qf Tryz.prog 58:=fun a W=>Qc Tryz.func58 (by kernel_rfl) rfl a W
theorem Qb7:Qf Tryz.prog 59:=fun a W=>Qc Tryz.func59 (by kernel_rfl) rfl a W
theorem Qpi:Qf Tryz.prog 60:=fun a W=>Qc Tryz.func60 (by kernel_rfl) rfl a W
theorem Qpj:Qf Tryz.prog 61:=fun a W=>Qc Tryz.func61 (by kernel_rfl) rfl a W
theorem Hr:Qf Tryz.prog 62:=fun a W=>Qc Tryz.func62 (by kernel_rfl) rfl a W
theorem Qpk:Qf Tryz.prog 63:=fun a W=>Qc Tryz.func63 (by kernel_rfl) rfl a W
theorem Qpl:Qf Tryz.prog 64:=fun a W=>Qc Tryz.func64 (by kernel_rfl) rfl a W
theorem Z6:Qf Tryz.prog 65:=fun a W=>Qc Tryz.func65 (by kernel_rfl) rfl a W
theorem Qg3:Qf Tryz.prog 66:=fun a W=>Qc Tryz.func66 (by kernel_rfl) rfl a W
theorem Qb8:Qf Tryz.prog 67:=fun a W=>Qc Tryz.func67 (by kernel_rfl) rfl a W
theorem Qpm:Qf Tryz.prog 68:=fun a W=>Qc Tryz.func68 (by kernel_rfl) rfl a W
theorem Qpn:Qf Tryz.prog 69:=fun a W=>Qc Tryz.func69 (by kernel_rfl) rfl a W
theorem Qpo:Qf Tryz.prog 70:=fun a W=>Qc Tryz.func70 (by kernel_rfl) rfl a W
theorem Ht:Qf Tryz.prog 71:=fun a W=>Qc Tryz.func71 (by kernel_rfl) rfl a W
theorem Qpp:Qf Tryz.prog 72:=fun a W=>Qc Tryz.func72 (by kernel_rfl) rfl a W
theorem Qg4:Qf Tryz.prog 73:=fun a W=>Qc Tryz.func73 (by kernel_rfl) rfl a W
theorem Qg5:Qf Tryz.prog 74:=fun a W=>Qc Tryz.func74 (by kernel_rfl) rfl a W
theorem Qpq:Qf Tryz.prog 75:=fun a W=>Qc Tryz.func75 (by kernel_rfl) rfl a W
theorem Qpr:Qf Tryz.prog 76:=fun a W=>Qc Tryz.func76 (by kernel_rfl) rfl a W
theorem VC:Qf Tryz.prog 77:=fun a W=>Qc Tryz.func77 (by kernel_rfl) rfl a W
theorem Qps:Qf Tryz.prog 78:=fun a W=>Qc Tryz.func78 (by kernel_rfl) rfl a W
theorem Qg6:Qf Tryz.prog 79:=fun a W=>Qc Tryz.func79 (by kernel_rfl) rfl a W
theorem Qg7:Qf Tryz.prog 80:=fun a W=>Qc Tryz.func80 (by kernel_rfl) rfl a W
theorem Qb9:Qf Tryz.prog 92:=fun a W=>Qc Tryz.func92 (by kernel_rfl) rfl a W
theorem Qg8:Qf Tryz.prog 93:=fun a W=>Qc Tryz.func93 (by kernel_rfl) rfl a W
theorem Qg9:Qf Tryz.prog 95:=fun a W=>Qc Tryz.func95 (by kernel_rfl) rfl a W
theorem Qpt:Qf Tryz.prog 97:=fun a W=>Qc Tryz.func97 (by kernel_rfl) rfl a W
theorem Zy:Qf Tryz.prog 100:=fun a W=>Qc Tryz.func100 (by kernel_rfl) rfl a W
theorem Qk3:Qf Tryz.prog 101:=fun a W=>Qc Tryz.func101 (by kernel_rfl) rfl a W
theorem QeG:Qf Tryz.prog 102:=fun a W=>Qc Tryz.func102 (by kernel_rfl) rfl a W
theorem Xj:Qf Tryz.prog 104:=fun a W=>Qc Tryz.func104 (by kernel_rfl) rfl a W
theorem QeH:Qf Tryz.prog 106:=fun a W=>Qc Tryz.func106 (by kernel_rfl) rfl a W
theorem WA:Qf Tryz.prog 117:=fun a W=>Qc Tryz.func117 (by kernel_rfl) rfl a W
theorem Zk:Qf Tryz.prog 118:=fun a W=>Qc Tryz.func118 (by kernel_rfl) rfl a W
theorem Qk4:Qf Tryz.prog 119:=fun a W=>Qc Tryz.func119 (by kernel_rfl) rfl a W
theorem QeI:Qf Tryz.prog 120:=fun a W=>Qc Tryz.func120 (by kernel_rfl) rfl a W
theorem Qk5:Qf Tryz.prog 121:=fun a W=>Qc Tryz.func121 (by kernel_rfl) rfl a W
theorem Qk6:Qf Tryz.prog 122:=fun a W=>Qc Tryz.func122 (by kernel_rfl) rfl a W
theorem QeJ:Qf Tryz.prog 123:=fun a W=>Qc Tryz.func123 (by kernel_rfl) rfl a W
theorem Qk7:Qf Tryz.prog 124:=fun a W=>Qc Tryz.func124 (by kernel_rfl) rfl a W
theorem Qk8:Qf Tryz.prog 125:=fun a W=>Qc Tryz.func125 (by kernel_rfl) rfl a W
theorem Qk9:Qf Tryz.prog 126:=fun a W=>Qc Tryz.func126 (by kernel_rfl) rfl a W
theorem Qla:Qf Tryz.prog 127:=fun a W=>Qc Tryz.func127 (by kernel_rfl) rfl a W
theorem Qlb:Qf Tryz.prog 128:=fun a W=>Qc Tryz.func128 (by kernel_rfl) rfl a W
theorem Qlc:Qf Tryz.prog 129:=fun a W=>Qc Tryz.func129 (by kernel_rfl) rfl a W
theorem QeK:Qf Tryz.prog 130:=fun a W=>Qc Tryz.func130 (by kernel_rfl) rfl a W
theorem Qld:Qf Tryz.prog 131:=fun a W=>Qc Tryz.func131 (by kernel_rfl) rfl a W
theorem Qle:Qf Tryz.prog 132:=fun a W=>Qc Tryz.func132 (by kernel_rfl) rfl a W
theorem Qal:Qf Tryz.prog 133:=fun a W=>Qc Tryz.func133 (by kernel_rfl) rfl a W
theorem Qlf:Qf Tryz.prog 134:=fun a W=>Qc Tryz.func134 (by kernel_rfl) rfl a W
theorem QeL:Qf Tryz.prog 135:=fun a W=>Qc Tryz.func135 (by kernel_rfl) rfl a W
theorem Qlg:Qf Tryz.prog 136:=fun a W=>Qc Tryz.func136 (by kernel_rfl) rfl a W
theorem QeM:Qf Tryz.prog 137:=fun a W=>Qc Tryz.func137 (by kernel_rfl) rfl a W
theorem Qlh:Qf Tryz.prog 141:=fun a W=>Qc Tryz.func141 (by kernel_rfl) rfl a W
theorem KL:Qf Tryz.prog 142:=fun a W=>Qc Tryz.func142 (by kernel_rfl) rfl a W
theorem Qli:Qf Tryz.prog 143:=fun a W=>Qc Tryz.func143 (by kernel_rfl) rfl a W
theorem QeN:Qf Tryz.prog 144:=fun a W=>Qc Tryz.func144 (by kernel_rfl) rfl a W
theorem QeO:Qf Tryz.prog 145:=fun a W=>Qc Tryz.func145 (by kernel_rfl) rfl a W
theorem Qlj:Qf Tryz.prog 146:=fun a W=>Qc Tryz.func146 (by kernel_rfl) rfl a W
theorem Qlk:Qf Tryz.prog 147:=fun a W=>Qc Tryz.func147 (by kernel_rfl) rfl a W
theorem Qll:Qf Tryz.prog 148:=fun a W=>Qc Tryz.func148 (by kernel_rfl) rfl a W
theorem Qlm:Qf Tryz.prog 149:=fun a W=>Qc Tryz.func149 (by kernel_rfl) rfl a W
theorem Qam:Qf Tryz.prog 150:=fun a W=>Qc Tryz.func150 (by kernel_rfl) rfl a W
theorem Qln:Qf Tryz.prog 151:=fun a W=>Qc Tryz.func151 (by kernel_rfl) rfl a W
theorem Qlo:Qf Tryz.prog 152:=fun a W=>Qc Tryz.func152 (by kernel_rfl) rfl a W
theorem QeP:Qf Tryz.prog 153:=fun a W=>Qc Tryz.func153 (by kernel_rfl) rfl a W
theorem Qlp:Qf Tryz.prog 154:=fun a W=>Qc Tryz.func154 (by kernel_rfl) rfl a W
theorem KM:Qf Tryz.prog 155:=fun a W=>Qc Tryz.func155 (by kernel_rfl) rfl a W
theorem Qlq:Qf Tryz.prog 156:=fun a W=>Qc Tryz.func156 (by kernel_rfl) rfl a W
theorem QeQ:Qf Tryz.prog 157:=fun a W=>Qc Tryz.func157 (by kernel_rfl) rfl a W
theorem Qlr:Qf Tryz.prog 158:=fun a W=>Qc Tryz.func158 (by kernel_rfl) rfl a W
theorem QeR:Qf Tryz.prog 169:=fun a W=>Qc Tryz.func169 (by kernel_rfl) rfl a W
theorem Qls:Qf Tryz.prog 170:=fun a W=>Qc Tryz.func170 (by kernel_rfl) rfl a W
theorem QeS:Qf Tryz.prog 174:=fun a W=>Qc Tryz.func174 (by kernel_rfl) rfl a W
theorem QeT:Qf Tryz.prog 176:=fun a W=>Qc Tryz.func176 (by kernel_rfl) rfl a W
theorem Qlt:Qf Tryz.prog 188:=fun a W=>Qc Tryz.func188 (by kernel_rfl) rfl a W
theorem Qlu:Qf Tryz.prog 189:=fun a W=>Qc Tryz.func189 (by kernel_rfl) rfl a W
theorem QeU:Qf Tryz.prog 190:=fun a W=>Qc Tryz.func190 (by kernel_rfl) rfl a W
theorem Qan:Qf Tryz.prog 191:=fun a W=>Qc Tryz.func191 (by kernel_rfl) rfl a W
theorem Qlv:Qf Tryz.prog 192:=fun a W=>Qc Tryz.func192 (by kernel_rfl) rfl a W
theorem Qlw:Qf Tryz.prog 193:=fun a W=>Qc Tryz.func193 (by kernel_rfl) rfl a W
theorem QeV:Qf Tryz.prog 194:=fun a W=>Qc Tryz.func194 (by kernel_rfl) rfl a W
theorem QeW:Qf Tryz.prog 195:=fun a W=>Qc Tryz.func195 (by kernel_rfl) rfl a W
theorem Qlx:Qf Tryz.prog 196:=fun a W=>Qc Tryz.func196 (by kernel_rfl) rfl a W
theorem QeX:Qf Tryz.prog 197:=fun a W=>Qc Tryz.func197 (by kernel_rfl) rfl a W
theorem QeY:Qf Tryz.prog 198:=fun a W=>Qc Tryz.func198 (by kernel_rfl) rfl a W
theorem Qao:Qf Tryz.prog 199:=fun a W=>Qc Tryz.func199 (by kernel_rfl) rfl a W
theorem Qly:Qf Tryz.prog 201:=fun a W=>Qc Tryz.func201 (by kernel_rfl) rfl a W
theorem KN:Qf Tryz.prog 202:=fun a W=>Qc Tryz.func202 (by kernel_rfl) rfl a W
theorem VR:Qf Tryz.prog 203:=fun a W=>Qc Tryz.func203 (by kernel_rfl) rfl a W
theorem Qap:Qf Tryz.prog 204:=fun a W=>Qc Tryz.func204 (by kernel_rfl) rfl a W
theorem Qlz:Qf Tryz.prog 205:=fun a W=>Qc Tryz.func205 (by kernel_rfl) rfl a W
theorem Qaq:Qf Tryz.prog 206:=fun a W=>Qc Tryz.func206 (by kernel_rfl) rfl a W
theorem QlA:Qf Tryz.prog 207:=fun a W=>Qc Tryz.func207 (by kernel_rfl) rfl a W
theorem QlB:Qf Tryz.prog 208:=fun a W=>Qc Tryz.func208 (by kernel_rfl) rfl a W
theorem QlC:Qf Tryz.prog 209:=fun a W=>Qc Tryz.func209 (by kernel_rfl) rfl a W
theorem QeZ:Qf Tryz.prog 210:=fun a W=>Qc Tryz.func210 (by kernel_rfl) rfl a W
theorem Qe0:Qf Tryz.prog 211:=fun a W=>Qc Tryz.func211 (by kernel_rfl) rfl a W
theorem QlD:Qf Tryz.prog 212:=fun a W=>Qc Tryz.func212 (by kernel_rfl) rfl a W
theorem Qe1:Qf Tryz.prog 213:=fun a W=>Qc Tryz.func213 (by kernel_rfl) rfl a W
theorem Qar:Qf Tryz.prog 214:=fun a W=>Qc Tryz.func214 (by kernel_rfl) rfl a W
theorem QlE:Qf Tryz.prog 215:=fun a W=>Qc Tryz.func215 (by kernel_rfl) rfl a W
theorem Qas:Qf Tryz.prog 216:=fun a W=>Qc Tryz.func216 (by kernel_rfl) rfl a W
theorem VS:Qf Tryz.prog 217:=fun a W=>Qc Tryz.func217 (by kernel_rfl) rfl a W
theorem VT:Qf Tryz.prog 218:=fun a W=>Qc Tryz.func218 (by kernel_rfl) rfl a W
theorem QlF:Qf Tryz.prog 219:=fun a W=>Qc Tryz.func219 (by kernel_rfl) rfl a W
theorem KO:Qf Tryz.prog 220:=fun a W=>Qc Tryz.func220 (by kernel_rfl) rfl a W
theorem Qe2:Qf Tryz.prog 221:=fun a W=>Qc Tryz.func221 (by kernel_rfl) rfl a W
theorem WB:Qf Tryz.prog 223:=fun a W=>Qc Tryz.func223 (by kernel_rfl) rfl a W
theorem QlG:Qf Tryz.prog 224:=fun a W=>Qc Tryz.func224 (by kernel_rfl) rfl a W
theorem QlH:Qf Tryz.prog 225:=fun a W=>Qc Tryz.func225 (by kernel_rfl) rfl a W
theorem QlI:Qf Tryz.prog 226:=fun a W=>Qc Tryz.func226 (by kernel_rfl) rfl a W
theorem QlJ:Qf Tryz.prog 227:=fun a W=>Qc Tryz.func227 (by kernel_rfl) rfl a W
theorem QlK:Qf Tryz.prog 228:=fun a W=>Qc Tryz.func228 (by kernel_rfl) rfl a W
theorem QlL:Qf Tryz.prog 229:=fun a W=>Qc Tryz.func229 (by kernel_rfl) rfl a W
theorem Qat:Qf Tryz.prog 230:=fun a W=>Qc Tryz.func230 (by kernel_rfl) rfl a W
theorem Qau:Qf Tryz.prog 231:=fun a W=>Qc Tryz.func231 (by kernel_rfl) rfl a W
theorem QlM:Qf Tryz.prog 232:=fun a W=>Qc Tryz.func232 (by kernel_rfl) rfl a W
theorem QlN:Qf Tryz.prog 244:=fun a W=>Qc Tryz.func244 (by kernel_rfl) rfl a W
theorem Qe3:Qf Tryz.prog 245:=fun a W=>Qc Tryz.func245 (by kernel_rfl) rfl a W
theorem KP:Qf Tryz.prog 254:=fun a W=>Qc Tryz.func254 (by kernel_rfl) rfl a W
theorem QlO:Qf Tryz.prog 255:=fun a W=>Qc Tryz.func255 (by kernel_rfl) rfl a W
theorem QlP:Qf Tryz.prog 256:=fun a W=>Qc Tryz.func256 (by kernel_rfl) rfl a W
theorem Qe4:Qf Tryz.prog 257:=fun a W=>Qc Tryz.func257 (by kernel_rfl) rfl a W
theorem Qe5:Qf Tryz.prog 258:=fun a W=>Qc Tryz.func258 (by kernel_rfl) rfl a W
theorem QlQ:Qf Tryz.prog 259:=fun a W=>Qc Tryz.func259 (by kernel_rfl) rfl a W
theorem Qe6:Qf Tryz.prog 260:=fun a W=>Qc Tryz.func260 (by kernel_rfl) rfl a W
theorem QlR:Qf Tryz.prog 261:=fun a W=>Qc Tryz.func261 (by kernel_rfl) rfl a W
theorem QlS:Qf Tryz.prog 262:=fun a W=>Qc Tryz.func262 (by kernel_rfl) rfl a W
theorem QlT:Qf Tryz.prog 263:=fun a W=>Qc Tryz.func263 (by kernel_rfl) rfl a W
theorem QlU:Qf Tryz.prog 264:=fun a W=>Qc Tryz.func264 (by kernel_rfl) rfl a W
theorem Qe7:Qf Tryz.prog 265:=fun a W=>Qc Tryz.func265 (by kernel_rfl) rfl a W
theorem Qe8:Qf Tryz.prog 266:=fun a W=>Qc Tryz.func266 (by kernel_rfl) rfl a W
theorem Qe9:Qf Tryz.prog 267:=fun a W=>Qc Tryz.func267 (by kernel_rfl) rfl a W
theorem QlV:Qf Tryz.prog 268:=fun a W=>Qc Tryz.func268 (by kernel_rfl) rfl a W
theorem Qfa:Qf Tryz.prog 271:=fun a W=>Qc Tryz.func271 (by kernel_rfl) rfl a W
theorem QlW:Qf Tryz.prog 272:=fun a W=>Qc Tryz.func272 (by kernel_rfl) rfl a W
theorem Qfb:Qf Tryz.prog 273:=fun a W=>Qc Tryz.func273 (by kernel_rfl) rfl a W
theorem QlX:Qf Tryz.prog 274:=fun a W=>Qc Tryz.func274 (by kernel_rfl) rfl a W
theorem Qfc:Qf Tryz.prog 275:=fun a W=>Qc Tryz.func275 (by kernel_rfl) rfl a W
theorem QlY:Qf Tryz.prog 276:=fun a W=>Qc Tryz.func276 (by kernel_rfl) rfl a W
theorem QlZ:Qf Tryz.prog 277:=fun a W=>Qc Tryz.func277 (by kernel_rfl) rfl a W
theorem Qfd:Qf Tryz.prog 278:=fun a W=>Qc Tryz.func278 (by kernel_rfl) rfl a W
theorem Ql0:Qf Tryz.prog 279:=fun a W=>Qc Tryz.func279 (by kernel_rfl) rfl a W
theorem Ql1:Qf Tryz.prog 280:=fun a W=>Qc Tryz.func280 (by kernel_rfl) rfl a W
theorem Ql2:Qf Tryz.prog 281:=fun a W=>Qc Tryz.func281 (by kernel_rfl) rfl a W
theorem Qfe:Qf Tryz.prog 288:=fun a W=>Qc Tryz.func288 (by kernel_rfl) rfl a W
theorem Ql3:Qf Tryz.prog 294:=fun a W=>Qc Tryz.func294 (by kernel_rfl) rfl a W
theorem Qav:Qf Tryz.prog 298:=fun a W=>Qc Tryz.func298 (by kernel_rfl) rfl a W
theorem Ql4:Qf Tryz.prog 300:=fun a W=>Qc Tryz.func300 (by kernel_rfl) rfl a W
theorem Ql5:Qf Tryz.prog 301:=fun a W=>Qc Tryz.func301 (by kernel_rfl) rfl a W
theorem Ql6:Qf Tryz.prog 302:=fun a W=>Qc Tryz.func302 (by kernel_rfl) rfl a W
theorem Ql7:Qf Tryz.prog 303:=fun a W=>Qc Tryz.func303 (by kernel_rfl) rfl a W
theorem Ql8:Qf Tryz.prog 304:=fun a W=>Qc Tryz.func304 (by kernel_rfl) rfl a W
theorem Ql9:Qf Tryz.prog 305:=fun a W=>Qc Tryz.func305 (by kernel_rfl) rfl a W
theorem Qaw:Qf Tryz.prog 306:=fun a W=>Qc Tryz.func306 (by kernel_rfl) rfl a W
theorem Qff:Qf Tryz.prog 307:=fun a W=>Qc Tryz.func307 (by kernel_rfl) rfl a W
theorem Qfg:Qf Tryz.prog 308:=fun a W=>Qc Tryz.func308 (by kernel_rfl) rfl a W
theorem Qma:Qf Tryz.prog 309:=fun a W=>Qc Tryz.func309 (by kernel_rfl) rfl a W
theorem Qax:Qf Tryz.prog 310:=fun a W=>Qc Tryz.func310 (by kernel_rfl) rfl a W
theorem Qmb:Qf Tryz.prog 311:=fun a W=>Qc Tryz.func311 (by kernel_rfl) rfl a W
theorem Qfh:Qf Tryz.prog 312:=fun a W=>Qc Tryz.func312 (by kernel_rfl) rfl a W
theorem Qmc:Qf Tryz.prog 313:=fun a W=>Qc Tryz.func313 (by kernel_rfl) rfl a W
theorem Qmd:Qf Tryz.prog 325:=fun a W=>Qc Tryz.func325 (by kernel_rfl) rfl a W
theorem Qme:Qf Tryz.prog 326:=fun a W=>Qc Tryz.func326 (by kernel_rfl) rfl a W
theorem Qmf:Qf Tryz.prog 327:=fun a W=>Qc Tryz.func327 (by kernel_rfl) rfl a W
theorem Qmg:Qf Tryz.prog 328:=fun a W=>Qc Tryz.func328 (by kernel_rfl) rfl a W
theorem Qfi:Qf Tryz.prog 333:=fun a W=>Qc Tryz.func333 (by kernel_rfl) rfl a W
theorem Qmh:Qf Tryz.prog 337:=fun a W=>Qc Tryz.func337 (by kernel_rfl) rfl a W
theorem Qfj:Qf Tryz.prog 338:=fun a W=>Qc Tryz.func338 (by kernel_rfl) rfl a W
theorem Qmi:Qf Tryz.prog 340:=fun a W=>Qc Tryz.func340 (by kernel_rfl) rfl a W
theorem Qmj:Qf Tryz.prog 341:=fun a W=>Qc Tryz.func341 (by kernel_rfl) rfl a W
theorem Qfk:Qf Tryz.prog 347:=fun a W=>Qc Tryz.func347 (by kernel_rfl) rfl a W
theorem Qfl:Qf Tryz.prog 349:=fun a W=>Qc Tryz.func349 (by kernel_rfl) rfl a W
theorem Qmk:Qf Tryz.prog 351:=fun a W=>Qc Tryz.func351 (by kernel_rfl) rfl a W
theorem Qml:Qf Tryz.prog 354:=fun a W=>Qc Tryz.func354 (by kernel_rfl) rfl a W
theorem Qmm:Qf Tryz.prog 355:=fun a W=>Qc Tryz.func355 (by kernel_rfl) rfl a W
@[reducible] def Is (pv:PV) (T:Tab):PV→Tab→Prop:=fun p T'=>p=pv∧T'=T
def FrL (s:St)(n:Nat):List Nat→Prop
 | []=>True
 | q::l=>Fresh s (n+q)∧FrL s n l
theorem FrL.get {s:St}{n:Nat}{l:List Nat}(h:FrL s n l):∀q∈l,Fresh s (n+q):=by
 induction l with
 | nil=>simp
 | cons q l b=>
  intro r a
  rcases aJ.1 a with rfl|a
  ·exact h.1
  ·exact b h.2 r a
section
variable {A:Amb}{P:Program}{s:St}
variable {f:FuncId}{xs:List Operand}{tys:Array TypeId}{args:List (Bool×List LV)}{d:Nat}{ty:TypeId}{pos:String}{af:Array Edge}{g:Option (Nat×Bool)}{pv:PV}{T:Tab}
theorem Qad (n:Nat)(l:FC P f args [] 0 (Is pv T))(i:Qf P f)(k:EvL A s xs args)(b:YI pv T=true)(m:Nat.blt d A.n=true)(c:FrL s n (ZS T))(h:A.k0≤n):
 Does A P ⟨some d,.call ⟨.value (.func f),xs.toArray,tys⟩,ty,pos,af,g⟩ s (s.back d n pv T):=
 fun a w K Q r j=>DoesT.call n l i k (by rintro _ _ ⟨rfl,rfl⟩;exact b) (by rintro _ _ ⟨rfl,rfl⟩ q ⟨e,o⟩;exact c.get q (Zw o).1) h m a w K Q r (by
  rintro u t v ⟨_,_,⟨rfl,rfl⟩,rfl⟩ p
  exact j _ _ p)
theorem QcJ (n:Nat)(l:FC P f args [] 0 (Is pv T))(i:Qf P f)(k:EvLB A s xs args)(b:YI pv T=true)(m:(pv.fl&&T.fl)=true)(o:Nat.blt d A.n=true)(c:FrL s n (ZS T))(h:A.k0≤n):
 Does A P ⟨some d,.call ⟨.value (.func f),xs.toArray,tys⟩,ty,pos,af,g⟩ s (s.back d n pv T):=
 fun a w K Q r j=>Jz n l i k (by rintro _ _ ⟨rfl,rfl⟩;exact b) (by rintro _ _ ⟨rfl,rfl⟩;simpa using m) (by rintro _ _ ⟨rfl,rfl⟩ q ⟨e,p⟩;exact c.get q (Zw p).1) h o a w K Q r (by
  rintro v u x ⟨_,_,⟨rfl,rfl⟩,rfl⟩ t
  exact j _ _ t)
theorem Qw3 {fn:Func}{k:Nat}(pv:PV)(b:Tab)(ρ:List (Nat×Nat)){a:PV}(c:Res A P fn s a)(h0:a=pv.ren (rn ρ))(e:HasE ⟨[],s.tab⟩ ρ b)(h:Wz (b.map fun x=>rn ρ x.1)=true)(i:idB ρ k=true):fin A P fn (Qah (Is pv b) k) .ret s:=
 QdR pv b ρ (h0▸c) e h i ⟨rfl,rfl⟩
end
def LV.thaw (T:Tab):LV→LV
 | .ref q=>match T.ent q with
  | some (.arr E e xs)=> .dat (.sl E e) xs
  | _=> .ref q
 | l=>l
def PV.thaw (T:Tab):PV→PV
 | .cm b ls=> .cm b (ls.map (LV.thaw T))
 | .tup cs=> .tup (cs.map fun c=>(c.1,c.2.map (LV.thaw T)))
section
variable {T:Tab}{gh:Gh}{w:World}
theorem LVR.thaw (i:Cx T gh w){l:LV}{v:Value}(h:LVR T.al gh w l v):LVR (Tab.al []) ⟨gh.h,gh.f,fun g=>gh.N g∨∃q,T.al q∧g∈gh.f q⟩ w (l.thaw T) v:=by
 have c:∀l,LVR T.al gh w l v→LVR (Tab.al []) ⟨gh.h,gh.f,fun g=>gh.N g∨∃q,T.al q∧g∈gh.f q⟩ w l v:=fun l h=>h.mono (fun q _ h=>absurd h (ZF q)) fun g b=>⟨.inl b,rfl⟩
 cases l with
 | ref q=>
  simp only[LV.thaw]
  split
  ·rename_i E e xs a
   have k:v=gh.h q:=h ⟨_,a⟩
   have j:Own (.sl E e) w (gh.f q) [gh.h q] xs:=i.en q _ a
   rw[k]
   exact j.rd fun g b=> .inr ⟨q,⟨_,a⟩,b⟩
  ·exact c _ h
 | _=>exact c _ h
theorem LVs.thaw (a:Cx T gh w){ls:List LV}{vs:List Value}(h:LVs T.al gh w ls vs):LVs (Tab.al []) ⟨gh.h,gh.f,fun g=>gh.N g∨∃q,T.al q∧g∈gh.f q⟩ w (ls.map (LV.thaw T)) vs:=by
 induction ls generalizing vs with
 | nil=>exact h
 | cons l ls e=>obtain ⟨v,i,rfl,b,c⟩:=h;exact ⟨v,_,rfl,b.thaw a,e c⟩
theorem CmR.thaw (e:Cx T gh w){c:Bool×List LV}{v:Value}(h:CmR T.al gh w c v):CmR (Tab.al []) ⟨gh.h,gh.f,fun g=>gh.N g∨∃q,T.al q∧g∈gh.f q⟩ w (c.1,c.2.map (LV.thaw T)) v:=by
 obtain ⟨b,j⟩:=c
 cases b with
 | true=>obtain ⟨i,rfl,a⟩:=h;exact ⟨i,rfl,a.thaw e⟩
 | false=>obtain ⟨l,rfl,a⟩:=h;exact ⟨_,rfl,a.thaw e⟩
theorem PVR.thaw (e:Cx T gh w){pv:PV}{v:Value}(h:PVR T.al gh w pv v):PVR (Tab.al []) ⟨gh.h,gh.f,fun g=>gh.N g∨∃q,T.al q∧g∈gh.f q⟩ w (pv.thaw T) v:=by
 cases pv with
 | cm b n=>exact CmR.thaw e (c:=(b,n)) h
 | tup a=>
  obtain ⟨j,rfl,i⟩:=h
  refine ⟨j,rfl,?_⟩
  induction a generalizing j with
  | nil=>exact i
  | cons c a m=>obtain ⟨v,o,rfl,k,l⟩:=i;exact ⟨v,_,rfl,k.thaw e,m _ l⟩
end
theorem FC.frozenG {P:Program}{f:FuncId}{args:List (Bool×List LV)}{pv:PV}{T:Tab}(h:FC P f args [] 0 (Is pv T)):FC P f args [] 0 (QK (pv.thaw T)):=fun gh w p i k=>
 Calls.mono (h gh w p i k) fun t u l=>by
  obtain ⟨v,n,r,j,rfl,⟨rfl,rfl⟩,b,m,e,_⟩:=l
  refine ⟨v,_,[],_,rfl,⟨rfl,rfl⟩,Wj ZF _ _ fun g a=> ?_,m.thaw b,⟨e.gw,e.kp,fun g a=> ?_,fun q c=>absurd c (ZF q)⟩,fun q c=>absurd c (by omega)⟩
  ·rcases a with a|⟨q,c,a⟩
   ·exact b.nl g a
   ·exact b.lt c g a
  ·rcases a with a|⟨q,c,a⟩
   ·exact e.nn g a
   ·rcases e.ox q c g a with h|⟨o,h,_⟩
    ·exact .inr (.inl h)
    ·exact absurd h (ZF o)
theorem Qi7 {A:Amb}{P:Program}{ops:Array Oper}{o:Oper}{s a s':St}(b:o.guard=none)(h:Does A P o s a)(e:a=s'):Acts A P ops o s s':=e▸Acts.of b h
theorem QoM {A:Amb}{P:Program}{ops:Array Oper}{o:Oper}{s a s':St}{j d:Nat}{b:Bool}(i:o.guard=some (j,b))(c:(ops[j]?).bind (·.dst)=some d)(hb:lk s.tm d=some (lf (dB b)))(h:Does A P o s a)(e:a=s'):Acts A P ops o s s':=e▸Qqx i c hb h
section
variable {A:Amb}{s:St}
theorem Wk.nilS (t i:Nat)(E:TypeId)(e:Ty)(hi:lk s.tm i=some (lf (.val (.slice none 0 0))))(b:Fresh s t)(c:A.k0≤t):Wk A s ⟨(i,lf (.ref t))::s.tm,(t,some (.arr E e []))::s.tab⟩:=fun a w r=>by
 obtain ⟨gh,r⟩:=r
 obtain ⟨v,k,l,h,m⟩:=r.tm i _ hi
 simp only[aI,and_true] at h
 subst h
 have j:v= .slice none 0 0:=m
 have n:=r.make t b c [] (by simp) (Zl w) (fun _ _ _=>rfl) (E:=E) (e:=e) (xs:=[]) (hv:= .slice none 0 0) (fp:=[]) (.inl ⟨rfl,rfl,rfl⟩) bG (by simp)
 exact ⟨_,n.know k (pv:=lf (.ref t)) ⟨_,rfl,fun _=>by simp[j]⟩⟩
theorem Qr (t:Nat){p off:Nat}{E':TypeId}{cs:List LV}(E:TypeId)(e:Ty)(o:s.tab.ent p=some (.box E' cs))(L:cs[off]? =some (.val (.slice none 0 0)))(j:Fresh s t)(l:A.k0≤t):
 Wk A s ⟨s.tm,(p,some (.box E' (splice cs off [.ref t])))::(t,some (.arr E e []))::s.tab⟩:=fun a w r=>by
 obtain ⟨gh,r⟩:=r
 have c:p≠t:=fun h=>j.al ⟨_,h▸o⟩
 obtain ⟨g,b,y,G,z,H⟩:=r.cx.en p _ o
 obtain ⟨v,I,J⟩:=H.nth L
 have C:v= .slice none 0 0:=J
 have F:=r.make t j l [] (by simp) (Zl w) (fun _ _ _=>rfl) (E:=E) (e:=e) (xs:=[]) (hv:= .slice none 0 0) (fp:=[]) (.inl ⟨rfl,rfl,rfl⟩) bG (by simp)
 have k:Tab.ent ((t,some (.arr E e []))::(W5 []++s.tab)) p=some (.box E' cs):=by rw[Qg,if_neg c];exact o
 obtain ⟨Q,x,u,M,D,O⟩:=F.cx.en p _ k
 simp only[if_neg c] at u M
 rw[y] at u
 cases u
 rw[z] at D
 cases D
 have K:LVs (Tab.al ((t,some (.arr E e []))::(W5 []++s.tab))) ⟨fun q=>if q=t then .slice none 0 0 else gh.h q,fun q=>if q=t then [] else gh.f q,gh.N⟩ w [.ref t] [v]:=⟨v,[],rfl,fun _=>by simp[C],rfl⟩
 have B:=O.splice K (off:=off)
 have i:b.toList.take off++[v]++b.toList.drop (off+[v].length)=b.toList:=by
  have m:=(ai.1 I)
  obtain ⟨m,n⟩:=m
  conv=>rhs;rw[← bL (off+1) b.toList,bQ m,n]
  rfl
 rw[i] at B
 exact ⟨_,F.mod k (Zl w) (fun _ _ _=>rfl) ⟨g,b,by simp only[if_neg c];exact y,by simp only[if_neg c];exact G,z,B⟩⟩
end
end Go.Proofs.YtjfpbcmfbnnooaaGreat
