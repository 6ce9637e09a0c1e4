import Derived.Test.YtjfpbcmfbnnooaaGreatPAe
set_option linter.all false
namespace Go.Proofs.YtjfpbcmfbnnooaaGreat
open Go.RowKit Tryz
def mixed:prog.follows .mixedOrders=true:=by kernel_rfl
def VB:prog.underlying 3=some (.int .i64):=by kernel_rfl
def Zv:tsh prog 3=some (false,1):=by kernel_rfl
def Ye:zer prog 3=some (.int .i64 0):=by kernel_rfl
def Xg:Xv prog 3 1=true:=by kernel_rfl
def Qpz:(prog.info? 3).map (fun i=>(i.zero,i.size,i.bytes))=some (some (.int .i64 0),1,8):=by kernel_rfl
def YY:prog.underlying 4=some .bool:=by kernel_rfl
def U1:tsh prog 4=some (false,1):=by kernel_rfl
def QEY:zer prog 4=some (.bool false):=by kernel_rfl
def Qu4:(prog.info? 4).map (fun i=>(i.zero,i.size,i.bytes))=some (some (.bool false),1,1):=by kernel_rfl
def JR:prog.underlying 5=some (.int .u8):=by kernel_rfl
def UA:tsh prog 5=some (false,1):=by kernel_rfl
def Qqq:zer prog 5=some (.int .u8 0):=by kernel_rfl
def QDH:(prog.info? 5).map (fun i=>(i.zero,i.size,i.bytes))=some (some (.int .u8 0),1,1):=by kernel_rfl
def Yd:prog.underlying 9=some .string:=by kernel_rfl
def Wv:tsh prog 9=some (false,1):=by kernel_rfl
def Wd:zer prog 9=some (.string ByteArray.empty):=by kernel_rfl
def Ub:Xv prog 9 1=true:=by kernel_rfl
def QDI:(prog.info? 9).map (fun i=>(i.zero,i.size,i.bytes))=some (some (.string ByteArray.empty),1,16):=by kernel_rfl
def Wq:prog.underlying 22=some (.slice 5):=by kernel_rfl
def QdH:prog.underlying 24=some (.slice 103):=by kernel_rfl
def QB0:tsh prog 24=some (false,1):=by kernel_rfl
def Vd:prog.underlying 25=some (.slice 9):=by kernel_rfl
def QdE:tsh prog 25=some (false,1):=by kernel_rfl
def Qj4:zer prog 25=some (.slice none 0 0):=by kernel_rfl
def QiX:Xv prog 25 1=true:=by kernel_rfl
def Qom:prog.underlying 26=some (.slice 139):=by kernel_rfl
def Yc:tsh prog 28=some (true,3):=by kernel_rfl
def Yq:zer prog 28=some (.agg #[.slice none 0 0,.slice none 0 0,.slice none 0 0]):=by kernel_rfl
def QiK:bld prog 28 [(0,1),(1,1),(2,1)] (.pr (.sl 103 (.pr .str .int)) (.pr (.sl 9 .str) (.sl 139 (.pr .int (.pr .int (.pr .bool .int)))))):=Z9 underlying28 (by kernel_rfl) Yq
def Qj0:prog.underlying 30=some (.slice 90):=by kernel_rfl
def QbQ:zer prog 32=some (.agg #[.slice none 0 0,.slice none 0 0]):=by kernel_rfl
def V9:bld prog 32 [(0,1),(1,1)] (.pr (.sl 103 (.pr .str .int)) (.sl 90 (.pr .int (.pr .int (.pr (.sl 9 .str) (.sl 9 .str)))))):=Z9 underlying32 (by kernel_rfl) QbQ
def X4:prog.underlying 46=some (.slice 147):=by kernel_rfl
def QjT:tsh prog 46=some (false,1):=by kernel_rfl
def VJ:tsh prog 48=some (true,2):=by kernel_rfl
def Xb:zer prog 48=some (.agg #[.slice none 0 0,.slice none 0 0]):=by kernel_rfl
def Hk:bld prog 48 [(0,1),(1,1)] (.pr (.sl 103 (.pr .str .int)) (.sl 147 (.pr .str (.pr .int (.pr (.sl 207 (.pr .int .bool)) (.sl 9 .str)))))):=Z9 underlying48 (by kernel_rfl) Xb
def Qon:prog.underlying 51=some (.slice 59):=by kernel_rfl
def QjU:tsh prog 52=some (false,1):=by kernel_rfl
def JF:zer prog 54=some (.agg #[.slice none 0 0,.slice none 0 0,.slice none 0 0]):=by kernel_rfl
def QcV:bld prog 54 [(0,1),(1,1),(2,1)] (.pr (.sl 59 (.pr .int .str)) (.pr (.sl 68 (.pr .int (.pr .int .int))) (.sl 68 (.pr .int (.pr .int .int))))):=Z9 underlying54 (by kernel_rfl) JF
def QdF:tsh prog 59=some (true,2):=by kernel_rfl
def YJ:zer prog 59=some (.agg #[.int .i64 0,.string ByteArray.empty]):=by kernel_rfl
def Qfy:Xv prog 59 2=true:=by kernel_rfl
def QcW:bld prog 59 [(0,1),(1,1)] (.pr .int .str):=Z9 underlying59 (by kernel_rfl) YJ
def ZX:prog.underlying 62=some (.slice 3):=by kernel_rfl
def VK:tsh prog 62=some (false,1):=by kernel_rfl
def H6:zer prog 62=some (.slice none 0 0):=by kernel_rfl
def Qc4:Xv prog 62 1=true:=by kernel_rfl
def QA7:(prog.info? 62).map (fun i=>(i.zero,i.size,i.bytes))=some (some (.slice none 0 0),1,24):=by kernel_rfl
def VM:zer prog 68=some (.agg #[.int .i64 0,.int .i64 0,.int .i64 0]):=by kernel_rfl
def Qa9:Xv prog 68 3=true:=by kernel_rfl
def QcX:bld prog 68 [(0,1),(1,1),(2,1)] (.pr .int (.pr .int .int)):=Z9 underlying68 (by kernel_rfl) VM
def Qj1:prog.underlying 84=some (.int .u64):=by kernel_rfl
def Qv6:tsh prog 90=some (true,4):=by kernel_rfl
def Qhd:zer prog 90=some (.agg #[.int .i64 0,.int .i64 0,.slice none 0 0,.slice none 0 0]):=by kernel_rfl
def QtV:Xv prog 90 4=true:=by kernel_rfl
def Qz5:bld prog 90 [(0,1),(1,1),(2,1),(3,1)] (.pr .int (.pr .int (.pr (.sl 9 .str) (.sl 9 .str)))):=Z9 underlying90 (by kernel_rfl) Qhd
def Ke:zer prog 98=some (.agg #[.slice none 0 0,.slice none 0 0]):=by kernel_rfl
def Qtn:bld prog 98 [(0,1),(1,1)] (.pr (.sl 9 .str) (.sl 9 .str)):=Z9 underlying98 (by kernel_rfl) Ke
def WO:zer prog 103=some (.agg #[.string ByteArray.empty,.int .i64 0]):=by kernel_rfl
def K7:Xv prog 103 2=true:=by kernel_rfl
def QwL:bld prog 103 [(0,1),(1,1)] (.pr .str .int):=Z9 underlying103 (by kernel_rfl) WO
def JA:prog.underlying 119=some (.slice 62):=by kernel_rfl
def QyP:tsh prog 119=some (false,1):=by kernel_rfl
def Qaw:zer prog 121=some (.agg #[.slice none 0 0,.slice none 0 0,.slice none 0 0,.slice none 0 0,.slice none 0 0,.slice none 0 0]):=by kernel_rfl
def QiJ:bld prog 121 [(0,3),(3,2),(5,1)] (.pr (.pr (.sl 103 (.pr .str .int)) (.pr (.sl 9 .str) (.sl 139 (.pr .int (.pr .int (.pr .bool .int)))))) (.pr (.pr (.sl 103 (.pr .str .int)) (.sl 147 (.pr .str (.pr .int (.pr (.sl 207 (.pr .int .bool)) (.sl 9 .str)))))) (.sl 62 (.sl 3 .int)))):=Z9 underlying121 (by kernel_rfl) Qaw
def QjR:tsh prog 139=some (true,4):=by kernel_rfl
def Qh1:fld prog 139 2=some 2:=by kernel_rfl
def Qrr:fld prog 139 3=some 3:=by kernel_rfl
def Yp:zer prog 139=some (.agg #[.int .i64 0,.int .i64 0,.bool false,.int .i64 0]):=by kernel_rfl
def Qxl:Xv prog 139 4=true:=by kernel_rfl
def QwM:bld prog 139 [(0,1),(1,1),(2,1),(3,1)] (.pr .int (.pr .int (.pr .bool .int))):=Z9 underlying139 (by kernel_rfl) Yp
def QjX:prog.underlying 145=some (.slice 207):=by kernel_rfl
def U0:tsh prog 145=some (false,1):=by kernel_rfl
def YU:tsh prog 147=some (true,4):=by kernel_rfl
def Qrs:fld prog 147 0=some 0:=by kernel_rfl
def Qrt:fld prog 147 1=some 1:=by kernel_rfl
def Qdn:fld prog 147 2=some 2:=by kernel_rfl
def Qru:fld prog 147 3=some 3:=by kernel_rfl
def Xa:zer prog 147=some (.agg #[.string ByteArray.empty,.int .i64 0,.slice none 0 0,.slice none 0 0]):=by kernel_rfl
def Qb9:Xv prog 147 4=true:=by kernel_rfl
def QbZ:bld prog 147 [(0,1),(1,1),(2,1),(3,1)] (.pr .str (.pr .int (.pr (.sl 207 (.pr .int .bool)) (.sl 9 .str)))):=Z9 underlying147 (by kernel_rfl) Xa
def Qat:prog.underlying 159=some (.slice 290):=by kernel_rfl
def Qqi:tsh prog 159=some (false,1):=by kernel_rfl
def Qe4:tsh prog 161=some (true,2):=by kernel_rfl
def Qax:zer prog 161=some (.agg #[.int .i64 0,.slice none 0 0]):=by kernel_rfl
def QeA:bld prog 161 [(0,1),(1,1)] (.pr .int (.sl 290 (.pr (.sl 3 .int) (.sl 3 .int)))):=Z9 underlying161 (by kernel_rfl) Qax
def QyQ:prog.underlying 162=some (.slice 183):=by kernel_rfl
def Qqj:tsh prog 162=some (false,1):=by kernel_rfl
def Yh:tsh prog 164=some (true,5):=by kernel_rfl
def JC:zer prog 164=some (.agg #[.int .i64 0,.slice none 0 0,.slice none 0 0,.slice none 0 0,.string ByteArray.empty]):=by kernel_rfl
def Qb0:bld prog 164 [(0,2),(2,1),(3,1),(4,1)] (.pr (.pr .int (.sl 290 (.pr (.sl 3 .int) (.sl 3 .int)))) (.pr (.sl 103 (.pr .str .int)) (.pr (.sl 183 (.pr .int .bool)) .str))):=Z9 underlying164 (by kernel_rfl) JC
def Vh:zer prog 183=some (.agg #[.int .i64 0,.bool false]):=by kernel_rfl
def Qca:Xv prog 183 2=true:=by kernel_rfl
def Qaf:bld prog 183 [(0,1),(1,1)] (.pr .int .bool):=Z9 underlying183 (by kernel_rfl) Vh
def QjY:prog.underlying 194=some (.map 59 3):=by kernel_rfl
def Qay:zer prog 204=some (.agg #[.int .i64 0,.int .i64 0]):=by kernel_rfl
def Qo4:Xv prog 204 2=true:=by kernel_rfl
def QoJ:bld prog 204 [(0,1),(1,1)] (.pr .int .int):=Z9 underlying204 (by kernel_rfl) Qay
def QjS:tsh prog 207=some (true,2):=by kernel_rfl
def Qrv:fld prog 207 0=some 0:=by kernel_rfl
def Qh2:fld prog 207 1=some 1:=by kernel_rfl
def Qaz:zer prog 207=some (.agg #[.int .i64 0,.bool false]):=by kernel_rfl
def Qo5:Xv prog 207 2=true:=by kernel_rfl
def Qb1:bld prog 207 [(0,1),(1,1)] (.pr .int .bool):=Z9 underlying207 (by kernel_rfl) Qaz
def Qj3:zer prog 227=some (.agg #[.slice none 0 0,.slice none 0 0]):=by kernel_rfl
def QeB:bld prog 227 [(0,1),(1,1)] (.pr (.sl 9 .str) (.sl 229 (.pr .int (.pr .int .int)))):=Z9 underlying227 (by kernel_rfl) Qj3
def JD:zer prog 229=some (.agg #[.int .i64 0,.int .i64 0,.int .i64 0]):=by kernel_rfl
def QiW:Xv prog 229 3=true:=by kernel_rfl
def QeC:bld prog 229 [(0,1),(1,1),(2,1)] (.pr .int (.pr .int .int)):=Z9 underlying229 (by kernel_rfl) JD
def Qy0:zer prog 242=some (.agg #[.int .i64 0,.slice none 0 0,.slice none 0 0,.slice none 0 0,.string ByteArray.empty,.slice none 0 0,.slice none 0 0]):=by kernel_rfl
def QwN:bld prog 242 [(0,5),(5,1),(6,1)] (.pr (.pr (.pr .int (.sl 290 (.pr (.sl 3 .int) (.sl 3 .int)))) (.pr (.sl 103 (.pr .str .int)) (.pr (.sl 183 (.pr .int .bool)) .str))) (.pr (.sl 9 .str) (.sl 9 .str))):=Z9 underlying242 (by kernel_rfl) Qy0
def QcH:prog.underlying 251=some (.slice 4):=by kernel_rfl
def Qj5:zer prog 253=some (.agg #[.int .i64 0,.int .i64 0,.int .i64 0]):=by kernel_rfl
def Qo6:Xv prog 253 3=true:=by kernel_rfl
def QoK:bld prog 253 [(0,1),(1,1),(2,1)] (.pr .int (.pr .int .int)):=Z9 underlying253 (by kernel_rfl) Qj5
def QjZ:prog.underlying 263=some (.int .u64):=by kernel_rfl
def Qe5:zer prog 286=some (.agg #[.slice none 0 0,.slice none 0 0,.slice none 0 0,.int .i64 0,.int .i64 0,.bool false]):=by kernel_rfl
def QwO:bld prog 286 [(0,2),(2,1),(3,1),(4,1),(5,1)] (.pr (.pr (.sl 9 .str) (.sl 229 (.pr .int (.pr .int .int)))) (.pr (.sl 229 (.pr .int (.pr .int .int))) (.pr .int (.pr .int .bool)))):=Z9 underlying286 (by kernel_rfl) Qe5
def Qas:tsh prog 290=some (true,2):=by kernel_rfl
def Qh3:fld prog 290 0=some 0:=by kernel_rfl
def Qh4:fld prog 290 1=some 1:=by kernel_rfl
def JE:zer prog 290=some (.agg #[.slice none 0 0,.slice none 0 0]):=by kernel_rfl
def QeG:Xv prog 290 2=true:=by kernel_rfl
def QeD:bld prog 290 [(0,1),(1,1)] (.pr (.sl 3 .int) (.sl 3 .int)):=Z9 underlying290 (by kernel_rfl) JE
def Qy1:zer prog 296=some (.agg #[.slice none 0 0,.slice none 0 0,.slice none 0 0,.bool false]):=by kernel_rfl
def QwP:bld prog 296 [(0,1),(1,1),(2,1),(3,1)] (.pr (.sl 9 .str) (.pr (.sl 9 .str) (.pr (.sl 9 .str) .bool))):=Z9 underlying296 (by kernel_rfl) Qy1
def U3:prog.underlying 310=some (.slice 25):=by kernel_rfl
def QcJ:zer prog 313=some (.agg #[.int .i64 0,.bool false,.slice none 0 0]):=by kernel_rfl
def Qxm:Xv prog 313 3=true:=by kernel_rfl
def QwQ:bld prog 313 [(0,1),(1,1),(2,1)] (.pr .int (.pr .bool (.sl 9 .str))):=Z9 underlying313 (by kernel_rfl) QcJ
def Qy2:zer prog 346=some (.agg #[.slice none 0 0,.slice none 0 0]):=by kernel_rfl
def QwR:bld prog 346 [(0,2)] (.pr (.sl 103 (.pr .str .int)) (.sl 147 (.pr .str (.pr .int (.pr (.sl 207 (.pr .int .bool)) (.sl 9 .str)))))):=Z9 underlying346 (by kernel_rfl) Qy2
def QtY:=En func6
def QkH:=En func9
def QqT:=En func11
def QqU:=En func21
def QqV:=En func22
def QqW:=En func23
def QqX:=En func24
def QhM:=En func25
def QqY:=En func26
def QqZ:=En func27
def Qq0:=En func28
def Qq1:=En func29
def Qc5:=En func30
def QhN:=En func31
def Qq2:=En func32
def Qq3:=En func47
def W2:=En func51
def V4:=En func52
def QhO:=En func53
def QhP:=En func59
def Za:=En func65
def Qq4:=En func66
def Qq5:=En func67
def Qq6:=En func68
def QhQ:=En func69
def Qq7:=En func74
def Qq8:=En func75
def XN:=En func77
def Qc6:=En func81
def Qq9:=En func82
def Qc7:=En func83
def Qra:=En func84
def QhR:=En func85
def Qrb:=En func86
def QhS:=En func87
def Qrc:=En func88
def Qrd:=En func89
def QhT:=En func90
def Qre:=En func91
def Qc8:=En func92
def QhU:=En func93
def Qrf:=En func94
def Qrg:=En func95
def Qrh:=En func96
def Qri:=En func97
def Qc9:=En func98
def Zs:=En func100
def Qba:=En func101
def Yj:=En func104
def Qfz:=En func106
def Qmf:=En func111
def Qmg:=En func114
def Qmh:=En func116
def XD:=En func117
def Zi:=En func118
def Qmi:=En func119
def Qbb:=En func123
def Qmj:=En func124
def Qmk:=En func125
def QfA:=En func126
def QfB:=En func127
def Qml:=En func128
def Qmm:=En func129
def K9:=En func130
def Qmn:=En func131
def Qmo:=En func132
def Qbc:=En func133
def Qmp:=En func134
def QfC:=En func138
def QfD:=En func142
def Qmq:=En func143
def Qmr:=En func144
def QfE:=En func145
def Qms:=En func146
def Qmt:=En func147
def QfF:=En func148
def Qmu:=En func149
def Qmv:=En func150
def Qmw:=En func153
def Qmx:=En func154
def QfG:=En func155
def QfH:=En func158
def Qmy:=En func159
def Qmz:=En func160
def QmA:=En func161
def QmB:=En func162
def QmC:=En func163
def QmD:=En func164
def QmE:=En func165
def QmF:=En func166
def QmG:=En func167
def QmH:=En func168
def Qbd:=En func169
def QmI:=En func170
def Qbe:=En func171
def QmJ:=En func172
def Ja:=En func173
def QmK:=En func174
def QmL:=En func175
def QfI:=En func176
def Qbf:=En func182
def QfJ:=En func183
def QmM:=En func185
def Uc:=En func186
def QfK:=En func187
def QmN:=En func188
def QmO:=En func189
def QfL:=En func190
def Qbg:=En func191
def QmP:=En func192
def QmQ:=En func193
def Jb:=En func200
def QmR:=En func201
def W0:=En func202
def XE:=En func203
def Qbh:=En func204
def QmS:=En func205
def Qbi:=En func206
def QmT:=En func207
def QmU:=En func208
def QmV:=En func220
def QfM:=En func223
def QmW:=En func224
def QmX:=En func225
def QmY:=En func229
def Jc:=En func230
def Wo:=En func231
def QmZ:=En func232
def Qm0:=En func233
def QfN:=En func234
def Qm1:=En func235
def Qm2:=En func236
def Qm3:=En func237
def Qm4:=En func238
def Qm5:=En func239
def Qm6:=En func240
def QfO:=En func241
def Qm7:=En func242
def Qm8:=En func243
def Qm9:=En func244
def Qbj:=En func245
def Qna:=En func246
def Qnb:=En func247
def Qbk:=En func248
def Qnc:=En func249
def Jd:=En func250
def Qbl:=En func253
def Je:=En func254
def Qnd:=En func255
def Qne:=En func256
def QfP:=En func257
def QfQ:=En func258
def QfR:=En func263
def Qnf:=En func264
def QfS:=En func265
def QfT:=En func266
def QfU:=En func267
def QfV:=En func281
def Qng:=En func285
def Jf:=En func286
def Qnh:=En func287
def Qbm:=En func288
def QfW:=En func289
def Ud:=En func290
def Qni:=En func291
def QfX:=En func292
def Qnj:=En func293
def Qnk:=En func294
def Qbn:=En func295
def Qbo:=En func298
def Qnl:=En func300
def Qnm:=En func301
def Qnn:=En func302
def Qno:=En func303
def Qbp:=En func306
def QfY:=En func307
def QfZ:=En func308
def Qf0:=En func309
def Qbq:=En func310
def Qnp:=En func311
def Qf1:=En func312
def Qnq:=En func313
def Qf2:=En func329
def Jg:=En func330
def Qnr:=En func331
def Qns:=En func332
def Jh:=En func333
def Qbr:=En func334
def Qnt:=En func335
def Qnu:=En func336
def Qnv:=En func337
def Qf3:=En func338
def Qnw:=En func340
def Qnx:=En func348
def Qf4:=En func349
def Qny:=En func353
@[reducible] def Is (pv:PV) (T:Tab):PV→Tab→Prop:=fun p T'=>p=pv∧T'=T
def FrL (s:St)(n:Nat):List Nat→Prop
 | []=>True
 | q::l=>Fresh s (n+q)∧FrL s n l
def FrL.get {s:St}{n:Nat}{l:List Nat}(h:FrL s n l):∀q∈l,Fresh s (n+q):=by
 induction l with
 | nil=>simp
 | cons q l b=>
  intro r a
  rcases aK.1 a with rfl|a
  ·exact h.1
  ·exact b h.2 r a
section
variable {A:Amb}{P:Program}{s:St}
variable {f:FuncId}{xs:List Operand}{tys:Array TypeId}{args:List (Bool×List LV)}{d:Nat}{ty:TypeId}{pos:String}{af:Array Edge}{g:Option (Nat×Bool)}{pv:PV}{T:Tab}
def QlI (n:Nat)(l:FC P f args [] 0 (Is pv T))(i:Qe P f)(k:EvL A s xs args)(b:YS pv T=true)(m:Nat.blt d A.n=true)(c:FrL s n (ZU T))(h:A.k0≤n):
 Does A P ⟨some d,.call ⟨.value (.func f),xs.toArray,tys⟩,ty,pos,af,g⟩ s (s.back d n pv T):=
 fun a w K Q r j=>DoesT.call n l i k (by rintro _ _ ⟨rfl,rfl⟩;exact b) (by rintro _ _ ⟨rfl,rfl⟩ q ⟨e,o⟩;exact c.get q (Zw o).1) h m a w K Q r (by
  rintro u t v ⟨_,_,⟨rfl,rfl⟩,rfl⟩ p
  exact j _ _ p)
def Y0 (n:Nat)(l:FC P f args [] 0 (Is pv T))(i:Qe P f)(k:EvLB A s xs args)(b:YS pv T=true)(m:(pv.fl&&T.fl)=true)(o:Nat.blt d A.n=true)(c:FrL s n (ZU T))(h:A.k0≤n):
 Does A P ⟨some d,.call ⟨.value (.func f),xs.toArray,tys⟩,ty,pos,af,g⟩ s (s.back d n pv T):=
 fun a w K Q r j=>Hc n l i k (by rintro _ _ ⟨rfl,rfl⟩;exact b) (by rintro _ _ ⟨rfl,rfl⟩;simpa using m) (by rintro _ _ ⟨rfl,rfl⟩ q ⟨e,p⟩;exact c.get q (Zw p).1) h o a w K Q r (by
  rintro v u x ⟨_,_,⟨rfl,rfl⟩,rfl⟩ t
  exact j _ _ t)
def QAy {fn:Func}{k:Nat}(pv:PV)(b:Tab)(ρ:List (Nat×Nat)){a:PV}(c:Res A P fn s a)(h0:a=pv.ren (rn ρ))(e:HasE ⟨[],s.tab⟩ ρ b)(h:WZ (b.map fun x=>rn ρ x.1)=true)(i:idB ρ k=true):fin A P fn (Qa7 (Is pv b) k) .ret s:=
 QeL pv b ρ (h0▸c) e h i ⟨rfl,rfl⟩
end
def LV.thaw (T:Tab):LV→LV
 | .ref q=>match T.ent q with
  | some (.arr E e xs)=> .dat (.sl E e) xs
  | _=> .ref q
 | l=>l
def PV.thaw (T:Tab):PV→PV
 | .cm b ls=> .cm b (ls.map (LV.thaw T))
 | .tup cs=> .tup (cs.map fun c=>(c.1,c.2.map (LV.thaw T)))
section
variable {T:Tab}{gh:Gh}{w:World}
def LVR.thaw (i:Cx T gh w){l:LV}{v:Value}(h:LVR T.al gh w l v):LVR (Tab.al []) ⟨gh.h,gh.f,fun g=>gh.N g∨∃q,T.al q∧g∈gh.f q⟩ w (l.thaw T) v:=by
 have c:∀l,LVR T.al gh w l v→LVR (Tab.al []) ⟨gh.h,gh.f,fun g=>gh.N g∨∃q,T.al q∧g∈gh.f q⟩ w l v:=fun l h=>h.mono (fun q _ h=>absurd h (ZO q)) fun g b=>⟨.inl b,rfl⟩
 cases l with
 | ref q=>
  simp only[LV.thaw]
  split
  ·rename_i E e xs a
   have k:v=gh.h q:=h ⟨_,a⟩
   have j:Own (.sl E e) w (gh.f q) [gh.h q] xs:=i.en q _ a
   rw[k]
   exact j.rd fun g b=> .inr ⟨q,⟨_,a⟩,b⟩
  ·exact c _ h
 | _=>exact c _ h
def LVs.thaw (a:Cx T gh w){ls:List LV}{vs:List Value}(h:LVs T.al gh w ls vs):LVs (Tab.al []) ⟨gh.h,gh.f,fun g=>gh.N g∨∃q,T.al q∧g∈gh.f q⟩ w (ls.map (LV.thaw T)) vs:=by
 induction ls generalizing vs with
 | nil=>exact h
 | cons l ls e=>obtain ⟨v,i,rfl,b,c⟩:=h;exact ⟨v,_,rfl,b.thaw a,e c⟩
def CmR.thaw (e:Cx T gh w){c:Bool×List LV}{v:Value}(h:CmR T.al gh w c v):CmR (Tab.al []) ⟨gh.h,gh.f,fun g=>gh.N g∨∃q,T.al q∧g∈gh.f q⟩ w (c.1,c.2.map (LV.thaw T)) v:=by
 obtain ⟨b,j⟩:=c
 cases b with
 | true=>obtain ⟨i,rfl,a⟩:=h;exact ⟨i,rfl,a.thaw e⟩
 | false=>obtain ⟨l,rfl,a⟩:=h;exact ⟨_,rfl,a.thaw e⟩
def PVR.thaw (e:Cx T gh w){pv:PV}{v:Value}(h:PVR T.al gh w pv v):PVR (Tab.al []) ⟨gh.h,gh.f,fun g=>gh.N g∨∃q,T.al q∧g∈gh.f q⟩ w (pv.thaw T) v:=by
 cases pv with
 | cm b n=>exact CmR.thaw e (c:=(b,n)) h
 | tup a=>
  obtain ⟨j,rfl,i⟩:=h
  refine ⟨j,rfl,?_⟩
  induction a generalizing j with
  | nil=>exact i
  | cons c a m=>obtain ⟨v,o,rfl,k,l⟩:=i;exact ⟨v,_,rfl,k.thaw e,m _ l⟩
end
def FC.frozenG {P:Program}{f:FuncId}{args:List (Bool×List LV)}{pv:PV}{T:Tab}(h:FC P f args [] 0 (Is pv T)):FC P f args [] 0 (QJ (pv.thaw T)):=fun gh w p i k=>
 Calls.mono (h gh w p i k) fun t u l=>by
  obtain ⟨v,n,r,j,rfl,⟨rfl,rfl⟩,b,m,e,_⟩:=l
  refine ⟨v,_,[],_,rfl,⟨rfl,rfl⟩,VA ZO _ _ fun g a=> ?_,m.thaw b,⟨e.gw,e.kp,fun g a=> ?_,fun q c=>absurd c (ZO q)⟩,fun q c=>absurd c (by omega)⟩
  ·rcases a with a|⟨q,c,a⟩
   ·exact b.nl g a
   ·exact b.lt c g a
  ·rcases a with a|⟨q,c,a⟩
   ·exact e.nn g a
   ·rcases e.ox q c g a with h|⟨o,h,_⟩
    ·exact .inr (.inl h)
    ·exact absurd h (ZO o)
def Qj8 {A:Amb}{P:Program}{ops:Array Oper}{o:Oper}{s a s':St}(b:o.guard=none)(h:Does A P o s a)(e:a=s'):Acts A P ops o s s':=e▸Acts.of b h
def Qqs {A:Amb}{P:Program}{ops:Array Oper}{o:Oper}{s a s':St}{j d:Nat}{b:Bool}(i:o.guard=some (j,b))(c:(ops[j]?).bind (·.dst)=some d)(hb:lk s.tm d=some (lf (dB b)))(h:Does A P o s a)(e:a=s'):Acts A P ops o s s':=e▸QsD i c hb h
section
variable {A:Amb}{s:St}
def Wk.nilS (t i:Nat)(E:TypeId)(e:Ty)(hi:lk s.tm i=some (lf (.val (.slice none 0 0))))(b:Fresh s t)(c:A.k0≤t):Wk A s ⟨(i,lf (.ref t))::s.tm,(t,some (.arr E e []))::s.tab⟩:=fun a w r=>by
 obtain ⟨gh,r⟩:=r
 obtain ⟨v,k,l,h,m⟩:=r.tm i _ hi
 simp only[aN,and_true] at h
 subst h
 have j:v= .slice none 0 0:=m
 have n:=r.make t b c [] (by simp) (ZN w) (fun _ _ _=>rfl) (E:=E) (e:=e) (xs:=[]) (hv:= .slice none 0 0) (fp:=[]) (.inl ⟨rfl,rfl,rfl⟩) cv (by simp)
 exact ⟨_,n.know k (pv:=lf (.ref t)) ⟨_,rfl,fun _=>by simp[j]⟩⟩
def Qo (t:Nat){p off:Nat}{E':TypeId}{cs:List LV}(E:TypeId)(e:Ty)(o:s.tab.ent p=some (.box E' cs))(L:cs[off]? =some (.val (.slice none 0 0)))(j:Fresh s t)(l:A.k0≤t):
 Wk A s ⟨s.tm,(p,some (.box E' (splice cs off [.ref t])))::(t,some (.arr E e []))::s.tab⟩:=fun a w r=>by
 obtain ⟨gh,r⟩:=r
 have c:p≠t:=fun h=>j.al ⟨_,h▸o⟩
 obtain ⟨g,b,y,G,z,H⟩:=r.cx.en p _ o
 obtain ⟨v,I,J⟩:=H.nth L
 have C:v= .slice none 0 0:=J
 have F:=r.make t j l [] (by simp) (ZN w) (fun _ _ _=>rfl) (E:=E) (e:=e) (xs:=[]) (hv:= .slice none 0 0) (fp:=[]) (.inl ⟨rfl,rfl,rfl⟩) cv (by simp)
 have k:Tab.ent ((t,some (.arr E e []))::(WM []++s.tab)) p=some (.box E' cs):=by rw[Qi,if_neg c];exact o
 obtain ⟨Q,x,u,M,D,O⟩:=F.cx.en p _ k
 simp only[if_neg c] at u M
 rw[y] at u
 cases u
 rw[z] at D
 cases D
 have K:LVs (Tab.al ((t,some (.arr E e []))::(WM []++s.tab))) ⟨fun q=>if q=t then .slice none 0 0 else gh.h q,fun q=>if q=t then [] else gh.f q,gh.N⟩ w [.ref t] [v]:=⟨v,[],rfl,fun _=>by simp[C],rfl⟩
 have B:=O.splice K (off:=off)
 have i:b.toList.take off++[v]++b.toList.drop (off+[v].length)=b.toList:=by
  have m:=(ae.1 I)
  obtain ⟨m,n⟩:=m
  conv=>rhs;rw[← bB (off+1) b.toList,cd m,n]
  rfl
 rw[i] at B
 exact ⟨_,F.mod k (ZN w) (fun _ _ _=>rfl) ⟨g,b,by simp only[if_neg c];exact y,by simp only[if_neg c];exact G,z,B⟩⟩
end
end Go.Proofs.YtjfpbcmfbnnooaaGreat
