/- Walks over abstract states: drawn insertions. -/
import Derived.Test.YtjaadeknhofhpaaGreatDm
import Derived.Test.YtjaadeknhofhpaaGreatCj
import Derived.Test.YtjaadeknhofhpaaGreatDi
import Derived.Test.YtjaadeknhofhpaaGreatBu
set_option linter.unusedSimpArgs false
set_option linter.unusedVariables false
set_option linter.unusedSectionVars false
namespace Go.Proofs.YtjaadeknhofhpaaGreat
open Go.RowKit
set_option maxRecDepth 100000
set_option maxHeartbeats 4000000
theorem VB (code:List UInt8)[∀s,Decidable (StgOk s)][∀s,Decidable (XG s)]:FC Tryz.prog 87 [(false,[.dat Zn code])] [] 0 (Ex (fun x:DSg=>x.1.length≤8) (fun x:DSg=>ag [.dat Qo x.1, .dat Qr x.2.1, .dat QD x.2.2]) (fun x:DSg=>[])):=by
 refine Qy Tryz.func87 rfl rfl Tryz.ntmps87 fun O_ hO w0_ N0_ X_ h0_ f0_=> ?_
 refine w_ ?_
 refine lc (xal 0 Wu ZS) ?_
 iterate 3 refine w_ ?_
 refine lc (Jf [.val (.slice none 0 0),dI 0, .val (.int .u64 0)] (QgF (offs:=[(0,1),(1,1),(2,1)]) (zs:=[.slice none 0 0, .int .i64 0, .int .u64 0]) Tryz.underlying121 (by kernel_rfl) (by kernel_rfl)) (fun _ _ _=>⟨_,_,rfl,rfl,⟨_,_,rfl,(WT _ _ _ .int).one rfl,⟨_,_,rfl,rfl,rfl⟩⟩⟩) ⟨_,_,rfl,(Qf rfl),rfl⟩ (ah.1 rfl) rfl rfl) ?_
 refine xbx 1 ?_
 iterate 4 refine w_ ?_
 refine Y7 2 [(0,1)] (WA code 0 0 (by omega)) Qdh e1_ ⟨rfl,trivial⟩ rfl (fun _=>rfl) (fun _=>⟨trivial,trivial⟩) (nlr rfl) fun x1 hx2=> ?_
 iterate 3 refine w_ ?_
 subst hO
 refine Zl (x:=(x1.1.1,(x1.1.2.1,x1.1.2.2))) [] ?_ (Res.one rfl (Qz rfl rfl Q3 rfl)) rfl trivial rfl rfl
 (have h_:=‹_≤8∧_›; exact h_.1)
theorem V5 (code:List UInt8)[∀s,Decidable (StgOk s)][∀s,Decidable (XG s)]:FC Tryz.prog 21 [(false,[.dat Zn code])] [] 0 (Ex (fun x:DSg=>x.1.length≤8) (fun x:DSg=>ag [.dat Qo x.1, .dat Qr x.2.1, .dat QD x.2.2]) (fun x:DSg=>[])):=by
 refine Qy Tryz.func21 rfl rfl Tryz.ntmps21 fun O_ hO w0_ N0_ X_ h0_ f0_=> ?_
 refine w_ ?_
 refine lc (xal 0 Wu ZS) ?_
 iterate 3 refine w_ ?_
 refine Y7 1 [] (VB code) QnC e1_ trivial rfl (fun _=>rfl) (fun _=>trivial) (nlr rfl) fun x1 hx2=> ?_
 iterate 3 refine w_ ?_
 subst hO
 refine Zl (x:=(x1.1,(x1.2.1,x1.2.2))) [] ?_ (Res.one rfl (Qz rfl rfl Q3 rfl)) rfl trivial rfl rfl
 assumption
theorem JB (code:List UInt8)[∀s,Decidable (StgOk s)][∀s,Decidable (XG s)]:FC Tryz.prog 94 [(false,[.dat Zn code])] [] 0 (Ex (fun x:DSg×Zy×Zy=>x.1.1.length≤8) (fun x:DSg×Zy×Zy=>PV.tup [(true,[.dat Qo x.1.1, .dat Qr x.1.2.1, .dat QD x.1.2.2]),(true,[dI x.2.1.1,dB x.2.1.2]),(true,[dI x.2.2.1,dB x.2.2.2])]) (fun x:DSg×Zy×Zy=>[])):=by
 refine Qy Tryz.func94 rfl rfl Tryz.ntmps94 fun O_ hO w0_ N0_ X_ h0_ f0_=> ?_
 refine w_ ?_
 refine lc (xal 0 Wu ZS)<|lc (xal 1 Qw Ys)<|lc (xal 2 Qw Ys) ?_
 iterate 3 refine w_ ?_
 refine lc (Jf [.val (.slice none 0 0),dI 0, .val (.int .u64 0)] (QgF (offs:=[(0,1),(1,1),(2,1)]) (zs:=[.slice none 0 0, .int .i64 0, .int .u64 0]) Tryz.underlying121 (by kernel_rfl) (by kernel_rfl)) (fun _ _ _=>⟨_,_,rfl,rfl,⟨_,_,rfl,(WT _ _ _ .int).one rfl,⟨_,_,rfl,rfl,rfl⟩⟩⟩) ⟨_,_,rfl,(Qf rfl),rfl⟩ (ah.1 rfl) rfl rfl) ?_
 refine xbx 3 ?_
 iterate 4 refine w_ ?_
 refine Y7 4 [(0,3)] (WA code 0 0 (by omega)) Qdh e1_ ⟨rfl,trivial⟩ rfl (fun _=>rfl) (fun _=>⟨trivial,trivial⟩) (nlr rfl) fun x1 hx2=>lc (xal 5 Wu ZS) ?_
 iterate 2 refine w_ ?_
 have hp3:=YK code x1.2.1 x1.2.2 20
 apply dW [io 13 _,io 14 _,io 15 _,io 16 _,⟨some 17,lI (pkV code x1.2.1 x1.2.2 20),[(3,some (.box 121 [.dat Zn code,dI (pkA 20 x1.2.1), .val (.int .u64 (pkS code x1.2.1 x1.2.2 20))])),(3,none)]⟩,io 18 (lI ((pkV code x1.2.1 x1.2.2 20) / 19)),io 19 _,io 7 _] [0,0,0,7,7,7,0,0]
 iterate 4 refine z_ ?_
 refine zz (fun _ h_=>ac (dP 6 [(0,3)] (QX code x1.2.1 x1.2.2 20 (by omega)) Yk) rfl) ?_
 refine zz (fun _ h_=>ac (QeB (h_.v rfl) (Qu rfl) rfl (by omega) (by omega)) rfl) ?_
 iterate 2 refine z_ ?_
 exact zN
 have hp4:=YK code (pkA 20 x1.2.1) (pkS code x1.2.1 x1.2.2 20) ((x1.1.1.length:Int)+((pkV code x1.2.1 x1.2.2 20) / 19))
 have hp5:=YK code (pkA ((x1.1.1.length:Int)+((pkV code x1.2.1 x1.2.2 20) / 19)) (pkA 20 x1.2.1)) (pkS code (pkA 20 x1.2.1) (pkS code x1.2.1 x1.2.2 20) ((x1.1.1.length:Int)+((pkV code x1.2.1 x1.2.2 20) / 19))) 2
 have hp6:=YK code (pkA 2 (pkA ((x1.1.1.length:Int)+((pkV code x1.2.1 x1.2.2 20) / 19)) (pkA 20 x1.2.1))) (pkS code (pkA ((x1.1.1.length:Int)+((pkV code x1.2.1 x1.2.2 20) / 19)) (pkA 20 x1.2.1)) (pkS code (pkA 20 x1.2.1) (pkS code x1.2.1 x1.2.2 20) ((x1.1.1.length:Int)+((pkV code x1.2.1 x1.2.2 20) / 19))) 2) ((x1.1.1.length:Int)+((pkV code x1.2.1 x1.2.2 20) / 19))
 have hp7:=YK code (pkA ((x1.1.1.length:Int)+((pkV code x1.2.1 x1.2.2 20) / 19)) (pkA 2 (pkA ((x1.1.1.length:Int)+((pkV code x1.2.1 x1.2.2 20) / 19)) (pkA 20 x1.2.1)))) (pkS code (pkA 2 (pkA ((x1.1.1.length:Int)+((pkV code x1.2.1 x1.2.2 20) / 19)) (pkA 20 x1.2.1))) (pkS code (pkA ((x1.1.1.length:Int)+((pkV code x1.2.1 x1.2.2 20) / 19)) (pkA 20 x1.2.1)) (pkS code (pkA 20 x1.2.1) (pkS code x1.2.1 x1.2.2 20) ((x1.1.1.length:Int)+((pkV code x1.2.1 x1.2.2 20) / 19))) 2) ((x1.1.1.length:Int)+((pkV code x1.2.1 x1.2.2 20) / 19))) 2
 apply dW [io 20 _,io 21 _,io 22 _,⟨some 23,lI (pkV code (pkA 20 x1.2.1) (pkS code x1.2.1 x1.2.2 20) ((x1.1.1.length:Int)+((pkV code x1.2.1 x1.2.2 20) / 19))),[(3,some (.box 121 [.dat Zn code,dI (pkA ((x1.1.1.length:Int)+((pkV code x1.2.1 x1.2.2 20) / 19)) (pkA 20 x1.2.1)), .val (.int .u64 (pkS code (pkA 20 x1.2.1) (pkS code x1.2.1 x1.2.2 20) ((x1.1.1.length:Int)+((pkV code x1.2.1 x1.2.2 20) / 19))))])),(3,none)]⟩,io 24 (lP 3 0),⟨some 25,lB (decide (pkV code (pkA ((x1.1.1.length:Int)+((pkV code x1.2.1 x1.2.2 20) / 19)) (pkA 20 x1.2.1)) (pkS code (pkA 20 x1.2.1) (pkS code x1.2.1 x1.2.2 20) ((x1.1.1.length:Int)+((pkV code x1.2.1 x1.2.2 20) / 19))) 2=0)),[(3,some (.box 121 [.dat Zn code,dI (pkA 2 (pkA ((x1.1.1.length:Int)+((pkV code x1.2.1 x1.2.2 20) / 19)) (pkA 20 x1.2.1))), .val (.int .u64 (pkS code (pkA ((x1.1.1.length:Int)+((pkV code x1.2.1 x1.2.2 20) / 19)) (pkA 20 x1.2.1)) (pkS code (pkA 20 x1.2.1) (pkS code x1.2.1 x1.2.2 20) ((x1.1.1.length:Int)+((pkV code x1.2.1 x1.2.2 20) / 19))) 2))])),(3,none)]⟩,io 26 (ag [dI (pkV code (pkA 20 x1.2.1) (pkS code x1.2.1 x1.2.2 20) ((x1.1.1.length:Int)+((pkV code x1.2.1 x1.2.2 20) / 19))),dB (decide (pkV code (pkA ((x1.1.1.length:Int)+((pkV code x1.2.1 x1.2.2 20) / 19)) (pkA 20 x1.2.1)) (pkS code (pkA 20 x1.2.1) (pkS code x1.2.1 x1.2.2 20) ((x1.1.1.length:Int)+((pkV code x1.2.1 x1.2.2 20) / 19))) 2=0))]),io 27 (lP 3 0),io 28 (lI ((x1.1.1.length:Int)+((pkV code x1.2.1 x1.2.2 20) / 19))),⟨some 29,lI (pkV code (pkA 2 (pkA ((x1.1.1.length:Int)+((pkV code x1.2.1 x1.2.2 20) / 19)) (pkA 20 x1.2.1))) (pkS code (pkA ((x1.1.1.length:Int)+((pkV code x1.2.1 x1.2.2 20) / 19)) (pkA 20 x1.2.1)) (pkS code (pkA 20 x1.2.1) (pkS code x1.2.1 x1.2.2 20) ((x1.1.1.length:Int)+((pkV code x1.2.1 x1.2.2 20) / 19))) 2) ((x1.1.1.length:Int)+((pkV code x1.2.1 x1.2.2 20) / 19))),[(3,some (.box 121 [.dat Zn code,dI (pkA ((x1.1.1.length:Int)+((pkV code x1.2.1 x1.2.2 20) / 19)) (pkA 2 (pkA ((x1.1.1.length:Int)+((pkV code x1.2.1 x1.2.2 20) / 19)) (pkA 20 x1.2.1)))), .val (.int .u64 (pkS code (pkA 2 (pkA ((x1.1.1.length:Int)+((pkV code x1.2.1 x1.2.2 20) / 19)) (pkA 20 x1.2.1))) (pkS code (pkA ((x1.1.1.length:Int)+((pkV code x1.2.1 x1.2.2 20) / 19)) (pkA 20 x1.2.1)) (pkS code (pkA 20 x1.2.1) (pkS code x1.2.1 x1.2.2 20) ((x1.1.1.length:Int)+((pkV code x1.2.1 x1.2.2 20) / 19))) 2) ((x1.1.1.length:Int)+((pkV code x1.2.1 x1.2.2 20) / 19))))])),(3,none)]⟩,io 30 (lP 3 0),⟨some 31,lB (decide (pkV code (pkA ((x1.1.1.length:Int)+((pkV code x1.2.1 x1.2.2 20) / 19)) (pkA 2 (pkA ((x1.1.1.length:Int)+((pkV code x1.2.1 x1.2.2 20) / 19)) (pkA 20 x1.2.1)))) (pkS code (pkA 2 (pkA ((x1.1.1.length:Int)+((pkV code x1.2.1 x1.2.2 20) / 19)) (pkA 20 x1.2.1))) (pkS code (pkA ((x1.1.1.length:Int)+((pkV code x1.2.1 x1.2.2 20) / 19)) (pkA 20 x1.2.1)) (pkS code (pkA 20 x1.2.1) (pkS code x1.2.1 x1.2.2 20) ((x1.1.1.length:Int)+((pkV code x1.2.1 x1.2.2 20) / 19))) 2) ((x1.1.1.length:Int)+((pkV code x1.2.1 x1.2.2 20) / 19))) 2=0)),[(3,some (.box 121 [.dat Zn code,dI (pkA 2 (pkA ((x1.1.1.length:Int)+((pkV code x1.2.1 x1.2.2 20) / 19)) (pkA 2 (pkA ((x1.1.1.length:Int)+((pkV code x1.2.1 x1.2.2 20) / 19)) (pkA 20 x1.2.1))))), .val (.int .u64 (pkS code (pkA ((x1.1.1.length:Int)+((pkV code x1.2.1 x1.2.2 20) / 19)) (pkA 2 (pkA ((x1.1.1.length:Int)+((pkV code x1.2.1 x1.2.2 20) / 19)) (pkA 20 x1.2.1)))) (pkS code (pkA 2 (pkA ((x1.1.1.length:Int)+((pkV code x1.2.1 x1.2.2 20) / 19)) (pkA 20 x1.2.1))) (pkS code (pkA ((x1.1.1.length:Int)+((pkV code x1.2.1 x1.2.2 20) / 19)) (pkA 20 x1.2.1)) (pkS code (pkA 20 x1.2.1) (pkS code x1.2.1 x1.2.2 20) ((x1.1.1.length:Int)+((pkV code x1.2.1 x1.2.2 20) / 19))) 2) ((x1.1.1.length:Int)+((pkV code x1.2.1 x1.2.2 20) / 19))) 2))])),(3,none)]⟩,io 32 (ag [dI (pkV code (pkA 2 (pkA ((x1.1.1.length:Int)+((pkV code x1.2.1 x1.2.2 20) / 19)) (pkA 20 x1.2.1))) (pkS code (pkA ((x1.1.1.length:Int)+((pkV code x1.2.1 x1.2.2 20) / 19)) (pkA 20 x1.2.1)) (pkS code (pkA 20 x1.2.1) (pkS code x1.2.1 x1.2.2 20) ((x1.1.1.length:Int)+((pkV code x1.2.1 x1.2.2 20) / 19))) 2) ((x1.1.1.length:Int)+((pkV code x1.2.1 x1.2.2 20) / 19))),dB (decide (pkV code (pkA ((x1.1.1.length:Int)+((pkV code x1.2.1 x1.2.2 20) / 19)) (pkA 2 (pkA ((x1.1.1.length:Int)+((pkV code x1.2.1 x1.2.2 20) / 19)) (pkA 20 x1.2.1)))) (pkS code (pkA 2 (pkA ((x1.1.1.length:Int)+((pkV code x1.2.1 x1.2.2 20) / 19)) (pkA 20 x1.2.1))) (pkS code (pkA ((x1.1.1.length:Int)+((pkV code x1.2.1 x1.2.2 20) / 19)) (pkA 20 x1.2.1)) (pkS code (pkA 20 x1.2.1) (pkS code x1.2.1 x1.2.2 20) ((x1.1.1.length:Int)+((pkV code x1.2.1 x1.2.2 20) / 19))) 2) ((x1.1.1.length:Int)+((pkV code x1.2.1 x1.2.2 20) / 19))) 2=0))]),⟨none,lf (.val undef),[(0,some (.box 52 [.dat Qo x1.1.1, .dat Qr x1.1.2.1, .dat QD x1.1.2.2]))]⟩,⟨none,lf (.val undef),[(1,some (.box 55 [dI (pkV code (pkA 20 x1.2.1) (pkS code x1.2.1 x1.2.2 20) ((x1.1.1.length:Int)+((pkV code x1.2.1 x1.2.2 20) / 19))),dB (decide (pkV code (pkA ((x1.1.1.length:Int)+((pkV code x1.2.1 x1.2.2 20) / 19)) (pkA 20 x1.2.1)) (pkS code (pkA 20 x1.2.1) (pkS code x1.2.1 x1.2.2 20) ((x1.1.1.length:Int)+((pkV code x1.2.1 x1.2.2 20) / 19))) 2=0))]))]⟩,⟨none,lf (.val undef),[(2,some (.box 55 [dI (pkV code (pkA 2 (pkA ((x1.1.1.length:Int)+((pkV code x1.2.1 x1.2.2 20) / 19)) (pkA 20 x1.2.1))) (pkS code (pkA ((x1.1.1.length:Int)+((pkV code x1.2.1 x1.2.2 20) / 19)) (pkA 20 x1.2.1)) (pkS code (pkA 20 x1.2.1) (pkS code x1.2.1 x1.2.2 20) ((x1.1.1.length:Int)+((pkV code x1.2.1 x1.2.2 20) / 19))) 2) ((x1.1.1.length:Int)+((pkV code x1.2.1 x1.2.2 20) / 19))),dB (decide (pkV code (pkA ((x1.1.1.length:Int)+((pkV code x1.2.1 x1.2.2 20) / 19)) (pkA 2 (pkA ((x1.1.1.length:Int)+((pkV code x1.2.1 x1.2.2 20) / 19)) (pkA 20 x1.2.1)))) (pkS code (pkA 2 (pkA ((x1.1.1.length:Int)+((pkV code x1.2.1 x1.2.2 20) / 19)) (pkA 20 x1.2.1))) (pkS code (pkA ((x1.1.1.length:Int)+((pkV code x1.2.1 x1.2.2 20) / 19)) (pkA 20 x1.2.1)) (pkS code (pkA 20 x1.2.1) (pkS code x1.2.1 x1.2.2 20) ((x1.1.1.length:Int)+((pkV code x1.2.1 x1.2.2 20) / 19))) 2) ((x1.1.1.length:Int)+((pkV code x1.2.1 x1.2.2 20) / 19))) 2=0))]))]⟩] [0,1,3,1,15,1,1,127,255,65,1023,65,65,4160,4096,0]
 iterate 3 refine z_ ?_
 refine zz (fun _ h_=>ac (dP 7 [(0,3)] (QX code (pkA 20 x1.2.1) (pkS code x1.2.1 x1.2.2 20) ((x1.1.1.length:Int)+((pkV code x1.2.1 x1.2.2 20) / 19)) (by omega)) Yk) rfl) ?_
 refine z_ ?_
 refine zz (fun _ h_=>ac (dP 8 [(0,3)] (Wy code (pkA ((x1.1.1.length:Int)+((pkV code x1.2.1 x1.2.2 20) / 19)) (pkA 20 x1.2.1)) (pkS code (pkA 20 x1.2.1) (pkS code x1.2.1 x1.2.2 20) ((x1.1.1.length:Int)+((pkV code x1.2.1 x1.2.2 20) / 19))) 2 (by omega)) QbC) rfl) ?_
 refine zz (fun _ h_=>ac (Qi XM ⟨_,_,rfl,(h_.w rfl),⟨_,_,rfl,(h_.w rfl),rfl⟩⟩ (ah.1 rfl) rfl rfl) rfl) ?_
 iterate 2 refine z_ ?_
 refine zz (fun _ h_=>ac (dP 9 [(0,3)] (QX code (pkA 2 (pkA ((x1.1.1.length:Int)+((pkV code x1.2.1 x1.2.2 20) / 19)) (pkA 20 x1.2.1))) (pkS code (pkA ((x1.1.1.length:Int)+((pkV code x1.2.1 x1.2.2 20) / 19)) (pkA 20 x1.2.1)) (pkS code (pkA 20 x1.2.1) (pkS code x1.2.1 x1.2.2 20) ((x1.1.1.length:Int)+((pkV code x1.2.1 x1.2.2 20) / 19))) 2) ((x1.1.1.length:Int)+((pkV code x1.2.1 x1.2.2 20) / 19)) (by omega)) Yk) rfl) ?_
 refine z_ ?_
 refine zz (fun _ h_=>ac (dP 10 [(0,3)] (Wy code (pkA ((x1.1.1.length:Int)+((pkV code x1.2.1 x1.2.2 20) / 19)) (pkA 2 (pkA ((x1.1.1.length:Int)+((pkV code x1.2.1 x1.2.2 20) / 19)) (pkA 20 x1.2.1)))) (pkS code (pkA 2 (pkA ((x1.1.1.length:Int)+((pkV code x1.2.1 x1.2.2 20) / 19)) (pkA 20 x1.2.1))) (pkS code (pkA ((x1.1.1.length:Int)+((pkV code x1.2.1 x1.2.2 20) / 19)) (pkA 20 x1.2.1)) (pkS code (pkA 20 x1.2.1) (pkS code x1.2.1 x1.2.2 20) ((x1.1.1.length:Int)+((pkV code x1.2.1 x1.2.2 20) / 19))) 2) ((x1.1.1.length:Int)+((pkV code x1.2.1 x1.2.2 20) / 19))) 2 (by omega)) QbC) rfl) ?_
 refine zz (fun _ h_=>ac (Qi XM ⟨_,_,rfl,(h_.w rfl),⟨_,_,rfl,(h_.w rfl),rfl⟩⟩ (ah.1 rfl) rfl rfl) rfl) ?_
 iterate 3 refine z_ ?_
 exact zN
 refine w_ ?_
 subst hO
 refine Zl (x:=((x1.1.1,(x1.1.2.1,x1.1.2.2)),((pkV code (pkA 20 x1.2.1) (pkS code x1.2.1 x1.2.2 20) ((x1.1.1.length:Int)+((pkV code x1.2.1 x1.2.2 20) / 19)),decide (pkV code (pkA ((x1.1.1.length:Int)+((pkV code x1.2.1 x1.2.2 20) / 19)) (pkA 20 x1.2.1)) (pkS code (pkA 20 x1.2.1) (pkS code x1.2.1 x1.2.2 20) ((x1.1.1.length:Int)+((pkV code x1.2.1 x1.2.2 20) / 19))) 2=0)),(pkV code (pkA 2 (pkA ((x1.1.1.length:Int)+((pkV code x1.2.1 x1.2.2 20) / 19)) (pkA 20 x1.2.1))) (pkS code (pkA ((x1.1.1.length:Int)+((pkV code x1.2.1 x1.2.2 20) / 19)) (pkA 20 x1.2.1)) (pkS code (pkA 20 x1.2.1) (pkS code x1.2.1 x1.2.2 20) ((x1.1.1.length:Int)+((pkV code x1.2.1 x1.2.2 20) / 19))) 2) ((x1.1.1.length:Int)+((pkV code x1.2.1 x1.2.2 20) / 19)),decide (pkV code (pkA ((x1.1.1.length:Int)+((pkV code x1.2.1 x1.2.2 20) / 19)) (pkA 2 (pkA ((x1.1.1.length:Int)+((pkV code x1.2.1 x1.2.2 20) / 19)) (pkA 20 x1.2.1)))) (pkS code (pkA 2 (pkA ((x1.1.1.length:Int)+((pkV code x1.2.1 x1.2.2 20) / 19)) (pkA 20 x1.2.1))) (pkS code (pkA ((x1.1.1.length:Int)+((pkV code x1.2.1 x1.2.2 20) / 19)) (pkA 20 x1.2.1)) (pkS code (pkA 20 x1.2.1) (pkS code x1.2.1 x1.2.2 20) ((x1.1.1.length:Int)+((pkV code x1.2.1 x1.2.2 20) / 19))) 2) ((x1.1.1.length:Int)+((pkV code x1.2.1 x1.2.2 20) / 19))) 2=0))))) [] ?_ (Zu rfl (Qz rfl rfl Q3 rfl) (Qz rfl rfl Qeu rfl) (Qz rfl rfl Qeu rfl)) rfl trivial rfl rfl
 (have h_:=‹_≤8∧_›; exact h_.1)
theorem V7 (code:List UInt8)[∀s,Decidable (StgOk s)][∀s,Decidable (XG s)][∀c,Decidable (SgOk c)][∀s,Decidable (Zq s)]:FC Tryz.prog 26 [(false,[.dat Zn code])] [] 0 (Ex (fun x:DSg×ZD=>x.1.1.length≤8) (fun x:DSg×ZD=>PV.tup [(true,[.dat Qo x.1.1, .dat Qr x.1.2.1, .dat QD x.1.2.2]),(true,[dI x.2.1.1,dB x.2.1.2,dI x.2.2.1,dB x.2.2.2])]) (fun x:DSg×ZD=>[])):=by
 refine Qy Tryz.func26 rfl rfl Tryz.ntmps26 fun O_ hO w0_ N0_ X_ h0_ f0_=> ?_
 refine w_ ?_
 refine lc (xal 0 Wu ZS)<|lc (xal 1 YW WC) ?_
 iterate 3 refine w_ ?_
 refine lc (Jf [.val (.slice none 0 0),dI 0, .val (.int .u64 0)] (QgF (offs:=[(0,1),(1,1),(2,1)]) (zs:=[.slice none 0 0, .int .i64 0, .int .u64 0]) Tryz.underlying121 (by kernel_rfl) (by kernel_rfl)) (fun _ _ _=>⟨_,_,rfl,rfl,⟨_,_,rfl,(WT _ _ _ .int).one rfl,⟨_,_,rfl,rfl,rfl⟩⟩⟩) ⟨_,_,rfl,(Qf rfl),rfl⟩ (ah.1 rfl) rfl rfl) ?_
 refine xbx 2 ?_
 iterate 4 refine w_ ?_
 refine Y7 3 [] (JB code) Qng e1_ trivial rfl (fun _=>rfl) (fun _=>trivial) (nlr rfl) fun x1 hx2=> ?_
 iterate 4 refine w_ ?_
 refine lc (xal 3 Wu ZS)<|lc (xal 4 Qw Ys)<|lc (xal 5 Qw Ys) ?_
 iterate 7 refine w_ ?_
 refine lc (dK (Xg x1.1).frozenG QfD) ?_
 iterate 9 refine w_ ?_
 cases hb3:(decide (SgOk x1.1))
 have hb3':=a6 hb3
 iterate 12 refine w_ ?_
 apply dW [io 43 _,io 44 _,io 45 _,io 46 (ag [dI x1.2.1.1,dB x1.2.1.2,dI x1.2.2.1,dB x1.2.2.2]),⟨none,lf (.val undef),[(0,some (.box 52 [.dat Qo x1.1.1, .dat Qr x1.1.2.1, .dat QD x1.1.2.2]))]⟩,⟨none,lf (.val undef),[(1,some (.box 57 [dI x1.2.1.1,dB x1.2.1.2,dI x1.2.2.1,dB x1.2.2.2]))]⟩] [0,1,3,1,14,0]
 iterate 3 refine z_ ?_
 refine zz (fun _ h_=>ac (Qi KK ⟨_,_,rfl,(h_.w rfl),⟨_,_,rfl,(h_.w rfl),rfl⟩⟩ (ah.1 rfl) rfl rfl) rfl) ?_
 iterate 2 refine z_ ?_
 exact zN
 refine w_ ?_
 subst hO
 refine Zl (x:=((x1.1.1,(x1.1.2.1,x1.1.2.2)),((x1.2.1.1,x1.2.1.2),(x1.2.2.1,x1.2.2.2)))) [] ?_ (QM rfl (Qz rfl rfl Q3 rfl) (Qz rfl rfl Kv rfl)) rfl trivial rfl rfl
 assumption
 have hb3':=a7 hb3
 refine w_ ?_
 refine AL.fact (Qp (x:= .tmp 26) (Qa rfl)) fun hl4=> ?_
 iterate 4 refine w_ ?_
 cases hb5:(decide (0 < ((if SgOk x1.1 then QV x1.1 else []).length:Int)))
 have hb5':=a6 hb5
 iterate 7 refine w_ ?_
 apply dW [io 43 _,io 44 _,io 45 _,io 46 (ag [dI x1.2.1.1,dB x1.2.1.2,dI x1.2.2.1,dB x1.2.2.2]),⟨none,lf (.val undef),[(0,some (.box 52 [.dat Qo x1.1.1, .dat Qr x1.1.2.1, .dat QD x1.1.2.2]))]⟩,⟨none,lf (.val undef),[(1,some (.box 57 [dI x1.2.1.1,dB x1.2.1.2,dI x1.2.2.1,dB x1.2.2.2]))]⟩] [0,1,3,1,14,0]
 iterate 3 refine z_ ?_
 refine zz (fun _ h_=>ac (Qi KK ⟨_,_,rfl,(h_.w rfl),⟨_,_,rfl,(h_.w rfl),rfl⟩⟩ (ah.1 rfl) rfl rfl) rfl) ?_
 iterate 2 refine z_ ?_
 exact zN
 refine w_ ?_
 subst hO
 refine Zl (x:=((x1.1.1,(x1.1.2.1,x1.1.2.2)),((x1.2.1.1,x1.2.1.2),(x1.2.2.1,x1.2.2.2)))) [] ?_ (QM rfl (Qz rfl rfl Q3 rfl) (Qz rfl rfl Kv rfl)) rfl trivial rfl rfl
 assumption
 have hb5':=a7 hb5
 refine w_ ?_
 have hp6:=YK code 0 0 3
 refine lgy rfl rfl (dP 6 [(0,2)] (Wy code 0 0 3 (by omega)) QbC) ?_
 iterate 3 refine w_ ?_
 cases hb7:(decide (pkV code 0 0 3=0))
 have hb7':=a6 hb7
 refine w_ ?_
 have hp8:=YK code (pkA 3 0) (pkS code 0 0 3) ((if SgOk x1.1 then QV x1.1 else []).length:Int)
 obtain ⟨x9,hx10⟩:=gx (if SgOk x1.1 then QV x1.1 else []) ((pkV code (pkA 3 0) (pkS code 0 0 3) ((if SgOk x1.1 then QV x1.1 else []).length:Int)).toNat)
 apply dW [io 35 _,io 36 _,io 37 _,io 38 _,io 39 _,⟨some 40,lI (pkV code (pkA 3 0) (pkS code 0 0 3) ((if SgOk x1.1 then QV x1.1 else []).length:Int)),[(2,some (.box 121 [.dat Zn code,dI (pkA ((if SgOk x1.1 then QV x1.1 else []).length:Int) (pkA 3 0)), .val (.int .u64 (pkS code (pkA 3 0) (pkS code 0 0 3) ((if SgOk x1.1 then QV x1.1 else []).length:Int)))])),(2,none)]⟩,io 41 _,io 42 _,⟨none,lf (.val undef),[(0,some (.box 52 [.dat Qo x1.1.1, .dat Qr x1.1.2.1, .dat QD x1.1.2.2]))]⟩,⟨none,lf (.val undef),[(1,some (.box 57 [dI x9.1.1,dB x9.1.2,dI x9.2.1,dB x9.2.2]))]⟩] [0,1,3,7,7,3,1,1,194,0]
 iterate 5 refine z_ ?_
 refine zz (fun _ h_=>ac (dP 7 [(0,2)] (QX code (pkA 3 0) (pkS code 0 0 3) ((if SgOk x1.1 then QV x1.1 else []).length:Int) (by omega)) Yk) rfl) ?_
 iterate 4 refine z_ ?_
 exact zN
 refine w_ ?_
 subst hO
 refine Zl (x:=((x1.1.1,(x1.1.2.1,x1.1.2.2)),((x9.1.1,x9.1.2),(x9.2.1,x9.2.2)))) [] ?_ (QM rfl (Qz rfl rfl Q3 rfl) (Qz rfl rfl Kv rfl)) rfl trivial rfl rfl
 assumption
 have hb7':=a7 hb7
 iterate 2 refine w_ ?_
 apply dW [io 43 _,io 44 _,io 45 _,io 46 (ag [dI x1.2.1.1,dB x1.2.1.2,dI x1.2.2.1,dB x1.2.2.2]),⟨none,lf (.val undef),[(0,some (.box 52 [.dat Qo x1.1.1, .dat Qr x1.1.2.1, .dat QD x1.1.2.2]))]⟩,⟨none,lf (.val undef),[(1,some (.box 57 [dI x1.2.1.1,dB x1.2.1.2,dI x1.2.2.1,dB x1.2.2.2]))]⟩] [0,1,3,1,14,0]
 iterate 3 refine z_ ?_
 refine zz (fun _ h_=>ac (Qi KK ⟨_,_,rfl,(h_.w rfl),⟨_,_,rfl,(h_.w rfl),rfl⟩⟩ (ah.1 rfl) rfl rfl) rfl) ?_
 iterate 2 refine z_ ?_
 exact zN
 refine w_ ?_
 subst hO
 refine Zl (x:=((x1.1.1,(x1.1.2.1,x1.1.2.2)),((x1.2.1.1,x1.2.1.2),(x1.2.2.1,x1.2.2.2)))) [] ?_ (QM rfl (Qz rfl rfl Q3 rfl) (Qz rfl rfl Kv rfl)) rfl trivial rfl rfl
 assumption
end Go.Proofs.YtjaadeknhofhpaaGreat
namespace Go.Proofs.YtjaadeknhofhpaaGreat
open Go.RowKit
set_option maxRecDepth 100000
set_option maxHeartbeats 4000000
theorem H5 (code:List UInt8)(more:List UInt8):FC Tryz.prog 4 [(false,[.dat Zn code]),(false,[.dat Zn more])] [] 0 (Zk (lB true)):=by
 classical
 refine Qy Tryz.func4 rfl rfl Tryz.ntmps4 fun O_ hO w0_ N0_ X_ h0_ f0_=> ?_
 iterate 6 refine w_ ?_
 refine AL.fact (Qp (x:= .tmp 30) (Qa rfl)) fun hl1=> ?_
 iterate 2 refine w_ ?_
 refine AL.fact (Qp (x:= .tmp 32) (Qa rfl)) fun hl2=> ?_
 refine w_ ?_
 refine lc (QoG (Qa rfl) (Qa rfl) rfl) ?_
 iterate 2 refine w_ ?_
 cases hb3:(decide (1048576 < (IntKind.i64.wrap ((code.length:Int)+(more.length:Int)))))
 have hb3':=a6 hb3
 iterate 4 refine w_ ?_
 refine Y7 0 [] (V5 code) Qnv e1_ trivial rfl (fun _=>rfl) (fun _=>trivial) (nlr rfl) fun xc hxc=>lc (xal 0 Wu ZS) ?_
 iterate 4 refine w_ ?_
 refine lc (dK (K1 xc) QoB) ?_
 iterate 3 refine w_ ?_
 refine lc (xal 1 YW WC) ?_
 iterate 5 refine w_ ?_
 refine lc (dK (K4 xc) Qnh) ?_
 iterate 3 refine w_ ?_
 refine lc (xal 2 YW WC) ?_
 iterate 5 refine w_ ?_
 refine lc (dK (VA xc).frozenG Qnl) ?_
 iterate 8 refine w_ ?_
 refine lc (dK (Xg xc).frozenG QfD) ?_
 iterate 8 refine w_ ?_
 refine Y7 3 [] (V7 more) QnR e1_ trivial rfl (fun _=>rfl) (fun _=>trivial) (nlr rfl) fun xd hxd=> ?_
 iterate 3 refine w_ ?_
 refine lc (xal 3 Wu ZS)<|lc (xal 4 YW WC) ?_
 iterate 6 refine w_ ?_
 refine lc (dK (Xf xd.1 xd.2) QbA) ?_
 iterate 11 refine w_ ?_
 refine lc (dK (WG xd.1 xd.2) QfC) ?_
 iterate 12 refine w_ ?_
 refine lc (VD (Qa rfl) (Qa rfl) rfl JJ) ?_
 refine w_ ?_
 cases hb8:((KF xc)==(KF xc))
 iterate 36 refine w_ ?_
 subst hO
 have e9:(false:Bool)=true:=by
  (exfalso; simp_all [Z2,WX]; done)
 exact Qe (Res.one rfl (Qb rfl)) (by rw[← e9] <;> rfl) rfl
 iterate 2 refine w_ ?_
 refine lgy rfl rfl (UJ Qpd QpS (Qf rfl) (Qf rfl) (p:=(Yz xc)) (q:=(Yz xc)) rfl rfl rfl) ?_
 iterate 2 refine w_ ?_
 cases hb10:(Ty.beq YW (Yz xc) (Yz xc))
 iterate 31 refine w_ ?_
 subst hO
 have e11:(false:Bool)=true:=by
  (exfalso; simp_all [Z2,WX]; done)
 exact Qe (Res.one rfl (Qb rfl)) (by rw[← e11] <;> rfl) rfl
 iterate 2 refine w_ ?_
 refine lgy rfl rfl (VD (Qa rfl) (Qa rfl) rfl JJ) ?_
 iterate 2 refine w_ ?_
 cases hb12:((decide (SgOk xc))==(decide (SgOk xc)))
 iterate 26 refine w_ ?_
 subst hO
 have e13:(false:Bool)=true:=by
  (exfalso; simp_all [Z2,WX]; done)
 exact Qe (Res.one rfl (Qb rfl)) (by rw[← e13] <;> rfl) rfl
 iterate 2 refine w_ ?_
 refine lgy rfl rfl (dK (Js (if SgOk xc then QV xc else []) (if SgOk xc then QV xc else []) rfl) QnA) ?_
 iterate 5 refine w_ ?_
 refine lgy rfl rfl (VD (Qa rfl) (Qa rfl) rfl JJ) ?_
 iterate 2 refine w_ ?_
 cases hb14:((YP xd.1 xd.2)==(YP xd.1 xd.2))
 iterate 15 refine w_ ?_
 subst hO
 have e15:(false:Bool)=true:=by
  (exfalso; simp_all [Z2,WX]; done)
 exact Qe (Res.one rfl (Qb rfl)) (by rw[← e15] <;> rfl) rfl
 iterate 5 refine w_ ?_
 cases hb16:(!decide ((Z3 xd.1 xd.2)=(Z3 xd.1 xd.2)))
 have hb16':((Z3 xd.1 xd.2)=(Z3 xd.1 xd.2)):=QT hb16
 iterate 5 refine w_ ?_
 cases hb17:(!decide ((Yp xd.1 xd.2)=(Yp xd.1 xd.2)))
 have hb17':((Yp xd.1 xd.2)=(Yp xd.1 xd.2)):=QT hb17
 iterate 7 refine w_ ?_
 cases hb18:(decide (SgOk xc))
 have hb18':=a6 hb18
 iterate 18 refine w_ ?_
 subst hO
 have e19:(!(KF xc):Bool)=true:=by
  (simp[KF, *]; done)
 exact Qe (Res.one rfl (Qb rfl)) (by rw[e19] <;> rfl) rfl
 have hb18':=a7 hb18
 iterate 2 refine w_ ?_
 refine AL.fact (Qp (x:= .tmp 115) (Qa rfl)) fun hl20=> ?_
 iterate 2 refine w_ ?_
 refine lgy rfl rfl (VD (Qa rfl) (Qa rfl) rfl JJ) ?_
 iterate 2 refine w_ ?_
 cases hb21:((KF xc)==(decide (0 < ((if SgOk xc then QV xc else []).length:Int))))
 iterate 11 refine w_ ?_
 subst hO
 have e22:(false:Bool)=true:=by
  (exfalso; simp_all [Z2,WX]; done)
 exact Qe (Res.one rfl (Qb rfl)) (by rw[← e22] <;> rfl) rfl
 iterate 7 refine w_ ?_
 cases hb23:(KF xc)
 iterate 5 refine w_ ?_
 subst hO
 exact Qe (Res.one rfl (Qb rfl)) rfl rfl
 iterate 2 refine w_ ?_
 refine Yd ?_
 have hch:=Qok (c:=xc) ‹_› ‹_›
 iterate 3 refine w_ ?_
 refine lc (dK (Xf xc (Yz xc)) QbA) ?_
 iterate 11 refine w_ ?_
 refine AL.fact (Qp (x:= .tmp 135) (Qa rfl)) fun hl24=> ?_
 iterate 4 refine w_ ?_
 refine Qm (fun m_ s_=>∃(k:Nat),k≤(if SgOk xc then QV xc else []).length∧m_=(if SgOk xc then QV xc else []).length - k∧s_=⟨[(5,lP 0 0),(22,lI (Z3 xc (Yz xc))),(23,lI (Yp xc (Yz xc))),(24,lB (YP xc (Yz xc))),(135,lf (.dat QnB (if SgOk xc then QV xc else []))),(136,lI ((if SgOk xc then QV xc else []).length:Int)),(137,lI (k:Int))],[(0,some (.box 52 [.dat Qo xc.1, .dat Qr xc.2.1, .dat QD xc.2.2]))]⟩) ⟨0,ap _,rfl,rfl⟩ ?_ ?_
 exact wo []
 rintro m_ s_ ⟨k,hk25,hm26,rfl⟩
 iterate 4 refine w_ ?_
 cases hb27:(decide ((k:Int) < ((if SgOk xc then QV xc else []).length:Int)))
 have hb27':=a6 hb27
 iterate 8 refine w_ ?_
 subst hO
 have e28:(YP xc (Yz xc):Bool)=true:=by
  (simp[KF, *]; done)
 exact Qe (Res.one rfl (Qb rfl)) (by rw[e28] <;> rfl) rfl
 have hb27':=a7 hb27
 iterate 5 refine w_ ?_
 obtain ⟨z,hx30⟩:=gx (if SgOk xc then QV xc else []) k
 have hz:=hch.2 z (by have h_:=a8 hx30; rwa [if_pos ‹SgOk xc›] at h_)
 iterate 2 refine w_ ?_
 refine lc (xal 5 YW WC) ?_
 iterate 5 refine w_ ?_
 refine lc (dK (Xf xc z) QbA) ?_
 iterate 12 refine w_ ?_
 cases hb31:(YP xc z)
 iterate 9 refine w_ ?_
 refine Qg rfl rfl rfl ?_ rfl
 refine Qg rfl rfl rfl ?_ rfl
 refine Qg rfl rfl rfl ?_ rfl
 iterate 8 refine w_ ?_
 subst hO
 have e32:(false:Bool)=true:=by
  (exfalso; simp_all [Z2,WX]; done)
 exact Qe (Res.one rfl (Qb rfl)) (by rw[← e32] <;> rfl) rfl
 iterate 5 refine w_ ?_
 cases hb33:(decide ((Z3 xc z) < (Z3 xc (Yz xc))))
 have hb33':=a6 hb33
 iterate 4 refine w_ ?_
 cases hb34:(decide ((Z3 xc z)=(Z3 xc (Yz xc))))
 have hb34':=a6 hb34
 iterate 12 refine w_ ?_
 refine Qc<|QE ⟨k+1,by omega,rfl,rfl⟩ (by omega) ?_
 exact wo []
 have hb34':=a7 hb34
 iterate 6 refine w_ ?_
 cases hb35:(decide ((Yp xc z) < (Yp xc (Yz xc))))
 have hb35':=a6 hb35
 iterate 6 refine w_ ?_
 refine Qc<|QE ⟨k+1,by omega,rfl,rfl⟩ (by omega) ?_
 exact wo []
 have hb35':=a7 hb35
 iterate 5 refine w_ ?_
 subst hO
 have e36:(false:Bool)=true:=by
  (exfalso; simp_all [Z2,WX]; done)
 exact Qe (Res.one rfl (Qb rfl)) (by rw[← e36] <;> rfl) rfl
 have hb33':=a7 hb33
 iterate 4 refine w_ ?_
 refine Qg rfl rfl rfl ?_ rfl
 refine Qg rfl rfl rfl ?_ rfl
 refine Qg rfl rfl rfl ?_ rfl
 iterate 8 refine w_ ?_
 subst hO
 have e37:(false:Bool)=true:=by
  (exfalso; simp_all [Z2,WX]; done)
 exact Qe (Res.one rfl (Qb rfl)) (by rw[← e37] <;> rfl) rfl
 have hb17':¬((Yp xd.1 xd.2)=(Yp xd.1 xd.2)):=Q0 hb17
 iterate 5 refine w_ ?_
 subst hO
 have e38:(false:Bool)=true:=by
  (exfalso; simp_all [Z2,WX]; done)
 exact Qe (Res.one rfl (Qb rfl)) (by rw[← e38] <;> rfl) rfl
 have hb16':¬((Z3 xd.1 xd.2)=(Z3 xd.1 xd.2)):=Q0 hb16
 iterate 10 refine w_ ?_
 subst hO
 have e39:(false:Bool)=true:=by
  (exfalso; simp_all [Z2,WX]; done)
 exact Qe (Res.one rfl (Qb rfl)) (by rw[← e39] <;> rfl) rfl
 have hb3':=a7 hb3
 iterate 5 refine w_ ?_
 subst hO
 exact Qe (Res.one rfl (Qb rfl)) rfl rfl
end Go.Proofs.YtjaadeknhofhpaaGreat
