/- Walks over abstract states: drawn questions about regions; small functions of the laws. -/
import Derived.Test.YtndabgcpnmeeoaaGreatMGi
import Derived.Test.YtndabgcpnmeeoaaGreatMWk
import Derived.Test.YtndabgcpnmeeoaaGreatMAl
import Derived.Lib.IndexLaws
import Derived.Laws.Strings3
import Derived.Test.YtndabgcpnmeeoaaGreatMVa
import Derived.Test.YtndabgcpnmeeoaaGreatMDa
import Derived.Test.YtndabgcpnmeeoaaGreatMGe
import Derived.Test.YtndabgcpnmeeoaaGreatMBc
import Derived.Test.YtndabgcpnmeeoaaGreatMGa
import Derived.Test.YtndabgcpnmeeoaaGreatMDm
set_option linter.unusedSimpArgs false
set_option linter.unusedVariables false
set_option linter.unusedSectionVars false
namespace Go.Proofs.YtndabgcpnmeeoaaGreat
open Go.RowKit
set_option maxRecDepth 100000
set_option maxHeartbeats 4000000
theorem WL (code:List UInt8)[∀s,Decidable (StgOk s)][∀s,Decidable (Y5 s)][∀c,Decidable (SgOk c)]:FC Tryz.prog 233 [(false,[.dat QN code])] [] 0 (Ex (fun x:DSg×Int×Bool=>x.1.1.length≤8) (fun x:DSg×Int×Bool=>PV.tup [(true,[.dat Ql x.1.1, .dat Qj x.1.2.1, .dat Qv x.1.2.2]),(false,[dI x.2.1]),(false,[dB x.2.2])]) (fun x:DSg×Int×Bool=>[])):=by
 refine Qp Tryz.func233 rfl rfl Tryz.ntmps233 fun v f t l w n m=> ?_
 refine w_ ?_
 refine lc (xal 0 Xn Zt) ?_
 refine w5 ?_
 refine lc (WJ [.val (.slice none 0 0),dI 0, .val (.int .u64 0)] (QaG (offs:=[(0,1),(1,1),(2,1)]) (zs:=[.slice none 0 0, .int .i64 0, .int .u64 0]) Tryz.underlying134 (by kernel_rfl) (by kernel_rfl)) (fun _ _ _=>⟨_,_,rfl,rfl,⟨_,_,rfl,(Xm _ _ _ .int).one rfl,⟨_,_,rfl,rfl,rfl⟩⟩⟩) ⟨_,_,rfl,(Qo rfl),rfl⟩ (av.1 rfl) rfl rfl) ?_
 refine xbx 1 ?_
 refine w4 ?_
 refine Q8 2 [(0,1)] (XK code 0 0 (by omega)) QaJ e1_ ⟨rfl,trivial⟩ rfl (fun _=>rfl) (fun _=>⟨trivial,trivial⟩) (nlr rfl) fun a q=>lc (xal 3 Xn Zt) ?_
 refine w4 ?_
 refine lc (dK (XE a.1 (by have b:=‹_≤8∧_›; omega)).frozen Jb) ?_
 refine w5 ?_
 refine alL 15 fun _=> ?_
 refine w3 ?_
 cases d:(decide (((Qy a.1.1 a.1.1.length).length:Int)=0))
 have e:=aa d
 refine w_ ?_
 have o:=Zu code a.2.1 a.2.2 10
 refine lgy rfl rfl (dP 4 [(0,1)] (ZT code a.2.1 a.2.2 10 (by omega)) Wg) ?_
 refine w2 ?_
 refine cd_ (fun _ _=> ?_) fun _ _=> ?_
 refine w_ ?_
 have p:=Zu code (pkA 10 a.2.1) (pkS code a.2.1 a.2.2 10) ((Qy a.1.1 a.1.1.length).length:Int)
 obtain ⟨u,r⟩:=gx (Qy a.1.1 a.1.1.length) ((pkV code (pkA 10 a.2.1) (pkS code a.2.1 a.2.2 10) ((Qy a.1.1 a.1.1.length).length:Int)).toNat)
 have g:=Zu code (pkA ((Qy a.1.1 a.1.1.length).length:Int) (pkA 10 a.2.1)) (pkS code (pkA 10 a.2.1) (pkS code a.2.1 a.2.2 10) ((Qy a.1.1 a.1.1.length).length:Int)) 2
 apply dW (i5 28 _ _ _ _ _ (⟨some 33,lI (pkV code (pkA 10 a.2.1) (pkS code a.2.1 a.2.2 10) ((Qy a.1.1 a.1.1.length).length:Int)),[bx 1 134 [.dat QN code,dI (pkA ((Qy a.1.1 a.1.1.length).length:Int) (pkA 10 a.2.1)), .val (.int .u64 (pkS code (pkA 10 a.2.1) (pkS code a.2.1 a.2.2 10) ((Qy a.1.1 a.1.1.length).length:Int)))],(1,none)]⟩ :: i2 34 _ _ (io 36 (lP 1 0) :: ⟨some 37,lB (decide (pkV code (pkA ((Qy a.1.1 a.1.1.length).length:Int) (pkA 10 a.2.1)) (pkS code (pkA 10 a.2.1) (pkS code a.2.1 a.2.2 10) ((Qy a.1.1 a.1.1.length).length:Int)) 2=0)),[bx 1 134 [.dat QN code,dI (pkA 2 (pkA ((Qy a.1.1 a.1.1.length).length:Int) (pkA 10 a.2.1))), .val (.int .u64 (pkS code (pkA ((Qy a.1.1 a.1.1.length).length:Int) (pkA 10 a.2.1)) (pkS code (pkA 10 a.2.1) (pkS code a.2.1 a.2.2 10) ((Qy a.1.1 a.1.1.length).length:Int)) 2))],(1,none)]⟩ :: ⟨none,lf (.val undef),[bx 0 28 [.dat Ql a.1.1, .dat Qj a.1.2.1, .dat Qv a.1.2.2]]⟩ :: i2 3 _ _ []))) [0,1,3,7,7,3,1,1,255,195,194,0,0]
 refine z5 ?_
 refine zz (fun _ b=>ac (dP 5 [(0,1)] (Qr code (pkA 10 a.2.1) (pkS code a.2.1 a.2.2 10) ((Qy a.1.1 a.1.1.length).length:Int) (by omega)) Zl) rfl) ?_
 refine z3 ?_
 refine zz (fun _ b=>ac (dP 6 [(0,1)] (ZT code (pkA ((Qy a.1.1 a.1.1.length).length:Int) (pkA 10 a.2.1)) (pkS code (pkA 10 a.2.1) (pkS code a.2.1 a.2.2 10) ((Qy a.1.1 a.1.1.length).length:Int)) 2 (by omega)) Wg) rfl) ?_
 exact y3
 refine w_ ?_
 subst f
 refine QP (x:=((a.1.1,(a.1.2.1,a.1.2.2)),(u,decide (pkV code (pkA ((Qy a.1.1 a.1.1.length).length:Int) (pkA 10 a.2.1)) (pkS code (pkA 10 a.2.1) (pkS code a.2.1 a.2.2 10) ((Qy a.1.1 a.1.1.length).length:Int)) 2=0)))) [] ?_ (Jk rfl (Rs.cell rfl rfl ZM rfl) (Zi rfl) (Zi rfl)) rfl trivial rfl rfl
 (have b:=‹_≤8∧_›; exact b.1)
 have h:=Zu code (pkA 10 a.2.1) (pkS code a.2.1 a.2.2 10) 4
 have i:=Zu code (pkA 4 (pkA 10 a.2.1)) (pkS code (pkA 10 a.2.1) (pkS code a.2.1 a.2.2 10) 4) 2
 apply dW (i2 22 _ _ (⟨some 24,lI (pkV code (pkA 10 a.2.1) (pkS code a.2.1 a.2.2 10) 4),[bx 1 134 [.dat QN code,dI (pkA 4 (pkA 10 a.2.1)), .val (.int .u64 (pkS code (pkA 10 a.2.1) (pkS code a.2.1 a.2.2 10) 4))],(1,none)]⟩ :: io 25 _ :: io 26 (lP 1 0) :: ⟨some 27,lB (decide (pkV code (pkA 4 (pkA 10 a.2.1)) (pkS code (pkA 10 a.2.1) (pkS code a.2.1 a.2.2 10) 4) 2=0)),[bx 1 134 [.dat QN code,dI (pkA 2 (pkA 4 (pkA 10 a.2.1))), .val (.int .u64 (pkS code (pkA 4 (pkA 10 a.2.1)) (pkS code (pkA 10 a.2.1) (pkS code a.2.1 a.2.2 10) 4) 2))],(1,none)]⟩ :: ⟨none,lf (.val undef),[bx 0 28 [.dat Ql a.1.1, .dat Qj a.1.2.1, .dat Qv a.1.2.2]]⟩ :: i2 3 _ _ [])) [0,1,1,1,15,9,8,0,0]
 refine z2 ?_
 refine zz (fun _ b=>ac (dP 7 [(0,1)] (Qr code (pkA 10 a.2.1) (pkS code a.2.1 a.2.2 10) 4 (by omega)) Zl) rfl) ?_
 refine z2 ?_
 refine zz (fun _ b=>ac (dP 8 [(0,1)] (ZT code (pkA 4 (pkA 10 a.2.1)) (pkS code (pkA 10 a.2.1) (pkS code a.2.1 a.2.2 10) 4) 2 (by omega)) Wg) rfl) ?_
 exact y3
 refine w_ ?_
 subst f
 refine QP (x:=((a.1.1,(a.1.2.1,a.1.2.2)),((pkV code (pkA 10 a.2.1) (pkS code a.2.1 a.2.2 10) 4) - 1,decide (pkV code (pkA 4 (pkA 10 a.2.1)) (pkS code (pkA 10 a.2.1) (pkS code a.2.1 a.2.2 10) 4) 2=0)))) [] ?_ (Jk rfl (Rs.cell rfl rfl ZM rfl) (Zi rfl) (Zi rfl)) rfl trivial rfl rfl
 (have b:=‹_≤8∧_›; exact b.1)
 have e:=ab d
 refine w5 ?_
 have j:=Zu code a.2.1 a.2.2 4
 have k:=Zu code (pkA 4 a.2.1) (pkS code a.2.1 a.2.2 4) 2
 apply dW (i2 22 _ _ (⟨some 24,lI (pkV code a.2.1 a.2.2 4),[bx 1 134 [.dat QN code,dI (pkA 4 a.2.1), .val (.int .u64 (pkS code a.2.1 a.2.2 4))],(1,none)]⟩ :: io 25 _ :: io 26 (lP 1 0) :: ⟨some 27,lB (decide (pkV code (pkA 4 a.2.1) (pkS code a.2.1 a.2.2 4) 2=0)),[bx 1 134 [.dat QN code,dI (pkA 2 (pkA 4 a.2.1)), .val (.int .u64 (pkS code (pkA 4 a.2.1) (pkS code a.2.1 a.2.2 4) 2))],(1,none)]⟩ :: ⟨none,lf (.val undef),[bx 0 28 [.dat Ql a.1.1, .dat Qj a.1.2.1, .dat Qv a.1.2.2]]⟩ :: i2 3 _ _ [])) [0,1,1,1,15,9,8,0,0]
 refine z2 ?_
 refine zz (fun _ b=>ac (dP 9 [(0,1)] (Qr code a.2.1 a.2.2 4 (by omega)) Zl) rfl) ?_
 refine z2 ?_
 refine zz (fun _ b=>ac (dP 10 [(0,1)] (ZT code (pkA 4 a.2.1) (pkS code a.2.1 a.2.2 4) 2 (by omega)) Wg) rfl) ?_
 exact y3
 refine w_ ?_
 subst f
 refine QP (x:=((a.1.1,(a.1.2.1,a.1.2.2)),((pkV code a.2.1 a.2.2 4) - 1,decide (pkV code (pkA 4 a.2.1) (pkS code a.2.1 a.2.2 4) 2=0)))) [] ?_ (Jk rfl (Rs.cell rfl rfl ZM rfl) (Zi rfl) (Zi rfl)) rfl trivial rfl rfl
 (have b:=‹_≤8∧_›; exact b.1)
theorem W6 (code:List UInt8)[∀s,Decidable (StgOk s)][∀s,Decidable (Y5 s)][∀c,Decidable (SgOk c)]:FC Tryz.prog 96 [(false,[.dat QN code])] [] 0 (Ex (fun x:DSg×Int×Bool×Int=>x.1.1.length≤8) (fun x:DSg×Int×Bool×Int=>PV.tup [(true,[.dat Ql x.1.1, .dat Qj x.1.2.1, .dat Qv x.1.2.2]),(false,[dI x.2.1]),(false,[dB x.2.2.1]),(false,[dI x.2.2.2])]) (fun x:DSg×Int×Bool×Int=>[])):=by
 refine Qp Tryz.func96 rfl rfl Tryz.ntmps96 fun l g k d m f e=> ?_
 refine w_ ?_
 refine lc (xal 0 Xn Zt) ?_
 refine w6 ?_
 refine lc (WJ [.val (.slice none 0 0),dI 0, .val (.int .u64 0)] (QaG (offs:=[(0,1),(1,1),(2,1)]) (zs:=[.slice none 0 0, .int .i64 0, .int .u64 0]) Tryz.underlying134 (by kernel_rfl) (by kernel_rfl)) (fun _ _ _=>⟨_,_,rfl,rfl,⟨_,_,rfl,(Xm _ _ _ .int).one rfl,⟨_,_,rfl,rfl,rfl⟩⟩⟩) ⟨_,_,rfl,(Qo rfl),rfl⟩ (av.1 rfl) rfl rfl) ?_
 refine xbx 1 ?_
 refine w4 ?_
 refine Q8 2 [] (WL code) Qkx e1_ trivial rfl (fun _=>rfl) (fun _=>trivial) (nlr rfl) fun a j=> ?_
 refine w4 ?_
 refine lc (xal 2 Xn Zt) ?_
 refine w4 ?_
 have h:=Zu code 0 0 2
 have i:=Zu code (pkA 2 0) (pkS code 0 0 2) 20
 apply dW (i4 19 _ _ _ _ (⟨some 23,lI (pkV code 0 0 2),[bx 1 134 [.dat QN code,dI (pkA 2 0), .val (.int .u64 (pkS code 0 0 2))],(1,none)]⟩ :: io 24 (lP 1 0) :: ⟨some 25,lI (pkV code (pkA 2 0) (pkS code 0 0 2) 20),[bx 1 134 [.dat QN code,dI (pkA 20 (pkA 2 0)), .val (.int .u64 (pkS code (pkA 2 0) (pkS code 0 0 2) 20))],(1,none)]⟩ :: io 26 (lI ((pkV code (pkA 2 0) (pkS code 0 0 2) 20) / 19)) :: io 27 _ :: ⟨none,lf (.val undef),[bx 0 28 [.dat Ql a.1.1, .dat Qj a.1.2.1, .dat Qv a.1.2.2]]⟩ :: i3 3 _ _ _ [])) [0,1,3,7,7,31,7,7,7,390,388,384,0]
 refine z4 ?_
 refine zz (fun _ b=>ac (dP 3 [(0,1)] (Qr code 0 0 2 (by omega)) Zl) rfl) ?_
 refine z_ ?_
 refine zz (fun _ b=>ac (dP 4 [(0,1)] (Qr code (pkA 2 0) (pkS code 0 0 2) 20 (by omega)) Zl) rfl) ?_
 refine zz (fun _ b=>ac (KW (b.v rfl) (Qn rfl) rfl (by omega) (by omega)) rfl) ?_
 exact y5
 refine w_ ?_
 subst g
 refine QP (x:=((a.1.1,(a.1.2.1,a.1.2.2)),(a.2.1,(a.2.2,(pkV code 0 0 2) - ((pkV code (pkA 2 0) (pkS code 0 0 2) 20) / 19))))) [] ?_ (Qhj rfl (Rs.cell rfl rfl ZM rfl) (Zi rfl) (Zi rfl) (Zi rfl)) rfl trivial rfl rfl
 assumption
theorem Qh9 (code:List UInt8)(a:List UInt8):FC Tryz.prog 8 [(false,[.dat QN code]),(false,[.dat QN a])] [] 0 (QX (lB (decide ((1048576:Int) < (code.length:Int)+(a.length:Int))))):=by
 refine Qp Tryz.func8 rfl rfl Tryz.ntmps8 fun i d h e j g f=> ?_
 refine w5 ?_
 refine alL 5 fun _=> ?_
 refine w3 ?_
 cases b:(decide (1048576 < (code.length:Int)))
 have c:=aa b
 refine w_ ?_
 refine alL 9 fun _=> ?_
 refine w2 ?_
 refine alL 11 fun _=> ?_
 refine w6 ?_
 refine Qd<|fqB d ?_
 exact bX.2 (by omega)
 have c:=ab b
 refine w9 ?_
 refine Qd<|fqB d ?_
 exact (aE (by omega)).symm
end Go.Proofs.YtndabgcpnmeeoaaGreat
namespace Go.Proofs.YtndabgcpnmeeoaaGreat
open Go.RowKit
set_option maxRecDepth 100000
set_option maxHeartbeats 4000000
section
variable {c:DSg}{as_:List DAr}{a b:DAr}{l:Int×Bool}{R S out:List Int}{s u v q x y z sig:Int}{k i j n m:Nat}{up:Bool}{L:List (List Int)}{r:List Int}
theorem Qsp (h:r∈regV as_ S):∃x∈S,repB as_ S x=true∧r=cls as_ S x:=by
 obtain ⟨x,d,rfl⟩:=ba.1 h
 rw[bl] at d
 exact ⟨x,d.1,d.2,rfl⟩
theorem KE (h:r∈regV as_ S):∀q∈r,q∈S:=fun q d=>by
 obtain ⟨x,_,_,rfl⟩:=Qsp h
 exact (bl.1 d).1
end
end Go.Proofs.YtndabgcpnmeeoaaGreat
namespace Go.Proofs.YtndabgcpnmeeoaaGreat
open Go.RowKit
set_option maxHeartbeats 2000000
set_option maxRecDepth 100000
def ibV (s:ByteArray)(c:UInt8):Int:=Lib.indexByte s.data.toList c
end Go.Proofs.YtndabgcpnmeeoaaGreat
namespace Go.Proofs.YtndabgcpnmeeoaaGreat
open Go.RowKit
set_option maxRecDepth 100000
set_option maxHeartbeats 4000000
def Vk (u:UInt8):Prop:=u=48∨u=49∨u=45
instance (u:UInt8):Decidable (Vk u):=inferInstanceAs (Decidable (_∨_))
def Q2 (s:ByteArray)(n:Int):Prop:=(∀u∈s.toList,Vk u)∧(s.size:Int)=n∧(1≤n∧n≤8)
instance (s:ByteArray) (n:Int):Decidable (Q2 s n):=inferInstanceAs (Decidable (_∧_))
def Qq7 (s:ByteArray)(n:Int):Prop:=YM s n∧(1≤n∧n≤8)
instance (s:ByteArray) (n:Int):Decidable (Qq7 s n):=inferInstanceAs (Decidable (_∧_))
def Yx (n:Int)(l:List ByteArray):Prop:=(1≤n∧n≤8)∧l.length≤60∧∀c∈l,Q2 c n
instance (n:Int) (l:List ByteArray):Decidable (Yx n l):=inferInstanceAs (Decidable (_∧_))
def Y4 (cube code:ByteArray):Bool:=(List.range cube.size).all fun i=>decide (bAt cube (i:Int)=45)||decide (bAt cube (i:Int)=bAt code (i:Int))
section
variable {s t cube code c:ByteArray}{n:Int}{k j:Nat}{u v:UInt8}{l:List ByteArray}
theorem Vc (b:∀j,j < k→∀c,s.toList[j]? =some c→Vk c)(f:s[((k:Int)).toNat]? =some u)(h:Vk u):∀j,j < k+1→∀c,s.toList[j]? =some c→Vk c:=fun j g d a=>by
 by_cases e:j=k
 ·subst e; rw[Jl f] at a; cases a; exact h
 ·exact b j (by omega) d a
theorem Qlx (e:s[((k:Int)).toNat]? =some u)(a:¬u=48)(b:¬u=49)(d:¬u=45):false=decide (Q2 s n):=(aB fun h=>by
 rcases h.1 u (ae (Jl e)) with h | h | h
 ·exact a h
 ·exact b h
 ·exact d h).symm
theorem QpH (b:∀j,j < k→∀c,s.toList[j]? =some c→Vk c)(e:s.size≤k):∀u∈s.toList,Vk u:=fun c d=>by
 obtain ⟨j,a⟩:=aL.1 d
 have:=(ah.1 a).1
 rw[We] at this
 exact b j (by omega) c a
theorem QhF (a:∀j,j < k→∀c,s.toList[j]? =some c→Vk c)(b:s.size≤k)(h:(s.size:Int)=n):decide (1≤n∧n≤8)=decide (Q2 s n):=bX.2 ⟨fun g=>⟨QpH a b,h,g⟩,fun g=>g.2.2⟩
theorem QnO (h:¬(s.size:Int)=n):false=decide (Q2 s n):=(aB fun g=>h g.2.1).symm
theorem QlO (h:¬(1≤n∧n≤8)):false=decide (Yx n l):=(aB fun g=>h g.1).symm
theorem Qsv (h:¬(l.length:Int)≤60):false=decide (Yx n l):=(aB fun g=>h (by have:=g.2.1; omega)).symm
theorem QlV (a:l[k]? =some c)(h:¬Q2 c n):false=decide (Yx n l):=(aB fun g=>h (g.2.2 c (ae a))).symm
theorem Qnl (g:Q2 c n):Q2 c (c.size:Int):=⟨g.1,rfl,by have a:=g.2.1; have b:=g.2.2; omega⟩
theorem QsR (g:Q2 c (c.size:Int))(e:(c.size:Int)=n):Q2 c n:=⟨g.1,e,by have a:=g.2.2; omega⟩
theorem QsE (a:l[k]? =some c)(h:¬Q2 c (c.size:Int)):false=decide (Yx n l):=QlV a fun g=>h (Qnl g)
theorem Qsg (a:l[k]? =some c)(h:¬(c.size:Int)=n):false=decide (Yx n l):=QlV a fun g=>h g.2.1
theorem QsD (b:∀j,j < k→∀x,l[j]? =some x→Q2 x n)(e:l.length≤k):∀c∈l,Q2 c n:=fun c d=>by
 obtain ⟨j,a⟩:=aL.1 d
 exact b j (aX (ah.1 a).1 e) c a
theorem QsK (b:1≤n∧n≤8)(d:(l.length:Int)≤60):(!(l.any fun c=> !decide (Q2 c n)))=decide (Yx n l):=by
 rw[co,bS,cr,dE]
 exact ⟨fun g=>⟨b,by omega,fun c a=>by simpa using g c a⟩,fun g c a=>by simpa using g.2.2 c a⟩
theorem QrM (b:∀j,j < k→∀x,l[j]? =some x→Q2 x n)(d:l.length≤k)(a:1≤n∧n≤8):decide ((l.length:Int)≤60)=decide (Yx n l):=bX.2 ⟨fun g=>⟨a,by omega,QsD b d⟩,fun g=>by have:=g.2.1; omega⟩
theorem QqW (f:k < cube.size)(a:cube[((k:Int)).toNat]? =some u)(b:code[((k:Int)).toNat]? =some v)(d:¬u=45)(e:¬u=v):false=Y4 cube code:=by
 symm
 unfold Y4
 rw[List.all_eq_false]
 exact ⟨k,bD.2 f,by rw[Zo a,Zo b]; simp[d,e]⟩
theorem QmK (a:∀j,j < k→(bAt cube (j:Int)=45∨bAt cube (j:Int)=bAt code (j:Int)))(d:cube.size≤k):true=Y4 cube code:=by
 symm
 unfold Y4
 rw[av]
 intro j b
 have:=a j (aX (bD.1 b) d)
 simpa using this
theorem Qay (a:∀j,j < k→(bAt cube (j:Int)=45∨bAt cube (j:Int)=bAt code (j:Int)))(h:bAt cube (k:Int)=45∨bAt cube (k:Int)=bAt code (k:Int)):∀j,j < k+1→(bAt cube (j:Int)=45∨bAt cube (j:Int)=bAt code (j:Int)):=fun j b=>by
 by_cases e:j=k
 ·subst e; exact h
 ·exact a j (by omega)
end
theorem KY (cube:ByteArray)(n:Int):FC Tryz.prog 101 [(false,[dS cube]),(false,[dI n])] [] 0 (QX (lB (decide (Q2 cube n)))):=by
 refine Qp Tryz.func101 rfl rfl Tryz.ntmps101 fun C r B w D y x=> ?_
 refine acI 1 fun _=> ?_
 refine w8 ?_
 refine lpK cube.size (fun k=>∀j,j < k→∀c,cube.toList[j]? =some c→Vk c) (fun k=>⟨[(0,lf (dS cube)),(1,lI n),(5,lI (k:Int))],[]⟩) ((fun j A=>absurd A (aW j))) ?_ fun k _ q=> ?_
 exact wo []
 refine w4 ?_
 refine alS 7 fun _=> ?_
 refine lc (Zd (Qa rfl) rfl Zz) ?_
 refine w2 ?_
 cases g:(decide ((k:Int) < (cube.size:Int)))
 have h:=aa g
 refine w5 ?_
 refine alS 28 fun _=> ?_
 refine lc (Zd (Qa rfl) rfl Zz) ?_
 refine w3 ?_
 cases i:(decide ((cube.size:Int)=n))
 have m:=aa i
 refine w5 ?_
 refine Qd<|fqB r ?_
 exact QnO ‹_›
 have m:=ab i
 refine w_ ?_
 refine lgy rfl rfl (dK (Q9 n 1 8) ZP) ?_
 refine w3 ?_
 refine Qd<|fqB r ?_
 exact QhF q (by omega) ‹_›
 have h:=ab g
 refine w7 ?_
 obtain ⟨a,z⟩:=gs cube (((k:Int)).toNat)
 refine w_ ?_
 refine lc (QT (Qa rfl) (Q0 48 rfl) rfl) ?_
 refine w_ ?_
 cases o:(!decide (a=48))
 have p:(a=48):=Qu o
 refine w16 ?_
 refine w3 ?_
 refine Qb ?_
 refine lK_ ((Vc q ‹_› (by first | exact .inl ‹_› | exact .inr (.inl ‹_›) | exact .inr (.inr ‹_›)))) ?_
 exact wo []
 have p:¬(a=48):=QE o
 refine w3 ?_
 refine lgy rfl rfl (QT (Qa rfl) (Q0 49 rfl) rfl) ?_
 refine w2 ?_
 cases b:(!decide (a=49))
 have e:(a=49):=Qu b
 refine w13 ?_
 refine Qb ?_
 refine lK_ ((Vc q ‹_› (by first | exact .inl ‹_› | exact .inr (.inl ‹_›) | exact .inr (.inr ‹_›)))) ?_
 exact wo []
 have e:¬(a=49):=QE b
 refine w3 ?_
 refine lgy rfl rfl (QT (Qa rfl) (Q0 45 rfl) rfl) ?_
 refine w2 ?_
 cases d:(!decide (a=45))
 have f:(a=45):=Qu d
 refine w7 ?_
 refine Qb ?_
 refine lK_ ((Vc q ‹_› (by first | exact .inl ‹_› | exact .inr (.inl ‹_›) | exact .inr (.inr ‹_›)))) ?_
 exact wo []
 have f:¬(a=45):=QE d
 refine w4 ?_
 refine Qd<|fqB r ?_
 exact Qlx (k:=k) ‹_› ‹_› ‹_› ‹_›
theorem U1 (s:ByteArray):FC Tryz.prog 104 [(false,[dS s])] [] 0 (QX (lB (decide (Q2 s (s.size:Int))))):=by
 refine Qp Tryz.func104 rfl rfl Tryz.ntmps104 fun A p z q B w r=> ?_
 refine w8 ?_
 refine lpK s.size (fun k=>∀j,j < k→∀c,s.toList[j]? =some c→Vk c) (fun k=>⟨[(0,lf (dS s)),(3,lI (k:Int))],[]⟩) ((fun j y=>absurd y (aW j))) ?_ fun k _ o=> ?_
 exact wo []
 refine w4 ?_
 refine alS 5 fun _=> ?_
 refine lc (Zd (Qa rfl) rfl Zz) ?_
 refine w2 ?_
 cases b:(decide ((k:Int) < (s.size:Int)))
 have d:=aa b
 refine w5 ?_
 refine alS 26 fun _=> ?_
 refine lc (Zd (Qa rfl) rfl Zz) ?_
 refine lc (dK (Yw (s.size:Int) 1 8) Xd) ?_
 refine w2 ?_
 refine Qd<|fqB p ?_
 exact QhF o (by omega) rfl
 have d:=ab b
 refine w7 ?_
 obtain ⟨a,x⟩:=gs s (((k:Int)).toNat)
 refine w_ ?_
 refine lc (QT (Qa rfl) (Q0 48 rfl) rfl) ?_
 refine w_ ?_
 cases e:(!decide (a=48))
 have f:(a=48):=Qu e
 refine w16 ?_
 refine w3 ?_
 refine Qb ?_
 refine lK_ ((Vc o ‹_› (by first | exact .inl ‹_› | exact .inr (.inl ‹_›) | exact .inr (.inr ‹_›)))) ?_
 exact wo []
 have f:¬(a=48):=QE e
 refine w3 ?_
 refine lgy rfl rfl (QT (Qa rfl) (Q0 49 rfl) rfl) ?_
 refine w2 ?_
 cases g:(!decide (a=49))
 have h:(a=49):=Qu g
 refine w13 ?_
 refine Qb ?_
 refine lK_ ((Vc o ‹_› (by first | exact .inl ‹_› | exact .inr (.inl ‹_›) | exact .inr (.inr ‹_›)))) ?_
 exact wo []
 have h:¬(a=49):=QE g
 refine w3 ?_
 refine lgy rfl rfl (QT (Qa rfl) (Q0 45 rfl) rfl) ?_
 refine w2 ?_
 cases i:(!decide (a=45))
 have m:(a=45):=Qu i
 refine w7 ?_
 refine Qb ?_
 refine lK_ ((Vc o ‹_› (by first | exact .inl ‹_› | exact .inr (.inl ‹_›) | exact .inr (.inr ‹_›)))) ?_
 exact wo []
 have m:¬(a=45):=QE i
 refine w4 ?_
 refine Qd<|fqB p ?_
 exact Qlx (k:=k) ‹_› ‹_› ‹_› ‹_›
theorem US (cube:ByteArray)(n:Int):FC Tryz.prog 229 [(false,[dS cube]),(false,[.ptr 0 0])] [bx 0 3 [dI n]] 1 (Is (lB (!decide (Q2 cube n))) [bx 0 3 [dI n]]):=by
 refine Qp Tryz.func229 rfl rfl Tryz.ntmps229 fun h f g a i e d=> ?_
 refine w6 ?_
 refine alI 5 fun _=> ?_
 refine lc (dK (KY cube n) Qc7) ?_
 refine w4 ?_
 have b:(!(decide (Q2 cube n)):Bool)=(!decide (Q2 cube n)):=by
  rfl
 exact fi_ [] f ⟨rfl,trivial⟩ (h0:=by rw[b] <;> rfl)
theorem VG (l:List ByteArray)(n:Int):FC Tryz.prog 270 [(false,[.dat Qj l]),(false,[.clo 229 [0]])] [bx 0 3 [dI n]] 1 (Is (lI (ZO (fun c=> !decide (Q2 c n)) l)) [bx 0 3 [dI n]]):=by
 refine Qp Tryz.func270 rfl rfl Tryz.ntmps270 fun x i w m y r q=> ?_
 refine w6 ?_
 refine alL 6 fun _=> ?_
 refine w4 ?_
 refine lpK l.length (fun k=>NoneTo (fun c=> !decide (Q2 c n)) l k) (fun k=>⟨[(0,lf (.dat Qj l)),(1,lf (.clo 229 [0])),(7,lI (l.length:Int)),(8,lI (k:Int))],[bx 0 3 [dI n]]⟩) (NoneTo.zero) ?_ fun k _ a=> ?_
 exact wo []
 refine w4 ?_
 cases b:(decide ((k:Int) < (l.length:Int)))
 have d:=aa b
 refine w7 ?_
 have o:((-1):Int)=(ZO (fun c=> !decide (Q2 c n)) l):=by
  first | exact (a.no (by omega)).symm
 exact fi_ [] i ⟨rfl,trivial⟩ (h0:=by rw[← o] <;> rfl)
 have d:=ab b
 refine w12 ?_
 obtain ⟨h,g⟩:=gx l k
 refine w2 ?_
 refine lc (Yz (args0:=[(false,[dS h])]) (caps:=[0]) 1 [(0,0)] (US h n) QjF rfl (Qa rfl) rfl rfl ⟨_,_,rfl,(Qo rfl),rfl⟩ ⟨rfl,trivial⟩ rfl ⟨trivial,trivial⟩ (nlr rfl)) ?_
 refine w_ ?_
 cases e:(!decide (Q2 h n))
 have f:(Q2 h n):=Qu e
 refine w6 ?_
 refine Qb ?_
 refine lK_ (a.step g ‹_›) ?_
 exact wo []
 have f:¬(Q2 h n):=QE e
 refine w6 ?_
 have p:((k:Int):Int)=(ZO (fun c=> !decide (Q2 c n)) l):=by
  exact (a.at g ‹_›).symm
 exact fi_ [] i ⟨rfl,trivial⟩ (h0:=by rw[p] <;> rfl)
theorem WT (l:List ByteArray)(n:Int):FC Tryz.prog 129 [(false,[.dat Qj l]),(false,[.clo 229 [0]])] [bx 0 3 [dI n]] 1 (Is (lB (l.any (fun c=> !decide (Q2 c n)))) [bx 0 3 [dI n]]):=by
 refine Qp Tryz.func129 rfl rfl Tryz.ntmps129 fun h f g a i e d=> ?_
 refine w6 ?_
 refine lc (dP 1 [] (VG l n) QiZ) ?_
 refine w4 ?_
 have b:(decide (0≤(ZO (fun c=> !decide (Q2 c n)) l)):Bool)=(l.any (fun c=> !decide (Q2 c n))):=by
  exact Uw _ _
 exact fi_ [] f ⟨rfl,trivial⟩ (h0:=by rw[b] <;> rfl)
theorem WI (n:Int)(l:List ByteArray):FC Tryz.prog 89 [(false,[dI n]),(false,[.dat Qj l])] [] 0 (QX (lB (decide (Yx n l)))):=by
 refine Qp Tryz.func89 rfl rfl Tryz.ntmps89 fun o f m g p i h=> ?_
 refine acI 0 fun _=> ?_
 refine w_ ?_
 refine xbx 0 ?_
 refine w4 ?_
 refine lc (dK (Q9 n 1 8) ZP) ?_
 refine w_ ?_
 cases a:(decide (1≤n∧n≤8))
 have b:=aa a
 refine w12 ?_
 refine Qd<|fqB f ?_
 exact QlO ‹_›
 have b:=ab a
 refine w_ ?_
 refine alL 8 fun _=> ?_
 refine w4 ?_
 cases d:(decide ((l.length:Int)≤60))
 have e:=aa d
 refine w7 ?_
 refine Qd<|fqB f ?_
 exact Qsv ‹_›
 have e:=ab d
 refine w_ ?_
 refine lgy rfl rfl (YZ ⟨_,_,rfl,(Qa rfl),rfl,rfl⟩ rfl) ?_
 refine lgy rfl rfl (dP 1 [] (WT l n) QiU) ?_
 refine w4 ?_
 refine Qd<|fqB f ?_
 exact QsK ‹_› ‹_›
theorem QbS (n:Int)(l:List ByteArray):FC Tryz.prog 93 [(false,[dI n]),(false,[.dat Qj l])] [] 0 (QX (lB (decide (Yx n l)))):=by
 refine Qp Tryz.func93 rfl rfl Tryz.ntmps93 fun B p A r C y w=> ?_
 refine acI 0 fun _=> ?_
 refine w6 ?_
 refine alL 7 fun _=> ?_
 refine w4 ?_
 refine lpK l.length (fun k=>∀j,j < k→∀x,l[j]? =some x→Q2 x n) (fun k=>⟨[(0,lI n),(1,lf (.dat Qj l)),(7,lf (.dat Qj l)),(8,lI (l.length:Int)),(9,lI (k:Int))],[]⟩) ((fun j z=>absurd z (aW j))) ?_ fun k _ q=> ?_
 exact wo []
 refine w4 ?_
 cases f:(decide ((k:Int) < (l.length:Int)))
 have g:=aa f
 refine w5 ?_
 refine lc (dK (Yw n 1 8) Xd) ?_
 refine w_ ?_
 cases h:(decide (1≤n∧n≤8))
 have i:=aa h
 refine w6 ?_
 refine Qd<|fqB p ?_
 exact QlO ‹_›
 have i:=ab h
 refine w_ ?_
 refine alL 26 fun _=> ?_
 refine w5 ?_
 refine Qd<|fqB p ?_
 exact QrM q (by omega) ‹_›
 have g:=ab f
 refine w5 ?_
 obtain ⟨e,d⟩:=gx l k
 refine w6 ?_
 refine lc (dK (U1 e) Qek) ?_
 refine w2 ?_
 cases m:(decide (Q2 e (e.size:Int)))
 have o:=aa m
 refine w10 ?_
 refine Qd<|fqB p ?_
 exact QsE d ‹_›
 have o:=ab m
 refine w_ ?_
 refine alS 17 fun _=> ?_
 refine lgy rfl rfl (Zd (Qa rfl) rfl Zz) ?_
 refine w4 ?_
 cases a:(!decide ((e.size:Int)=n))
 have b:((e.size:Int)=n):=Qu a
 refine w6 ?_
 refine Qb ?_
 refine lK_ ((Xq q d (QsR ‹_› ‹_›))) ?_
 exact wo []
 have b:¬((e.size:Int)=n):=QE a
 refine w4 ?_
 refine Qd<|fqB p ?_
 exact Qsg d ‹_›
theorem Xl (cube:ByteArray)(code:ByteArray)(C:cube.size≤code.size):FC Tryz.prog 236 [(false,[dS cube]),(false,[dS code])] [] 0 (QX (lB (Y4 cube code))):=by
 refine Qp Tryz.func236 rfl rfl Tryz.ntmps236 fun A o z p B r q=> ?_
 refine w6 ?_
 refine alS 6 fun _=> ?_
 refine lc (Zd (Qa rfl) rfl Zz) ?_
 refine w3 ?_
 refine lpK cube.size (fun k=>∀j,j < k→(bAt cube (j:Int)=45∨bAt cube (j:Int)=bAt code (j:Int))) (fun k=>⟨[(0,lf (dS cube)),(1,lf (dS code)),(7,lI (cube.size:Int)),(8,lI (k:Int))],[]⟩) ((fun j y=>absurd y (aW j))) ?_ fun k _ i=> ?_
 exact wo []
 refine w4 ?_
 cases b:(decide ((k:Int) < (cube.size:Int)))
 have d:=aa b
 refine w6 ?_
 refine Qd<|fqB o ?_
 exact QmK i (by omega)
 have d:=ab b
 refine w8 ?_
 obtain ⟨c4,w⟩:=gs cube (((k:Int)).toNat)
 cases a:(!decide (c4=45))
 have e:(c4=45):=Qu a
 apply dW (i3 11 _ _ _ (io 14 (lB false) :: i9 15 _ _ _ _ _ _ _ _ _ [])) [0,1,0,0,0,0,32,0,224,480,224,0,0]
 refine z3 ?_
 refine zz (fun _ m=>ac (QS (VI (JO a)) (QT (m.v rfl) (Q0 45 rfl) rfl)) rfl) ?_
 exact y9
 refine w6 ?_
 refine Qb ?_
 refine lK_ ((Qay i (by first | exact .inl ((Zo ‹_›).trans ‹_›) | exact .inr ((Zo ‹_›).trans ((‹(_:UInt8)=_›).trans (Zo ‹_›).symm))))) ?_
 exact wo []
 have e:¬(c4=45):=QE a
 obtain ⟨h,x⟩:=gs code (((k:Int)).toNat)
 apply dW (i3 11 _ _ _ (io 14 (lB true) :: i9 15 _ _ _ _ _ _ _ _ _ [])) [0,1,0,0,0,0,32,0,224,480,224,0,0]
 refine z3 ?_
 refine zz (fun _ m=>ac (QS (VI (JO a)) (QT (m.v rfl) (Q0 45 rfl) rfl)) rfl) ?_
 exact y9
 cases f:(!decide (c4=h))
 have g:(c4=h):=Qu f
 refine w6 ?_
 refine Qb ?_
 refine lK_ ((Qay i (by first | exact .inl ((Zo ‹_›).trans ‹_›) | exact .inr ((Zo ‹_›).trans ((‹(_:UInt8)=_›).trans (Zo ‹_›).symm))))) ?_
 exact wo []
 have g:¬(c4=h):=QE f
 refine w4 ?_
 refine Qd<|fqB o ?_
 exact QqW (k:=k) (by omega) ‹_› ‹_› ‹_› ‹_›
theorem X6 (cube:ByteArray)(code:ByteArray)(C:cube.size≤code.size):FC Tryz.prog 239 [(false,[dS cube]),(false,[dS code])] [] 0 (QX (lB (Y4 cube code))):=by
 refine Qp Tryz.func239 rfl rfl Tryz.ntmps239 fun A o z p B r q=> ?_
 refine w8 ?_
 refine lpK cube.size (fun k=>∀j,j < k→(bAt cube (j:Int)=45∨bAt cube (j:Int)=bAt code (j:Int))) (fun k=>⟨[(0,lf (dS cube)),(1,lf (dS code)),(5,lI (k:Int))],[]⟩) ((fun j y=>absurd y (aW j))) ?_ fun k _ i=> ?_
 exact wo []
 refine w4 ?_
 refine alS 7 fun _=> ?_
 refine lc (Zd (Qa rfl) rfl Zz) ?_
 refine w2 ?_
 cases b:(decide ((k:Int) < (cube.size:Int)))
 have d:=aa b
 refine w6 ?_
 refine Qd<|fqB o ?_
 exact QmK i (by omega)
 have d:=ab b
 refine w4 ?_
 obtain ⟨c4,w⟩:=gs cube (((k:Int)).toNat)
 cases a:(!decide (c4=45))
 have e:(c4=45):=Qu a
 apply dW (i3 12 _ _ _ (io 15 (lB false) :: i9 16 _ _ _ _ _ _ _ _ _ [])) [0,1,0,0,0,0,32,0,224,480,224,0,0]
 refine z3 ?_
 refine zz (fun _ m=>ac (QS (VI (JO a)) (QT (m.v rfl) (Q0 45 rfl) rfl)) rfl) ?_
 exact y9
 refine w7 ?_
 refine Qb ?_
 refine lK_ ((Qay i (by first | exact .inl ((Zo ‹_›).trans ‹_›) | exact .inr ((Zo ‹_›).trans ((‹(_:UInt8)=_›).trans (Zo ‹_›).symm))))) ?_
 exact wo []
 have e:¬(c4=45):=QE a
 obtain ⟨h,x⟩:=gs code (((k:Int)).toNat)
 apply dW (i3 12 _ _ _ (io 15 (lB true) :: i9 16 _ _ _ _ _ _ _ _ _ [])) [0,1,0,0,0,0,32,0,224,480,224,0,0]
 refine z3 ?_
 refine zz (fun _ m=>ac (QS (VI (JO a)) (QT (m.v rfl) (Q0 45 rfl) rfl)) rfl) ?_
 exact y9
 cases f:(!decide (c4=h))
 have g:(c4=h):=Qu f
 refine w7 ?_
 refine Qb ?_
 refine lK_ ((Qay i (by first | exact .inl ((Zo ‹_›).trans ‹_›) | exact .inr ((Zo ‹_›).trans ((‹(_:UInt8)=_›).trans (Zo ‹_›).symm))))) ?_
 exact wo []
 have g:¬(c4=h):=QE f
 refine w4 ?_
 refine Qd<|fqB o ?_
 exact QqW (k:=k) (by omega) ‹_› ‹_› ‹_› ‹_›
end Go.Proofs.YtndabgcpnmeeoaaGreat
namespace Go.Proofs.YtndabgcpnmeeoaaGreat
open Go.RowKit
set_option maxRecDepth 100000
set_option maxHeartbeats 4000000
def cdF (c:ByteArray):List ByteArray:=[c++⟨#[48]⟩,c++⟨#[49]⟩]
def Qeq:Nat→List ByteArray
 | 0=>[⟨#[]⟩]
 | n+1=>(Qeq n).flatMap cdF
open Classical in
noncomputable def unrV (c:DSg):List ByteArray:=if SgOk c then (Qeq c.1.length).filter fun x=> !(c.2.1.any fun y=>decide (x=y)) else []
def QxM (l:List ByteArray)(n:Nat):List Int:=((List.range n).map fun i:Nat=>(i:Int)).filter fun i=>l.any fun c=> !decide (bAt c i=45)
section
variable {n k j:Nat}{c x:ByteArray}{l:List ByteArray}
end
def QyH (c:DSg)(k:Nat):List ByteArray:=((Qeq ((c.1.length:Nat):Int).toNat).take k).filter fun x=> !(Qpc c.2.1 x)
end Go.Proofs.YtndabgcpnmeeoaaGreat
namespace Go.Proofs.YtndabgcpnmeeoaaGreat
open Go.RowKit
set_option maxRecDepth 100000
set_option maxHeartbeats 4000000
section
variable {α:Type}[DecidableEq α]{l zs:List α}{m i j:Int}{x y:α}
end
def n0 (l:List ByteArray):Nat:=((l[0]?).getD ByteArray.empty).size
def QtB (l:List ByteArray):Prop:=0 < l.length∧Yx (n0 l:Int) l
instance (l:List ByteArray):Decidable (QtB l):=inferInstanceAs (Decidable (_∧_))
def Qy3 (l:List ByteArray)(i:Int):Bool:=l.any fun c=> !decide (bAt c i=45)
def QyO (l:List ByteArray):List Int:=if QtB l then QxM l (n0 l) else []
section
variable {l:List ByteArray}{c:ByteArray}{k:Nat}{i n:Int}{u:UInt8}
theorem QtG (h:l[0]? =some c):n0 l=c.size:=by unfold n0; rw[h]; rfl
theorem Qu4 (h:Yx n l)(a:c∈l):(c.size:Int)=n:=(h.2.2 c a).2.1
end
end Go.Proofs.YtndabgcpnmeeoaaGreat
namespace Go.Proofs.YtndabgcpnmeeoaaGreat
open Go.RowKit
set_option maxRecDepth 100000
set_option maxHeartbeats 4000000
def Qqb (n:Int)(l:List ByteArray):Prop:=(∀c∈l,YM c n)∧l.Pairwise fun x y=>ltB x y=true
instance (n:Int) (l:List ByteArray):Decidable (Qqb n l):=inferInstanceAs (Decidable (_∧_))
def OOk (n:Int)(on off:List ByteArray):Prop:=(1≤n∧n≤8)∧(Qqb n on∧(on.length:Int)≤64)∧(Qqb n off∧(off.length:Int)≤256)∧(on.any fun c=>off.any fun y=>decide (c=y))=false
instance (n:Int) (on off:List ByteArray):Decidable (OOk n on off):=inferInstanceAs (Decidable (_∧_))
def QyI (n:Int)(l:List ByteArray)(j:Nat):Prop:=(∀c,l[j]? =some c→YM c n)∧∀b c,0 < j→l[j - 1]? =some b→l[j]? =some c→ltB b c=true
section
variable {n:Int}{l a b on off:List ByteArray}{c x y:ByteArray}{k j:Nat}
end
end Go.Proofs.YtndabgcpnmeeoaaGreat
namespace Go.Proofs.YtndabgcpnmeeoaaGreat
open Go.RowKit
set_option maxRecDepth 100000
set_option maxHeartbeats 4000000
abbrev DOn:=List ByteArray×List ByteArray
def nsB (c:DSg)(sig k:Int):Bool:= !(decide (bAt (Y6 c k) sig=49)==Zc c k sig)
def pkF (c:DSg)(f:Int→Bool)(i:Nat):Option ByteArray:=if f (i:Int)=true then some (cdA c i) else none
def pkL (c:DSg)(f:Int→Bool)(k:Nat):List ByteArray:=rg (pkF c f) k
def Qrw (c:DSg)(f g:Int→Bool):DOn:=(ofG ltB (pkL c f c.2.1.length),ofG ltB (pkL c g c.2.1.length))
def QpC (c:DSg)(f g:Int→Bool):Prop:=OOk (c.1.length:Int) (Qrw c f g).1 (Qrw c f g).2
instance (c:DSg) (f g:Int→Bool):Decidable (QpC c f g):=inferInstanceAs (Decidable (OOk _ _ _))
def QyQ (c:DSg)(f g:Int→Bool):DOn:=if QpC c f g then Qrw c f g else ([],[])
section
variable {c:DSg}{f g:Int→Bool}{k j:Nat}{w x:ByteArray}{u:UInt8}{sig q:Int}{l:List ByteArray}
theorem Qrc (h:c.2.1[k]? =some w):cdA c k=w:=by unfold cdA; rw[h]; rfl
end
end Go.Proofs.YtndabgcpnmeeoaaGreat
namespace Go.Proofs.YtndabgcpnmeeoaaGreat
open Go.RowKit
set_option maxRecDepth 100000
set_option maxHeartbeats 4000000
def QwX (c:DSg)(sig:Int)(way:ByteArray)(k:Int):Bool×Bool:=
 if way=⟨#[100,111,119,110]⟩ then (Zc c k sig&&decide (bAt (Y6 c k) sig=49), !(Zc c k sig==decide (bAt (Y6 c k) sig=49)))
 else if way=⟨#[117,112]⟩ then (Zc c k sig&& !decide (bAt (Y6 c k) sig=49),Zc c k sig==decide (bAt (Y6 c k) sig=49))
 else (!(Zc c k sig==decide (bAt (Y6 c k) sig=49)),Zc c k sig==decide (bAt (Y6 c k) sig=49))
abbrev wOn (c:DSg)(sig:Int)(way:ByteArray)(k:Int):Bool:=(QwX c sig way k).1
abbrev wOf (c:DSg)(sig:Int)(way:ByteArray)(k:Int):Bool:=(QwX c sig way k).2
section
variable {c:DSg}{f g:Int→Bool}{k j:Nat}{w x s way:ByteArray}{u:UInt8}{sig q m:Int}{l o:List ByteArray}
end
end Go.Proofs.YtndabgcpnmeeoaaGreat
namespace Go.Proofs.YtndabgcpnmeeoaaGreat
open Go.RowKit
set_option maxRecDepth 100000
set_option maxHeartbeats 4000000
section
variable {c:DSg}{k:Nat}{w way code:ByteArray}{u:UInt8}{sig q n:Int}{l:List ByteArray}
def Qww (c:DSg)(sig:Int)(way:ByteArray):DOn:=Qrw c (wOn c sig way) (wOf c sig way)
def QfV (c:DSg)(sig:Int)(way:ByteArray):Prop:=(SgOk c∧(0≤sig∧sig≤(c.1.length:Int) - 1)∧QR c sig=false)∧QpC c (wOn c sig way) (wOf c sig way)
instance [∀c,Decidable (SgOk c)] (c:DSg) (sig:Int) (way:ByteArray):Decidable (QfV c sig way):=inferInstanceAs (Decidable (_∧_))
abbrev KT:ByteArray:=⟨#[110,101,120,116]⟩
end
end Go.Proofs.YtndabgcpnmeeoaaGreat
namespace Go.Proofs.YtndabgcpnmeeoaaGreat
open Go.RowKit
set_option maxRecDepth 100000
set_option maxHeartbeats 4000000
section
variable [∀c,Decidable (SgOk c)]{c:DSg}{k:Nat}{w way code:ByteArray}{u:UInt8}{sig q n:Int}{l:List ByteArray}{x:Qz}
def Qeo (c:DSg)(sig:Int)(way:ByteArray):DOn:=if QfV c sig way then Qww c sig way else ([],[])
abbrev Qy1 (c:DSg)(sig:Int):Prop:=SgOk c∧(0≤sig∧sig≤(c.1.length:Int) - 1)∧QR c sig=false
def nvB (c:DSg)(code:ByteArray)(sig:Int):Bool:=decide (QfV c sig KT)&&(Qpc (Qeo c sig KT).1 code||Qpc (Qeo c sig KT).2 code)
def nvV (c:DSg)(code:ByteArray)(sig:Int):Bool:=nvB c code sig&&Qpc (Qeo c sig KT).1 code
end
end Go.Proofs.YtndabgcpnmeeoaaGreat
namespace Go.Proofs.YtndabgcpnmeeoaaGreat
open Go.RowKit
set_option maxRecDepth 100000
set_option maxHeartbeats 4000000
def ccP (l:List ByteArray)(code:ByteArray):Prop:=Yx (code.size:Int) l∧Qq7 code (code.size:Int)
instance (l:List ByteArray) (code:ByteArray):Decidable (ccP l code):=inferInstanceAs (Decidable (_∧_))
def ccV (l:List ByteArray)(code:ByteArray):Bool:=decide (ccP l code)&&l.any fun c=>Y4 c code
def QyS (n:Int)(l:List ByteArray):List ByteArray:=(Qeq n.toNat).filter fun x=>l.any fun c=>Y4 c x
def cdK (n:Int)(l:List ByteArray)(k:Nat):List ByteArray:=((Qeq n.toNat).take k).filter fun x=>l.any fun c=>Y4 c x
section
variable {l:List ByteArray}{c x code:ByteArray}{n:Int}{k:Nat}
end
theorem HQ (a:List ByteArray)(b:List ByteArray)(h:a=b):FC Tryz.prog 87 [(false,[.dat Qj a]),(false,[.dat Qj b])] [] 0 (QX (lB true)):=by
 have s:a.length=b.length:=by rw[h]
 refine Qp Tryz.func87 rfl rfl Tryz.ntmps87 fun v i u p w r q=> ?_
 refine w6 ?_
 refine alL 6 fun _=> ?_
 refine w2 ?_
 refine alL 8 fun _=> ?_
 refine w3 ?_
 refine cn_ (fun _ _=> ?_) fun _ _=> ?_
 refine w4 ?_
 refine alL 11 fun _=> ?_
 refine w4 ?_
 refine lp0 a.length (fun k=>⟨[(0,lf (.dat Qj a)),(1,lf (.dat Qj b)),(12,lI (a.length:Int)),(13,lI (k:Int))],[]⟩) ?_ fun k _=> ?_
 exact wo []
 refine w4 ?_
 cases f:(decide ((k:Int) < (a.length:Int)))
 have g:=aa f
 refine w7 ?_
 exact fe_ i
 have g:=ab f
 refine w8 ?_
 obtain ⟨j,t⟩:=gx a k
 obtain ⟨m,o⟩:=gx b k
 apply dW (i9 16 _ _ _ _ _ _ _ _ _ []) [0,1,0,0,15,31,15,15,0]
 exact y9
 cases d:(!decide (j=m))
 have e:(j=m):=Qu d
 refine w6 ?_
 refine Qb ?_
 refine l0_ ?_
 exact wo []
 have e:¬(j=m):=QE d
 refine w4 ?_
 refine Qd<|fqB i ?_
 ·(subst h; exfalso; simp_all; done)
 refine w3 ?_
 refine Qd<|fqB i ?_
 ·(subst h; exfalso; simp_all; done)
end Go.Proofs.YtndabgcpnmeeoaaGreat
namespace Go.Proofs.YtndabgcpnmeeoaaGreat
open Go.RowKit
set_option maxRecDepth 100000
set_option maxHeartbeats 4000000
theorem Qb8 (l:List ByteArray)(b:Nat)(h:(l.all fun x=>decide (x.size≤b))=true)(i:Nat):((l[i]?).getD ByteArray.empty).size≤b:=by
 cases a:l[i]? with
 | none=>exact aP _
 | some x=>exact ab (av.1 h x (ae a))
abbrev B01:List ByteArray:=[⟨#[48]⟩,⟨#[49]⟩]
def c1G (code:List UInt8):Nat→ByteArray×Int×Int→ByteArray×Int×Int
 | 0,st=>st
 | k+1,st=>c1G code k (st.1++(B01[(pkV code st.2.1 st.2.2 (B01.length:Int)).toNat]?).getD ByteArray.empty,pkA (B01.length:Int) st.2.1,pkS code st.2.1 st.2.2 (B01.length:Int))
def c1V (code:List UInt8)(n at_ sd:Int):ByteArray×Int×Int:=c1G code n.toNat (⟨#[]⟩,at_,sd)
theorem Hk (code:List UInt8)(at_:Int)(sd:Int)(n:Int)(t:0≤at_∧at_≤900000000)(w:0≤n∧n≤8):FC Tryz.prog 98 [(false,[.ptr 0 0]),(false,[dI n])] [bx 0 134 [.dat QN code,dI at_, .val (.int .u64 sd)]] 1 (Ex (fun x:ByteArray×Int×Int=>x.1.size≤8∧(at_≤x.2.1∧x.2.1≤at_+16)) (fun x:ByteArray×Int×Int=>lf (dS x.1)) (fun x:ByteArray×Int×Int=>[bx 0 134 [.dat QN code,dI x.2.1, .val (.int .u64 x.2.2)]])):=by
 refine Qp Tryz.func98 rfl rfl Tryz.ntmps98 fun r m q j s l k=> ?_
 refine acI 1 fun _=> ?_
 refine w11 ?_
 refine QD (fun h i=>∃(c:Int) (g:ByteArray) (b:Int) (a:Int),h=(n - c).toNat∧(0≤c∧c≤n)∧((g.size:Int)≤c)∧(at_≤b∧b≤at_+2*c)∧i=⟨[(0,lP 0 0),(1,lI n),(4,lf (dS (⟨#[]⟩:ByteArray))),(5,lf (dS g)),(6,lI c)],[bx 0 134 [.dat QN code,dI b, .val (.int .u64 a)]]⟩) ⟨0,(⟨#[]⟩:ByteArray),at_,sd,rfl,by omega,(cK _),by omega,rfl⟩ ?_ ?_
 exact wo []
 rintro h i ⟨c,g,b,a,o,v,y,u,rfl⟩
 refine w6 ?_
 cases d:(decide (c < n))
 have f:=aa d
 refine w8 ?_
 subst m
 refine QP (x:=(g,(b,a))) [(0,0)] ?_ (Res.one rfl (Zi rfl)) rfl ⟨rfl,trivial⟩ rfl rfl
 (dsimp only; omega)
 have f:=ab d
 refine w7 ?_
 refine lc (dBs 1 (e:= .str) Ya) ?_
 have p:=Zu code b a (([(⟨#[48]⟩:ByteArray),(⟨#[49]⟩:ByteArray),(⟨#[45]⟩:ByteArray)]).length:Int)
 refine lc (dP 2 [] (Wd code b a ([(⟨#[48]⟩:ByteArray),(⟨#[49]⟩:ByteArray),(⟨#[45]⟩:ByteArray)]) (by omega) (by decide)) Hj) ?_
 refine lc (QA (Qa rfl) (Qa rfl) rfl (by (refine bu (cF (Qb8 [(⟨#[48]⟩:ByteArray),(⟨#[49]⟩:ByteArray),(⟨#[45]⟩:ByteArray)] 1 (by decide+kernel) _) _) ?_; omega))) ?_
 refine w_ ?_
 refine Qb ?_
 refine w5 ?_
 refine Qb ?_
 refine Zb ⟨(c+1),(g++((([(⟨#[48]⟩:ByteArray),(⟨#[49]⟩:ByteArray),(⟨#[45]⟩:ByteArray)])[(pkV code b a (([(⟨#[48]⟩:ByteArray),(⟨#[49]⟩:ByteArray),(⟨#[45]⟩:ByteArray)]).length:Int)).toNat]?).getD ByteArray.empty)),(pkA (([(⟨#[48]⟩:ByteArray),(⟨#[49]⟩:ByteArray),(⟨#[45]⟩:ByteArray)]).length:Int) b),(pkS code b a (([(⟨#[48]⟩:ByteArray),(⟨#[49]⟩:ByteArray),(⟨#[45]⟩:ByteArray)]).length:Int)),rfl,by omega,(by rw[aA]; refine Int.le_trans (Int.ofNat_le.2 (cF (Qb8 [(⟨#[48]⟩:ByteArray),(⟨#[49]⟩:ByteArray),(⟨#[45]⟩:ByteArray)] 1 (by decide+kernel) _) _)) ?_; omega),(by omega),rfl⟩ (by omega) ?_
 exact wo []
end Go.Proofs.YtndabgcpnmeeoaaGreat
namespace Go.Proofs.YtndabgcpnmeeoaaGreat
open Go.RowKit
set_option maxRecDepth 100000
set_option maxHeartbeats 4000000
theorem Qyp {l:List ByteArray}{x:ByteArray}{b:Nat}(h:∀c∈l,c.size≤b)(e:x.size≤b):∀c∈l++[x],c.size≤b:=fun c d=>by
 rcases aM.1 d with a | a
 ·exact h c a
 ·rw[aD] at a; subst a; exact e
theorem JN (code:List UInt8)(at_:Int)(sd:Int)(n:Int)(I:0≤at_∧at_≤800000000)(C:0≤n∧n≤8):FC Tryz.prog 109 [(false,[.ptr 0 0]),(false,[dI n])] [bx 0 134 [.dat QN code,dI at_, .val (.int .u64 sd)]] 1 (Ex (fun x:List ByteArray×Int×Int=>x.1.length≤4∧(at_≤x.2.1∧x.2.1≤at_+100)) (fun x:List ByteArray×Int×Int=>lR 1) (fun x:List ByteArray×Int×Int=>[bx 0 134 [.dat QN code,dI x.2.1, .val (.int .u64 x.2.2)],ar 1 9 .str x.1])):=by
 refine Qp Tryz.func109 rfl rfl Tryz.ntmps109 fun G o F w H z y=> ?_
 refine acI 1 fun _=> ?_
 refine w9 ?_
 have D:=Zu code at_ sd 5
 refine lc (dP 1 [] (Qr code at_ sd 5 (by omega)) Zl) ?_
 refine w3 ?_
 refine AC.wk (Wk.nilS 2 5 9 .str rfl (Fresh.of rfl) (nlr rfl)) ?_
 refine QD (fun u v=>∃(f:Int) (d:List ByteArray) (b:Int) (a:Int),u=f.toNat∧(0≤f∧f≤4)∧((d.length:Int)+f≤4)∧(∀c∈d,c.size≤8)∧(at_≤b∧b+16*f≤at_+66)∧v=⟨[(0,lP 0 0),(1,lI n),(4,lf (.val (.slice none 0 0))),(5,lR 3),(6,lI f)],[bx 0 134 [.dat QN code,dI b, .val (.int .u64 a)],ar 3 9 .str d]⟩) ⟨pkV code at_ sd 5,([]:(Qj:Ty).Den),(pkA 5 at_),(pkS code at_ sd 5),rfl,by omega,(by simp only[aO]; omega),(fun c A=>by cases A),by omega,rfl⟩ ?_ ?_
 exact wp [(3,2)] ⟨rfl,(Qk (by first | rfl | simp)),trivial⟩
 rintro u v ⟨f,d,b,a,B,K,L,t,J,rfl⟩
 refine w5 ?_
 cases j:(decide (0 < f))
 have k:=aa j
 refine w9 ?_
 cases l:(decide (0 < (d.length:Int)))
 have m:=aa l
 refine w11 ?_
 subst o
 refine QP (x:=(d,(b,a))) [(0,0),(1,3)] ?_ (Res.one rfl (Zi rfl)) rfl ⟨rfl,rfl,trivial⟩ rfl rfl
 (dsimp only; first | omega | (simp only[ay]; omega))
 have m:=ab l
 refine w_ ?_
 have E:=Zu code b a 15
 refine lgy rfl rfl (dP 4 [] (ZT code b a 15 (by omega)) Wg) ?_
 refine w2 ?_
 refine cd_ (fun _ _=> ?_) fun _ _=> ?_
 refine w6 ?_
 subst o
 refine QP (x:=(d,((pkA 15 b),(pkS code b a 15)))) [(0,0),(1,3)] ?_ (Res.one rfl (Zi rfl)) rfl ⟨rfl,rfl,trivial⟩ rfl rfl
 (dsimp only; first | omega | (simp only[ay]; omega))
 refine w5 ?_
 obtain ⟨h,g⟩:=gx d 0
 have r:=t _ (ae g)
 refine w_ ?_
 refine lc (QA (Qa rfl) (Evl.str rfl) rfl (by first | omega | (simp only[Zh]; omega))) ?_
 refine lc (dBs 5 (e:= .str) Ya) ?_
 have q:=Zu code (pkA 15 b) (pkS code b a 15) (([(⟨#[]⟩:ByteArray),(⟨#[120]⟩:ByteArray),h++(⟨#[49]⟩:ByteArray)]).length:Int)
 refine lc (dP 6 [(1,5)] (Wd code (pkA 15 b) (pkS code b a 15) ([(⟨#[]⟩:ByteArray),(⟨#[120]⟩:ByteArray),h++(⟨#[49]⟩:ByteArray)]) (by omega) (Nat.succ_le_succ (aP _))) Hj) ?_
 refine w_ ?_
 refine lc (Qt (e:= .str) (z':=(([(⟨#[]⟩:ByteArray),(⟨#[120]⟩:ByteArray),h++(⟨#[49]⟩:ByteArray)])[(pkV code (pkA 15 b) (pkS code b a 15) (([(⟨#[]⟩:ByteArray),(⟨#[120]⟩:ByteArray),h++(⟨#[49]⟩:ByteArray)]).length:Int)).toNat]?).getD ByteArray.empty) (Qa rfl) rfl g rfl (Qo rfl) rfl UA rfl rfl) ?_
 refine w6 ?_
 subst o
 refine QP (x:=(d.set 0 ((([(⟨#[]⟩:ByteArray),(⟨#[120]⟩:ByteArray),h++(⟨#[49]⟩:ByteArray)])[(pkV code (pkA 15 b) (pkS code b a 15) (([(⟨#[]⟩:ByteArray),(⟨#[120]⟩:ByteArray),h++(⟨#[49]⟩:ByteArray)]).length:Int)).toNat]?).getD ByteArray.empty),((pkA (([(⟨#[]⟩:ByteArray),(⟨#[120]⟩:ByteArray),h++(⟨#[49]⟩:ByteArray)]).length:Int) (pkA 15 b)),(pkS code (pkA 15 b) (pkS code b a 15) (([(⟨#[]⟩:ByteArray),(⟨#[120]⟩:ByteArray),h++(⟨#[49]⟩:ByteArray)]).length:Int))))) [(0,0),(1,3)] ?_ (Res.one rfl (Zi rfl)) rfl ⟨rfl,rfl,trivial⟩ rfl rfl
 (dsimp only; first | omega | (simp only[ay]; omega))
 have k:=ab j
 refine w8 ?_
 refine Q8 8 [(0,0)] (Hk code b a n (by omega) C) Qba e2_ ⟨rfl,trivial⟩ rfl (fun _=>rfl) (fun _=>⟨trivial,trivial⟩) (nlr rfl) fun i s=> ?_
 refine lc (dBs 9 (e:= .str) Ya) ?_
 refine lc (dA 10 VT) ?_
 refine w_ ?_
 refine Qb ?_
 refine w5 ?_
 refine Qb<|Zb ⟨(f - 1),(d++([i.1])),i.2.1,i.2.2,rfl,by omega,(by simp only[ai,au,aO]; omega),(Qyp t (by have p:=‹ByteArray.size _≤8∧_›; exact p.1)),(by have p:=‹ByteArray.size _≤8∧_›; omega),rfl⟩ (by omega) ?_
 exact wp [(3,10)] ⟨rfl,(Qk (by first | rfl | simp)),trivial⟩
end Go.Proofs.YtndabgcpnmeeoaaGreat
namespace Go.Proofs.YtndabgcpnmeeoaaGreat
open Go.RowKit
set_option maxRecDepth 100000
set_option maxHeartbeats 4000000
def QyC (x b:ByteArray)(i:Int):ByteArray:=(x.extract 0 i.toNat++b)++x.extract (i+1).toNat x.size
abbrev Qyu:ByteArray:=⟨#[45,45,45,45,45,45,45,45]⟩
section
variable {l:List ByteArray}{c x y b c0:ByteArray}{n i:Int}{m k j:Nat}
end
end Go.Proofs.YtndabgcpnmeeoaaGreat
namespace Go.Proofs.YtndabgcpnmeeoaaGreat
open Go.RowKit
set_option maxRecDepth 100000
set_option maxHeartbeats 4000000
abbrev upT:ByteArray:=⟨#[117,112]⟩
abbrev QyB:ByteArray:=⟨#[100,111,119,110]⟩
def mOn (c:DSg)(sig:Int)(fr:UInt8)(k:Int):Bool:=decide (bAt (Y6 c k) sig=fr)&&Zc c k sig
def mOf (c:DSg)(sig:Int)(fr:UInt8)(k:Int):Bool:= !(decide (bAt (Y6 c k) sig=fr)==Zc c k sig)
section
variable {c:DSg}{f g f2 g2:Int→Bool}{k:Nat}{w way:ByteArray}{u fr:UInt8}{sig q:Int}
end
end Go.Proofs.YtndabgcpnmeeoaaGreat
