/- Walks over abstract states: drawn graphs, good or spoilt. -/
import Derived.Test.YtndabgcpnmeeoaaGreatODg
import Derived.Test.YtndabgcpnmeeoaaGreatOCi
import Derived.Test.YtndabgcpnmeeoaaGreatOWq
import Derived.Test.YtndabgcpnmeeoaaGreatOCc
import Derived.Test.YtndabgcpnmeeoaaGreatOEd
set_option linter.unusedSimpArgs false
set_option linter.unusedVariables false
set_option linter.unusedSectionVars false
namespace Go.Proofs.YtndabgcpnmeeoaaGreat
open Go.RowKit
set_option maxRecDepth 100000
set_option maxHeartbeats 4000000
theorem QiC {α:Type _}(f:α→Nat)(x:α):∀(l:List α) (i:Nat),((l.set i x).map f).sum≤(l.map f).sum+f x
 | [],i=>by simp
 | y :: l,0=>by simp only[List.set_cons_zero,aU,List.sum_cons]; omega
 | y :: l,i+1=>by have:=QiC f x l i; simp only[cv,aU,List.sum_cons]; omega
theorem Qs2 {α:Type _}(f:α→Nat):∀(l:List α),((l.drop 1).map f).sum≤(l.map f).sum
 | []=>aL _
 | y :: l=>by simp
theorem Qu1 (l:Q9):Ty.tot XP l=0:=rfl
theorem QoA (g:QB):Ty.tot Ye g=g.1.size:=rfl
section
variable {n:Yh}{ss:List QB}{ls:List Q9}{t:ByteArray}
theorem Qhz (n:Yh)(ss:List QB)(ls:List Q9)(t:ByteArray):Ty.tot Zl (n,ss,ls,t)=Ty.tot Uz n+((ss.length+(ss.map (Ty.tot Ye)).sum)+((ls.length+(ls.map (Ty.tot XP)).sum)+t.size)):=rfl
theorem HT {u:ByteArray}(h:Ty.tot Zl (n,ss,ls,t)≤1000)(a:u.size≤t.size+2):Ty.tot Zl (n,ss,ls,u)≤3000:=by
 rw[Qhz] at h ⊢; omega
theorem Qhk {i:Nat}{l:Q9}(h:Ty.tot Zl (n,ss,ls,t)≤1000):Ty.tot Zl (n,ss,ls.set i l,t)≤3000:=by
 have a:=QiC (Ty.tot XP) l ls i
 rw[Qu1] at a
 rw[Qhz] at h ⊢; rw[au]; omega
theorem QfL {i:Nat}{g:QB}(h:Ty.tot Zl (n,ss,ls,t)≤1000)(b:g.1.size≤1000):Ty.tot Zl (n,ss.set i g,ls,t)≤3000:=by
 have a:=QiC (Ty.tot Ye) g ss i
 rw[QoA] at a
 rw[Qhz] at h ⊢; rw[au]; omega
theorem QcH (h:Ty.tot Zl (n,ss,ls,t)≤1000):Ty.tot Zl (n,ss,ls.drop 1,t)≤3000:=by
 have a:=Qs2 (Ty.tot XP) ls
 rw[Qhz] at h ⊢; rw[aW]; omega
theorem Qyb {g:QB}(h:Ty.tot Zl (n,ss,ls,t)≤1000)(b:g∈ss):g.1.size≤1000:=by
 have a:=Qos (Ty.tot Ye) b
 rw[QoA] at a
 rw[Qhz] at h; omega
theorem QcI {i j:Nat}{g:QB}{k:Int}(h:Ty.tot Zl (n,ss,ls,t)≤1000)(a:ss[j]? =some g):Ty.tot Zl (n,ss.set i (g.1,k),ls,t)≤3000:=QfL h (show g.1.size≤1000 from Qyb (g:=g) h (ai a))
theorem QwI {s:Qy}(h:Ty.tot Zl s≤1000):s.2.2.2.size≤1000:=by
 have a:=Qhz s.1 s.2.1 s.2.2.1 s.2.2.2
 have b:Ty.tot Zl s=_:=a
 omega
theorem HL {l:List ByteArray}{i:Nat}(h:(l.all fun x=>decide (x.size≤7))=true):((l[i]?).getD ByteArray.empty).size≤1000:=by
 cases a:l[i]? with
 | none=>decide
 | some x=>have:=ab (av.1 h x (ai a)); show x.size≤1000; omega
end
theorem Yv (code:List UInt8)(at_:Int)(sd:Int)[∀s,Decidable (StgOk s)][∀s,Decidable (YZ s)](G:0≤at_∧at_≤800000000):FC Tryz.prog 121 [(false,[.ptr 0 0])] [bx 0 134 [.dat QZ code,dI at_, .val (.int .u64 sd)]] 1 (Ex (fun x:Qy×Int×Int=>Ty.tot Zl x.1≤3000∧(at_≤x.2.1∧x.2.1≤at_+60)) (fun x:Qy×Int×Int=>ag [dI x.1.1.1, .dat QF x.1.1.2, .dat Qo x.1.2.1, .dat Qw x.1.2.2.1,dS x.1.2.2.2]) (fun x:Qy×Int×Int=>[bx 0 134 [.dat QZ code,dI x.2.1, .val (.int .u64 x.2.2)]])):=by
 refine Qn Tryz.func121 rfl rfl Tryz.ntmps121 fun E g D u F z y=> ?_
 refine w_ ?_
 refine lc (xal 1 YM Q5) ?_
 refine w3 ?_
 refine Z4 2 [(0,0)] (Qbp code at_ sd (by omega)) QlA e1_ ⟨rfl,trivial⟩ rfl (fun _=>rfl) (fun _=>⟨trivial,(Fresh.of rfl),(Fresh.of rfl),(Fresh.of rfl),trivial⟩) (nlr rfl) fun a C=>lc (xal 6 YM Q5) ?_
 refine w5 ?_
 have A:=Zk code a.2.1 a.2.2 30
 refine lc (dP 7 [] (QQ code a.2.1 a.2.2 30 (by omega)) Yf) ?_
 refine w6 ?_
 refine cd_ (fun _ _=> ?_) fun _ _=> ?_
 refine w4 ?_
 refine cd_ (fun _ _=> ?_) fun _ _=> ?_
 refine w4 ?_
 refine cd_ (fun _ _=> ?_) fun _ _=> ?_
 refine w4 ?_
 refine cd_ (fun _ _=> ?_) fun _ _=> ?_
 refine w4 ?_
 refine cd_ (fun _ _=> ?_) fun _ _=> ?_
 refine w2 ?_
 refine Yg<|AC.wk (Ze (p:=6) (off:=1) (q:=3) rfl rfl rfl)<|AC.wk (Ze (p:=6) (off:=2) (q:=4) rfl rfl rfl)<|AC.wk (Ze (p:=6) (off:=3) (q:=5) rfl rfl rfl) ?_
 refine w5 ?_
 subst g
 refine Zg (x:=(((a.1.1.1,a.1.1.2),(a.1.2.1,(a.1.2.2.1,a.1.2.2.2))),((pkA 30 a.2.1),(pkS code a.2.1 a.2.2 30)))) [(0,0)] ?_ (Res.one rfl (Rs.cell rfl rfl Q3 rfl)) rfl ⟨rfl,trivial⟩ rfl rfl
 (have b:=‹Ty.tot Zl _≤1000∧_›; refine ⟨?_,by dsimp only; omega⟩; first | exact bn b.1 (by decide) | exact Qhk b.1 | exact QfL b.1 (HL (by decide)) | exact QcI b.1 ‹_› | exact HT b.1 (QaT ..).1 | (dsimp only; rw[bM]; exact QcH b.1))
 refine AC.wk (Ze (p:=6) (off:=3) (q:=5) rfl rfl rfl) ?_
 refine w3 ?_
 refine lc (Yr (l:=(some 1)) (h:=none) (Qa rfl) (by exact (Qr rfl)) (by exact trivial) Qf2 Qte rfl (by simp only[ak,aj]; omega) (by simp only[ak,aj]; omega) (by simp only[ak,aj]; omega)) ?_
 refine w2 ?_
 refine Qf ?_
 refine w_ ?_
 refine Yg<|AC.wk (Ze (p:=6) (off:=1) (q:=3) rfl rfl rfl)<|AC.wk (Ze (p:=6) (off:=2) (q:=4) rfl rfl rfl) ?_
 refine w5 ?_
 subst g
 refine Zg (x:=(((a.1.1.1,a.1.1.2),(a.1.2.1,((a.1.2.2.1.take a.1.2.2.1.length).drop (1:Int).toNat,a.1.2.2.2))),((pkA 30 a.2.1),(pkS code a.2.1 a.2.2 30)))) [(0,0)] ?_ (Res.one rfl (Rs.cell rfl rfl Q3 rfl)) rfl ⟨rfl,trivial⟩ rfl rfl
 (have b:=‹Ty.tot Zl _≤1000∧_›; refine ⟨?_,by dsimp only; omega⟩; first | exact bn b.1 (by decide) | exact Qhk b.1 | exact QfL b.1 (HL (by decide)) | exact QcI b.1 ‹_› | exact HT b.1 (QaT ..).1 | (dsimp only; rw[bM]; exact QcH b.1))
 have B:=Zk code (pkA 30 a.2.1) (pkS code a.2.1 a.2.2 30) (([0,4,3]).length:Int)
 obtain ⟨c,i⟩:=gx a.1.2.1 0
 apply dV (i3 35 _ _ _ [⟨some 38,lR 8,[ar 8 3 .int ([0,4,3])]⟩,⟨some 39,lI ((([0,4,3])[(pkV code (pkA 30 a.2.1) (pkS code a.2.1 a.2.2 30) (([0,4,3]).length:Int)).toNat]?).getD 0),[bx 0 134 [.dat QZ code,dI (pkA (([0,4,3]).length:Int) (pkA 30 a.2.1)), .val (.int .u64 (pkS code (pkA 30 a.2.1) (pkS code a.2.1 a.2.2 30) (([0,4,3]).length:Int)))],ar 10 3 .int ([0,4,3]),(0,none),(8,none)]⟩,io 40 (lf (.ept 4 2 0 0)),io 41 (lf (.ept 4 2 0 1)),⟨none,lf (.val undef),[ar 4 77 QE (a.1.2.1.set 0 (c.1,(([0,4,3])[(pkV code (pkA 30 a.2.1) (pkS code a.2.1 a.2.2 30) (([0,4,3]).length:Int)).toNat]?).getD 0))]⟩]) [0,0,3,7,3,0,0,0]
 refine z3 ?_
 refine zz (fun _ b=>ac (dBs 8 (e:= .int) Zq) rfl) ?_
 refine zz (fun _ b=>ac (dP 9 [(1,8)] (Z6 code (pkA 30 a.2.1) (pkS code a.2.1 a.2.2 30) ([0,4,3]) (by omega) (by decide)) Uc) rfl) ?_
 refine zz (fun _ b=>ac (QU (e:=QE) (b.v rfl) (b.en 4 rfl) (Qr rfl) Jf Qtf rfl (by omega) (by first | omega | (simp only[au]; omega))) rfl)<|zz (fun _ b=>ac (QT (b.v rfl) QrJ (by rw[(b.en 4 rfl)]; rfl) rfl) rfl)<|zz (fun _ b=>ac (Qz (e:=QE) (z':=(c.1,(([0,4,3])[(pkV code (pkA 30 a.2.1) (pkS code a.2.1 a.2.2 30) (([0,4,3]).length:Int)).toNat]?).getD 0)) (b.v rfl) (b.n 4 rfl) i rfl (b.w rfl) rfl Xe rfl rfl) rfl) ?_
 exact zN
 refine w_ ?_
 refine Yg<|AC.wk (Ze (p:=6) (off:=1) (q:=3) rfl rfl rfl)<|AC.wk (Ze (p:=6) (off:=2) (q:=4) rfl rfl rfl)<|AC.wk (Ze (p:=6) (off:=3) (q:=5) rfl rfl rfl) ?_
 refine w5 ?_
 subst g
 refine Zg (x:=(((a.1.1.1,a.1.1.2),(a.1.2.1.set 0 (c.1,(([0,4,3])[(pkV code (pkA 30 a.2.1) (pkS code a.2.1 a.2.2 30) (([0,4,3]).length:Int)).toNat]?).getD 0),(a.1.2.2.1,a.1.2.2.2))),((pkA (([0,4,3]).length:Int) (pkA 30 a.2.1)),(pkS code (pkA 30 a.2.1) (pkS code a.2.1 a.2.2 30) (([0,4,3]).length:Int))))) [(0,0)] ?_ (Res.one rfl (Rs.cell rfl rfl Q3 rfl)) rfl ⟨rfl,trivial⟩ rfl rfl
 (have b:=‹Ty.tot Zl _≤1000∧_›; refine ⟨?_,by dsimp only; omega⟩; first | exact bn b.1 (by decide) | exact Qhk b.1 | exact QfL b.1 (HL (by decide)) | exact QcI b.1 ‹_› | exact HT b.1 (QaT ..).1 | (dsimp only; rw[bM]; exact QcH b.1))
 have m:=Zk code (pkA 30 a.2.1) (pkS code a.2.1 a.2.2 30) (([(⟨#[]⟩:ByteArray),(⟨#[65]⟩:ByteArray),(⟨#[97,98,99,100,101,102,103]⟩:ByteArray),(⟨#[49,97]⟩:ByteArray)]).length:Int)
 obtain ⟨d,j⟩:=gx a.1.2.1 0
 apply dV (i3 26 _ _ _ [⟨some 29,lR 11,[ar 11 9 .str ([(⟨#[]⟩:ByteArray),(⟨#[65]⟩:ByteArray),(⟨#[97,98,99,100,101,102,103]⟩:ByteArray),(⟨#[49,97]⟩:ByteArray)])]⟩,⟨some 30,lf (dS ((([(⟨#[]⟩:ByteArray),(⟨#[65]⟩:ByteArray),(⟨#[97,98,99,100,101,102,103]⟩:ByteArray),(⟨#[49,97]⟩:ByteArray)])[(pkV code (pkA 30 a.2.1) (pkS code a.2.1 a.2.2 30) (([(⟨#[]⟩:ByteArray),(⟨#[65]⟩:ByteArray),(⟨#[97,98,99,100,101,102,103]⟩:ByteArray),(⟨#[49,97]⟩:ByteArray)]).length:Int)).toNat]?).getD ByteArray.empty)),[bx 0 134 [.dat QZ code,dI (pkA (([(⟨#[]⟩:ByteArray),(⟨#[65]⟩:ByteArray),(⟨#[97,98,99,100,101,102,103]⟩:ByteArray),(⟨#[49,97]⟩:ByteArray)]).length:Int) (pkA 30 a.2.1)), .val (.int .u64 (pkS code (pkA 30 a.2.1) (pkS code a.2.1 a.2.2 30) (([(⟨#[]⟩:ByteArray),(⟨#[65]⟩:ByteArray),(⟨#[97,98,99,100,101,102,103]⟩:ByteArray),(⟨#[49,97]⟩:ByteArray)]).length:Int)))],ar 13 9 .str ([(⟨#[]⟩:ByteArray),(⟨#[65]⟩:ByteArray),(⟨#[97,98,99,100,101,102,103]⟩:ByteArray),(⟨#[49,97]⟩:ByteArray)]),(0,none),(11,none)]⟩,io 31 (lf (.ept 4 2 0 0)),io 32 (lf (.ept 4 2 0 0)),⟨none,lf (.val undef),[ar 4 77 QE (a.1.2.1.set 0 ((([(⟨#[]⟩:ByteArray),(⟨#[65]⟩:ByteArray),(⟨#[97,98,99,100,101,102,103]⟩:ByteArray),(⟨#[49,97]⟩:ByteArray)])[(pkV code (pkA 30 a.2.1) (pkS code a.2.1 a.2.2 30) (([(⟨#[]⟩:ByteArray),(⟨#[65]⟩:ByteArray),(⟨#[97,98,99,100,101,102,103]⟩:ByteArray),(⟨#[49,97]⟩:ByteArray)]).length:Int)).toNat]?).getD ByteArray.empty,d.2))]⟩]) [0,0,3,7,3,0,0,0]
 refine z3 ?_
 refine zz (fun _ b=>ac (dBs 11 (e:= .str) Ut) rfl) ?_
 refine zz (fun _ b=>ac (dP 12 [(1,11)] (Qco code (pkA 30 a.2.1) (pkS code a.2.1 a.2.2 30) ([(⟨#[]⟩:ByteArray),(⟨#[65]⟩:ByteArray),(⟨#[97,98,99,100,101,102,103]⟩:ByteArray),(⟨#[49,97]⟩:ByteArray)]) (by omega) (by decide)) Qlq) rfl) ?_
 refine zz (fun _ b=>ac (QU (e:=QE) (b.v rfl) (b.en 4 rfl) (Qr rfl) Jf Qtf rfl (by omega) (by first | omega | (simp only[au]; omega))) rfl)<|zz (fun _ b=>ac (QT (b.v rfl) QrI (by rw[(b.en 4 rfl)]; rfl) rfl) rfl)<|zz (fun _ b=>ac (Qz (e:=QE) (z':=((([(⟨#[]⟩:ByteArray),(⟨#[65]⟩:ByteArray),(⟨#[97,98,99,100,101,102,103]⟩:ByteArray),(⟨#[49,97]⟩:ByteArray)])[(pkV code (pkA 30 a.2.1) (pkS code a.2.1 a.2.2 30) (([(⟨#[]⟩:ByteArray),(⟨#[65]⟩:ByteArray),(⟨#[97,98,99,100,101,102,103]⟩:ByteArray),(⟨#[49,97]⟩:ByteArray)]).length:Int)).toNat]?).getD ByteArray.empty,d.2)) (b.v rfl) (b.n 4 rfl) j rfl (b.w rfl) rfl Xw rfl rfl) rfl) ?_
 exact zN
 refine w_ ?_
 refine Yg<|AC.wk (Ze (p:=6) (off:=1) (q:=3) rfl rfl rfl)<|AC.wk (Ze (p:=6) (off:=2) (q:=4) rfl rfl rfl)<|AC.wk (Ze (p:=6) (off:=3) (q:=5) rfl rfl rfl) ?_
 refine w5 ?_
 subst g
 refine Zg (x:=(((a.1.1.1,a.1.1.2),(a.1.2.1.set 0 ((([(⟨#[]⟩:ByteArray),(⟨#[65]⟩:ByteArray),(⟨#[97,98,99,100,101,102,103]⟩:ByteArray),(⟨#[49,97]⟩:ByteArray)])[(pkV code (pkA 30 a.2.1) (pkS code a.2.1 a.2.2 30) (([(⟨#[]⟩:ByteArray),(⟨#[65]⟩:ByteArray),(⟨#[97,98,99,100,101,102,103]⟩:ByteArray),(⟨#[49,97]⟩:ByteArray)]).length:Int)).toNat]?).getD ByteArray.empty,d.2),(a.1.2.2.1,a.1.2.2.2))),((pkA (([(⟨#[]⟩:ByteArray),(⟨#[65]⟩:ByteArray),(⟨#[97,98,99,100,101,102,103]⟩:ByteArray),(⟨#[49,97]⟩:ByteArray)]).length:Int) (pkA 30 a.2.1)),(pkS code (pkA 30 a.2.1) (pkS code a.2.1 a.2.2 30) (([(⟨#[]⟩:ByteArray),(⟨#[65]⟩:ByteArray),(⟨#[97,98,99,100,101,102,103]⟩:ByteArray),(⟨#[49,97]⟩:ByteArray)]).length:Int))))) [(0,0)] ?_ (Res.one rfl (Rs.cell rfl rfl Q3 rfl)) rfl ⟨rfl,trivial⟩ rfl rfl
 (have b:=‹Ty.tot Zl _≤1000∧_›; refine ⟨?_,by dsimp only; omega⟩; first | exact bn b.1 (by decide) | exact Qhk b.1 | exact QfL b.1 (HL (by decide)) | exact QcI b.1 ‹_› | exact HT b.1 (QaT ..).1 | (dsimp only; rw[bM]; exact QcH b.1))
 have o:=Zk code (pkA 30 a.2.1) (pkS code a.2.1 a.2.2 30) (([(-1),(-2),8]).length:Int)
 obtain ⟨f,k⟩:=gx a.1.2.2.1 0
 apply dV (i3 17 _ _ _ [⟨some 20,lR 14,[ar 14 3 .int ([(-1),(-2),8])]⟩,⟨some 21,lI ((([(-1),(-2),8])[(pkV code (pkA 30 a.2.1) (pkS code a.2.1 a.2.2 30) (([(-1),(-2),8]).length:Int)).toNat]?).getD 0),[bx 0 134 [.dat QZ code,dI (pkA (([(-1),(-2),8]).length:Int) (pkA 30 a.2.1)), .val (.int .u64 (pkS code (pkA 30 a.2.1) (pkS code a.2.1 a.2.2 30) (([(-1),(-2),8]).length:Int)))],ar 16 3 .int ([(-1),(-2),8]),(0,none),(14,none)]⟩,io 22 (lf (.ept 5 2 0 0)),io 23 (lf (.ept 5 2 0 0)),⟨none,lf (.val undef),[ar 5 75 QL (a.1.2.2.1.set 0 ((([(-1),(-2),8])[(pkV code (pkA 30 a.2.1) (pkS code a.2.1 a.2.2 30) (([(-1),(-2),8]).length:Int)).toNat]?).getD 0,f.2))]⟩]) [0,0,3,7,3,0,0,0]
 refine z3 ?_
 refine zz (fun _ b=>ac (dBs 14 (e:= .int) Zq) rfl) ?_
 refine zz (fun _ b=>ac (dP 15 [(1,14)] (Z6 code (pkA 30 a.2.1) (pkS code a.2.1 a.2.2 30) ([(-1),(-2),8]) (by omega) (by decide)) Uc) rfl) ?_
 refine zz (fun _ b=>ac (QU (e:=QL) (b.v rfl) (b.en 5 rfl) (Qr rfl) Qf2 Qte rfl (by omega) (by first | omega | (simp only[au]; omega))) rfl)<|zz (fun _ b=>ac (QT (b.v rfl) QrH (by rw[(b.en 5 rfl)]; rfl) rfl) rfl)<|zz (fun _ b=>ac (Qz (e:=QL) (z':=((([(-1),(-2),8])[(pkV code (pkA 30 a.2.1) (pkS code a.2.1 a.2.2 30) (([(-1),(-2),8]).length:Int)).toNat]?).getD 0,f.2)) (b.v rfl) (b.n 5 rfl) k rfl (b.w rfl) rfl Xe rfl rfl) rfl) ?_
 exact zN
 refine w_ ?_
 refine Yg<|AC.wk (Ze (p:=6) (off:=1) (q:=3) rfl rfl rfl)<|AC.wk (Ze (p:=6) (off:=2) (q:=4) rfl rfl rfl)<|AC.wk (Ze (p:=6) (off:=3) (q:=5) rfl rfl rfl) ?_
 refine w5 ?_
 subst g
 refine Zg (x:=(((a.1.1.1,a.1.1.2),(a.1.2.1,(a.1.2.2.1.set 0 ((([(-1),(-2),8])[(pkV code (pkA 30 a.2.1) (pkS code a.2.1 a.2.2 30) (([(-1),(-2),8]).length:Int)).toNat]?).getD 0,f.2),a.1.2.2.2))),((pkA (([(-1),(-2),8]).length:Int) (pkA 30 a.2.1)),(pkS code (pkA 30 a.2.1) (pkS code a.2.1 a.2.2 30) (([(-1),(-2),8]).length:Int))))) [(0,0)] ?_ (Res.one rfl (Rs.cell rfl rfl Q3 rfl)) rfl ⟨rfl,trivial⟩ rfl rfl
 (have b:=‹Ty.tot Zl _≤1000∧_›; refine ⟨?_,by dsimp only; omega⟩; first | exact bn b.1 (by decide) | exact Qhk b.1 | exact QfL b.1 (HL (by decide)) | exact QcI b.1 ‹_› | exact HT b.1 (QaT ..).1 | (dsimp only; rw[bM]; exact QcH b.1))
 refine w4 ?_
 have r:=QaT code (⟨#[48,49,50]⟩:ByteArray) a.1.2.2.2 (pkA 30 a.2.1) (pkS code a.2.1 a.2.2 30)
 refine lc (dP 17 [] (JZ code (pkA 30 a.2.1) (pkS code a.2.1 a.2.2 30) a.1.2.2.2 (⟨#[48,49,50]⟩:ByteArray) (by omega) (by have b:=‹Ty.tot Zl _≤1000∧_›; exact ⟨bn (QwI b.1) (by decide),by decide⟩)) QlB) ?_
 refine w2 ?_
 refine Qf ?_
 refine w_ ?_
 refine Yg<|AC.wk (Ze (p:=6) (off:=1) (q:=3) rfl rfl rfl)<|AC.wk (Ze (p:=6) (off:=2) (q:=4) rfl rfl rfl)<|AC.wk (Ze (p:=6) (off:=3) (q:=5) rfl rfl rfl) ?_
 refine w5 ?_
 subst g
 refine Zg (x:=(((a.1.1.1,a.1.1.2),(a.1.2.1,(a.1.2.2.1,(spV code (⟨#[48,49,50]⟩:ByteArray) a.1.2.2.2 (pkA 30 a.2.1) (pkS code a.2.1 a.2.2 30)).1))),(((spV code (⟨#[48,49,50]⟩:ByteArray) a.1.2.2.2 (pkA 30 a.2.1) (pkS code a.2.1 a.2.2 30)).2.1),((spV code (⟨#[48,49,50]⟩:ByteArray) a.1.2.2.2 (pkA 30 a.2.1) (pkS code a.2.1 a.2.2 30)).2.2)))) [(0,0)] ?_ (Res.one rfl (Rs.cell rfl rfl Q3 rfl)) rfl ⟨rfl,trivial⟩ rfl rfl
 (have b:=‹Ty.tot Zl _≤1000∧_›; refine ⟨?_,by dsimp only; omega⟩; first | exact bn b.1 (by decide) | exact Qhk b.1 | exact QfL b.1 (HL (by decide)) | exact QcI b.1 ‹_› | exact HT b.1 (QaT ..).1 | (dsimp only; rw[bM]; exact QcH b.1))
end Go.Proofs.YtndabgcpnmeeoaaGreat
namespace Go.Proofs.YtndabgcpnmeeoaaGreat
open Go.RowKit
set_option maxRecDepth 100000
set_option maxHeartbeats 4000000
def odA (code:List UInt8)(n a d:Int):Qp×Int×Int:=
 let a1:=pkA n a; let d1:=pkS code a d n
 let a2:=pkA n a1; let d2:=pkS code a1 d1 n
 let a3:=pkA 2 a2; let d3:=pkS code a2 d2 2
 let a4:=pkA 20 a3; let d4:=pkS code a3 d3 20
 if pkV code a3 d3 20=0 then (((([(-1),24]:List Int)[(pkV code a4 d4 2).toNat]?).getD 0,pkV code a1 d1 n,decide (pkV code a2 d2 2=0)),pkA 2 a4,pkS code a4 d4 2)
 else ((pkV code a d n,pkV code a1 d1 n,decide (pkV code a2 d2 2=0)),a4,d4)
section
variable [∀s,Decidable (StgOk s)]
def odV (code:List UInt8)(s:Qy)(a d:Int):Qp×Int×Int:=
 let x:=odA code (max 2 (s.1.2.length:Int)) a d
 if (sgV s).2=true∧0 < (Yt s).length then
  if pkV code x.2.1 x.2.2 2=0 then (((Yt s)[(pkV code (pkA 2 x.2.1) (pkS code x.2.1 x.2.2 2) ((Yt s).length:Int)).toNat]?).getD (0,0,false),pkA ((Yt s).length:Int) (pkA 2 x.2.1),pkS code (pkA 2 x.2.1) (pkS code x.2.1 x.2.2 2) ((Yt s).length:Int))
  else (x.1,pkA 2 x.2.1,pkS code x.2.1 x.2.2 2)
 else x
variable {code:List UInt8}{s:Qy}{n a d a_ d_:Int}{o z:Qp}
theorem QuB:a≤(odA code n a d).2.1∧(odA code n a d).2.1≤a+10:=by
 have b:=(Zk code a d n).2
 have c:=(Zk code (pkA n a) 0 n).2
 have e:=(Zk code (pkA n (pkA n a)) 0 2).2
 have f:=(Zk code (pkA 2 (pkA n (pkA n a))) 0 20).2
 have g:=(Zk code (pkA 20 (pkA 2 (pkA n (pkA n a)))) 0 2).2
 unfold odA
 dsimp only
 split <;> dsimp only <;> omega
theorem Qws (code:List UInt8)(s:Qy)(a d:Int):a≤(odV code s a d).2.1∧(odV code s a d).2.1≤a+14:=by
 have b:=QuB (code:=code) (n:=max 2 (s.1.2.length:Int)) (a:=a) (d:=d)
 unfold odV
 dsimp only
 generalize odA code (max 2 (s.1.2.length:Int)) a d=x at b ⊢
 have c:=(Zk code x.2.1 0 2).2
 have e:=(Zk code (pkA 2 x.2.1) 0 ((Yt s).length:Int)).2
 split
 ·split <;> dsimp only <;> omega
 ·omega
theorem Qse (h0:(o,a_,d_)=odA code (max 2 (s.1.2.length:Int)) a d)(h:(sgV s).2=false):odV code s a d=(o,a_,d_):=by
 unfold odV; rw[← h0,if_neg (by rw[h]; simp)]
theorem Qsf (h0:(o,a_,d_)=odA code (max 2 (s.1.2.length:Int)) a d)(h:¬(0:Int) < ((Yt s).length:Int)):odV code s a d=(o,a_,d_):=by
 unfold odV; rw[← h0,if_neg (by omega)]
theorem Qsg (h0:(o,a_,d_)=odA code (max 2 (s.1.2.length:Int)) a d)(h:(sgV s).2=true)(c:(0:Int) < ((Yt s).length:Int))(b:¬pkV code a_ d_ 2=0):odV code s a d=(o,pkA 2 a_,pkS code a_ d_ 2):=by
 unfold odV; rw[← h0,if_pos ⟨h,by omega⟩]; exact if_neg b
theorem Qsh (h0:(o,a_,d_)=odA code (max 2 (s.1.2.length:Int)) a d)(h:(sgV s).2=true)(c:(0:Int) < ((Yt s).length:Int))(b:pkV code a_ d_ 2=0)
 (hz:(Yt s)[(pkV code (pkA 2 a_) (pkS code a_ d_ 2) ((Yt s).length:Int)).toNat]? =some z):odV code s a d=(z,pkA ((Yt s).length:Int) (pkA 2 a_),pkS code (pkA 2 a_) (pkS code a_ d_ 2) ((Yt s).length:Int)):=by
 unfold odV; rw[← h0,if_pos ⟨h,by omega⟩]; dsimp only; rw[if_pos b,hz]; rfl
end
theorem H5 (code:List UInt8)(at_:Int)(sd:Int)(s:YA)[∀s,Decidable (StgOk s)](S:0≤at_∧at_≤900000000)(O:Ty.tot Zl s≤2000000):FC Tryz.prog 122 [(false,[.ptr 0 0]),(true,[dI s.1.1, .dat QF s.1.2, .dat Qo s.2.1, .dat Qw s.2.2.1,dS s.2.2.2])] [bx 0 134 [.dat QZ code,dI at_, .val (.int .u64 sd)]] 1 (Is (ag [dI (((odV code s at_ sd).1).1),dI (((odV code s at_ sd).1).2.1),dB (((odV code s at_ sd).1).2.2)]) [bx 0 134 [.dat QZ code,dI ((odV code s at_ sd).2.1), .val (.int .u64 ((odV code s at_ sd).2.2))]]):=by
 refine Qn Tryz.func122 rfl rfl Tryz.ntmps122 fun Q k P F R J I=> ?_
 refine acG 1 0 fun _=> ?_
 refine w_ ?_
 refine xbx 1 ?_
 refine lc (xal 2 Y4 VC) ?_
 refine w5 ?_
 refine alL 11 fun _=> ?_
 refine w_ ?_
 refine lc (dK (Uk 2 (s.1.2.length:Int)) QaA) ?_
 refine w5 ?_
 have L:=Zk code at_ sd (max 2 (s.1.2.length:Int))
 refine lc (dP 3 [] (QQ code at_ sd (max 2 (s.1.2.length:Int)) (by omega)) Yf) ?_
 refine w2 ?_
 have M:=Zk code (pkA (max 2 (s.1.2.length:Int)) at_) (pkS code at_ sd (max 2 (s.1.2.length:Int))) (max 2 (s.1.2.length:Int))
 refine lc (dP 4 [] (QQ code (pkA (max 2 (s.1.2.length:Int)) at_) (pkS code at_ sd (max 2 (s.1.2.length:Int))) (max 2 (s.1.2.length:Int)) (by omega)) Yf) ?_
 refine w_ ?_
 have N:=Zk code (pkA (max 2 (s.1.2.length:Int)) (pkA (max 2 (s.1.2.length:Int)) at_)) (pkS code (pkA (max 2 (s.1.2.length:Int)) at_) (pkS code at_ sd (max 2 (s.1.2.length:Int))) (max 2 (s.1.2.length:Int))) 2
 refine lc (dP 5 [] (Yw code (pkA (max 2 (s.1.2.length:Int)) (pkA (max 2 (s.1.2.length:Int)) at_)) (pkS code (pkA (max 2 (s.1.2.length:Int)) at_) (pkS code at_ sd (max 2 (s.1.2.length:Int))) (max 2 (s.1.2.length:Int))) 2 (by omega)) Kd) ?_
 refine lc (Qj QkU ⟨_,_,rfl,(Ql rfl),⟨_,_,rfl,(Ql rfl),⟨_,_,rfl,(Ql rfl),rfl⟩⟩⟩ (av.1 rfl) rfl rfl)<|lc (xal 6 Y4 VC) ?_
 refine w2 ?_
 refine QaX (fun E=>∃(f:Int×Int×Bool) (a_:Int) (d_:Int),((f,a_,d_)=odA code (max 2 (s.1.2.length:Int)) at_ sd)∧(at_≤a_∧a_≤at_+10)∧E=⟨[(0,lP 0 0),(3,lP 1 0),(4,lP 2 0),(6,lP 6 0)],[bx 0 134 [.dat QZ code,dI a_, .val (.int .u64 d_)],bx 1 51 [dI s.1.1, .dat QF s.1.2, .dat Qo s.2.1, .dat Qw s.2.2.1,dS s.2.2.2],bx 2 60 [dI 0,dI 0,dB false],bx 6 60 [dI f.1,dI f.2.1,dB f.2.2]]⟩) ?_ fun y=> ?_
 rintro E ⟨f,a_,d_,b,T,rfl⟩
 refine w3 ?_
 refine lc (dK (Xa s O).frozenG QgM) ?_
 refine w9 ?_
 cases K:((sgV s).2)
 refine w16 ?_
 have G:(f.1:Int)=(((odV code s at_ sd).1).1):=by
  (rw[Qse b ‹_›]; done)
 have H:(f.2.1:Int)=(((odV code s at_ sd).1).2.1):=by
  (rw[Qse b ‹_›]; done)
 have l:(f.2.2:Bool)=(((odV code s at_ sd).1).2.2):=by
  (rw[Qse b ‹_›]; done)
 exact fi_ [] k ⟨(((congrArg (fun z_=>some (Ent.box 134 [.dat QZ code,dI z_, .val (.int .u64 d_)])) (show (a_:Int)=((odV code s at_ sd).2.1) by (rw[Qse b ‹_›]; done)))).trans (congrArg (fun z_:Int=>some (Ent.box 134 [.dat QZ code,dI ((odV code s at_ sd).2.1), .val (.int .u64 z_)])) (show (d_:Int)=((odV code s at_ sd).2.2) by (rw[Qse b ‹_›]; done)))),trivial⟩ (h0:=by rw[G,H,l] <;> rfl)
 refine w_ ?_
 refine alL 36 fun _=> ?_
 refine w4 ?_
 cases h:(decide (0 < ((Yt s).length:Int)))
 have i:=aa h
 refine w11 ?_
 have m:(f.1:Int)=(((odV code s at_ sd).1).1):=by
  (rw[Qsf b ‹_›]; done)
 have p:(f.2.1:Int)=(((odV code s at_ sd).1).2.1):=by
  (rw[Qsf b ‹_›]; done)
 have q:(f.2.2:Bool)=(((odV code s at_ sd).1).2.2):=by
  (rw[Qsf b ‹_›]; done)
 exact fi_ [] k ⟨(((congrArg (fun z_=>some (Ent.box 134 [.dat QZ code,dI z_, .val (.int .u64 d_)])) (show (a_:Int)=((odV code s at_ sd).2.1) by (rw[Qsf b ‹_›]; done)))).trans (congrArg (fun z_:Int=>some (Ent.box 134 [.dat QZ code,dI ((odV code s at_ sd).2.1), .val (.int .u64 z_)])) (show (d_:Int)=((odV code s at_ sd).2.2) by (rw[Qsf b ‹_›]; done)))),trivial⟩ (h0:=by rw[m,p,q] <;> rfl)
 have i:=ab h
 refine w_ ?_
 have A:=Zk code a_ d_ 2
 refine lgy rfl rfl (dP 7 [] (Yw code a_ d_ 2 (by omega)) Kd) ?_
 refine w2 ?_
 refine cd_ (fun _ _=> ?_) fun _ _=> ?_
 refine w6 ?_
 have r:(f.1:Int)=(((odV code s at_ sd).1).1):=by
  (rw[Qsg b ‹_› ‹_› ‹_›]; done)
 have t:(f.2.1:Int)=(((odV code s at_ sd).1).2.1):=by
  (rw[Qsg b ‹_› ‹_› ‹_›]; done)
 have u:(f.2.2:Bool)=(((odV code s at_ sd).1).2.2):=by
  (rw[Qsg b ‹_› ‹_› ‹_›]; done)
 exact fi_ [] k ⟨(((congrArg (fun z_=>some (Ent.box 134 [.dat QZ code,dI z_, .val (.int .u64 (pkS code a_ d_ 2))])) (show ((pkA 2 a_):Int)=((odV code s at_ sd).2.1) by (rw[Qsg b ‹_› ‹_› ‹_›]; done)))).trans (congrArg (fun z_:Int=>some (Ent.box 134 [.dat QZ code,dI ((odV code s at_ sd).2.1), .val (.int .u64 z_)])) (show ((pkS code a_ d_ 2):Int)=((odV code s at_ sd).2.2) by (rw[Qsg b ‹_› ‹_› ‹_›]; done)))),trivial⟩ (h0:=by rw[r,t,u] <;> rfl)
 refine w4 ?_
 refine alL 46 fun _=> ?_
 refine w_ ?_
 have B:=Zk code (pkA 2 a_) (pkS code a_ d_ 2) ((Yt s).length:Int)
 refine lc (dP 8 [] (QQ code (pkA 2 a_) (pkS code a_ d_ 2) ((Yt s).length:Int) (by omega)) Yf) ?_
 obtain ⟨g,j⟩:=gx (Yt s) ((pkV code (pkA 2 a_) (pkS code a_ d_ 2) ((Yt s).length:Int)).toNat)
 have c:=j
 refine w5 ?_
 have v:(g.1:Int)=(((odV code s at_ sd).1).1):=by
  (rw[Qsh b ‹_› ‹_› ‹_› c]; done)
 have w:(g.2.1:Int)=(((odV code s at_ sd).1).2.1):=by
  (rw[Qsh b ‹_› ‹_› ‹_› c]; done)
 have x:(g.2.2:Bool)=(((odV code s at_ sd).1).2.2):=by
  (rw[Qsh b ‹_› ‹_› ‹_› c]; done)
 exact fi_ [] k ⟨(((congrArg (fun z_=>some (Ent.box 134 [.dat QZ code,dI z_, .val (.int .u64 (pkS code (pkA 2 a_) (pkS code a_ d_ 2) ((Yt s).length:Int)))])) (show ((pkA ((Yt s).length:Int) (pkA 2 a_)):Int)=((odV code s at_ sd).2.1) by (rw[Qsh b ‹_› ‹_› ‹_› c]; done)))).trans (congrArg (fun z_:Int=>some (Ent.box 134 [.dat QZ code,dI ((odV code s at_ sd).2.1), .val (.int .u64 z_)])) (show ((pkS code (pkA 2 a_) (pkS code a_ d_ 2) ((Yt s).length:Int)):Int)=((odV code s at_ sd).2.2) by (rw[Qsh b ‹_› ‹_› ‹_› c]; done)))),trivial⟩ (h0:=(((congrArg (fun z_=>ag [dI z_,dI g.2.1,dB g.2.2]) v)).trans (congrArg (fun z_=>ag [dI (((odV code s at_ sd).1).1),dI z_,dB g.2.2]) w)).trans (congrArg (fun z_=>ag [dI (((odV code s at_ sd).1).1),dI (((odV code s at_ sd).1).2.1),dB z_]) x))
 refine w3 ?_
 have C:=Zk code (pkA 2 (pkA (max 2 (s.1.2.length:Int)) (pkA (max 2 (s.1.2.length:Int)) at_))) (pkS code (pkA (max 2 (s.1.2.length:Int)) (pkA (max 2 (s.1.2.length:Int)) at_)) (pkS code (pkA (max 2 (s.1.2.length:Int)) at_) (pkS code at_ sd (max 2 (s.1.2.length:Int))) (max 2 (s.1.2.length:Int))) 2) 20
 refine lc (dP 9 [] (Yw code (pkA 2 (pkA (max 2 (s.1.2.length:Int)) (pkA (max 2 (s.1.2.length:Int)) at_))) (pkS code (pkA (max 2 (s.1.2.length:Int)) (pkA (max 2 (s.1.2.length:Int)) at_)) (pkS code (pkA (max 2 (s.1.2.length:Int)) at_) (pkS code at_ sd (max 2 (s.1.2.length:Int))) (max 2 (s.1.2.length:Int))) 2) 20 (by omega)) Kd) ?_
 refine w_ ?_
 refine cd_ (fun _ _=> ?_) fun _ _=> ?_
 refine w_ ?_
 refine Qdp (y _ ⟨(pkV code at_ sd (max 2 (s.1.2.length:Int)),pkV code (pkA (max 2 (s.1.2.length:Int)) at_) (pkS code at_ sd (max 2 (s.1.2.length:Int))) (max 2 (s.1.2.length:Int)),decide (pkV code (pkA (max 2 (s.1.2.length:Int)) (pkA (max 2 (s.1.2.length:Int)) at_)) (pkS code (pkA (max 2 (s.1.2.length:Int)) at_) (pkS code at_ sd (max 2 (s.1.2.length:Int))) (max 2 (s.1.2.length:Int))) 2=0)),(pkA 20 (pkA 2 (pkA (max 2 (s.1.2.length:Int)) (pkA (max 2 (s.1.2.length:Int)) at_)))),(pkS code (pkA 2 (pkA (max 2 (s.1.2.length:Int)) (pkA (max 2 (s.1.2.length:Int)) at_))) (pkS code (pkA (max 2 (s.1.2.length:Int)) (pkA (max 2 (s.1.2.length:Int)) at_)) (pkS code (pkA (max 2 (s.1.2.length:Int)) at_) (pkS code at_ sd (max 2 (s.1.2.length:Int))) (max 2 (s.1.2.length:Int))) 2) 20),(by unfold odA; first | exact (if_pos ‹_›).symm | exact (if_neg ‹_›).symm),(by omega),rfl⟩) ?_
 exact wo []
 refine w2 ?_
 refine lc (dBs 10 (e:= .int) Zq) ?_
 have D:=Zk code (pkA 20 (pkA 2 (pkA (max 2 (s.1.2.length:Int)) (pkA (max 2 (s.1.2.length:Int)) at_)))) (pkS code (pkA 2 (pkA (max 2 (s.1.2.length:Int)) (pkA (max 2 (s.1.2.length:Int)) at_))) (pkS code (pkA (max 2 (s.1.2.length:Int)) (pkA (max 2 (s.1.2.length:Int)) at_)) (pkS code (pkA (max 2 (s.1.2.length:Int)) at_) (pkS code at_ sd (max 2 (s.1.2.length:Int))) (max 2 (s.1.2.length:Int))) 2) 20) (([(-1),24]).length:Int)
 refine lc (dP 11 [(1,10)] (Z6 code (pkA 20 (pkA 2 (pkA (max 2 (s.1.2.length:Int)) (pkA (max 2 (s.1.2.length:Int)) at_)))) (pkS code (pkA 2 (pkA (max 2 (s.1.2.length:Int)) (pkA (max 2 (s.1.2.length:Int)) at_))) (pkS code (pkA (max 2 (s.1.2.length:Int)) (pkA (max 2 (s.1.2.length:Int)) at_)) (pkS code (pkA (max 2 (s.1.2.length:Int)) at_) (pkS code at_ sd (max 2 (s.1.2.length:Int))) (max 2 (s.1.2.length:Int))) 2) 20) ([(-1),24]) (by omega) (by decide)) Uc) ?_
 refine w3 ?_
 refine Qdp (y _ ⟨((([(-1),24])[(pkV code (pkA 20 (pkA 2 (pkA (max 2 (s.1.2.length:Int)) (pkA (max 2 (s.1.2.length:Int)) at_)))) (pkS code (pkA 2 (pkA (max 2 (s.1.2.length:Int)) (pkA (max 2 (s.1.2.length:Int)) at_))) (pkS code (pkA (max 2 (s.1.2.length:Int)) (pkA (max 2 (s.1.2.length:Int)) at_)) (pkS code (pkA (max 2 (s.1.2.length:Int)) at_) (pkS code at_ sd (max 2 (s.1.2.length:Int))) (max 2 (s.1.2.length:Int))) 2) 20) (([(-1),24]).length:Int)).toNat]?).getD 0,pkV code (pkA (max 2 (s.1.2.length:Int)) at_) (pkS code at_ sd (max 2 (s.1.2.length:Int))) (max 2 (s.1.2.length:Int)),decide (pkV code (pkA (max 2 (s.1.2.length:Int)) (pkA (max 2 (s.1.2.length:Int)) at_)) (pkS code (pkA (max 2 (s.1.2.length:Int)) at_) (pkS code at_ sd (max 2 (s.1.2.length:Int))) (max 2 (s.1.2.length:Int))) 2=0)),(pkA (([(-1),24]).length:Int) (pkA 20 (pkA 2 (pkA (max 2 (s.1.2.length:Int)) (pkA (max 2 (s.1.2.length:Int)) at_))))),(pkS code (pkA 20 (pkA 2 (pkA (max 2 (s.1.2.length:Int)) (pkA (max 2 (s.1.2.length:Int)) at_)))) (pkS code (pkA 2 (pkA (max 2 (s.1.2.length:Int)) (pkA (max 2 (s.1.2.length:Int)) at_))) (pkS code (pkA (max 2 (s.1.2.length:Int)) (pkA (max 2 (s.1.2.length:Int)) at_)) (pkS code (pkA (max 2 (s.1.2.length:Int)) at_) (pkS code at_ sd (max 2 (s.1.2.length:Int))) (max 2 (s.1.2.length:Int))) 2) 20) (([(-1),24]).length:Int)),(by unfold odA; first | exact (if_pos ‹_›).symm | exact (if_neg ‹_›).symm),(by omega),rfl⟩) ?_
 exact wo []
theorem WH (code:List UInt8)[∀s,Decidable (StgOk s)][∀s,Decidable (YZ s)]:FC Tryz.prog 110 [(false,[.dat QZ code])] [] 0 (Ex (fun x:Qy=>Ty.tot Zl x≤3000) (fun x:Qy=>ag [dI x.1.1, .dat QF x.1.2, .dat Qo x.2.1, .dat Qw x.2.2.1,dS x.2.2.2]) (fun x:Qy=>[])):=by
 refine Qn Tryz.func110 rfl rfl Tryz.ntmps110 fun k g j c l f e=> ?_
 refine w_ ?_
 refine lc (xal 0 YM Q5) ?_
 refine w3 ?_
 refine lc (UB [.val (.slice none 0 0),dI 0, .val (.int .u64 0)] (Qdz (offs:=[(0,1),(1,1),(2,1)]) (zs:=[.slice none 0 0, .int .i64 0, .int .u64 0]) Tryz.underlying134 (by kernel_rfl) (by kernel_rfl)) (fun _ _ _=>⟨_,_,rfl,rfl,⟨_,_,rfl,(X8 _ _ _ .int).one rfl,⟨_,_,rfl,rfl,rfl⟩⟩⟩) ⟨_,_,rfl,(Ql rfl),rfl⟩ (av.1 rfl) rfl rfl) ?_
 refine xbx 1 ?_
 refine w4 ?_
 refine Z4 2 [(0,1)] (Yv code 0 0 (by omega)) KU e1_ ⟨rfl,trivial⟩ rfl (fun _=>rfl) (fun _=>⟨trivial,trivial⟩) (nlr rfl) fun b i=> ?_
 refine w3 ?_
 subst g
 refine Zg (x:=((b.1.1.1,b.1.1.2),(b.1.2.1,(b.1.2.2.1,b.1.2.2.2)))) [] ?_ (Res.one rfl (Rs.cell rfl rfl Q3 rfl)) rfl trivial rfl rfl
 (have h:=‹Ty.tot Zl _≤3000∧_›; exact h.1)
theorem WG (code:List UInt8)[∀s,Decidable (StgOk s)][∀s,Decidable (YZ s)]:FC Tryz.prog 24 [(false,[.dat QZ code])] [] 0 (Ex (fun x:Qy=>Ty.tot Zl x≤3000) (fun x:Qy=>ag [dI x.1.1, .dat QF x.1.2, .dat Qo x.2.1, .dat Qw x.2.2.1,dS x.2.2.2]) (fun x:Qy=>[])):=by
 refine Qn Tryz.func24 rfl rfl Tryz.ntmps24 fun j g i c k f e=> ?_
 refine w_ ?_
 refine lc (xal 0 YM Q5) ?_
 refine w3 ?_
 refine Z4 1 [] (WH code) Qk4 e1_ trivial rfl (fun _=>rfl) (fun _=>trivial) (nlr rfl) fun b h=> ?_
 refine w3 ?_
 subst g
 refine Zg (x:=((b.1.1,b.1.2),(b.2.1,(b.2.2.1,b.2.2.2)))) [] ?_ (Res.one rfl (Rs.cell rfl rfl Q3 rfl)) rfl trivial rfl rfl
 assumption
theorem Wc (code:List UInt8)[∀s,Decidable (StgOk s)][∀s,Decidable (YZ s)]:FC Tryz.prog 29 [(false,[.dat QZ code])] [] 0 (Ex (fun x:Qy×Qp=>Ty.tot Zl x.1≤3000) (fun x:Qy×Qp=>PV.tup [(true,[dI x.1.1.1, .dat QF x.1.1.2, .dat Qo x.1.2.1, .dat Qw x.1.2.2.1,dS x.1.2.2.2]),(true,[dI x.2.1,dI x.2.2.1,dB x.2.2.2])]) (fun x:Qy×Qp=>[])):=by
 refine Qn Tryz.func29 rfl rfl Tryz.ntmps29 fun l h k e m g f=> ?_
 refine w_ ?_
 refine lc (xal 0 YM Q5)<|lc (xal 1 Y4 VC) ?_
 refine w3 ?_
 refine lc (UB [.val (.slice none 0 0),dI 0, .val (.int .u64 0)] (Qdz (offs:=[(0,1),(1,1),(2,1)]) (zs:=[.slice none 0 0, .int .i64 0, .int .u64 0]) Tryz.underlying134 (by kernel_rfl) (by kernel_rfl)) (fun _ _ _=>⟨_,_,rfl,rfl,⟨_,_,rfl,(X8 _ _ _ .int).one rfl,⟨_,_,rfl,rfl,rfl⟩⟩⟩) ⟨_,_,rfl,(Ql rfl),rfl⟩ (av.1 rfl) rfl rfl) ?_
 refine xbx 2 ?_
 refine w4 ?_
 refine Z4 3 [(0,2)] (Yv code 0 0 (by omega)) KU e1_ ⟨rfl,trivial⟩ rfl (fun _=>rfl) (fun _=>⟨trivial,trivial⟩) (nlr rfl) fun b j=>lc (xal 4 YM Q5) ?_
 refine w2 ?_
 have i:=Qws code b.1 b.2.1 b.2.2
 apply dW (i3 11 _ _ _ [⟨some 14,ag [dI (((odV code b.1 b.2.1 b.2.2).1).1),dI (((odV code b.1 b.2.1 b.2.2).1).2.1),dB (((odV code b.1 b.2.1 b.2.2).1).2.2)],[bx 2 134 [.dat QZ code,dI ((odV code b.1 b.2.1 b.2.2).2.1), .val (.int .u64 ((odV code b.1 b.2.1 b.2.2).2.2))],(2,none)]⟩,⟨none,lf (.val undef),[bx 0 51 [dI b.1.1.1, .dat QF b.1.1.2, .dat Qo b.1.2.1, .dat Qw b.1.2.2.1,dS b.1.2.2.2]]⟩,⟨none,lf (.val undef),[bx 1 60 [dI (((odV code b.1 b.2.1 b.2.2).1).1),dI (((odV code b.1 b.2.1 b.2.2).1).2.1),dB (((odV code b.1 b.2.1 b.2.2).1).2.2)]]⟩]) [0,1,3,1,0,0]
 refine z3 ?_
 refine zz (fun _ c=>ac (dP 5 [(0,2)] (H5 code b.2.1 b.2.2 b.1 (by omega) (by have c:=‹Ty.tot Zl _≤3000∧_›; omega)) Qk8) rfl) ?_
 exact y2
 refine w_ ?_
 subst h
 refine Zg (x:=(((b.1.1.1,b.1.1.2),(b.1.2.1,(b.1.2.2.1,b.1.2.2.2))),(((odV code b.1 b.2.1 b.2.2).1).1,(((odV code b.1 b.2.1 b.2.2).1).2.1,((odV code b.1 b.2.1 b.2.2).1).2.2)))) [] ?_ (Y9 rfl (Rs.cell rfl rfl Q3 rfl) (Rs.cell rfl rfl QwY rfl)) rfl trivial rfl rfl
 (have c:=‹Ty.tot Zl _≤3000∧_›; exact c.1)
end Go.Proofs.YtndabgcpnmeeoaaGreat
namespace Go.Proofs.YtndabgcpnmeeoaaGreat
open Go.RowKit
set_option maxRecDepth 100000
set_option maxHeartbeats 4000000
def Fir (n:Yh)(m:ByteArray)(t:Int)(m':ByteArray):Prop:=∃x,0≤t∧n.2[t.toNat]? =some x∧enb m x=true∧WW m x=(m',true)
inductive Rea (n:Yh) (m0:ByteArray):ByteArray→Prop
  | zero:Rea n m0 m0
  | step {m m':ByteArray} {t:Int}:Rea n m0 m→Fir n m t m'→Rea n m0 m'
section
variable {n:Yh}{k f:Nat}{mk m m' m0:ByteArray}{t:Int}{ts:List Int}{st:RS}{l:List ByteArray}{x:ByteArray}
theorem QdI (h:t∈QO n m):∃x,0≤t∧n.2[t.toNat]? =some x∧enb m x=true:=by
 obtain ⟨x,a,_,_,b,d⟩:=HR h
 exact ⟨x,a,b,d⟩
theorem Qj4 {α:Type _}{f:α→Bool}{l:List α}{x:α}{i:Nat}(b:l[i]? =some x)(a:f x=true):∀k,i < k→(i:Int)∈Y2 f l k
 | 0,h=>absurd h (bi _)
 | k+1,h=>by
  unfold Y2
  by_cases e:i=k
  ·subst e; rw[b]; simp[a]
  ·exact aH _ (Qj4 b a k (by omega))
theorem QnB {x:Qt}(h0:0≤t)(a:n.2[t.toNat]? =some x)(h:enb m x=true):t∈QO n m:=by
 have b:=Qj4 (f:=enb m) a h n.2.length (ah.1 a).1
 rwa [cM h0] at b
theorem Qmn (h:t∈QO n m)(b:(Zw n m t).2=true):Fir n m t (Zw n m t).1:=by
 obtain ⟨x,d,a,e⟩:=QdI h
 rw[UI a] at b ⊢
 exact ⟨x,d,a,e,Prod.ext rfl b⟩
theorem Qcq (h:Fir n m t m'):t∈QO n m∧Zw n m t=(m',true):=by
 obtain ⟨x,b,a,d,e⟩:=h
 exact ⟨QnB b a d,by rw[UI a,e]⟩
theorem QrE (h:0≤ZM l x):l[(ZM l x).toNat]? =some x:=by
 unfold ZM ZO at h ⊢
 cases a:l.findIdx? (fun y=>decide (y=x)) with
 | none=>rw[a] at h; simp at h
 | some i=>
  obtain ⟨b,d,_⟩:=bS.1 a
  show l[((i:Int)).toNat]? =some x
  rw[show ((i:Int)).toNat=i by omega,ap b]
  exact congrArg some (ab d)
structure RcI (n:Yh) (m0:ByteArray) (st:RS):Prop where
  zero:st.1[0]? =some m0
  rea:∀m∈st.1,Rea n m0 m
  mv:∀v∈st.2.1,∃m m',0≤v.1∧0≤v.2.2∧st.1[v.1.toNat]? =some m∧st.1[v.2.2.toNat]? =some m'∧Fir n m v.2.1 m'
theorem Hn {a:List ByteArray}{i:Nat}(h:l[i]? =some x):(l++a)[i]? =some x:=by
 rw[bf (ah.1 h).1]; exact h
theorem RcI.old (g:RcI n m0 st)(d:st.1[k]? =some mk)(e:t∈QO n mk)(b:(Zw n mk t).2=true)(h0:0≤ZM st.1 (Zw n mk t).1):RcI n m0 (st.1,st.2.1++[((k:Int),t,ZM st.1 (Zw n mk t).1)],st.2.2):=
 ⟨g.zero,g.rea,fun v a=>by
  rcases aG.1 a with a | a
  ·exact g.mv v a
  ·rw[aC.1 a]
   exact ⟨mk,_,cQ k,h0,d,QrE h0,Qmn e b⟩⟩
theorem RcI.new {b:List (Int×Int×Int)}(g:RcI n m0 st)(h:st.1[k]? =some mk)(i:t∈QO n mk)(e:(Zw n mk t).2=true):RcI n m0 (st.1++[(Zw n mk t).1],st.2.1++[((k:Int),t,(st.1.length:Int))],b):=
 ⟨Hn g.zero,fun m a=>by
  rcases aG.1 a with a | a
  ·exact g.rea m a
  ·rw[aC.1 a]
   exact .step (g.rea mk (ai h)) (Qmn i e),fun v d=>by
  rcases aG.1 d with d | d
  ·obtain ⟨m,m',j,q,r,u,w⟩:=g.mv v d
   exact ⟨m,m',j,q,Hn r,Hn u,w⟩
  ·rw[aC.1 d]
   exact ⟨mk,_,cQ k,cQ _,Hn h,by simp,Qmn i e⟩⟩
theorem Qv8 (i:∀t∈ts,t∈QO n mk)(g:RcI n m0 st)(y:st.1[k]? =some mk)(a:(goT n k mk ts st).2.2.2=true):
 RcI n m0 (goT n k mk ts st).1∧(∃r,(goT n k mk ts st).1.1=st.1++r)∧(∀v∈st.2.1,v∈(goT n k mk ts st).1.2.1)∧∀t∈ts,∃j,((k:Int),t,j)∈(goT n k mk ts st).1.2.1:=by
 induction ts generalizing st with
 | nil=>rw[goT]; exact ⟨g,⟨[],(bG _).symm⟩,fun v q=>q,fun t h=>absurd h dc⟩
 | cons t ts E=>
  have D:=i t (aw ..)
  have d:∀t∈ts,t∈QO n mk:=fun t h=>i t (ax _ h)
  rw[goT] at a ⊢
  split at a
  ·cases a
  ·rename_i w
   rw[Bool.not_eq_false] at w
   rw[if_neg (by rw[w]; decide)]
   split at a
   ·rename_i u
    rw[if_pos u]
    obtain ⟨z,⟨r,A⟩,e,B⟩:=E d (g.old y D w u) y a
    refine ⟨z,⟨r,A⟩,fun v q=>e v (aH _ q),fun C h=> ?_⟩
    rcases aE.1 h with rfl | h
    ·exact ⟨_,e _ (aN _ (aC.2 rfl))⟩
    ·exact B C h
   ·rename_i u
    rw[if_neg u]
    split at a
    ·cases a
    ·rename_i F
     rw[if_neg F]
     obtain ⟨z,⟨r,A⟩,e,B⟩:=E d (g.new (b:=st.2.2++[((k:Int),t,(st.1.length:Int))]) y D w) (Hn y) a
     refine ⟨z,⟨[(Zw n mk t).1]++r,by rw[A,aK]⟩,fun v q=>e v (aH _ q),fun C h=> ?_⟩
     rcases aE.1 h with rfl | h
     ·exact ⟨_,e _ (aN _ (aC.2 rfl))⟩
     ·exact B C h
def DnI (n:Yh)(st:RS)(k:Nat):Prop:=∀i m,i < k→st.1[i]? =some m→∀t∈QO n m,∃j,((i:Int),t,j)∈st.2.1
theorem Qv6 (g:RcI n m0 st)(y:DnI n st k)(J:300 < k+f)(a:(goK n f k st).1.1.length≤300)(b:(goK n f k st).2.2.2=true):
 RcI n m0 (goK n f k st).1∧DnI n (goK n f k st).1 (goK n f k st).1.1.length:=by
 induction f generalizing k st with
 | zero=>
  rw[goK] at a ⊢
  exact ⟨g,fun i m q=>y i m (by dsimp only at a q ⊢; omega)⟩
 | succ f I=>
  rw[goK] at a b ⊢
  split at a
  ·rename_i H
   have:=cU.1 H
   exact ⟨g,fun i m q=>y i m (by dsimp only at q ⊢; omega)⟩
  ·rename_i mk r
   rw[r] at b
   dsimp only at b a ⊢
   split at b
   ·rename_i v
    rw[if_pos v] at a ⊢
    obtain ⟨D,⟨K,C⟩,E,F⟩:=Qv8 (fun t h=>h) g r v
    have z:DnI n (goT n k mk (QO n mk) st).1 (k+1):=fun i m q u t w=>by
     by_cases e:i=k
     ·subst e
      rw[C,Hn r] at u
      rw[← ci u] at w
      exact F t w
     ·have d:i < k:=by omega
      have A:i < st.1.length:=Nat.lt_trans d (ah.1 r).1
      have B:st.1[i]? =some m:=by rw[C,bf A] at u; exact u
      obtain ⟨j,G⟩:=y i m d B t w
      exact ⟨j,E _ G⟩
    exact I D z (by omega) a b
   ·rename_i v
    exact absurd b v
variable [∀s,Decidable (StgOk s)]{s:Qy}
theorem K0 (h:(Qb s).2=true):RcI s.1 s.2.2.2 ((Qb s).1.1,(Qb s).1.2,[])∧DnI s.1 ((Qb s).1.1,(Qb s).1.2,[]) (Qb s).1.1.length∧(Qb s).1.1.Nodup:=by
 obtain ⟨_,_,b,d,_⟩:=Zs h
 unfold Qb at h b d ⊢
 split at h
 ·rename_i e
  rw[if_pos e] at b d ⊢
  obtain ⟨a,g⟩:=Qv6 (n:=s.1) (m0:=s.2.2.2) (k:=0) (f:=301) (st:=([s.2.2.2],[],[((0:Int),(0:Int),(0:Int))])) ⟨rfl,fun m q=>by rw[aC.1 q]; exact .zero,fun v r=>absurd r dc⟩ (fun i m j=>absurd j (bi _)) (by omega) b e.2
  exact ⟨⟨a.zero,a.rea,a.mv⟩,g,d⟩
 ·cases h
theorem Qjx (h:(Qb s).2=true){m:ByteArray}(A:Rea s.1 s.2.2.2 m):m∈(Qb s).1.1:=by
 obtain ⟨q,u,_⟩:=K0 h
 induction A with
 | zero=>exact ai q.zero
 | step _ v B=>
  obtain ⟨i,g⟩:=aO.1 B
  obtain ⟨w,y⟩:=Qcq v
  obtain ⟨j,z⟩:=u i _ (ah.1 g).1 g _ w
  obtain ⟨a,b,_,_,e,r,d⟩:=q.mv _ z
  dsimp only at e r d
  rw[show ((i:Int)).toNat=i by omega,g] at e
  rw[← ci e] at d
  have:=(Qcq d).2
  rw[y] at this
  rw[(Prod.mk.inj this).1]
  exact ai r
end
def Mor (m M:ByteArray):Prop:=∃c,M.data.toList=m.data.toList++[c]
section
variable {s:Qy}{o:Qp}{m M M':ByteArray}{t p:Int}{l l':List UInt8}{ps:List Int}{c:UInt8}{x:Qt}
theorem Qq5:bAt m p=(m.data.toList[p.toNat]?).getD 0:=by
 unfold bAt
 by_cases h:p.toNat < m.size
 ·rw[dH m p.toNat h,ap (by simpa using h)]; rfl
 ·rw[getElem?_neg m p.toNat h,bp (by simpa using h)]
theorem Mor.at (h:Mor m M)(h0:0≤p)(a:p < (m.size:Int)):bAt M p=bAt m p:=by
 obtain ⟨c,h⟩:=h
 rw[Qq5,Qq5,h,bf (by rw[da]; show _ < m.size; omega)]
theorem Qeo:∀{ps:List Int} {l:List UInt8},(∀p∈ps,p.toNat < l.length)→clr (l++[c]) ps=clr l ps++[c]
 | [],_,_=>rfl
 | p :: ps,l,h=>by
  rw[clr,clr,List.set_append_left _ _ (h p (aw ..))]
  exact Qeo fun q a=>by rw[au]; exact h q (ax _ a)
theorem Qnp:∀{ps a:List Int} {l:List UInt8},clr l (ps++a)=clr (clr l ps) a
 | [],_,_=>rfl
 | p :: ps,a,l=>by rw[bH,clr,clr]; exact Qnp
theorem QcG:∀{ps:List Int} {l:List UInt8},(∀p∈ps,p.toNat < l.length)→Xq (l++[c]) ps=(Xq l ps).map (· ++[c])
 | [],_,_=>rfl
 | p :: ps,l,h=>by
  have a:=h p (aw ..)
  rw[Xq,Xq,bf a,List.set_append_left _ _ a]
  split
  ·rfl
  ·exact QcG fun q b=>by rw[au]; exact h q (ax _ b)
theorem Qj5:∀{ps a:List Int} {l l':List UInt8},Xq l (ps++a)=some l'→∃b,Xq l ps=some b∧Xq b a=some l'
 | [],_,l,l',h=>⟨l,rfl,h⟩
 | p :: ps,a,l,l',h=>by
  rw[bH,Xq] at h
  rw[Xq]
  split at h
  ·cases h
  ·rename_i d
   rw[if_neg d]
   exact Qj5 h
theorem Qj6:∀{ps:List Int} {l l':List UInt8},Xq l ps=some l'→l'.length=l.length
 | [],_,_,h=>by rw[Xq] at h; rw[← ci h]
 | p :: ps,l,l',h=>by
  rw[Xq] at h
  split at h
  ·cases h
  ·rw[Qj6 h,au]
theorem QpK (h:Xq (l++[c]) [(l.length:Int)]=some l'):l'=l++[49]:=by
 rw[Xq] at h
 split at h
 ·cases h
 ·rw[Xq] at h
  rw[← ci h]
  simp
theorem QnA {y:Qt}(i:Mor m M)(a:∀p∈x.1,0≤p∧p < (m.size:Int))(e:y.1=x.1∨y.1=x.1++[(m.size:Int)])(d:enb M y=true):enb m x=true:=by
 unfold enb at d ⊢
 rw[bQ,cC] at d ⊢
 intro p b
 have g:=d p (by rcases e with h | h <;> rw[h]; exact b; exact aH _ b)
 rwa [i.at (a p b).1 (a p b).2] at g
theorem Quc {y:Qt}(K:Mor m M)(A:∀p∈x.1,0≤p∧p < (m.size:Int))(v:∀p∈x.2,0≤p∧p < (m.size:Int))(D:y.1=x.1∨y.1=x.1++[(m.size:Int)])(E:y.2=x.2∨y.2=x.2++[(m.size:Int)])(r:WW M y=(M',true)):
 ∃m',WW m x=(m',true)∧Mor m' M':=by
 obtain ⟨c,J⟩:=K
 have b:m.data.toList.length=m.size:=da
 have g:∀p∈x.1,p.toNat < m.data.toList.length:=fun p C=>by rw[b]; have:=A p C; omega
 have a:∃z,clr M.toList y.1=clr m.toList x.1++[z]:=by
  rw[bB,bB,J]
  rcases D with h | h
  ·exact ⟨c,by rw[h,Qeo g]⟩
  ·refine ⟨48, ?_⟩
   rw[h,Qnp,Qeo g,clr,clr,Int.toNat_natCast]
   have:m.size=(clr m.data.toList x.1).length:=by rw[QhR,b]
   rw[this]; simp
 obtain ⟨z,a⟩:=a
 have u:(clr m.toList x.1).length=m.size:=by rw[QhR,bB,b]
 have e:∀p∈x.2,p.toNat < (clr m.toList x.1).length:=fun p C=>by rw[u]; have:=v p C; omega
 unfold WW at r ⊢
 rw[a] at r
 split at r
 ·cases r
 ·rename_i L w
  have I:M'=⟨L.toArray⟩:=(Prod.mk.inj r).1.symm
  have F:∃i d,Xq (clr m.toList x.1) x.2=some i∧L=i++[d]:=by
   rcases E with h | h
   ·rw[h,QcG e] at w
    obtain ⟨i,q,j⟩:=bP.1 w
    exact ⟨i,z,q,j.symm⟩
   ·rw[h] at w
    obtain ⟨N,q,j⟩:=Qj5 w
    rw[QcG e] at q
    obtain ⟨i,G,H⟩:=bP.1 q
    refine ⟨i,49,G, ?_⟩
    rw[← H] at j
    have B:i.length=m.size:=by rw[(Qj6 G),u]
    rw[← B] at j
    exact QpK j
  obtain ⟨i,d,q,j⟩:=F
  rw[q]
  exact ⟨_,rfl,d,by rw[I,j]⟩
end
end Go.Proofs.YtndabgcpnmeeoaaGreat
