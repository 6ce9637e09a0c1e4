/- Walks over abstract states: drawn state graphs. -/
import Derived.Test.YtjfpbcmfbnnooaaGreatGDg
import Derived.Test.YtjfpbcmfbnnooaaGreatGEa
import Derived.Test.YtjfpbcmfbnnooaaGreatGBc
import Derived.Test.YtjfpbcmfbnnooaaGreatGWk
import Derived.Test.YtjfpbcmfbnnooaaGreatGAl
import Derived.Test.YtjfpbcmfbnnooaaGreatGStr
import Derived.Test.YtjfpbcmfbnnooaaGreatProg
import Derived.KernelRfl
import Derived.Test.YtjfpbcmfbnnooaaGreatGFb
import Derived.Test.YtjfpbcmfbnnooaaGreatGDf
import Derived.Test.YtjfpbcmfbnnooaaGreatGUa
set_option linter.unusedSimpArgs false
set_option linter.unusedVariables false
set_option linter.unusedSectionVars false
namespace Go.Proofs.YtjfpbcmfbnnooaaGreat
open Go.RowKit
set_option maxRecDepth 100000
set_option maxHeartbeats 4000000
theorem QgK {b:Nat}:∀(i:Nat) (c:List ByteArray) (vs:List UInt8),(∀z∈c,z.size≤b)→∀z∈UI i c vs,z.size≤b+vs.length
 | _,_,[],h=>by rw[UI];exact fun z a=>bh (h z a) (Nat.le_add_right ..)
 | i,c,v::vs,h=>fun z a=>by
  rw[UI] at a
  have e:∀z∈c.set i ((c[i]?).getD ByteArray.empty++⟨#[v]⟩),z.size≤b+1:=fun z a=>by
   rcases ck a with d|d
   ·exact dd (h z d)
   ·rw[d,ax]
    show _+1≤b+1
    cases f:c[i]? with
    | none=>exact Nat.succ_le_succ (aL b)
    | some x=>exact Nat.succ_le_succ (h x (ae f))
  have:=QgK (i+1) _ vs e z a
  rw[av];omega
theorem QjT {n:Nat}{e:List DAr}(g:∀a∈e,InR n a):∀{f k b:Nat} {c d:List ByteArray},goS n e f k c=some d→(∀z∈c,z.size≤b)→∀z∈d,z.size≤b+n*f
 | 0,_,b,c,d,h,hb=>by rw[goS] at h;cases h;exact hb
 | f+1,k,b,c,d,h,hb=>fun z i=>by
  rw[goS] at h
  split at h
  ·have j:=QjT g h (QgK 0 c _ hb) z i
   have l:=Qty g (k:Int)
   rw[Nat.mul_add];omega
  ·cases h
section
variable [∀s,Decidable (StgOk s)]{s:ZG}
theorem QhJ (h:(sgV s).2=true):∀z∈(sgV s).1.2.1,z.size≤2400:=by
 unfold sgV at h ⊢
 split at h
 ·rename_i d
  rw[if_pos d]
  obtain ⟨k,g,i,_,f,n⟩:=Yp d.1
  split at h
  ·rename_i c j
   intro z a
   have l:=QjT (VJ f) j (b:=0) (fun z a=>by rw[cQ a];exact aO _) z a
   have e:=k.sigs.2.2
   have m:(Qo s).1.1.length*s.2.1.length≤300*8:=cE (by omega) e
   omega
  ·cases h
 ·cases h
theorem QrO:(sgV (Qt ⟨#[97]⟩ ⟨#[98]⟩ ⟨#[]⟩ ⟨#[97,43,62,98,43,32,98,43,62,97,45,32,97,45,62,98,45,32,42,98,45,62,97,43]⟩)).2=true:=by rw[QwZ];exact Qw1
end
theorem Vl (code:List UInt8)(at_:Int)(sd:Int)[∀s,Decidable (StgOk s)][∀s,Decidable (Y8 s)](u:0≤at_∧at_≤800000000):FC Tryz.prog 93 [(false,[.ptr 0 0])] [bx 0 86 [.dat QS code,dI at_,.val (.int .u64 sd)]] 1 (Ex (fun x:DSg×Int×Int=>((1≤x.1.2.1.length∧x.1.2.1.length≤300)∧x.1.1.length≤8∧∀z∈x.1.2.1,ByteArray.size z≤2400)∧(at_≤x.2.1∧x.2.1≤at_+80)) (fun x:DSg×Int×Int=>ag [.ref 1,.ref 2,.ref 3]) (fun x:DSg×Int×Int=>[bx 0 86 [.dat QS code,dI x.2.1,.val (.int .u64 x.2.2)],ar 1 103 QI x.1.1,ar 2 9 .str x.1.2.1,ar 3 139 Yq x.1.2.2])):=by
 refine Qj Tryz.func93 rfl rfl Tryz.ntmps93 fun r f q i t l j=> ?_
 refine w_ ?_
 refine lc (xal 1 Hd Y3) ?_
 refine w6 ?_
 refine Qu (fun g h=>∃(k:Nat) (c:Int) (a:Int),k≤4∧g=4 - k∧(at_≤c∧c≤at_+20*k)∧h=⟨[(0,lP 0 0),(2,lP 1 0),(3,lI (k:Int))],[bx 0 86 [.dat QS code,dI c,.val (.int .u64 a)],bx 1 28 [.val (.slice none 0 0),.val (.slice none 0 0),.val (.slice none 0 0)]]⟩) ⟨0,at_,sd,aL _,rfl,by omega,rfl⟩ ?_ ?_
 exact wo []
 rintro g h ⟨k,c,a,n,o,v,rfl⟩
 refine w5 ?_
 cases d:(decide ((k:Int)<4))
 have e:=aa d
 refine w4 ?_
 refine lc (dG 2 (QM (⟨#[97]⟩:ByteArray) (⟨#[98]⟩:ByteArray) (⟨#[]⟩:ByteArray) (⟨#[97,43,62,98,43,32,98,43,62,97,45,32,97,45,62,98,45,32,42,98,45,62,97,43]⟩:ByteArray) (by decide+kernel) (by decide+kernel)) Zk) ?_
 refine lc (QcJ 5 (Zm (Qt (⟨#[97]⟩:ByteArray) (⟨#[98]⟩:ByteArray) (⟨#[]⟩:ByteArray) (⟨#[97,43,62,98,43,32,98,43,62,97,45,32,97,45,62,98,45,32,42,98,45,62,97,43]⟩:ByteArray))) WA ⟨_,_,rfl,(QgG (Qn rfl) ⟨_,_,rfl,.inl rfl,⟨_,_,rfl,.inr ⟨_,_,_,_,rfl,rfl,rfl⟩,⟨_,_,rfl,.inr ⟨_,_,_,_,rfl,rfl,rfl⟩,⟨_,_,rfl,.inr ⟨_,_,_,_,rfl,rfl,rfl⟩,⟨_,_,rfl,.inl rfl,rfl⟩⟩⟩⟩⟩),rfl⟩ rfl rfl rfl ⟨Fresh.of rfl,Fresh.of rfl,Fresh.of rfl,trivial⟩ (nlr rfl)) ?_
 refine w3 ?_
 refine lc (xal 8 Hd Y3) ?_
 refine w8 ?_
 subst f
 refine Zh (x:=((((sgV (Qt (⟨#[97]⟩:ByteArray) (⟨#[98]⟩:ByteArray) (⟨#[]⟩:ByteArray) (⟨#[97,43,62,98,43,32,98,43,62,97,45,32,97,45,62,98,45,32,42,98,45,62,97,43]⟩:ByteArray))).1).1,(((sgV (Qt (⟨#[97]⟩:ByteArray) (⟨#[98]⟩:ByteArray) (⟨#[]⟩:ByteArray) (⟨#[97,43,62,98,43,32,98,43,62,97,45,32,97,45,62,98,45,32,42,98,45,62,97,43]⟩:ByteArray))).1).2.1,((sgV (Qt (⟨#[97]⟩:ByteArray) (⟨#[98]⟩:ByteArray) (⟨#[]⟩:ByteArray) (⟨#[97,43,62,98,43,32,98,43,62,97,45,32,97,45,62,98,45,32,42,98,45,62,97,43]⟩:ByteArray))).1).2.2)),(c,a))) [(0,0),(1,5),(2,6),(3,7)] ?_ (Res.one rfl (Rs.cell rfl rfl XJ rfl)) rfl ⟨rfl,rfl,rfl,rfl,trivial⟩ rfl rfl
 exact ⟨⟨(QhK QrO).some_,(QhK QrO).sig8,QhJ QrO⟩,by dsimp only;omega⟩
 have e:=ab d
 refine w6 ?_
 refine Ys 9 [(0,0)] (Qbt code c a (by omega)) Qls e1_ ⟨rfl,trivial⟩ rfl (fun _=>rfl) (fun _=>⟨trivial,(Fresh.of rfl),(Fresh.of rfl),(Fresh.of rfl),trivial⟩) (nlr rfl) fun b p=>lc (QcJ 13 (Zm b.1) WA ⟨_,_,rfl,(QgG (Qn rfl) ⟨_,_,rfl,.inl rfl,⟨_,_,rfl,.inr ⟨_,_,_,_,rfl,rfl,rfl⟩,⟨_,_,rfl,.inr ⟨_,_,_,_,rfl,rfl,rfl⟩,⟨_,_,rfl,.inr ⟨_,_,_,_,rfl,rfl,rfl⟩,⟨_,_,rfl,.inl rfl,rfl⟩⟩⟩⟩⟩),rfl⟩ rfl rfl rfl ⟨Fresh.of rfl,Fresh.of rfl,Fresh.of rfl,trivial⟩ (nlr rfl)) ?_
 refine w3 ?_
 refine lc (xal 16 Hd Y3) ?_
 refine w6 ?_
 cases m:((sgV b.1).2)
 refine w7 ?_
 refine Qd<|QV ⟨k+1,b.2.1,b.2.2,by omega,rfl,(by omega),rfl⟩ (by omega) ?_
 exact wo []
 refine w6 ?_
 subst f
 refine Zh (x:=((((sgV b.1).1).1,(((sgV b.1).1).2.1,((sgV b.1).1).2.2)),(b.2.1,b.2.2))) [(0,0),(1,13),(2,14),(3,15)] ?_ (Res.one rfl (Rs.cell rfl rfl XJ rfl)) rfl ⟨rfl,rfl,rfl,rfl,trivial⟩ rfl rfl
 exact ⟨⟨(QhK ‹_›).some_,(QhK ‹_›).sig8,QhJ ‹_›⟩,by dsimp only;omega⟩
theorem KY (code:List UInt8)(at_:Int)(sd:Int)[∀s,Decidable (StgOk s)][∀s,Decidable (Y8 s)](F:0≤at_∧at_≤700000000):FC Tryz.prog 119 [(false,[.ptr 0 0])] [bx 0 86 [.dat QS code,dI at_,.val (.int .u64 sd)]] 1 (Ex (fun x:DSg×Int×Int=>x.1.1.length≤8∧(1≤x.1.2.1.length∧x.1.2.1.length≤301)∧(at_≤x.2.1∧x.2.1≤at_+120)) (fun x:DSg×Int×Int=>ag [.dat Ql x.1.1,.dat Qb x.1.2.1,.dat QA x.1.2.2]) (fun x:DSg×Int×Int=>[bx 0 86 [.dat QS code,dI x.2.1,.val (.int .u64 x.2.2)]])):=by
 refine Qj Tryz.func119 rfl rfl Tryz.ntmps119 fun D j C r E u t=> ?_
 refine w_ ?_
 refine lc (xal 1 Hd Y3) ?_
 refine w3 ?_
 refine Ys 2 [(0,0)] (Vl code at_ sd (by omega)) Qg8 e1_ ⟨rfl,trivial⟩ rfl (fun _=>rfl) (fun _=>⟨trivial,(Fresh.of rfl),(Fresh.of rfl),(Fresh.of rfl),trivial⟩) (nlr rfl) fun a B=>lc (xal 6 Hd Y3) ?_
 refine w5 ?_
 have A:=ZP code a.2.1 a.2.2 20
 refine lc (dP 7 [] (QF code a.2.1 a.2.2 20 (by omega)) Zy) ?_
 refine w6 ?_
 refine cd_ (fun _ _=> ?_) fun _ _=> ?_
 refine w4 ?_
 refine cd_ (fun _ _=> ?_) fun _ _=> ?_
 refine w4 ?_
 refine cd_ (fun _ _=> ?_) fun _ _=> ?_
 refine w4 ?_
 refine cd_ (fun _ _=> ?_) fun _ _=> ?_
 refine w2 ?_
 refine YC<|AC.wk (QT (p:=6) (off:=0) (q:=3) rfl rfl rfl)<|AC.wk (QT (p:=6) (off:=1) (q:=4) rfl rfl rfl)<|AC.wk (QT (p:=6) (off:=2) (q:=5) rfl rfl rfl) ?_
 refine w5 ?_
 subst j
 refine Zh (x:=((a.1.1,(a.1.2.1,a.1.2.2)),((pkA 20 a.2.1),(pkS code a.2.1 a.2.2 20)))) [(0,0)] ?_ (Res.one rfl (Rs.cell rfl rfl XJ rfl)) rfl ⟨rfl,trivial⟩ rfl rfl
 (dsimp only;omega)
 refine w6 ?_
 refine cd_ (fun _ _=> ?_) fun _ _=> ?_
 refine w2 ?_
 refine YC<|AC.wk (QT (p:=6) (off:=0) (q:=3) rfl rfl rfl)<|AC.wk (QT (p:=6) (off:=1) (q:=4) rfl rfl rfl)<|AC.wk (QT (p:=6) (off:=2) (q:=5) rfl rfl rfl) ?_
 refine w5 ?_
 subst j
 refine Zh (x:=((a.1.1,(a.1.2.1,a.1.2.2)),((pkA 20 a.2.1),(pkS code a.2.1 a.2.2 20)))) [(0,0)] ?_ (Res.one rfl (Rs.cell rfl rfl XJ rfl)) rfl ⟨rfl,trivial⟩ rfl rfl
 (dsimp only;omega)
 obtain ⟨f,h⟩:=gx a.1.2.2 0
 apply dV (i4 49 _ _ _ _ [io 53 (lf (.ept 5 4 0 0)),io 54 (lf (.ept 5 4 0 2)),io 55 (lB f.2.2.1),io 56 _,io 57 (lf (.ept 5 4 0 0)),io 58 (lf (.ept 5 4 0 2)),⟨none,lf (.val undef),[ar 5 139 Yq (a.1.2.2.set 0 (f.1,f.2.1,!f.2.2.1,f.2.2.2))]⟩]) [0,0,3,3,3,3,3,3,0,0,0]
 refine z4 ?_
 refine zz (fun _ b=>ac (ZH (e:=Yq) (b.v rfl) (b.en 5 rfl) (Qq rfl) Qm4 QiW rfl (by omega) (by first|omega|(simp only[aD];omega))) rfl)<|zz (fun _ b=>ac (ZV (b.v rfl) Qhg (by rw[(b.en 5 rfl)];rfl) rfl) rfl)<|zz (fun _ b=>ac (Yt (e:=Yq) (b.v rfl) (b.n 5 rfl) h rfl Qky rfl rfl) rfl) ?_
 refine z_ ?_
 refine zz (fun _ b=>ac (ZH (e:=Yq) (b.v rfl) (b.en 5 rfl) (Qq rfl) Qm4 QiW rfl (by omega) (by first|omega|(simp only[aD];omega))) rfl)<|zz (fun _ b=>ac (ZV (b.v rfl) Qhg (by rw[(b.en 5 rfl)];rfl) rfl) rfl)<|zz (fun _ b=>ac (QB (e:=Yq) (z':=(f.1,f.2.1,!f.2.2.1,f.2.2.2)) (b.v rfl) (b.n 5 rfl) h rfl (b.w rfl) rfl Qky rfl rfl) rfl) ?_
 exact zN
 refine w_ ?_
 refine YC<|AC.wk (QT (p:=6) (off:=0) (q:=3) rfl rfl rfl)<|AC.wk (QT (p:=6) (off:=1) (q:=4) rfl rfl rfl)<|AC.wk (QT (p:=6) (off:=2) (q:=5) rfl rfl rfl) ?_
 refine w5 ?_
 subst j
 refine Zh (x:=((a.1.1,(a.1.2.1,a.1.2.2.set 0 (f.1,f.2.1,!f.2.2.1,f.2.2.2))),((pkA 20 a.2.1),(pkS code a.2.1 a.2.2 20)))) [(0,0)] ?_ (Res.one rfl (Rs.cell rfl rfl XJ rfl)) rfl ⟨rfl,trivial⟩ rfl rfl
 (dsimp only;omega)
 obtain ⟨g,k⟩:=gx a.1.2.1 0
 apply dV (i4 34 _ _ _ _ [io 38 (lf (.ept 4 1 0 0)),io 39 (lf (dS g)),⟨some 40,lR 8,[ar 8 9 .str ([g])]⟩,⟨some 41,lR 9,[ar 9 9 .str (a.1.2.1++([g])),(4,none),(8,none)]⟩,io 42 _,⟨none,lf (.val undef),[bx 6 28 [.ref 3,.ref 9,.ref 5]]⟩]) [0,0,3,3,3,3,3,0,0,0]
 refine z4 ?_
 refine zz (fun _ b=>ac (ZH (e:= .str) (b.v rfl) (b.en 4 rfl) (Qq rfl) Zz ZX rfl (by omega) (by first|omega|(simp only[aD];omega))) rfl)<|zz (fun _ b=>ac (Yt (e:= .str) (b.v rfl) (b.n 4 rfl) k rfl ZX rfl rfl) rfl) ?_
 refine zz (fun _ b=>ac (dBs 8 (e:= .str) Z3) rfl) ?_
 refine zz (fun _ b=>ac (dA 9 YW (hb:=by (simp only[av,aC];omega))) rfl) ?_
 refine z_ ?_
 refine zz (fun _ b=>ac (ZA (b.v rfl) (b.en 6 rfl) (b.w rfl) (by simp only[Zj,Kq,bt,bW];rw[(b.en 9 rfl)];rfl) QaS rfl) rfl) ?_
 exact zN
 refine w_ ?_
 refine YC<|AC.wk (QT (p:=6) (off:=0) (q:=3) rfl rfl rfl)<|AC.wk (QT (p:=6) (off:=1) (q:=9) rfl rfl rfl)<|AC.wk (QT (p:=6) (off:=2) (q:=5) rfl rfl rfl) ?_
 refine w5 ?_
 subst j
 refine Zh (x:=((a.1.1,(a.1.2.1++([g]),a.1.2.2)),((pkA 20 a.2.1),(pkS code a.2.1 a.2.2 20)))) [(0,0)] ?_ (Res.one rfl (Rs.cell rfl rfl XJ rfl)) rfl ⟨rfl,trivial⟩ rfl rfl
 (dsimp only;simp only[ah,aD,av,aC];omega)
 refine w6 ?_
 refine cd_ (fun _ _=> ?_) fun _ _=> ?_
 refine w2 ?_
 refine YC<|AC.wk (QT (p:=6) (off:=0) (q:=3) rfl rfl rfl)<|AC.wk (QT (p:=6) (off:=1) (q:=4) rfl rfl rfl)<|AC.wk (QT (p:=6) (off:=2) (q:=5) rfl rfl rfl) ?_
 refine w5 ?_
 subst j
 refine Zh (x:=((a.1.1,(a.1.2.1,a.1.2.2)),((pkA 20 a.2.1),(pkS code a.2.1 a.2.2 20)))) [(0,0)] ?_ (Res.one rfl (Rs.cell rfl rfl XJ rfl)) rfl ⟨rfl,trivial⟩ rfl rfl
 (dsimp only;omega)
 have m:=ZP code (pkA 20 a.2.1) (pkS code a.2.1 a.2.2 20) 9
 obtain ⟨d,l⟩:=gx a.1.2.2 0
 apply dV (i3 25 _ _ _ [⟨some 28,lI (pkV code (pkA 20 a.2.1) (pkS code a.2.1 a.2.2 20) 9),[bx 0 86 [.dat QS code,dI (pkA 9 (pkA 20 a.2.1)),.val (.int .u64 (pkS code (pkA 20 a.2.1) (pkS code a.2.1 a.2.2 20) 9))],(0,none)]⟩,io 29 _,io 30 (lf (.ept 5 4 0 0)),io 31 (lf (.ept 5 4 0 3)),⟨none,lf (.val undef),[ar 5 139 Yq (a.1.2.2.set 0 (d.1,d.2.1,d.2.2.1,(pkV code (pkA 20 a.2.1) (pkS code a.2.1 a.2.2 20) 9) - 1))]⟩]) [0,0,3,3,3,0,0,0]
 refine z3 ?_
 refine zz (fun _ b=>ac (dP 10 [] (QF code (pkA 20 a.2.1) (pkS code a.2.1 a.2.2 20) 9 (by omega)) Zy) rfl) ?_
 refine z_ ?_
 refine zz (fun _ b=>ac (ZH (e:=Yq) (b.v rfl) (b.en 5 rfl) (Qq rfl) Qm4 QiW rfl (by omega) (by first|omega|(simp only[aD];omega))) rfl)<|zz (fun _ b=>ac (ZV (b.v rfl) QpB (by rw[(b.en 5 rfl)];rfl) rfl) rfl)<|zz (fun _ b=>ac (QB (e:=Yq) (z':=(d.1,d.2.1,d.2.2.1,(pkV code (pkA 20 a.2.1) (pkS code a.2.1 a.2.2 20) 9) - 1)) (b.v rfl) (b.n 5 rfl) l rfl (b.w rfl) rfl Wl rfl rfl) rfl) ?_
 exact zN
 refine w_ ?_
 refine YC<|AC.wk (QT (p:=6) (off:=0) (q:=3) rfl rfl rfl)<|AC.wk (QT (p:=6) (off:=1) (q:=4) rfl rfl rfl)<|AC.wk (QT (p:=6) (off:=2) (q:=5) rfl rfl rfl) ?_
 refine w5 ?_
 subst j
 refine Zh (x:=((a.1.1,(a.1.2.1,a.1.2.2.set 0 (d.1,d.2.1,d.2.2.1,(pkV code (pkA 20 a.2.1) (pkS code a.2.1 a.2.2 20) 9) - 1))),((pkA 9 (pkA 20 a.2.1)),(pkS code (pkA 20 a.2.1) (pkS code a.2.1 a.2.2 20) 9)))) [(0,0)] ?_ (Res.one rfl (Rs.cell rfl rfl XJ rfl)) rfl ⟨rfl,trivial⟩ rfl rfl
 (dsimp only;omega)
 obtain ⟨c,i⟩:=gx a.1.2.1 0
 have o:=QxU code (⟨#[48,49,50]⟩:ByteArray) c (pkA 20 a.2.1) (pkS code a.2.1 a.2.2 20)
 apply dV (i5 10 _ _ _ _ _ [io 15 (lf (.ept 4 1 0 0)),io 16 (lf (dS c)),⟨some 17,lf (dS ((spV code (⟨#[48,49,50]⟩:ByteArray) c (pkA 20 a.2.1) (pkS code a.2.1 a.2.2 20)).1)),[bx 0 86 [.dat QS code,dI ((spV code (⟨#[48,49,50]⟩:ByteArray) c (pkA 20 a.2.1) (pkS code a.2.1 a.2.2 20)).2.1),.val (.int .u64 ((spV code (⟨#[48,49,50]⟩:ByteArray) c (pkA 20 a.2.1) (pkS code a.2.1 a.2.2 20)).2.2))],(0,none)]⟩,io 18 (lf (.ept 4 1 0 0)),⟨none,lf (.val undef),[ar 4 9 .str (a.1.2.1.set 0 ((spV code (⟨#[48,49,50]⟩:ByteArray) c (pkA 20 a.2.1) (pkS code a.2.1 a.2.2 20)).1))]⟩]) [0,0,3,7,7,7,7,3,0,0]
 refine z5 ?_
 refine zz (fun _ b=>ac (ZH (e:= .str) (b.v rfl) (b.en 4 rfl) (Qq rfl) Zz ZX rfl (by omega) (by first|omega|(simp only[aD];omega))) rfl)<|zz (fun _ b=>ac (Yt (e:= .str) (b.v rfl) (b.n 4 rfl) i rfl ZX rfl rfl) rfl) ?_
 refine zz (fun _ b=>ac (dP 11 [] (JT code (pkA 20 a.2.1) (pkS code a.2.1 a.2.2 20) c (⟨#[48,49,50]⟩:ByteArray) (by omega) (by have b:=‹(_∧_∧∀z∈_,ByteArray.size z≤2400)∧_›;have y:=b.1.2.2 _ (ae ‹_›);exact ⟨by omega,by decide⟩)) Qlw) rfl) ?_
 refine zz (fun _ b=>ac (ZH (e:= .str) (b.v rfl) (b.en 4 rfl) (Qq rfl) Zz ZX rfl (by omega) (by first|omega|(simp only[aD];omega))) rfl)<|zz (fun _ b=>ac (QB (e:= .str) (z':=(spV code (⟨#[48,49,50]⟩:ByteArray) c (pkA 20 a.2.1) (pkS code a.2.1 a.2.2 20)).1) (b.v rfl) (b.n 4 rfl) i rfl (b.w rfl) rfl ZX rfl rfl) rfl) ?_
 exact zN
 refine w_ ?_
 refine YC<|AC.wk (QT (p:=6) (off:=0) (q:=3) rfl rfl rfl)<|AC.wk (QT (p:=6) (off:=1) (q:=4) rfl rfl rfl)<|AC.wk (QT (p:=6) (off:=2) (q:=5) rfl rfl rfl) ?_
 refine w5 ?_
 subst j
 refine Zh (x:=((a.1.1,(a.1.2.1.set 0 ((spV code (⟨#[48,49,50]⟩:ByteArray) c (pkA 20 a.2.1) (pkS code a.2.1 a.2.2 20)).1),a.1.2.2)),(((spV code (⟨#[48,49,50]⟩:ByteArray) c (pkA 20 a.2.1) (pkS code a.2.1 a.2.2 20)).2.1),((spV code (⟨#[48,49,50]⟩:ByteArray) c (pkA 20 a.2.1) (pkS code a.2.1 a.2.2 20)).2.2)))) [(0,0)] ?_ (Res.one rfl (Rs.cell rfl rfl XJ rfl)) rfl ⟨rfl,trivial⟩ rfl rfl
 (dsimp only;simp only[ah,aD,av,aC];omega)
end Go.Proofs.YtjfpbcmfbnnooaaGreat
