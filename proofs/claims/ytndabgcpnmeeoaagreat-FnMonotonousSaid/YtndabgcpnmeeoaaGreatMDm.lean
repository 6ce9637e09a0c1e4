/- Walks over abstract states: drawn state graphs. -/
import Derived.Test.YtndabgcpnmeeoaaGreatMDg
import Derived.Test.YtndabgcpnmeeoaaGreatMEa
import Derived.Test.YtndabgcpnmeeoaaGreatMBc
import Derived.Test.YtndabgcpnmeeoaaGreatMWk
import Derived.Test.YtndabgcpnmeeoaaGreatMAl
import Derived.Test.YtndabgcpnmeeoaaGreatMStr
import Derived.Test.YtndabgcpnmeeoaaGreatProg
import Derived.KernelRfl
import Derived.Test.YtndabgcpnmeeoaaGreatMAv
import Derived.Test.YtndabgcpnmeeoaaGreatMDa
import Derived.Test.YtndabgcpnmeeoaaGreatMUd
set_option linter.unusedSimpArgs false
set_option linter.unusedVariables false
set_option linter.unusedSectionVars false
namespace Go.Proofs.YtndabgcpnmeeoaaGreat
open Go.RowKit
set_option maxRecDepth 100000
set_option maxHeartbeats 4000000
theorem Qfs {b:Nat}:∀(i:Nat) (c:List ByteArray) (vs:List UInt8),(∀z∈c,z.size≤b)→∀z∈V1 i c vs,z.size≤b+vs.length
 | _,_,[],h=>by rw[V1]; exact fun z a=>bu (h z a) (Nat.le_add_right ..)
 | i,c,v :: vs,h=>fun z a=>by
  rw[V1] at a
  have e:∀z∈c.set i ((c[i]?).getD ByteArray.empty++⟨#[v]⟩),z.size≤b+1:=fun z a=>by
   rcases cw a with d | d
   ·exact dp (h z d)
   ·rw[d,aA]
    show _+1≤b+1
    cases f:c[i]? with
    | none=>exact Nat.succ_le_succ (aP b)
    | some x=>exact Nat.succ_le_succ (h x (ae f))
  have:=Qfs (i+1) _ vs e z a
  rw[au]; omega
theorem Qil {n:Nat}{e:List DAr}(g:∀a∈e,InR n a):∀{f k b:Nat} {c d:List ByteArray},goS n e f k c=some d→(∀z∈c,z.size≤b)→∀z∈d,z.size≤b+n*f
 | 0,_,b,c,d,h,hb=>by rw[goS] at h; cases h; exact hb
 | f+1,k,b,c,d,h,hb=>fun z i=>by
  rw[goS] at h
  split at h
  ·have j:=Qil g h (Qfs 0 c _ hb) z i
   have l:=QpR g (k:Int)
   rw[Nat.mul_add]; omega
  ·cases h
section
variable [∀s,Decidable (StgOk s)]{s:ZK}
theorem QeO (h:(sgV s).2=true):∀z∈(sgV s).1.2.1,z.size≤2400:=by
 unfold sgV at h ⊢
 split at h
 ·rename_i d
  rw[if_pos d]
  obtain ⟨k,g,i,_,f,n⟩:=Yj d.1
  split at h
  ·rename_i c j
   intro z a
   have l:=Qil (Vy f) j (b:=0) (fun z a=>by rw[cW a]; exact aK _) z a
   have e:=k.sigs.2.2
   have m:(Qm s).1.1.length*s.2.1.length≤300*8:=cQ (by omega) e
   omega
  ·cases h
 ·cases h
theorem QqI:(sgV (Qs ⟨#[97]⟩ ⟨#[98]⟩ ⟨#[]⟩ ⟨#[97,43,62,98,43,32,98,43,62,97,45,32,97,45,62,98,45,32,42,98,45,62,97,43]⟩)).2=true:=by rw[QuI]; exact QuZ
end
theorem JM (code:List UInt8)(at_:Int)(sd:Int)[∀s,Decidable (StgOk s)][∀s,Decidable (Y5 s)](u:0≤at_∧at_≤800000000):FC Tryz.prog 202 [(false,[.ptr 0 0])] [bx 0 134 [.dat QN code,dI at_, .val (.int .u64 sd)]] 1 (Ex (fun x:DSg×Int×Int=>((1≤x.1.2.1.length∧x.1.2.1.length≤300)∧x.1.1.length≤8∧∀z∈x.1.2.1,ByteArray.size z≤2400)∧(at_≤x.2.1∧x.2.1≤at_+80)) (fun x:DSg×Int×Int=>ag [.ref 1, .ref 2, .ref 3]) (fun x:DSg×Int×Int=>[bx 0 134 [.dat QN code,dI x.2.1, .val (.int .u64 x.2.2)],ar 1 77 Zw x.1.1,ar 2 9 .str x.1.2.1,ar 3 154 YE x.1.2.2])):=by
 refine Qp Tryz.func202 rfl rfl Tryz.ntmps202 fun r f q i t l j=> ?_
 refine w_ ?_
 refine lc (xal 1 Xn Zt) ?_
 refine w6 ?_
 refine QD (fun g h=>∃(k:Nat) (c:Int) (a:Int),k≤4∧g=4 - k∧(at_≤c∧c≤at_+20*k)∧h=⟨[(0,lP 0 0),(2,lP 1 0),(3,lI (k:Int))],[bx 0 134 [.dat QN code,dI c, .val (.int .u64 a)],bx 1 28 [.val (.slice none 0 0), .val (.slice none 0 0), .val (.slice none 0 0)]]⟩) ⟨0,at_,sd,aP _,rfl,by omega,rfl⟩ ?_ ?_
 exact wo []
 rintro g h ⟨k,c,a,n,o,v,rfl⟩
 refine w5 ?_
 cases d:(decide ((k:Int) < 4))
 have e:=aa d
 refine w4 ?_
 refine lc (dG 2 (QK (⟨#[97]⟩:ByteArray) (⟨#[98]⟩:ByteArray) (⟨#[]⟩:ByteArray) (⟨#[97,43,62,98,43,32,98,43,62,97,45,32,97,45,62,98,45,32,42,98,45,62,97,43]⟩:ByteArray) (by decide+kernel) (by decide+kernel)) Zm) ?_
 refine lc (WC 5 (Zg (Qs (⟨#[97]⟩:ByteArray) (⟨#[98]⟩:ByteArray) (⟨#[]⟩:ByteArray) (⟨#[97,43,62,98,43,32,98,43,62,97,45,32,97,45,62,98,45,32,42,98,45,62,97,43]⟩:ByteArray))) XI ⟨_,_,rfl,(JZ (Qo rfl) ⟨_,_,rfl, .inl rfl,⟨_,_,rfl, .inr ⟨_,_,_,_,rfl,rfl,rfl⟩,⟨_,_,rfl, .inr ⟨_,_,_,_,rfl,rfl,rfl⟩,⟨_,_,rfl, .inr ⟨_,_,_,_,rfl,rfl,rfl⟩,⟨_,_,rfl, .inl rfl,rfl⟩⟩⟩⟩⟩),rfl⟩ rfl rfl rfl ⟨Fresh.of rfl,Fresh.of rfl,Fresh.of rfl,trivial⟩ (nlr rfl)) ?_
 refine w3 ?_
 refine lc (xal 8 Xn Zt) ?_
 refine w8 ?_
 subst f
 refine QP (x:=((((sgV (Qs (⟨#[97]⟩:ByteArray) (⟨#[98]⟩:ByteArray) (⟨#[]⟩:ByteArray) (⟨#[97,43,62,98,43,32,98,43,62,97,45,32,97,45,62,98,45,32,42,98,45,62,97,43]⟩:ByteArray))).1).1,(((sgV (Qs (⟨#[97]⟩:ByteArray) (⟨#[98]⟩:ByteArray) (⟨#[]⟩:ByteArray) (⟨#[97,43,62,98,43,32,98,43,62,97,45,32,97,45,62,98,45,32,42,98,45,62,97,43]⟩:ByteArray))).1).2.1,((sgV (Qs (⟨#[97]⟩:ByteArray) (⟨#[98]⟩:ByteArray) (⟨#[]⟩:ByteArray) (⟨#[97,43,62,98,43,32,98,43,62,97,45,32,97,45,62,98,45,32,42,98,45,62,97,43]⟩:ByteArray))).1).2.2)),(c,a))) [(0,0),(1,5),(2,6),(3,7)] ?_ (Res.one rfl (Rs.cell rfl rfl ZM rfl)) rfl ⟨rfl,rfl,rfl,rfl,trivial⟩ rfl rfl
 exact ⟨⟨(Qej QqI).some_,(Qej QqI).sig8,QeO QqI⟩,by dsimp only; omega⟩
 have e:=ab d
 refine w6 ?_
 refine Q8 9 [(0,0)] (HJ code c a (by omega)) QkZ e1_ ⟨rfl,trivial⟩ rfl (fun _=>rfl) (fun _=>⟨trivial,(Fresh.of rfl),(Fresh.of rfl),(Fresh.of rfl),trivial⟩) (nlr rfl) fun b p=>lc (WC 13 (Zg b.1) XI ⟨_,_,rfl,(JZ (Qo rfl) ⟨_,_,rfl, .inl rfl,⟨_,_,rfl, .inr ⟨_,_,_,_,rfl,rfl,rfl⟩,⟨_,_,rfl, .inr ⟨_,_,_,_,rfl,rfl,rfl⟩,⟨_,_,rfl, .inr ⟨_,_,_,_,rfl,rfl,rfl⟩,⟨_,_,rfl, .inl rfl,rfl⟩⟩⟩⟩⟩),rfl⟩ rfl rfl rfl ⟨Fresh.of rfl,Fresh.of rfl,Fresh.of rfl,trivial⟩ (nlr rfl)) ?_
 refine w3 ?_
 refine lc (xal 16 Xn Zt) ?_
 refine w6 ?_
 cases m:((sgV b.1).2)
 refine w7 ?_
 refine Qb<|Zb ⟨k+1,b.2.1,b.2.2,by omega,rfl,(by omega),rfl⟩ (by omega) ?_
 exact wo []
 refine w6 ?_
 subst f
 refine QP (x:=((((sgV b.1).1).1,(((sgV b.1).1).2.1,((sgV b.1).1).2.2)),(b.2.1,b.2.2))) [(0,0),(1,13),(2,14),(3,15)] ?_ (Res.one rfl (Rs.cell rfl rfl ZM rfl)) rfl ⟨rfl,rfl,rfl,rfl,trivial⟩ rfl rfl
 exact ⟨⟨(Qej ‹_›).some_,(Qej ‹_›).sig8,QeO ‹_›⟩,by dsimp only; omega⟩
theorem UB (code:List UInt8)(at_:Int)(sd:Int)[∀s,Decidable (StgOk s)][∀s,Decidable (Y5 s)](F:0≤at_∧at_≤700000000):FC Tryz.prog 302 [(false,[.ptr 0 0])] [bx 0 134 [.dat QN code,dI at_, .val (.int .u64 sd)]] 1 (Ex (fun x:DSg×Int×Int=>x.1.1.length≤8∧(1≤x.1.2.1.length∧x.1.2.1.length≤301)∧(at_≤x.2.1∧x.2.1≤at_+120)) (fun x:DSg×Int×Int=>ag [.dat Ql x.1.1, .dat Qj x.1.2.1, .dat Qv x.1.2.2]) (fun x:DSg×Int×Int=>[bx 0 134 [.dat QN code,dI x.2.1, .val (.int .u64 x.2.2)]])):=by
 refine Qp Tryz.func302 rfl rfl Tryz.ntmps302 fun D j C r E u t=> ?_
 refine w_ ?_
 refine lc (xal 1 Xn Zt) ?_
 refine w3 ?_
 refine Q8 2 [(0,0)] (JM code at_ sd (by omega)) QjO e1_ ⟨rfl,trivial⟩ rfl (fun _=>rfl) (fun _=>⟨trivial,(Fresh.of rfl),(Fresh.of rfl),(Fresh.of rfl),trivial⟩) (nlr rfl) fun a B=>lc (xal 6 Xn Zt) ?_
 refine w5 ?_
 have A:=Zu code a.2.1 a.2.2 20
 refine lc (dP 7 [] (Qr code a.2.1 a.2.2 20 (by omega)) Zl) ?_
 refine w6 ?_
 refine cd_ (fun _ _=> ?_) fun _ _=> ?_
 refine w4 ?_
 refine cd_ (fun _ _=> ?_) fun _ _=> ?_
 refine w4 ?_
 refine cd_ (fun _ _=> ?_) fun _ _=> ?_
 refine w4 ?_
 refine cd_ (fun _ _=> ?_) fun _ _=> ?_
 refine w2 ?_
 refine Zy<|AC.wk (QJ (p:=6) (off:=0) (q:=3) rfl rfl rfl)<|AC.wk (QJ (p:=6) (off:=1) (q:=4) rfl rfl rfl)<|AC.wk (QJ (p:=6) (off:=2) (q:=5) rfl rfl rfl) ?_
 refine w5 ?_
 subst j
 refine QP (x:=((a.1.1,(a.1.2.1,a.1.2.2)),((pkA 20 a.2.1),(pkS code a.2.1 a.2.2 20)))) [(0,0)] ?_ (Res.one rfl (Rs.cell rfl rfl ZM rfl)) rfl ⟨rfl,trivial⟩ rfl rfl
 (dsimp only; omega)
 refine w6 ?_
 refine cd_ (fun _ _=> ?_) fun _ _=> ?_
 refine w2 ?_
 refine Zy<|AC.wk (QJ (p:=6) (off:=0) (q:=3) rfl rfl rfl)<|AC.wk (QJ (p:=6) (off:=1) (q:=4) rfl rfl rfl)<|AC.wk (QJ (p:=6) (off:=2) (q:=5) rfl rfl rfl) ?_
 refine w5 ?_
 subst j
 refine QP (x:=((a.1.1,(a.1.2.1,a.1.2.2)),((pkA 20 a.2.1),(pkS code a.2.1 a.2.2 20)))) [(0,0)] ?_ (Res.one rfl (Rs.cell rfl rfl ZM rfl)) rfl ⟨rfl,trivial⟩ rfl rfl
 (dsimp only; omega)
 obtain ⟨f,h⟩:=gx a.1.2.2 0
 apply dV (i4 49 _ _ _ _ [io 53 (lf (.ept 5 4 0 0)),io 54 (lf (.ept 5 4 0 2)),io 55 (lB f.2.2.1),io 56 _,io 57 (lf (.ept 5 4 0 0)),io 58 (lf (.ept 5 4 0 2)),⟨none,lf (.val undef),[ar 5 154 YE (a.1.2.2.set 0 (f.1,f.2.1, !f.2.2.1,f.2.2.2))]⟩]) [0,0,3,3,3,3,3,3,0,0,0]
 refine z4 ?_
 refine zz (fun _ b=>ac (QY (e:=YE) (b.v rfl) (b.en 5 rfl) (Qn rfl) QkW QgA rfl (by omega) (by first | omega | (simp only[ay]; omega))) rfl)<|zz (fun _ b=>ac (YP (b.v rfl) QeZ (by rw[(b.en 5 rfl)]; rfl) rfl) rfl)<|zz (fun _ b=>ac (ZH (e:=YE) (b.v rfl) (b.n 5 rfl) h rfl Up rfl rfl) rfl) ?_
 refine z_ ?_
 refine zz (fun _ b=>ac (QY (e:=YE) (b.v rfl) (b.en 5 rfl) (Qn rfl) QkW QgA rfl (by omega) (by first | omega | (simp only[ay]; omega))) rfl)<|zz (fun _ b=>ac (YP (b.v rfl) QeZ (by rw[(b.en 5 rfl)]; rfl) rfl) rfl)<|zz (fun _ b=>ac (Qt (e:=YE) (z':=(f.1,f.2.1, !f.2.2.1,f.2.2.2)) (b.v rfl) (b.n 5 rfl) h rfl (b.w rfl) rfl Up rfl rfl) rfl) ?_
 exact zN
 refine w_ ?_
 refine Zy<|AC.wk (QJ (p:=6) (off:=0) (q:=3) rfl rfl rfl)<|AC.wk (QJ (p:=6) (off:=1) (q:=4) rfl rfl rfl)<|AC.wk (QJ (p:=6) (off:=2) (q:=5) rfl rfl rfl) ?_
 refine w5 ?_
 subst j
 refine QP (x:=((a.1.1,(a.1.2.1,a.1.2.2.set 0 (f.1,f.2.1, !f.2.2.1,f.2.2.2))),((pkA 20 a.2.1),(pkS code a.2.1 a.2.2 20)))) [(0,0)] ?_ (Res.one rfl (Rs.cell rfl rfl ZM rfl)) rfl ⟨rfl,trivial⟩ rfl rfl
 (dsimp only; omega)
 obtain ⟨g,k⟩:=gx a.1.2.1 0
 apply dV (i4 34 _ _ _ _ [io 38 (lf (.ept 4 1 0 0)),io 39 (lf (dS g)),⟨some 40,lR 8,[ar 8 9 .str ([g])]⟩,⟨some 41,lR 9,[ar 9 9 .str (a.1.2.1++([g])),(4,none),(8,none)]⟩,io 42 _,⟨none,lf (.val undef),[bx 6 28 [.ref 3, .ref 9, .ref 5]]⟩]) [0,0,3,3,3,3,3,0,0,0]
 refine z4 ?_
 refine zz (fun _ b=>ac (QY (e:= .str) (b.v rfl) (b.en 4 rfl) (Qn rfl) Qbq UA rfl (by omega) (by first | omega | (simp only[ay]; omega))) rfl)<|zz (fun _ b=>ac (ZH (e:= .str) (b.v rfl) (b.n 4 rfl) k rfl UA rfl rfl) rfl) ?_
 refine zz (fun _ b=>ac (dBs 8 (e:= .str) Ya) rfl) ?_
 refine zz (fun _ b=>ac (dA 9 VT (hb:=by (simp only[au,aO]; omega))) rfl) ?_
 refine z_ ?_
 refine zz (fun _ b=>ac (Yn (b.v rfl) (b.en 6 rfl) (b.w rfl) (by simp only[ZC,JH,bF,cB]; rw[(b.en 9 rfl)]; rfl) QqQ rfl) rfl) ?_
 exact zN
 refine w_ ?_
 refine Zy<|AC.wk (QJ (p:=6) (off:=0) (q:=3) rfl rfl rfl)<|AC.wk (QJ (p:=6) (off:=1) (q:=9) rfl rfl rfl)<|AC.wk (QJ (p:=6) (off:=2) (q:=5) rfl rfl rfl) ?_
 refine w5 ?_
 subst j
 refine QP (x:=((a.1.1,(a.1.2.1++([g]),a.1.2.2)),((pkA 20 a.2.1),(pkS code a.2.1 a.2.2 20)))) [(0,0)] ?_ (Res.one rfl (Rs.cell rfl rfl ZM rfl)) rfl ⟨rfl,trivial⟩ rfl rfl
 (dsimp only; simp only[ai,ay,au,aO]; omega)
 refine w6 ?_
 refine cd_ (fun _ _=> ?_) fun _ _=> ?_
 refine w2 ?_
 refine Zy<|AC.wk (QJ (p:=6) (off:=0) (q:=3) rfl rfl rfl)<|AC.wk (QJ (p:=6) (off:=1) (q:=4) rfl rfl rfl)<|AC.wk (QJ (p:=6) (off:=2) (q:=5) rfl rfl rfl) ?_
 refine w5 ?_
 subst j
 refine QP (x:=((a.1.1,(a.1.2.1,a.1.2.2)),((pkA 20 a.2.1),(pkS code a.2.1 a.2.2 20)))) [(0,0)] ?_ (Res.one rfl (Rs.cell rfl rfl ZM rfl)) rfl ⟨rfl,trivial⟩ rfl rfl
 (dsimp only; omega)
 have m:=Zu code (pkA 20 a.2.1) (pkS code a.2.1 a.2.2 20) 9
 obtain ⟨d,l⟩:=gx a.1.2.2 0
 apply dV (i3 25 _ _ _ [⟨some 28,lI (pkV code (pkA 20 a.2.1) (pkS code a.2.1 a.2.2 20) 9),[bx 0 134 [.dat QN code,dI (pkA 9 (pkA 20 a.2.1)), .val (.int .u64 (pkS code (pkA 20 a.2.1) (pkS code a.2.1 a.2.2 20) 9))],(0,none)]⟩,io 29 _,io 30 (lf (.ept 5 4 0 0)),io 31 (lf (.ept 5 4 0 3)),⟨none,lf (.val undef),[ar 5 154 YE (a.1.2.2.set 0 (d.1,d.2.1,d.2.2.1,(pkV code (pkA 20 a.2.1) (pkS code a.2.1 a.2.2 20) 9) - 1))]⟩]) [0,0,3,3,3,0,0,0]
 refine z3 ?_
 refine zz (fun _ b=>ac (dP 10 [] (Qr code (pkA 20 a.2.1) (pkS code a.2.1 a.2.2 20) 9 (by omega)) Zl) rfl) ?_
 refine z_ ?_
 refine zz (fun _ b=>ac (QY (e:=YE) (b.v rfl) (b.en 5 rfl) (Qn rfl) QkW QgA rfl (by omega) (by first | omega | (simp only[ay]; omega))) rfl)<|zz (fun _ b=>ac (YP (b.v rfl) QnQ (by rw[(b.en 5 rfl)]; rfl) rfl) rfl)<|zz (fun _ b=>ac (Qt (e:=YE) (z':=(d.1,d.2.1,d.2.2.1,(pkV code (pkA 20 a.2.1) (pkS code a.2.1 a.2.2 20) 9) - 1)) (b.v rfl) (b.n 5 rfl) l rfl (b.w rfl) rfl ZY rfl rfl) rfl) ?_
 exact zN
 refine w_ ?_
 refine Zy<|AC.wk (QJ (p:=6) (off:=0) (q:=3) rfl rfl rfl)<|AC.wk (QJ (p:=6) (off:=1) (q:=4) rfl rfl rfl)<|AC.wk (QJ (p:=6) (off:=2) (q:=5) rfl rfl rfl) ?_
 refine w5 ?_
 subst j
 refine QP (x:=((a.1.1,(a.1.2.1,a.1.2.2.set 0 (d.1,d.2.1,d.2.2.1,(pkV code (pkA 20 a.2.1) (pkS code a.2.1 a.2.2 20) 9) - 1))),((pkA 9 (pkA 20 a.2.1)),(pkS code (pkA 20 a.2.1) (pkS code a.2.1 a.2.2 20) 9)))) [(0,0)] ?_ (Res.one rfl (Rs.cell rfl rfl ZM rfl)) rfl ⟨rfl,trivial⟩ rfl rfl
 (dsimp only; omega)
 obtain ⟨c,i⟩:=gx a.1.2.1 0
 have o:=QtY code (⟨#[48,49,50]⟩:ByteArray) c (pkA 20 a.2.1) (pkS code a.2.1 a.2.2 20)
 apply dV (i5 10 _ _ _ _ _ [io 15 (lf (.ept 4 1 0 0)),io 16 (lf (dS c)),⟨some 17,lf (dS ((spV code (⟨#[48,49,50]⟩:ByteArray) c (pkA 20 a.2.1) (pkS code a.2.1 a.2.2 20)).1)),[bx 0 134 [.dat QN code,dI ((spV code (⟨#[48,49,50]⟩:ByteArray) c (pkA 20 a.2.1) (pkS code a.2.1 a.2.2 20)).2.1), .val (.int .u64 ((spV code (⟨#[48,49,50]⟩:ByteArray) c (pkA 20 a.2.1) (pkS code a.2.1 a.2.2 20)).2.2))],(0,none)]⟩,io 18 (lf (.ept 4 1 0 0)),⟨none,lf (.val undef),[ar 4 9 .str (a.1.2.1.set 0 ((spV code (⟨#[48,49,50]⟩:ByteArray) c (pkA 20 a.2.1) (pkS code a.2.1 a.2.2 20)).1))]⟩]) [0,0,3,7,7,7,7,3,0,0]
 refine z5 ?_
 refine zz (fun _ b=>ac (QY (e:= .str) (b.v rfl) (b.en 4 rfl) (Qn rfl) Qbq UA rfl (by omega) (by first | omega | (simp only[ay]; omega))) rfl)<|zz (fun _ b=>ac (ZH (e:= .str) (b.v rfl) (b.n 4 rfl) i rfl UA rfl rfl) rfl) ?_
 refine zz (fun _ b=>ac (dP 11 [] (Ku code (pkA 20 a.2.1) (pkS code a.2.1 a.2.2 20) c (⟨#[48,49,50]⟩:ByteArray) (by omega) (by have b:=‹(_∧_∧∀z∈_,ByteArray.size z≤2400)∧_›; have y:=b.1.2.2 _ (ae ‹_›); exact ⟨by omega,by decide⟩)) Qkf) rfl) ?_
 refine zz (fun _ b=>ac (QY (e:= .str) (b.v rfl) (b.en 4 rfl) (Qn rfl) Qbq UA rfl (by omega) (by first | omega | (simp only[ay]; omega))) rfl)<|zz (fun _ b=>ac (Qt (e:= .str) (z':=(spV code (⟨#[48,49,50]⟩:ByteArray) c (pkA 20 a.2.1) (pkS code a.2.1 a.2.2 20)).1) (b.v rfl) (b.n 4 rfl) i rfl (b.w rfl) rfl UA rfl rfl) rfl) ?_
 exact zN
 refine w_ ?_
 refine Zy<|AC.wk (QJ (p:=6) (off:=0) (q:=3) rfl rfl rfl)<|AC.wk (QJ (p:=6) (off:=1) (q:=4) rfl rfl rfl)<|AC.wk (QJ (p:=6) (off:=2) (q:=5) rfl rfl rfl) ?_
 refine w5 ?_
 subst j
 refine QP (x:=((a.1.1,(a.1.2.1.set 0 ((spV code (⟨#[48,49,50]⟩:ByteArray) c (pkA 20 a.2.1) (pkS code a.2.1 a.2.2 20)).1),a.1.2.2)),(((spV code (⟨#[48,49,50]⟩:ByteArray) c (pkA 20 a.2.1) (pkS code a.2.1 a.2.2 20)).2.1),((spV code (⟨#[48,49,50]⟩:ByteArray) c (pkA 20 a.2.1) (pkS code a.2.1 a.2.2 20)).2.2)))) [(0,0)] ?_ (Res.one rfl (Rs.cell rfl rfl ZM rfl)) rfl ⟨rfl,trivial⟩ rfl rfl
 (dsimp only; simp only[ai,ay,au,aO]; omega)
end Go.Proofs.YtndabgcpnmeeoaaGreat
