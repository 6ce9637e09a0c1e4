import Derived.Test.YtjfpbcmfbnnooaaGreatPDg
set_option linter.all false
namespace Go.Proofs.YtjfpbcmfbnnooaaGreat
open Go.RowKit Tryz
set_option maxRecDepth 100000
set_option maxHeartbeats 4000000
def QhE {b:Nat}:∀(i:Nat) (c:List BA) (vs:List UInt8),(∀z∈c,z.size≤b)→∀z∈U7 i c vs,z.size≤b+vs.length
 | _,_,[],h=>by rw[U7];exact fun z a=>bi (h z a) (Nat.le_add_right ..)
 | i,c,v::vs,h=>fun z a=>by
  rw[U7] at a
  have e:∀z∈c.set i ((c[i]?).getD ByteArray.empty++⟨#[v]⟩),z.size≤b+1:=fun z a=>by
   rcases cE a with d|d
   ·exact de (h z d)
   ·rw[d,aE]
    show _+1≤b+1
    cases f:c[i]? with
    | none=>exact Nat.succ_le_succ (aL b)
    | some x=>exact Nat.succ_le_succ (h x (ah f))
  have:=QhE (i+1) _ vs e z a
  rw[av];omega
def QkQ {n:Nat}{e:List DAr}(g:∀a∈e,InR n a):∀{f k b:Nat} {c d:List BA},goS n e f k c=some d→(∀z∈c,z.size≤b)→∀z∈d,z.size≤b+n*f
 | 0,_,b,c,d,h,hb=>by rw[goS] at h;cases h;exact hb
 | f+1,k,b,c,d,h,hb=>fun z i=>by
  rw[goS] at h
  split at h
  ·have j:=QkQ g h (QhE 0 c _ hb) z i
   have l:=Qwa g (k:Int)
   rw[Nat.mul_add];omega
  ·cases h
section
variable [∀s,Decidable (StgOk s)]{s:ZF}
def Qip (h:(sgV s).2=true):∀z∈(sgV s).1.2.1,z.size≤2400:=by
 unfold sgV at h ⊢
 split at h
 ·rename_i d
  rw[if_pos d]
  obtain ⟨k,g,i,_,f,n⟩:=Yt d.1
  split at h
  ·rename_i c j
   intro z a
   have l:=QkQ (V8 f) j (b:=0) (fun z a=>by rw[cV a];exact aP _) z a
   have e:=k.sigs.2.2
   have m:(Qp s).1.1.length*s.2.1.length≤300*8:=cO (by omega) e
   omega
  ·cases h
 ·cases h
def Qt7:(sgV (Qu ⟨#[97]⟩ ⟨#[98]⟩ ⟨#[]⟩ ⟨#[97,43,62,98,43,32,98,43,62,97,45,32,97,45,62,98,45,32,42,98,45,62,97,43]⟩)).2=true:=by rw[QAt];exact QAu
end
def VO (code:List UInt8)(at_:Int)(sd:Int)[∀s,Decidable (StgOk s)][∀s,Decidable (Xn s)](u:0≤at_∧at_≤800000000):FC prog 93 [(false,[.ptr 0 0])] [bx 0 86 [.dat QP code,dI at_,.val (.int .u64 sd)]] 1 (Ex (fun x:DSg×Int×Int=>((1≤x.1.2.1.length∧x.1.2.1.length≤300)∧x.1.1.length≤8∧∀z∈x.1.2.1,ByteArray.size z≤2400)∧(at_≤x.2.1∧x.2.1≤at_+80)) (fun x:DSg×Int×Int=>ag [.ref 1,.ref 2,.ref 3]) (fun x:DSg×Int×Int=>[bx 0 86 [.dat QP code,dI x.2.1,.val (.int .u64 x.2.2)],ar 1 103 QG x.1.1,ar 2 9 .str x.1.2.1,ar 3 139 Yi x.1.2.2])):=by
 refine Ql func93 rfl rfl ntmps93 fun r f q i t l j=>w_ ?_
 refine lc (xal 1 UB Yq)<|w6 ?_
 refine Qy (fun g h=>∃(k:Nat) (c:Int) (a:Int),k≤4∧g=4 - k∧(at_≤c∧c≤at_+20*k)∧h=⟨[(0,lP 0 0),(2,lP 1 0),(3,lI (k:Int))],[bx 0 86 [.dat QP code,dI c,.val (.int .u64 a)],bx 1 28 [.val (.slice none 0 0),.val (.slice none 0 0),.val (.slice none 0 0)]]⟩) ⟨0,at_,sd,aL _,rfl,by omega,rfl⟩ ?_ ?_
 exact wo []
 rintro g h ⟨k,c,a,n,o,v,rfl⟩
 refine w5 ?_
 cases d:(decide ((k:Int)<4))
 have e:=ab d
 refine w4 ?_
 refine lc (dG 2 (QK (⟨#[97]⟩:BA) (⟨#[98]⟩:BA) (⟨#[]⟩:BA) (⟨#[97,43,62,98,43,32,98,43,62,97,45,32,97,45,62,98,45,32,42,98,45,62,97,43]⟩:BA) (by decide+kernel) (by decide+kernel)) Zi)<|lc (Y0 5 (Q2 (Qu (⟨#[97]⟩:BA) (⟨#[98]⟩:BA) (⟨#[]⟩:BA) (⟨#[97,43,62,98,43,32,98,43,62,97,45,32,97,45,62,98,45,32,42,98,45,62,97,43]⟩:BA))) XD ⟨_,_,rfl,(Hd (Qm rfl) ⟨_,_,rfl,.inl rfl,⟨_,_,rfl,.inr ⟨_,_,_,_,rfl,rfl,rfl⟩,⟨_,_,rfl,.inr ⟨_,_,_,_,rfl,rfl,rfl⟩,⟨_,_,rfl,.inr ⟨_,_,_,_,rfl,rfl,rfl⟩,⟨_,_,rfl,.inl rfl,rfl⟩⟩⟩⟩⟩),rfl⟩ rfl rfl rfl ⟨Fresh.of rfl,Fresh.of rfl,Fresh.of rfl,trivial⟩ (nlr rfl))<|w3 ?_
 refine lc (xal 8 UB Yq)<|w8 ?_
 subst f
 refine QZ (x:=((((sgV (Qu (⟨#[97]⟩:BA) (⟨#[98]⟩:BA) (⟨#[]⟩:BA) (⟨#[97,43,62,98,43,32,98,43,62,97,45,32,97,45,62,98,45,32,42,98,45,62,97,43]⟩:BA))).1).1,(((sgV (Qu (⟨#[97]⟩:BA) (⟨#[98]⟩:BA) (⟨#[]⟩:BA) (⟨#[97,43,62,98,43,32,98,43,62,97,45,32,97,45,62,98,45,32,42,98,45,62,97,43]⟩:BA))).1).2.1,((sgV (Qu (⟨#[97]⟩:BA) (⟨#[98]⟩:BA) (⟨#[]⟩:BA) (⟨#[97,43,62,98,43,32,98,43,62,97,45,32,97,45,62,98,45,32,42,98,45,62,97,43]⟩:BA))).1).2.2)),(c,a))) [(0,0),(1,5),(2,6),(3,7)] ?_ (Res.one rfl (Rs.cell rfl rfl Yc rfl)) rfl ⟨rfl,rfl,rfl,rfl,trivial⟩ rfl rfl
 exact ⟨⟨(QgT Qt7).some_,(QgT Qt7).sig8,Qip Qt7⟩,by dsimp only;omega⟩
 have e:=aa d
 refine w6 ?_
 refine Z7 9 [(0,0)] (Qcj code c a (by omega)) QmI e1_ ⟨rfl,trivial⟩ rfl (fun _=>rfl) (fun _=>⟨trivial,(Fresh.of rfl),(Fresh.of rfl),(Fresh.of rfl),trivial⟩) (nlr rfl) fun b p=>lc (Y0 13 (Q2 b.1) XD ⟨_,_,rfl,(Hd (Qm rfl) ⟨_,_,rfl,.inl rfl,⟨_,_,rfl,.inr ⟨_,_,_,_,rfl,rfl,rfl⟩,⟨_,_,rfl,.inr ⟨_,_,_,_,rfl,rfl,rfl⟩,⟨_,_,rfl,.inr ⟨_,_,_,_,rfl,rfl,rfl⟩,⟨_,_,rfl,.inl rfl,rfl⟩⟩⟩⟩⟩),rfl⟩ rfl rfl rfl ⟨Fresh.of rfl,Fresh.of rfl,Fresh.of rfl,trivial⟩ (nlr rfl))<|w3 ?_
 refine lc (xal 16 UB Yq)<|w6 ?_
 cases m:((sgV b.1).2)
 refine w7 ?_
 exact Qc<|Zb ⟨k+1,b.2.1,b.2.2,by omega,rfl,(by omega),rfl⟩ (by omega)<|wo []
 refine w6 ?_
 subst f
 refine QZ (x:=((((sgV b.1).1).1,(((sgV b.1).1).2.1,((sgV b.1).1).2.2)),(b.2.1,b.2.2))) [(0,0),(1,13),(2,14),(3,15)] ?_ (Res.one rfl (Rs.cell rfl rfl Yc rfl)) rfl ⟨rfl,rfl,rfl,rfl,trivial⟩ rfl rfl
 exact ⟨⟨(QgT ‹_›).some_,(QgT ‹_›).sig8,Qip ‹_›⟩,by dsimp only;omega⟩
def Jq (code:List UInt8)(at_:Int)(sd:Int)[∀s,Decidable (StgOk s)][∀s,Decidable (Xn s)](F:0≤at_∧at_≤700000000):FC prog 119 [(false,[.ptr 0 0])] [bx 0 86 [.dat QP code,dI at_,.val (.int .u64 sd)]] 1 (Ex (fun x:DSg×Int×Int=>x.1.1.length≤8∧(1≤x.1.2.1.length∧x.1.2.1.length≤301)∧(at_≤x.2.1∧x.2.1≤at_+120)) (fun x:DSg×Int×Int=>ag [.dat Qj x.1.1,.dat Qd x.1.2.1,.dat Qq x.1.2.2]) (fun x:DSg×Int×Int=>[bx 0 86 [.dat QP code,dI x.2.1,.val (.int .u64 x.2.2)]])):=by
 refine Ql func119 rfl rfl ntmps119 fun D j C r E u t=>w_ ?_
 refine lc (xal 1 UB Yq)<|w3 ?_
 refine Z7 2 [(0,0)] (VO code at_ sd (by omega)) QhU e1_ ⟨rfl,trivial⟩ rfl (fun _=>rfl) (fun _=>⟨trivial,(Fresh.of rfl),(Fresh.of rfl),(Fresh.of rfl),trivial⟩) (nlr rfl) fun a B=>lc (xal 6 UB Yq)<|w5 ?_
 have A:=ZQ code a.2.1 a.2.2 20
 refine lc (dP 7 [] (QF code a.2.1 a.2.2 20 (by omega)) Zs)<|w6 ?_
 refine cd_ (fun _ _=> ?_) fun _ _=> ?_
 refine w4 ?_
 refine cd_ (fun _ _=> ?_) fun _ _=> ?_
 refine w4 ?_
 refine cd_ (fun _ _=> ?_) fun _ _=> ?_
 refine w4 ?_
 refine cd_ (fun _ _=> ?_) fun _ _=> ?_
 refine w2 ?_
 refine Q5<|AC.wk (QA (p:=6) (off:=0) (q:=3) rfl rfl rfl)<|AC.wk (QA (p:=6) (off:=1) (q:=4) rfl rfl rfl)<|AC.wk (QA (p:=6) (off:=2) (q:=5) rfl rfl rfl)<|w5 ?_
 subst j
 refine QZ (x:=((a.1.1,(a.1.2.1,a.1.2.2)),((pkA 20 a.2.1),(pkS code a.2.1 a.2.2 20)))) [(0,0)] ?_ (Res.one rfl (Rs.cell rfl rfl Yc rfl)) rfl ⟨rfl,trivial⟩ rfl rfl
 (dsimp only;omega)
 refine w6 ?_
 refine cd_ (fun _ _=> ?_) fun _ _=> ?_
 refine w2 ?_
 refine Q5<|AC.wk (QA (p:=6) (off:=0) (q:=3) rfl rfl rfl)<|AC.wk (QA (p:=6) (off:=1) (q:=4) rfl rfl rfl)<|AC.wk (QA (p:=6) (off:=2) (q:=5) rfl rfl rfl)<|w5 ?_
 subst j
 refine QZ (x:=((a.1.1,(a.1.2.1,a.1.2.2)),((pkA 20 a.2.1),(pkS code a.2.1 a.2.2 20)))) [(0,0)] ?_ (Res.one rfl (Rs.cell rfl rfl Yc rfl)) rfl ⟨rfl,trivial⟩ rfl rfl
 (dsimp only;omega)
 obtain ⟨f,h⟩:=gx a.1.2.2 0
 apply dV (i4 49 _ _ _ _ [io 53 (lf (.ept 5 4 0 0)),io 54 (lf (.ept 5 4 0 2)),io 55 (lB f.2.2.1),io 56 _,io 57 (lf (.ept 5 4 0 0)),io 58 (lf (.ept 5 4 0 2)),⟨none,lf (.val undef),[ar 5 139 Yi (a.1.2.2.set 0 (f.1,f.2.1,!f.2.2.1,f.2.2.2))]⟩]) [0,0,3,3,3,3,3,3,0,0,0]
 refine z4 ?_
 refine zz (fun _ b=>ac (Qw (e:=Yi) (b.v rfl) (b.en 5 rfl) (Qn rfl) Qom QjR rfl (by omega) (by first|omega|(simp only[ax];omega))) rfl)<|zz (fun _ b=>ac (Zd (b.v rfl) Qh1 (by rw[(b.en 5 rfl)];rfl) rfl) rfl)<|zz (fun _ b=>ac (ZE (e:=Yi) (b.v rfl) (b.n 5 rfl) h rfl U1 rfl rfl) rfl)<|z_ ?_
 exact zz (fun _ b=>ac (Qw (e:=Yi) (b.v rfl) (b.en 5 rfl) (Qn rfl) Qom QjR rfl (by omega) (by first|omega|(simp only[ax];omega))) rfl)<|zz (fun _ b=>ac (Zd (b.v rfl) Qh1 (by rw[(b.en 5 rfl)];rfl) rfl) rfl)<|zz (fun _ b=>ac (QO (e:=Yi) (z':=(f.1,f.2.1,!f.2.2.1,f.2.2.2)) (b.v rfl) (b.n 5 rfl) h rfl (b.w rfl) rfl U1 rfl rfl) rfl)<|zN
 refine w_ ?_
 refine Q5<|AC.wk (QA (p:=6) (off:=0) (q:=3) rfl rfl rfl)<|AC.wk (QA (p:=6) (off:=1) (q:=4) rfl rfl rfl)<|AC.wk (QA (p:=6) (off:=2) (q:=5) rfl rfl rfl)<|w5 ?_
 subst j
 refine QZ (x:=((a.1.1,(a.1.2.1,a.1.2.2.set 0 (f.1,f.2.1,!f.2.2.1,f.2.2.2))),((pkA 20 a.2.1),(pkS code a.2.1 a.2.2 20)))) [(0,0)] ?_ (Res.one rfl (Rs.cell rfl rfl Yc rfl)) rfl ⟨rfl,trivial⟩ rfl rfl
 (dsimp only;omega)
 obtain ⟨g,k⟩:=gx a.1.2.1 0
 apply dV (i4 34 _ _ _ _ [io 38 (lf (.ept 4 1 0 0)),io 39 (lf (dS g)),⟨some 40,lR 8,[ar 8 9 .str ([g])]⟩,⟨some 41,lR 9,[ar 9 9 .str (a.1.2.1++([g])),(4,none),(8,none)]⟩,io 42 _,⟨none,lf (.val undef),[bx 6 28 [.ref 3,.ref 9,.ref 5]]⟩]) [0,0,3,3,3,3,3,0,0,0]
 refine z4 ?_
 refine zz (fun _ b=>ac (Qw (e:= .str) (b.v rfl) (b.en 4 rfl) (Qn rfl) Vd Wv rfl (by omega) (by first|omega|(simp only[ax];omega))) rfl)<|zz (fun _ b=>ac (ZE (e:= .str) (b.v rfl) (b.n 4 rfl) k rfl Wv rfl rfl) rfl)<|zz (fun _ b=>ac (dBs 8 (e:= .str) Wd) rfl)<|zz (fun _ b=>ac (dA 9 Ub (hb:=by (simp only[av,aB];omega))) rfl)<|z_ ?_
 exact zz (fun _ b=>ac (QR (b.v rfl) (b.en 6 rfl) (b.w rfl) (by simp only[QH,Xh,aV,bo];rw[(b.en 9 rfl)];rfl) QdE rfl) rfl)<|zN
 refine w_ ?_
 refine Q5<|AC.wk (QA (p:=6) (off:=0) (q:=3) rfl rfl rfl)<|AC.wk (QA (p:=6) (off:=1) (q:=9) rfl rfl rfl)<|AC.wk (QA (p:=6) (off:=2) (q:=5) rfl rfl rfl)<|w5 ?_
 subst j
 refine QZ (x:=((a.1.1,(a.1.2.1++([g]),a.1.2.2)),((pkA 20 a.2.1),(pkS code a.2.1 a.2.2 20)))) [(0,0)] ?_ (Res.one rfl (Rs.cell rfl rfl Yc rfl)) rfl ⟨rfl,trivial⟩ rfl rfl
 (dsimp only;simp only[ai,ax,av,aB];omega)
 refine w6 ?_
 refine cd_ (fun _ _=> ?_) fun _ _=> ?_
 refine w2 ?_
 refine Q5<|AC.wk (QA (p:=6) (off:=0) (q:=3) rfl rfl rfl)<|AC.wk (QA (p:=6) (off:=1) (q:=4) rfl rfl rfl)<|AC.wk (QA (p:=6) (off:=2) (q:=5) rfl rfl rfl)<|w5 ?_
 subst j
 refine QZ (x:=((a.1.1,(a.1.2.1,a.1.2.2)),((pkA 20 a.2.1),(pkS code a.2.1 a.2.2 20)))) [(0,0)] ?_ (Res.one rfl (Rs.cell rfl rfl Yc rfl)) rfl ⟨rfl,trivial⟩ rfl rfl
 (dsimp only;omega)
 have m:=ZQ code (pkA 20 a.2.1) (pkS code a.2.1 a.2.2 20) 9
 obtain ⟨d,l⟩:=gx a.1.2.2 0
 apply dV (i3 25 _ _ _ [⟨some 28,lI (pkV code (pkA 20 a.2.1) (pkS code a.2.1 a.2.2 20) 9),[bx 0 86 [.dat QP code,dI (pkA 9 (pkA 20 a.2.1)),.val (.int .u64 (pkS code (pkA 20 a.2.1) (pkS code a.2.1 a.2.2 20) 9))],(0,none)]⟩,io 29 _,io 30 (lf (.ept 5 4 0 0)),io 31 (lf (.ept 5 4 0 3)),⟨none,lf (.val undef),[ar 5 139 Yi (a.1.2.2.set 0 (d.1,d.2.1,d.2.2.1,(pkV code (pkA 20 a.2.1) (pkS code a.2.1 a.2.2 20) 9) - 1))]⟩]) [0,0,3,3,3,0,0,0]
 refine z3 ?_
 refine zz (fun _ b=>ac (dP 10 [] (QF code (pkA 20 a.2.1) (pkS code a.2.1 a.2.2 20) 9 (by omega)) Zs) rfl)<|z_ ?_
 exact zz (fun _ b=>ac (Qw (e:=Yi) (b.v rfl) (b.en 5 rfl) (Qn rfl) Qom QjR rfl (by omega) (by first|omega|(simp only[ax];omega))) rfl)<|zz (fun _ b=>ac (Zd (b.v rfl) Qrr (by rw[(b.en 5 rfl)];rfl) rfl) rfl)<|zz (fun _ b=>ac (QO (e:=Yi) (z':=(d.1,d.2.1,d.2.2.1,(pkV code (pkA 20 a.2.1) (pkS code a.2.1 a.2.2 20) 9) - 1)) (b.v rfl) (b.n 5 rfl) l rfl (b.w rfl) rfl Zv rfl rfl) rfl)<|zN
 refine w_ ?_
 refine Q5<|AC.wk (QA (p:=6) (off:=0) (q:=3) rfl rfl rfl)<|AC.wk (QA (p:=6) (off:=1) (q:=4) rfl rfl rfl)<|AC.wk (QA (p:=6) (off:=2) (q:=5) rfl rfl rfl)<|w5 ?_
 subst j
 refine QZ (x:=((a.1.1,(a.1.2.1,a.1.2.2.set 0 (d.1,d.2.1,d.2.2.1,(pkV code (pkA 20 a.2.1) (pkS code a.2.1 a.2.2 20) 9) - 1))),((pkA 9 (pkA 20 a.2.1)),(pkS code (pkA 20 a.2.1) (pkS code a.2.1 a.2.2 20) 9)))) [(0,0)] ?_ (Res.one rfl (Rs.cell rfl rfl Yc rfl)) rfl ⟨rfl,trivial⟩ rfl rfl
 (dsimp only;omega)
 obtain ⟨c,i⟩:=gx a.1.2.1 0
 have o:=QBO code (⟨#[48,49,50]⟩:BA) c (pkA 20 a.2.1) (pkS code a.2.1 a.2.2 20)
 apply dV (i5 10 _ _ _ _ _ [io 15 (lf (.ept 4 1 0 0)),io 16 (lf (dS c)),⟨some 17,lf (dS ((spV code (⟨#[48,49,50]⟩:BA) c (pkA 20 a.2.1) (pkS code a.2.1 a.2.2 20)).1)),[bx 0 86 [.dat QP code,dI ((spV code (⟨#[48,49,50]⟩:BA) c (pkA 20 a.2.1) (pkS code a.2.1 a.2.2 20)).2.1),.val (.int .u64 ((spV code (⟨#[48,49,50]⟩:BA) c (pkA 20 a.2.1) (pkS code a.2.1 a.2.2 20)).2.2))],(0,none)]⟩,io 18 (lf (.ept 4 1 0 0)),⟨none,lf (.val undef),[ar 4 9 .str (a.1.2.1.set 0 ((spV code (⟨#[48,49,50]⟩:BA) c (pkA 20 a.2.1) (pkS code a.2.1 a.2.2 20)).1))]⟩]) [0,0,3,7,7,7,7,3,0,0]
 refine z5 ?_
 exact zz (fun _ b=>ac (Qw (e:= .str) (b.v rfl) (b.en 4 rfl) (Qn rfl) Vd Wv rfl (by omega) (by first|omega|(simp only[ax];omega))) rfl)<|zz (fun _ b=>ac (ZE (e:= .str) (b.v rfl) (b.n 4 rfl) i rfl Wv rfl rfl) rfl)<|zz (fun _ b=>ac (dP 11 [] (HD code (pkA 20 a.2.1) (pkS code a.2.1 a.2.2 20) c (⟨#[48,49,50]⟩:BA) (by omega) (by have b:=‹(_∧_∧∀z∈_,ByteArray.size z≤2400)∧_›;have y:=b.1.2.2 _ (ah ‹_›);exact ⟨by omega,by decide⟩)) QmQ) rfl)<|zz (fun _ b=>ac (Qw (e:= .str) (b.v rfl) (b.en 4 rfl) (Qn rfl) Vd Wv rfl (by omega) (by first|omega|(simp only[ax];omega))) rfl)<|zz (fun _ b=>ac (QO (e:= .str) (z':=(spV code (⟨#[48,49,50]⟩:BA) c (pkA 20 a.2.1) (pkS code a.2.1 a.2.2 20)).1) (b.v rfl) (b.n 4 rfl) i rfl (b.w rfl) rfl Wv rfl rfl) rfl)<|zN
 refine w_ ?_
 refine Q5<|AC.wk (QA (p:=6) (off:=0) (q:=3) rfl rfl rfl)<|AC.wk (QA (p:=6) (off:=1) (q:=4) rfl rfl rfl)<|AC.wk (QA (p:=6) (off:=2) (q:=5) rfl rfl rfl)<|w5 ?_
 subst j
 refine QZ (x:=((a.1.1,(a.1.2.1.set 0 ((spV code (⟨#[48,49,50]⟩:BA) c (pkA 20 a.2.1) (pkS code a.2.1 a.2.2 20)).1),a.1.2.2)),(((spV code (⟨#[48,49,50]⟩:BA) c (pkA 20 a.2.1) (pkS code a.2.1 a.2.2 20)).2.1),((spV code (⟨#[48,49,50]⟩:BA) c (pkA 20 a.2.1) (pkS code a.2.1 a.2.2 20)).2.2)))) [(0,0)] ?_ (Res.one rfl (Rs.cell rfl rfl Yc rfl)) rfl ⟨rfl,trivial⟩ rfl rfl
 (dsimp only;simp only[ai,ax,av,aB];omega)
end Go.Proofs.YtjfpbcmfbnnooaaGreat
