/- Walks over abstract states: what an ordering costs, the best ordering, both sides. -/
import Derived.Test.YtgpdhgadmjfokaaGreatBCj
import Derived.Test.YtgpdhgadmjfokaaGreatBWk
import Derived.Test.YtgpdhgadmjfokaaGreatBUg
import Derived.Test.YtgpdhgadmjfokaaGreatBEb
import Derived.Test.YtgpdhgadmjfokaaGreatBCb
import Derived.Test.YtgpdhgadmjfokaaGreatBBu
import Derived.Test.YtgpdhgadmjfokaaGreatBBe
set_option linter.unusedSimpArgs false
set_option linter.unusedVariables false
set_option linter.unusedSectionVars false
namespace Go.Proofs.YtgpdhgadmjfokaaGreat
open Go.RowKit
set_option maxRecDepth 100000
set_option maxHeartbeats 4000000
theorem Qn2 {n:Nat}{a:List DAr}:∀{f k:Nat} {c d:List ByteArray},goS n a f k c=some d→d.length=c.length
 | 0,_,c,d,h=>by rw[goS] at h; cases h; rfl
 | f+1,k,c,d,h=>by
  rw[goS] at h
  split at h
  ·rw[Qn2 h,QjI]
  ·cases h
section
variable [∀s,Decidable (StgOk s)]{s:Q5}{o x:QK}{k:Nat}{l:List QK}
theorem Qnk (h:(sgV s).2=true):SgW (sgV s).1:=by
 unfold sgV at h ⊢
 split at h
 ·rename_i d
  rw[if_pos d]
  obtain ⟨i,m,n,_,e,u⟩:=Yq d.1
  split at h
  ·rename_i c p
   have g:=Qn2 p
   rw[aF] at g
   refine ⟨i.sigs.2.2,⟨by show 1≤c.length; omega,by show c.length≤300; omega⟩, ?_, ?_⟩
   ·show (QP _ _).length≤_
    unfold QP
    rw[aC]; omega
   ·intro a f
    refine ⟨?_, ?_⟩
    ·show InR c.length a
     rw[g]; exact VP e a f
    ·obtain ⟨v,q,rfl⟩:=aR.1 f
     obtain ⟨_,⟨r,t⟩,_⟩:=e v q
     obtain ⟨l,b⟩:∃l,s.2.2.1[v.2.1.toNat]? =some l:=⟨_,ak (by omega)⟩
     have j:=i.labs l (ah b)
     show Ka (s.2.1.length:Int) ((QeJ s.2.2.1 v.2.1).1,(QeJ s.2.2.1 v.2.1).2)
     rw[Qhy b]; exact j
  ·cases h
 ·cases h
def ocG (s:Q5)(o:QK):DSg:=(sgV (H6 s o)).1
def oc1 (s:Q5)(o:QK):Int:=((Zt (ocG s o)).length:Int)
def oc2 (s:Q5)(o:QK):Int:=((ocG s o).2.1.length:Int)
def ocB (s:Q5)(o:QK):Bool:=(Qv5 s).any fun y=>decide (o=y)
def ox1 (s:Q5)(o:QK):Int:=if ocB s o=true then oc1 s o else 0
def ox2 (s:Q5)(o:QK):Int:=if ocB s o=true then oc2 s o else 0
def QyQ (s:Q5)(a:QK×Int×Int)(o:QK):QK×Int×Int:=
 if a.2.1 < 0∨oc1 s o < a.2.1∨(oc1 s o=a.2.1∧a.2.2 < oc2 s o) then (o,oc1 s o,oc2 s o) else a
def Qsa (s:Q5)(l:List QK):QK×Int×Int:=l.foldl (QyQ s) ((0,0,false), -1,0)
def BeS (s:Q5)(l:List QK)(k:Nat)(b:QK)(c t:Int):Prop:=Qsa s (l.take k)=(b,c,t)
def BeI (s:Q5)(l:List QK)(k:Nat)(b:QK)(c t:Int):Prop:=Qsa s (l.take k)=(b,if k=0 then -1 else c,t)∧(k=0→c=0)
def boV (s:Q5):QK:=(Qsa s (Qv5 s)).1
def boB (s:Q5):Bool:=decide (0 < ((Qv5 s).length:Int))
end
end Go.Proofs.YtgpdhgadmjfokaaGreat
namespace Go.Proofs.YtgpdhgadmjfokaaGreat
open Go.RowKit
set_option maxRecDepth 100000
set_option maxHeartbeats 4000000
theorem QgW {b:Nat}:∀(i:Nat) (c:List ByteArray) (vs:List UInt8),(∀z∈c,z.size≤b)→∀z∈UI i c vs,z.size≤b+vs.length
 | _,_,[],h=>by rw[UI]; exact fun z a=>bl (h z a) (Nat.le_add_right ..)
 | i,c,v :: vs,h=>fun z a=>by
  rw[UI] at a
  have e:∀z∈c.set i ((c[i]?).getD ByteArray.empty++⟨#[v]⟩),z.size≤b+1:=fun z a=>by
   rcases cu a with d | d
   ·exact da (h z d)
   ·rw[d,aX]
    show _+1≤b+1
    cases f:c[i]? with
    | none=>exact Nat.succ_le_succ (aS b)
    | some x=>exact Nat.succ_le_succ (h x (ah f))
  have:=QgW (i+1) _ vs e z a
  rw[aj]; omega
theorem QiR {n:Nat}{e:List DAr}(g:∀a∈e,InR n a):∀{f k b:Nat} {c d:List ByteArray},goS n e f k c=some d→(∀z∈c,z.size≤b)→∀z∈d,z.size≤b+n*f
 | 0,_,b,c,d,h,hb=>by rw[goS] at h; cases h; exact hb
 | f+1,k,b,c,d,h,hb=>fun z i=>by
  rw[goS] at h
  split at h
  ·have j:=QiR g h (QgW 0 c _ hb) z i
   have l:=Qq6 g (k:Int)
   rw[Nat.mul_add]; omega
  ·cases h
section
variable [∀s,Decidable (StgOk s)]{s:Q5}
theorem QgD (h:(sgV s).2=true):∀z∈(sgV s).1.2.1,z.size≤2400:=by
 unfold sgV at h ⊢
 split at h
 ·rename_i d
  rw[if_pos d]
  obtain ⟨k,g,i,_,f,n⟩:=Yq d.1
  split at h
  ·rename_i c j
   intro z a
   have l:=QiR (VP f) j (b:=0) (fun z a=>by rw[cW a]; exact aO _) z a
   have e:=k.sigs.2.2
   have m:(Qq s).1.1.length*s.2.1.length≤300*8:=Nat.mul_le_mul (by omega) e
   omega
  ·cases h
 ·cases h
theorem Qrx:(sgV (QJ ⟨#[97]⟩ ⟨#[98]⟩ ⟨#[]⟩ ⟨#[97,43,62,98,43,32,98,43,62,97,45,32,97,45,62,98,45,32,42,98,45,62,97,43]⟩)).2=true:=by rw[Qwp]; exact Qwe
end
theorem HI (code:List UInt8)(at_:Int)(sd:Int)[∀s,Decidable (StgOk s)][∀s,Decidable (XR s)](u:0≤at_∧at_≤800000000):FC Tryz.prog 190 [(false,[.ptr 0 0])] [bx 0 119 [.dat ZQ code,dI at_, .val (.int .u64 sd)]] 1 (Ex (fun x:DSg×Int×Int=>((1≤x.1.2.1.length∧x.1.2.1.length≤300)∧x.1.1.length≤8∧∀z∈x.1.2.1,ByteArray.size z≤2400)∧(at_≤x.2.1∧x.2.1≤at_+80)) (fun x:DSg×Int×Int=>ag [.ref 1, .ref 2, .ref 3]) (fun x:DSg×Int×Int=>[bx 0 119 [.dat ZQ code,dI x.2.1, .val (.int .u64 x.2.2)],ar 1 44 Qz x.1.1,ar 2 9 .str x.1.2.1,ar 3 46 Qs x.1.2.2])):=by
 refine Qt Tryz.func190 rfl rfl Tryz.ntmps190 fun r f q i t l j=> ?_
 refine w_ ?_
 refine lc (xal 1 X2 ZC) ?_
 refine w6 ?_
 refine QL (fun g h=>∃(k:Nat) (c:Int) (a:Int),k≤4∧g=4 - k∧(at_≤c∧c≤at_+20*k)∧h=⟨[(0,lP 0 0),(2,lP 1 0),(3,lI (k:Int))],[bx 0 119 [.dat ZQ code,dI c, .val (.int .u64 a)],bx 1 27 [.val (.slice none 0 0), .val (.slice none 0 0), .val (.slice none 0 0)]]⟩) ⟨0,at_,sd,aS _,rfl,by omega,rfl⟩ ?_ ?_
 exact wo []
 rintro g h ⟨k,c,a,n,o,v,rfl⟩
 refine w5 ?_
 cases d:(decide ((k:Int) < 4))
 have e:=aa d
 refine w4 ?_
 refine lc (dG 2 (QY (⟨#[97]⟩:ByteArray) (⟨#[98]⟩:ByteArray) (⟨#[]⟩:ByteArray) (⟨#[97,43,62,98,43,32,98,43,62,97,45,32,97,45,62,98,45,32,42,98,45,62,97,43]⟩:ByteArray) (by decide+kernel) (by decide+kernel)) ZX) ?_
 refine lc (Uk 5 (Wf (QJ (⟨#[97]⟩:ByteArray) (⟨#[98]⟩:ByteArray) (⟨#[]⟩:ByteArray) (⟨#[97,43,62,98,43,32,98,43,62,97,45,32,97,45,62,98,45,32,42,98,45,62,97,43]⟩:ByteArray))) Qfh ⟨_,_,rfl,(XI (Qo rfl) ⟨_,_,rfl, .inl rfl,⟨_,_,rfl, .inr ⟨_,_,_,_,rfl,rfl,rfl⟩,⟨_,_,rfl, .inr ⟨_,_,_,_,rfl,rfl,rfl⟩,⟨_,_,rfl, .inr ⟨_,_,_,_,rfl,rfl,rfl⟩,⟨_,_,rfl, .inl rfl,rfl⟩⟩⟩⟩⟩),rfl⟩ rfl rfl rfl ⟨Fresh.of rfl,Fresh.of rfl,Fresh.of rfl,trivial⟩ (nlr rfl)) ?_
 refine w3 ?_
 refine lc (xal 8 X2 ZC) ?_
 refine w8 ?_
 subst f
 refine Zu (x:=((((sgV (QJ (⟨#[97]⟩:ByteArray) (⟨#[98]⟩:ByteArray) (⟨#[]⟩:ByteArray) (⟨#[97,43,62,98,43,32,98,43,62,97,45,32,97,45,62,98,45,32,42,98,45,62,97,43]⟩:ByteArray))).1).1,(((sgV (QJ (⟨#[97]⟩:ByteArray) (⟨#[98]⟩:ByteArray) (⟨#[]⟩:ByteArray) (⟨#[97,43,62,98,43,32,98,43,62,97,45,32,97,45,62,98,45,32,42,98,45,62,97,43]⟩:ByteArray))).1).2.1,((sgV (QJ (⟨#[97]⟩:ByteArray) (⟨#[98]⟩:ByteArray) (⟨#[]⟩:ByteArray) (⟨#[97,43,62,98,43,32,98,43,62,97,45,32,97,45,62,98,45,32,42,98,45,62,97,43]⟩:ByteArray))).1).2.2)),(c,a))) [(0,0),(1,5),(2,6),(3,7)] ?_ (Res.one rfl (Rs.cell rfl rfl YL rfl)) rfl ⟨rfl,rfl,rfl,rfl,trivial⟩ rfl rfl
 exact ⟨⟨(Qnk Qrx).some_,(Qnk Qrx).sig8,QgD Qrx⟩,by dsimp only; omega⟩
 have e:=ab d
 refine w6 ?_
 refine Wv 9 [(0,0)] (Qa2 code c a (by omega)) Qmx e1_ ⟨rfl,trivial⟩ rfl (fun _=>rfl) (fun _=>⟨trivial,(Fresh.of rfl),(Fresh.of rfl),(Fresh.of rfl),trivial⟩) (nlr rfl) fun b p=>lc (Uk 13 (Wf b.1) Qfh ⟨_,_,rfl,(XI (Qo rfl) ⟨_,_,rfl, .inl rfl,⟨_,_,rfl, .inr ⟨_,_,_,_,rfl,rfl,rfl⟩,⟨_,_,rfl, .inr ⟨_,_,_,_,rfl,rfl,rfl⟩,⟨_,_,rfl, .inr ⟨_,_,_,_,rfl,rfl,rfl⟩,⟨_,_,rfl, .inl rfl,rfl⟩⟩⟩⟩⟩),rfl⟩ rfl rfl rfl ⟨Fresh.of rfl,Fresh.of rfl,Fresh.of rfl,trivial⟩ (nlr rfl)) ?_
 refine w3 ?_
 refine lc (xal 16 X2 ZC) ?_
 refine w6 ?_
 cases m:((sgV b.1).2)
 refine w7 ?_
 refine Qb<|Q2 ⟨k+1,b.2.1,b.2.2,by omega,rfl,(by omega),rfl⟩ (by omega) ?_
 exact wo []
 refine w6 ?_
 subst f
 refine Zu (x:=((((sgV b.1).1).1,(((sgV b.1).1).2.1,((sgV b.1).1).2.2)),(b.2.1,b.2.2))) [(0,0),(1,13),(2,14),(3,15)] ?_ (Res.one rfl (Rs.cell rfl rfl YL rfl)) rfl ⟨rfl,rfl,rfl,rfl,trivial⟩ rfl rfl
 exact ⟨⟨(Qnk ‹_›).some_,(Qnk ‹_›).sig8,QgD ‹_›⟩,by dsimp only; omega⟩
theorem Kx (code:List UInt8)(at_:Int)(sd:Int)[∀s,Decidable (StgOk s)][∀s,Decidable (XR s)](F:0≤at_∧at_≤700000000):FC Tryz.prog 86 [(false,[.ptr 0 0])] [bx 0 119 [.dat ZQ code,dI at_, .val (.int .u64 sd)]] 1 (Ex (fun x:DSg×Int×Int=>x.1.1.length≤8∧x.1.2.1.length≤301∧(at_≤x.2.1∧x.2.1≤at_+120)) (fun x:DSg×Int×Int=>ag [.dat Ql x.1.1, .dat Qm x.1.2.1, .dat Qu x.1.2.2]) (fun x:DSg×Int×Int=>[bx 0 119 [.dat ZQ code,dI x.2.1, .val (.int .u64 x.2.2)]])):=by
 refine Qt Tryz.func86 rfl rfl Tryz.ntmps86 fun D j C r E u t=> ?_
 refine w_ ?_
 refine lc (xal 1 X2 ZC) ?_
 refine w3 ?_
 refine Wv 2 [(0,0)] (HI code at_ sd (by omega)) QkV e1_ ⟨rfl,trivial⟩ rfl (fun _=>rfl) (fun _=>⟨trivial,(Fresh.of rfl),(Fresh.of rfl),(Fresh.of rfl),trivial⟩) (nlr rfl) fun a B=>lc (xal 6 X2 ZC) ?_
 refine w5 ?_
 have A:=Vu code a.2.1 a.2.2 20
 refine lc (dP 7 [] (Zr code a.2.1 a.2.2 20 (by omega)) Xl) ?_
 refine w6 ?_
 refine cd_ (fun _ _=> ?_) fun _ _=> ?_
 refine w4 ?_
 refine cd_ (fun _ _=> ?_) fun _ _=> ?_
 refine w4 ?_
 refine cd_ (fun _ _=> ?_) fun _ _=> ?_
 refine w4 ?_
 refine cd_ (fun _ _=> ?_) fun _ _=> ?_
 refine w2 ?_
 refine Yo<|AC.wk (Q6 (p:=6) (off:=0) (q:=3) rfl rfl rfl)<|AC.wk (Q6 (p:=6) (off:=1) (q:=4) rfl rfl rfl)<|AC.wk (Q6 (p:=6) (off:=2) (q:=5) rfl rfl rfl) ?_
 refine w5 ?_
 subst j
 refine Zu (x:=((a.1.1,(a.1.2.1,a.1.2.2)),((pkA 20 a.2.1),(pkS code a.2.1 a.2.2 20)))) [(0,0)] ?_ (Res.one rfl (Rs.cell rfl rfl YL rfl)) rfl ⟨rfl,trivial⟩ rfl rfl
 (dsimp only; omega)
 refine w6 ?_
 refine cd_ (fun _ _=> ?_) fun _ _=> ?_
 refine w2 ?_
 refine Yo<|AC.wk (Q6 (p:=6) (off:=0) (q:=3) rfl rfl rfl)<|AC.wk (Q6 (p:=6) (off:=1) (q:=4) rfl rfl rfl)<|AC.wk (Q6 (p:=6) (off:=2) (q:=5) rfl rfl rfl) ?_
 refine w5 ?_
 subst j
 refine Zu (x:=((a.1.1,(a.1.2.1,a.1.2.2)),((pkA 20 a.2.1),(pkS code a.2.1 a.2.2 20)))) [(0,0)] ?_ (Res.one rfl (Rs.cell rfl rfl YL rfl)) rfl ⟨rfl,trivial⟩ rfl rfl
 (dsimp only; omega)
 obtain ⟨f,h⟩:=gx a.1.2.2 0
 apply dV (i4 49 _ _ _ _ [io 53 (lf (.ept 5 4 0 0)),io 54 (lf (.ept 5 4 0 2)),io 55 (lB f.2.2.1),io 56 _,io 57 (lf (.ept 5 4 0 0)),io 58 (lf (.ept 5 4 0 2)),⟨none,lf (.val undef),[ar 5 46 Qs (a.1.2.2.set 0 (f.1,f.2.1, !f.2.2.1,f.2.2.2))]⟩]) [0,0,3,3,3,3,3,3,0,0,0]
 refine z4 ?_
 refine zz (fun _ b=>ac (QE (e:=Qs) (b.v rfl) (b.en 5 rfl) (Qp rfl) WM V0 rfl (by omega) (by first | omega | (simp only[az]; omega))) rfl)<|zz (fun _ b=>ac (YU (b.v rfl) Qj7 (by rw[(b.en 5 rfl)]; rfl) rfl) rfl)<|zz (fun _ b=>ac (Q3 (e:=Qs) (b.v rfl) (b.n 5 rfl) h rfl HR rfl rfl) rfl) ?_
 refine z_ ?_
 refine zz (fun _ b=>ac (QE (e:=Qs) (b.v rfl) (b.en 5 rfl) (Qp rfl) WM V0 rfl (by omega) (by first | omega | (simp only[az]; omega))) rfl)<|zz (fun _ b=>ac (YU (b.v rfl) Qj7 (by rw[(b.en 5 rfl)]; rfl) rfl) rfl)<|zz (fun _ b=>ac (QB (e:=Qs) (z':=(f.1,f.2.1, !f.2.2.1,f.2.2.2)) (b.v rfl) (b.n 5 rfl) h rfl (b.w rfl) rfl HR rfl rfl) rfl) ?_
 exact zN
 refine w_ ?_
 refine Yo<|AC.wk (Q6 (p:=6) (off:=0) (q:=3) rfl rfl rfl)<|AC.wk (Q6 (p:=6) (off:=1) (q:=4) rfl rfl rfl)<|AC.wk (Q6 (p:=6) (off:=2) (q:=5) rfl rfl rfl) ?_
 refine w5 ?_
 subst j
 refine Zu (x:=((a.1.1,(a.1.2.1,a.1.2.2.set 0 (f.1,f.2.1, !f.2.2.1,f.2.2.2))),((pkA 20 a.2.1),(pkS code a.2.1 a.2.2 20)))) [(0,0)] ?_ (Res.one rfl (Rs.cell rfl rfl YL rfl)) rfl ⟨rfl,trivial⟩ rfl rfl
 (dsimp only; omega)
 obtain ⟨g,k⟩:=gx a.1.2.1 0
 apply dV (i4 34 _ _ _ _ [io 38 (lf (.ept 4 1 0 0)),io 39 (lf (dS g)),⟨some 40,lR 8,[ar 8 9 .str ([g])]⟩,⟨some 41,lR 9,[ar 9 9 .str (a.1.2.1++([g])),(4,none),(8,none)]⟩,io 42 _,⟨none,lf (.val undef),[bx 6 27 [.ref 3, .ref 9, .ref 5]]⟩]) [0,0,3,3,3,3,3,0,0,0]
 refine z4 ?_
 refine zz (fun _ b=>ac (QE (e:= .str) (b.v rfl) (b.en 4 rfl) (Qp rfl) UF U1 rfl (by omega) (by first | omega | (simp only[az]; omega))) rfl)<|zz (fun _ b=>ac (Q3 (e:= .str) (b.v rfl) (b.n 4 rfl) k rfl U1 rfl rfl) rfl) ?_
 refine zz (fun _ b=>ac (dBs 8 (e:= .str) Va) rfl) ?_
 refine zz (fun _ b=>ac (dA 9 Js (hb:=by (simp only[aj,aA]; omega))) rfl) ?_
 refine z_ ?_
 refine zz (fun _ b=>ac (QO (b.v rfl) (b.en 6 rfl) (b.w rfl) (by simp only[QQ,Xz,aY,br]; rw[(b.en 9 rfl)]; rfl) Qm5 rfl) rfl) ?_
 exact zN
 refine w_ ?_
 refine Yo<|AC.wk (Q6 (p:=6) (off:=0) (q:=3) rfl rfl rfl)<|AC.wk (Q6 (p:=6) (off:=1) (q:=9) rfl rfl rfl)<|AC.wk (Q6 (p:=6) (off:=2) (q:=5) rfl rfl rfl) ?_
 refine w5 ?_
 subst j
 refine Zu (x:=((a.1.1,(a.1.2.1++([g]),a.1.2.2)),((pkA 20 a.2.1),(pkS code a.2.1 a.2.2 20)))) [(0,0)] ?_ (Res.one rfl (Rs.cell rfl rfl YL rfl)) rfl ⟨rfl,trivial⟩ rfl rfl
 (dsimp only; simp only[ae,az,aj,aA]; omega)
 refine w6 ?_
 refine cd_ (fun _ _=> ?_) fun _ _=> ?_
 refine w2 ?_
 refine Yo<|AC.wk (Q6 (p:=6) (off:=0) (q:=3) rfl rfl rfl)<|AC.wk (Q6 (p:=6) (off:=1) (q:=4) rfl rfl rfl)<|AC.wk (Q6 (p:=6) (off:=2) (q:=5) rfl rfl rfl) ?_
 refine w5 ?_
 subst j
 refine Zu (x:=((a.1.1,(a.1.2.1,a.1.2.2)),((pkA 20 a.2.1),(pkS code a.2.1 a.2.2 20)))) [(0,0)] ?_ (Res.one rfl (Rs.cell rfl rfl YL rfl)) rfl ⟨rfl,trivial⟩ rfl rfl
 (dsimp only; omega)
 have m:=Vu code (pkA 20 a.2.1) (pkS code a.2.1 a.2.2 20) 9
 obtain ⟨d,l⟩:=gx a.1.2.2 0
 apply dV (i3 25 _ _ _ [⟨some 28,lI (pkV code (pkA 20 a.2.1) (pkS code a.2.1 a.2.2 20) 9),[bx 0 119 [.dat ZQ code,dI (pkA 9 (pkA 20 a.2.1)), .val (.int .u64 (pkS code (pkA 20 a.2.1) (pkS code a.2.1 a.2.2 20) 9))],(0,none)]⟩,io 29 _,io 30 (lf (.ept 5 4 0 0)),io 31 (lf (.ept 5 4 0 3)),⟨none,lf (.val undef),[ar 5 46 Qs (a.1.2.2.set 0 (d.1,d.2.1,d.2.2.1,(pkV code (pkA 20 a.2.1) (pkS code a.2.1 a.2.2 20) 9) - 1))]⟩]) [0,0,3,3,3,0,0,0]
 refine z3 ?_
 refine zz (fun _ b=>ac (dP 10 [] (Zr code (pkA 20 a.2.1) (pkS code a.2.1 a.2.2 20) 9 (by omega)) Xl) rfl) ?_
 refine z_ ?_
 refine zz (fun _ b=>ac (QE (e:=Qs) (b.v rfl) (b.en 5 rfl) (Qp rfl) WM V0 rfl (by omega) (by first | omega | (simp only[az]; omega))) rfl)<|zz (fun _ b=>ac (YU (b.v rfl) Qte (by rw[(b.en 5 rfl)]; rfl) rfl) rfl)<|zz (fun _ b=>ac (QB (e:=Qs) (z':=(d.1,d.2.1,d.2.2.1,(pkV code (pkA 20 a.2.1) (pkS code a.2.1 a.2.2 20) 9) - 1)) (b.v rfl) (b.n 5 rfl) l rfl (b.w rfl) rfl Yw rfl rfl) rfl) ?_
 exact zN
 refine w_ ?_
 refine Yo<|AC.wk (Q6 (p:=6) (off:=0) (q:=3) rfl rfl rfl)<|AC.wk (Q6 (p:=6) (off:=1) (q:=4) rfl rfl rfl)<|AC.wk (Q6 (p:=6) (off:=2) (q:=5) rfl rfl rfl) ?_
 refine w5 ?_
 subst j
 refine Zu (x:=((a.1.1,(a.1.2.1,a.1.2.2.set 0 (d.1,d.2.1,d.2.2.1,(pkV code (pkA 20 a.2.1) (pkS code a.2.1 a.2.2 20) 9) - 1))),((pkA 9 (pkA 20 a.2.1)),(pkS code (pkA 20 a.2.1) (pkS code a.2.1 a.2.2 20) 9)))) [(0,0)] ?_ (Res.one rfl (Rs.cell rfl rfl YL rfl)) rfl ⟨rfl,trivial⟩ rfl rfl
 (dsimp only; omega)
 obtain ⟨c,i⟩:=gx a.1.2.1 0
 have o:=Qw3 code (⟨#[48,49,50]⟩:ByteArray) c (pkA 20 a.2.1) (pkS code a.2.1 a.2.2 20)
 apply dV (i5 10 _ _ _ _ _ [io 15 (lf (.ept 4 1 0 0)),io 16 (lf (dS c)),⟨some 17,lf (dS ((spV code (⟨#[48,49,50]⟩:ByteArray) c (pkA 20 a.2.1) (pkS code a.2.1 a.2.2 20)).1)),[bx 0 119 [.dat ZQ code,dI ((spV code (⟨#[48,49,50]⟩:ByteArray) c (pkA 20 a.2.1) (pkS code a.2.1 a.2.2 20)).2.1), .val (.int .u64 ((spV code (⟨#[48,49,50]⟩:ByteArray) c (pkA 20 a.2.1) (pkS code a.2.1 a.2.2 20)).2.2))],(0,none)]⟩,io 18 (lf (.ept 4 1 0 0)),⟨none,lf (.val undef),[ar 4 9 .str (a.1.2.1.set 0 ((spV code (⟨#[48,49,50]⟩:ByteArray) c (pkA 20 a.2.1) (pkS code a.2.1 a.2.2 20)).1))]⟩]) [0,0,3,7,7,7,7,3,0,0]
 refine z5 ?_
 refine zz (fun _ b=>ac (QE (e:= .str) (b.v rfl) (b.en 4 rfl) (Qp rfl) UF U1 rfl (by omega) (by first | omega | (simp only[az]; omega))) rfl)<|zz (fun _ b=>ac (Q3 (e:= .str) (b.v rfl) (b.n 4 rfl) i rfl U1 rfl rfl) rfl) ?_
 refine zz (fun _ b=>ac (dP 11 [] (Jv code (pkA 20 a.2.1) (pkS code a.2.1 a.2.2 20) c (⟨#[48,49,50]⟩:ByteArray) (by omega) (by have b:=‹(_∧_∧∀z∈_,ByteArray.size z≤2400)∧_›; have y:=b.1.2.2 _ (ah ‹_›); exact ⟨by omega,by decide⟩)) Ql4) rfl) ?_
 refine zz (fun _ b=>ac (QE (e:= .str) (b.v rfl) (b.en 4 rfl) (Qp rfl) UF U1 rfl (by omega) (by first | omega | (simp only[az]; omega))) rfl)<|zz (fun _ b=>ac (QB (e:= .str) (z':=(spV code (⟨#[48,49,50]⟩:ByteArray) c (pkA 20 a.2.1) (pkS code a.2.1 a.2.2 20)).1) (b.v rfl) (b.n 4 rfl) i rfl (b.w rfl) rfl U1 rfl rfl) rfl) ?_
 exact zN
 refine w_ ?_
 refine Yo<|AC.wk (Q6 (p:=6) (off:=0) (q:=3) rfl rfl rfl)<|AC.wk (Q6 (p:=6) (off:=1) (q:=4) rfl rfl rfl)<|AC.wk (Q6 (p:=6) (off:=2) (q:=5) rfl rfl rfl) ?_
 refine w5 ?_
 subst j
 refine Zu (x:=((a.1.1,(a.1.2.1.set 0 ((spV code (⟨#[48,49,50]⟩:ByteArray) c (pkA 20 a.2.1) (pkS code a.2.1 a.2.2 20)).1),a.1.2.2)),(((spV code (⟨#[48,49,50]⟩:ByteArray) c (pkA 20 a.2.1) (pkS code a.2.1 a.2.2 20)).2.1),((spV code (⟨#[48,49,50]⟩:ByteArray) c (pkA 20 a.2.1) (pkS code a.2.1 a.2.2 20)).2.2)))) [(0,0)] ?_ (Res.one rfl (Rs.cell rfl rfl YL rfl)) rfl ⟨rfl,trivial⟩ rfl rfl
 (dsimp only; simp only[ae,az,aj,aA]; omega)
end Go.Proofs.YtgpdhgadmjfokaaGreat
namespace Go.Proofs.YtgpdhgadmjfokaaGreat
open Go.RowKit
set_option maxRecDepth 100000
set_option maxHeartbeats 4000000
theorem VI (code:List UInt8)[∀s,Decidable (StgOk s)][∀s,Decidable (XR s)]:FC Tryz.prog 112 [(false,[.dat ZQ code])] [] 0 (Ex (fun x:DSg=>x.1.length≤8) (fun x:DSg=>ag [.dat Ql x.1, .dat Qm x.2.1, .dat Qu x.2.2]) (fun x:DSg=>[])):=by
 refine Qt Tryz.func112 rfl rfl Tryz.ntmps112 fun i e h b j d c=> ?_
 refine w_ ?_
 refine lc (xal 0 X2 ZC) ?_
 refine w3 ?_
 refine lc (QjV [.val (.slice none 0 0),dI 0, .val (.int .u64 0)] (Qvr (offs:=[(0,1),(1,1),(2,1)]) (zs:=[.slice none 0 0, .int .i64 0, .int .u64 0]) Tryz.underlying119 (by kernel_rfl) (by kernel_rfl)) (fun _ _ _=>⟨_,_,rfl,rfl,⟨_,_,rfl,(US _ _ _ .int).one rfl,⟨_,_,rfl,rfl,rfl⟩⟩⟩) ⟨_,_,rfl,(Qo rfl),rfl⟩ (au.1 rfl) rfl rfl) ?_
 refine xbx 1 ?_
 refine w4 ?_
 refine Wv 2 [(0,1)] (Kx code 0 0 (by omega)) QoS e1_ ⟨rfl,trivial⟩ rfl (fun _=>rfl) (fun _=>⟨trivial,trivial⟩) (nlr rfl) fun a g=> ?_
 refine w3 ?_
 subst e
 refine Zu (x:=(a.1.1,(a.1.2.1,a.1.2.2))) [] ?_ (Res.one rfl (Rs.cell rfl rfl YL rfl)) rfl trivial rfl rfl
 (have f:=‹_≤8∧_›; exact f.1)
theorem Vx (code:List UInt8)[∀s,Decidable (StgOk s)][∀s,Decidable (XR s)]:FC Tryz.prog 26 [(false,[.dat ZQ code])] [] 0 (Ex (fun x:DSg=>x.1.length≤8) (fun x:DSg=>ag [.dat Ql x.1, .dat Qm x.2.1, .dat Qu x.2.2]) (fun x:DSg=>[])):=by
 refine Qt Tryz.func26 rfl rfl Tryz.ntmps26 fun h e g b i d c=> ?_
 refine w_ ?_
 refine lc (xal 0 X2 ZC) ?_
 refine w3 ?_
 refine Wv 1 [] (VI code) QlO e1_ trivial rfl (fun _=>rfl) (fun _=>trivial) (nlr rfl) fun a f=> ?_
 refine w3 ?_
 subst e
 refine Zu (x:=(a.1,(a.2.1,a.2.2))) [] ?_ (Res.one rfl (Rs.cell rfl rfl YL rfl)) rfl trivial rfl rfl
 assumption
end Go.Proofs.YtgpdhgadmjfokaaGreat
namespace Go.Proofs.YtgpdhgadmjfokaaGreat
open Go.RowKit
set_option maxRecDepth 100000
set_option maxHeartbeats 4000000
theorem Qvd {n:Int}(h: -9223372036854775808≤n∧n≤9223372036854775807):IntKind.i64.wrap n=n:=by
 simp only[IntKind.wrap,IntKind.bits,IntKind.signed]
 simp
 split <;> omega
theorem QaG (code:List UInt8)(k:List UInt8):FC Tryz.prog 4 [(false,[.dat ZQ code]),(false,[.dat ZQ k])] [] 0 (Q7 (lB true)):=by
 classical
 refine Qt Tryz.func4 rfl rfl Tryz.ntmps4 fun E b D r F t s=> ?_
 refine w6 ?_
 refine alL 19 fun _=> ?_
 refine w2 ?_
 refine alL 21 fun _=> ?_
 refine w_ ?_
 refine lc (Qgl (Qa rfl) (Qa rfl) rfl) ?_
 refine w2 ?_
 refine cd_ (fun _ _=> ?_) fun _ _=> ?_
 refine w3 ?_
 refine Wv 0 [] (Vx code) Qpe e1_ trivial rfl (fun _=>rfl) (fun _=>trivial) (nlr rfl) fun a C=>lc (xal 0 X2 ZC) ?_
 refine w4 ?_
 refine lc (dK (UC a).frozenG QpS) ?_
 refine w4 ?_
 refine lc (xal 1 X2 ZC) ?_
 refine w6 ?_
 refine lc (dK (UE a).frozenG QpN) ?_
 refine w4 ?_
 refine lc (xal 2 X2 ZC) ?_
 refine w8 ?_
 refine lc (UR (Qa rfl) (Qa rfl) rfl Jr) ?_
 refine w_ ?_
 cases u:(((ZT a).2.2)==((ZT a).2.2))
 refine w16 ?_
 refine Qd<|fqB b ?_
 ·(exfalso; simp_all; done)
 refine w2 ?_
 refine lgy rfl rfl (dK (U7 ((ZT a).1) ((ZT a).1) rfl) Qqo) ?_
 refine w5 ?_
 refine lgy rfl rfl (dK (Jp ((ZT a).2.1) ((ZT a).2.1) rfl) QpP) ?_
 refine w10 ?_
 refine cx_ (fun _=> ?_) fun _=> ?_
 refine w4 ?_
 exact fe_ b
 refine w_ ?_
 refine Yo ?_
 obtain ⟨w,h,l,x,y,i,j⟩:=Qus (c:=a) ‹_›
 have z:=Qyk h l
 have A:=aQ h
 have B:=Qvd (n:=(a.1.length:Int)+((ZT a).2.1.length:Int)) (by omega)
 refine w2 ?_
 refine lc (dK (QeS ((ZT a).1)) Qpt) ?_
 refine w11 ?_
 cases f:(decide (SgOk ((ZT a).1)))
 have g:=aa f
 refine w16 ?_
 refine w9 ?_
 refine Qd<|fqB b ?_
 ·(exfalso; simp_all; done)
 have g:=ab f
 refine w4 ?_
 cases v:(hcV ((ZT a).1))
 refine w16 ?_
 refine w5 ?_
 refine Qd<|fqB b ?_
 ·(exfalso; simp_all; done)
 refine w2 ?_
 refine alL 69 fun _=> ?_
 refine w3 ?_
 refine alL 72 fun _=> ?_
 refine w2 ?_
 refine alL 74 fun _=> ?_
 refine w_ ?_
 refine lgy rfl rfl (Qgl (Qa rfl) (Qa rfl) rfl) ?_
 refine w3 ?_
 cases d:(!decide (((((ZT a).1).1).length:Int)=(IntKind.i64.wrap ((a.1.length:Int)+(((ZT a).2.1).length:Int)))))
 have e:(((((ZT a).1).1).length:Int)=(IntKind.i64.wrap ((a.1.length:Int)+(((ZT a).2.1).length:Int)))):=QM d
 refine w_ ?_
 refine alL 80 fun _=> ?_
 refine w4 ?_
 refine cd_ (fun _ _=> ?_) fun _ _=> ?_
 refine w4 ?_
 refine alL 84 fun _=> ?_
 refine w3 ?_
 refine cd_ (fun _ _=> ?_) fun _ _=> ?_
 refine w7 ?_
 refine alL 87 fun _=> ?_
 refine w3 ?_
 refine cd_ (fun _ _=> ?_) fun _ _=> ?_
 refine w4 ?_
 refine lc (dK (Wu ((ZT a).1) (-1) 4).frozenG Ho) ?_
 refine w8 ?_
 refine lc (dK (Wu a (-1) 4).frozenG Ho) ?_
 refine w9 ?_
 refine lc (UR (Qa rfl) (Qa rfl) rfl Jr) ?_
 refine w_ ?_
 cases m:(((trV ((ZT a).1) (-1) 4).2)==((trV a (-1) 4).2))
 refine w11 ?_
 exact fe_ b
 refine w4 ?_
 cases o:((trV ((ZT a).1) (-1) 4).2)
 refine w7 ?_
 exact fe_ b
 refine w2 ?_
 refine lgy rfl rfl (dK (JF ((trV ((ZT a).1) (-1) 4).1) ((trV a (-1) 4).1) (congrArg Prod.fst (by first | exact i (by omega) | exact j (by omega)))) QgF) ?_
 refine w4 ?_
 exact fe_ b
 refine w3 ?_
 refine alL 91 fun _=> ?_
 refine w6 ?_
 refine lc (dK (Wu ((ZT a).1) (a.1.length:Int) 4).frozenG Ho) ?_
 refine w8 ?_
 refine lc (dK (Wu a (-1) 4).frozenG Ho) ?_
 refine w9 ?_
 refine lc (UR (Qa rfl) (Qa rfl) rfl Jr) ?_
 refine w_ ?_
 cases p:(((trV ((ZT a).1) (a.1.length:Int) 4).2)==((trV a (-1) 4).2))
 refine w11 ?_
 exact fe_ b
 refine w4 ?_
 cases q:((trV ((ZT a).1) (a.1.length:Int) 4).2)
 refine w7 ?_
 exact fe_ b
 refine w2 ?_
 refine lgy rfl rfl (dK (JF ((trV ((ZT a).1) (a.1.length:Int) 4).1) ((trV a (-1) 4).1) (congrArg Prod.fst (by first | exact i (by omega) | exact j (by omega)))) QgF) ?_
 refine w4 ?_
 exact fe_ b
 refine w4 ?_
 exact fe_ b
 refine w3 ?_
 refine Qd<|fqB b ?_
 (exfalso; omega)
 have e:¬(((((ZT a).1).1).length:Int)=(IntKind.i64.wrap ((a.1.length:Int)+(((ZT a).2.1).length:Int)))):=QS d
 refine w9 ?_
 refine Qd<|fqB b ?_
 (exfalso; omega)
 refine w4 ?_
 exact fe_ b
end Go.Proofs.YtgpdhgadmjfokaaGreat
