/- Walks over abstract states: two graphs as one, the reference; graphs compared. -/
import Derived.Test.YtjfpbcmfbnnooaaGreatGDk
import Derived.Test.YtjfpbcmfbnnooaaGreatGWk
import Derived.Test.YtjfpbcmfbnnooaaGreatGAl
import Derived.Test.YtjfpbcmfbnnooaaGreatGStr
import Derived.Test.YtjfpbcmfbnnooaaGreatProg
import Derived.KernelRfl
import Derived.Test.YtjfpbcmfbnnooaaGreatGDd
import Derived.Test.YtjfpbcmfbnnooaaGreatGDf
set_option linter.unusedSimpArgs false
set_option linter.unusedVariables false
set_option linter.unusedSectionVars false
namespace Go.Proofs.YtjfpbcmfbnnooaaGreat
open Go.RowKit
set_option maxRecDepth 100000
set_option maxHeartbeats 4000000
def unN (a b:XG):XG:=(a.1+b.1,a.2++b.2.map (Qm2 a.1))
def unL (n:Nat)(l:ZZ):ZZ:=if 0≤l.1 then (l.1+(n:Int),l.2) else l
def unS (a b:ZG):ZG:=(unN a.1 b.1,a.2.1++b.2.1,a.2.2.1++b.2.2.1.map (unL a.2.1.length),a.2.2.2++b.2.2.2)
theorem Qou {l:List Int}{hi:Int}(h:JA l hi):∀x∈l,0≤x∧x≤hi:=fun x b=>by
 obtain ⟨k,a⟩:=aK.1 b
 exact (h k (ai.1 a).1 x a).1
theorem Qos:∀{l:List Int} {hi:Int},JA l hi→ -1≤hi→(l.length:Int)≤hi+1:=fun {l hi} h g=>by
 have b:∀(k:Nat) x,l[k]? =some x→(k:Int)≤x:=fun k=>by
  induction k with
  | zero=>intro x a;exact (h 0 (ai.1 a).1 x a).1.1
  | succ k f=>
   intro x a
   have c:=(ai.1 a).1
   obtain ⟨y,d⟩:∃y,l[k]? =some y:=⟨_,ao (by omega)⟩
   have e:=f y d
   have i:=(h (k+1) c x a).2 k y rfl d
   omega
 by_cases j:l.length=0
 ·omega
 ·obtain ⟨x,a⟩:∃x,l[l.length - 1]? =some x:=⟨_,ao (by omega)⟩
  have c:=b _ x a
  have e:=(h _ (ai.1 a).1 x a).1.2
  omega
theorem Vf {n:XG}(h:Y8 n):(1≤n.1∧n.1≤30)∧n.2.length≤24∧∀t∈n.2,(t.1.length≤30∧t.2.length≤30)∧(∀x∈t.1,0≤x∧x≤29)∧∀x∈t.2,0≤x∧x≤29:=by
 obtain ⟨d,e,f⟩:=h
 refine ⟨d,e,fun t g=> ?_⟩
 obtain ⟨_,b,c⟩:=f t g
 have i:=Qos b (by omega)
 have j:=Qos c (by omega)
 exact ⟨⟨by omega,by omega⟩,fun x a=>by have:=Qou b x a;omega,fun x a=>by have:=Qou c x a;omega⟩
theorem Jd (l:List Int)(d:Int)(p:l.length≤100000)(hb:∀x∈l,-9223372036854775808≤x+d∧x+d≤9223372036854775807):FC Tryz.prog 338 [(false,[.dat Qs l]),(false,[dI d])] [] 0 (Xv 3 .int (l.map fun x=>x+d)):=by
 refine Qj Tryz.func338 rfl rfl Tryz.ntmps338 fun n i m f o h g=> ?_
 refine acI 1 fun _=> ?_
 refine w9 ?_
 refine alL 8 fun _=> ?_
 refine w4 ?_
 refine AC.wk (Wk.nilS 0 5 3 .int rfl (Fresh.of rfl) (nlr rfl)) ?_
 refine lp0 l.length (fun k=>⟨[(1,lI d),(4,lf (.val (.slice none 0 0))),(5,lR 1),(8,lf (.dat Qs l)),(9,lI (l.length:Int)),(10,lI (k:Int))],[ar 1 3 .int ((l.take k).map fun x=>x+d)]⟩) ?_ fun k _=> ?_
 exact wp [(1,0)] ⟨(Qm (by simp)),trivial⟩
 refine w4 ?_
 cases a:(decide ((k:Int)<(l.length:Int)))
 have b:=aa a
 refine w7 ?_
 refine Qe<|fo_ i ?_
 ·(rw[ZD (by omega)];done)
 have b:=ab a
 refine w5 ?_
 obtain ⟨q,c⟩:=gx l k
 have j:=hb _ (ae c)
 refine w2 ?_
 refine alI 13 fun _=> ?_
 refine w7 ?_
 refine lc (dBs 2 (e:= .int) Xt) ?_
 refine lc (dA 3 Vh) ?_
 refine w_ ?_
 refine Qd ?_
 refine w4 ?_
 refine Qd ?_
 refine l0_ ?_
 exact wp [(1,3)] ⟨(Qm (by rw[QE c];simp)),trivial⟩
theorem Ua (n:XG)[Decidable (Y8 n)]:FC Tryz.prog 298 [(true,leaves QcG n)] [] 0 (QK (lf (dB (decide (Y8 n))))):=QhY fun d w e h=>by
 obtain ⟨c,rfl,a⟩:=h.agg1
 have b:=a.len
 match c,b with
 | [a0,a1],_=>exact (QfI a0 a1 n w a).mono fun _ _ h=>QbJ h
theorem Qzd {n:Nat}{l:ZZ}(h:QgI n l): -1≤l.1∧l.1≤(n:Int):=by
 unfold QgI at h;omega
theorem Qbr (a:Qo5)(b:Qo5)[∀s,Decidable (StgOk s)][∀s,Decidable (Y8 s)](D:Ty.tot QcG a≤2000000):FC Tryz.prog 294 [(true,[dI a.1,.dat XZ a.2]),(true,[dI b.1,.dat XZ b.2])] [] 0 (Ex (fun x:XG×Bool=>x.2=true→x.1=unN a b) (fun x:XG×Bool=>PV.tup [(true,[dI x.1.1,.ref 0]),(false,[dB x.2])]) (fun x:XG×Bool=>[ar 0 290 Zu x.1.2])):=by
 refine Qj Tryz.func294 rfl rfl Tryz.ntmps294 fun F y E A G C B=> ?_
 refine acG 0 0 fun _=> ?_
 refine acG 1 0 fun _=> ?_
 refine w_ ?_
 refine xbx 0 ?_
 refine xbx 1 ?_
 refine lc (xal 2 Qtw HI) ?_
 refine w5 ?_
 refine lc (dK (Ua a) Qav) ?_
 refine w2 ?_
 cases i:(decide (Y8 a))
 have j:=aa i
 refine w7 ?_
 refine lc (Qk QdD rfl (au.1 rfl) rfl rfl) ?_
 refine w3 ?_
 refine AC.wk (Qr 3 (p:=2) (off:=1) 290 Zu rfl rfl (Fresh.of rfl) (nlr rfl))<|Qe ?_
 subst y
 refine Zh (x:=((0,[]),false)) [(0,3)] ?_ (XR rfl (Rs.cell rfl rfl Qea rfl) (UH rfl)) rfl ⟨rfl,trivial⟩ rfl rfl
 exact fun h=>absurd h (by decide)
 have j:=ab i
 refine w_ ?_
 refine lgy rfl rfl (dK (Ua b) Qav) ?_
 refine w3 ?_
 cases l:(decide (Y8 b))
 have m:=aa l
 refine w2 ?_
 refine lc (Qk QdD rfl (au.1 rfl) rfl rfl) ?_
 refine w3 ?_
 refine AC.wk (Qr 4 (p:=2) (off:=1) 290 Zu rfl rfl (Fresh.of rfl) (nlr rfl))<|Qe ?_
 subst y
 refine Zh (x:=((0,[]),false)) [(0,4)] ?_ (XR rfl (Rs.cell rfl rfl Qea rfl) (UH rfl)) rfl ⟨rfl,trivial⟩ rfl rfl
 exact fun h=>absurd h (by decide)
 have m:=ab l
 refine w4 ?_
 refine lc (dG 5 (Qfv a D) Qmh) ?_
 refine lc (xal 6 Qtw HI) ?_
 refine w7 ?_
 refine lc (VE (Qa rfl) (Qa rfl) rfl (by first|omega|(have t:=(Vf ‹Y8 a›).1;have u:=(Vf ‹Y8 b›).1;omega))) ?_
 refine w7 ?_
 refine alL 27 fun _=> ?_
 refine w4 ?_
 refine lp0 b.2.length (fun k=>⟨[(2,lP 0 0),(4,lP 2 0),(5,lB false),(6,lP 6 0),(27,lf (.dat XZ b.2)),(28,lI (b.2.length:Int)),(29,lI (k:Int))],[bx 0 161 [dI a.1,.dat XZ a.2],bx 2 161 [dI 0,.val (.slice none 0 0)],bx 6 161 [dI (a.1+b.1),.ref 7],ar 7 290 Zu (a.2++(b.2.take k).map (Qm2 a.1))]⟩) ?_ fun k _=> ?_
 exact wp [(7,5)] ⟨rfl,rfl,rfl,(Qm (by simp)),trivial⟩
 refine w4 ?_
 cases n:(decide ((k:Int)<(b.2.length:Int)))
 have o:=aa n
 refine w6 ?_
 refine lc (Ky (Ua (a.1+b.1,a.2++(b.2.take k).map (Qm2 a.1))) Qav ⟨_,_,rfl,(QgG (Qn rfl) ⟨_,_,rfl,.inl rfl,⟨_,_,rfl,.inr ⟨_,_,_,_,rfl,rfl,rfl⟩,rfl⟩⟩),rfl⟩ rfl rfl rfl) ?_
 refine w2 ?_
 cases q:(decide (Y8 (a.1+b.1,a.2++(b.2.take k).map (Qm2 a.1))))
 have r:=aa q
 refine w2 ?_
 refine lc (Qk QdD rfl (au.1 rfl) rfl rfl) ?_
 refine w3 ?_
 refine AC.wk (Qr 8 (p:=2) (off:=1) 290 Zu rfl rfl (Fresh.of rfl) (nlr rfl))<|Qe ?_
 subst y
 refine Zh (x:=((0,[]),false)) [(0,8)] ?_ (XR rfl (Rs.cell rfl rfl Qea rfl) (UH rfl)) rfl ⟨rfl,trivial⟩ rfl rfl
 exact fun h=>absurd h (by decide)
 have r:=ab q
 refine w8 ?_
 subst y
 refine Zh (x:=((a.1+b.1,a.2++(b.2.take k).map (Qm2 a.1)),true)) [(0,7)] ?_ (XR rfl (Rs.cell rfl rfl Qea rfl) (UH rfl)) rfl ⟨rfl,trivial⟩ rfl rfl
 (intro _;rw[ZD (by omega)];rfl)
 have o:=ab n
 refine w5 ?_
 obtain ⟨f,d⟩:=gx b.2 k
 refine w2 ?_
 refine lc (xal 9 Zu K6) ?_
 refine w2 ?_
 apply dV (i6 33 _ _ _ _ _ _ [⟨some 39,lR 10,[ar 10 3 .int (f.1.map fun x=>x+a.1)]⟩,io 40 (lP 9 1),io 41 (lf (.dat Qs f.2)),io 42 (lP 0 0),io 43 (lI a.1),⟨some 44,lR 11,[ar 11 3 .int (f.2.map fun x=>x+a.1)]⟩,io 45 (ag [.ref 10,.ref 11]),⟨some 46,lR 12,[ar 12 290 Zu ([(f.1.map fun x=>x+a.1,f.2.map fun x=>x+a.1)]),(10,none),(11,none)]⟩,⟨some 47,lR 13,[ar 13 290 Zu ((a.2++(b.2.take k).map (Qm2 a.1))++([(f.1.map fun x=>x+a.1,f.2.map fun x=>x+a.1)])),(7,none),(12,none)]⟩,io 48 _,⟨none,lf (.val undef),[bx 6 161 [dI (a.1+b.1),.ref 13]]⟩]) [0,0,3,3,15,15,3,127,127,511,511,3,3,3,0,0,0]
 refine z6 ?_
 refine zz (fun _ c=>ac (dO 10 (Jd f.1 a.1 (by have:=((Vf ‹Y8 b›).2.2 _ (ae d)).1;omega) (fun z g=>by have t:=((Vf ‹Y8 b›).2.2 _ (ae d)).2.1 z g;have u:=(Vf ‹Y8 a›).1;omega)) Qfj) rfl) ?_
 refine z4 ?_
 refine zz (fun _ c=>ac (dO 11 (Jd f.2 a.1 (by have:=((Vf ‹Y8 b›).2.2 _ (ae d)).1;omega) (fun z g=>by have t:=((Vf ‹Y8 b›).2.2 _ (ae d)).2.2 z g;have u:=(Vf ‹Y8 a›).1;omega)) Qfj) rfl) ?_
 refine zz (fun _ c=>ac (Qk QdH ⟨_,_,rfl,(c.w rfl),⟨_,_,rfl,(c.w rfl),rfl⟩⟩ (au.1 (by simp only[Zj,Kq,bt,bW];rw[(c.en 10 rfl),(c.en 11 rfl)];rfl)) rfl rfl) rfl)<|zz (fun _ c=>ac (W6 12 (e:=Zu) HG HE K6 rfl ⟨_,_,rfl,(c.w rfl),rfl⟩ (au.1 (by simp only[Zj,Kq,bt,bW];rw[(c.en 10 rfl),(c.en 11 rfl)];rfl)) ⟨_,_,_,_,rfl,⟨[.ref 10],[.ref 11],_,_,_,_,rfl,rfl,(.inl ⟨_,rfl,(c.en 10 rfl),rfl⟩),(.inl ⟨_,rfl,(c.en 11 rfl),rfl⟩),rfl⟩,⟨rfl,rfl⟩,rfl⟩ (by decide) rfl rfl (c.fr 12 rfl) (nlr rfl)) rfl) ?_
 refine zz (fun _ c=>ac (dA 13 QdO (hb:=by (have t:=(Vf ‹Y8 a›).2.1;have u:=(Vf ‹Y8 b›).2.1;simp only[ah,aH,ap,av,aC];omega))) rfl) ?_
 refine z_ ?_
 refine zz (fun _ c=>ac (ZA (c.v rfl) (c.en 6 rfl) (c.w rfl) (by simp only[Zj,Kq,bt,bW];rw[(c.en 13 rfl)];rfl) QoF rfl) rfl) ?_
 exact zN
 refine w2 ?_
 refine lc (VE (Qa rfl) (Qq rfl) rfl (by first|omega|(have t:=(Vf ‹Y8 a›).1;have u:=(Vf ‹Y8 b›).1;omega))) ?_
 refine w_ ?_
 refine Qd ?_
 refine l0_ ?_
 exact wp [(7,13)] ⟨rfl,rfl,rfl,(Qm (by rw[QE d];simp[Qm2])),trivial⟩
theorem Qbs (a:Qk1)(b:Qk1)[∀s,Decidable (StgOk s)][∀s,Decidable (Y8 s)](B:Ty.tot Qdu a≤2000000)(z:Ty.tot Qdu b≤2000000):FC Tryz.prog 244 [(true,[dI a.1.1,.dat XZ a.1.2,.dat Ql a.2.1,.dat XQ a.2.2.1,dS a.2.2.2]),(true,[dI b.1.1,.dat XZ b.1.2,.dat Ql b.2.1,.dat XQ b.2.2.1,dS b.2.2.2])] [] 0 (Ex (fun x:ZG×Bool=>x.2=true→x.1=unS a b) (fun x:ZG×Bool=>PV.tup [(true,[dI x.1.1.1,.ref 0,.ref 1,.ref 2,dS x.1.2.2.2]),(false,[dB x.2])]) (fun x:ZG×Bool=>[ar 0 290 Zu x.1.1.2,ar 1 103 QI x.1.2.1,ar 2 183 ZY x.1.2.2.1])):=by
 obtain ⟨A,L,M⟩:=QhO B
 obtain ⟨I,J,K⟩:=QhO z
 refine Qj Tryz.func244 rfl rfl Tryz.ntmps244 fun O q N C P E D=> ?_
 refine acG 0 0 fun _=> ?_
 refine acG 1 0 fun _=> ?_
 refine w_ ?_
 refine xbx 0 ?_
 refine xbx 1 ?_
 refine lc (xal 2 Qkz Vx) ?_
 refine w7 ?_
 refine Ys 3 [] (Qbr a.1 b.1 A) Ql3 e2_ trivial rfl (fun _=>rfl) (fun _=>⟨(Fresh.of rfl),trivial⟩) (nlr rfl) fun g H=> ?_
 refine w3 ?_
 refine lc (xal 4 Qtw HI) ?_
 refine w8 ?_
 cases F:(g.2)
 refine w12 ?_
 refine lc (Qk Qbb rfl (au.1 rfl) rfl rfl) ?_
 refine w3 ?_
 refine AC.wk (Qr 5 (p:=2) (off:=1) 290 Zu rfl rfl (Fresh.of rfl) (nlr rfl))<|AC.wk (Qr 6 (p:=2) (off:=2) 103 QI rfl rfl (Fresh.of rfl) (nlr rfl))<|AC.wk (Qr 7 (p:=2) (off:=3) 183 ZY rfl rfl (Fresh.of rfl) (nlr rfl))<|Qe ?_
 subst q
 refine Zh (x:=(((0,[]),([],([],ByteArray.empty))),false)) [(0,5),(1,6),(2,7)] ?_ (XR rfl (Rs.cell rfl rfl Z9 rfl) (UH rfl)) rfl ⟨rfl,rfl,rfl,trivial⟩ rfl rfl
 exact fun h=>absurd h (by decide)
 refine w_ ?_
 refine lgy rfl rfl (dK (Wf a) KP) ?_
 refine w3 ?_
 cases r:(decide (StgOk a))
 have t:=aa r
 refine w7 ?_
 refine lc (Qk Qbb rfl (au.1 rfl) rfl rfl) ?_
 refine w3 ?_
 refine AC.wk (Qr 8 (p:=2) (off:=1) 290 Zu rfl rfl (Fresh.of rfl) (nlr rfl))<|AC.wk (Qr 9 (p:=2) (off:=2) 103 QI rfl rfl (Fresh.of rfl) (nlr rfl))<|AC.wk (Qr 10 (p:=2) (off:=3) 183 ZY rfl rfl (Fresh.of rfl) (nlr rfl))<|Qe ?_
 subst q
 refine Zh (x:=(((0,[]),([],([],ByteArray.empty))),false)) [(0,8),(1,9),(2,10)] ?_ (XR rfl (Rs.cell rfl rfl Z9 rfl) (UH rfl)) rfl ⟨rfl,rfl,rfl,trivial⟩ rfl rfl
 exact fun h=>absurd h (by decide)
 have t:=ab r
 refine w_ ?_
 refine lgy rfl rfl (dK (Wf b) KP) ?_
 refine w3 ?_
 cases u:(decide (StgOk b))
 have y:=aa u
 refine w2 ?_
 refine lc (Qk Qbb rfl (au.1 rfl) rfl rfl) ?_
 refine w3 ?_
 refine AC.wk (Qr 11 (p:=2) (off:=1) 290 Zu rfl rfl (Fresh.of rfl) (nlr rfl))<|AC.wk (Qr 12 (p:=2) (off:=2) 103 QI rfl rfl (Fresh.of rfl) (nlr rfl))<|AC.wk (Qr 13 (p:=2) (off:=3) 183 ZY rfl rfl (Fresh.of rfl) (nlr rfl))<|Qe ?_
 subst q
 refine Zh (x:=(((0,[]),([],([],ByteArray.empty))),false)) [(0,11),(1,12),(2,13)] ?_ (XR rfl (Rs.cell rfl rfl Z9 rfl) (UH rfl)) rfl ⟨rfl,rfl,rfl,trivial⟩ rfl rfl
 exact fun h=>absurd h (by decide)
 have y:=ab u
 refine w2 ?_
 apply dW [io 32 _,⟨some 33,lR 14,[ar 14 103 QI ([])]⟩,io 34 (lP 0 2),io 35 (lf (.dat Ql a.2.1)),⟨some 36,lR 15,[ar 15 103 QI (([])++a.2.1),(14,none)]⟩,io 37 (lP 1 2),io 38 (lf (.dat Ql b.2.1)),⟨some 39,lR 16,[ar 16 103 QI ((([])++a.2.1)++b.2.1),(15,none)]⟩,⟨some 40,lR 17,[ar 17 183 ZY ([])]⟩,io 41 (lP 0 3),io 42 (lf (.dat XQ a.2.2.1)),⟨some 43,lR 18,[ar 18 183 ZY (([])++a.2.2.1),(17,none)]⟩,io 44 (lP 0 4),io 45 (lf (dS a.2.2.2)),io 46 (lP 1 4),io 47 (lf (dS b.2.2.2)),io 48 (lf (dS (a.2.2.2++b.2.2.2))),io 49 (ag [dI g.1.1,.ref 3,.ref 16,.ref 18,dS (a.2.2.2++b.2.2.2)]),⟨some 8,lP 19 0,[bx 19 164 [dI 0,.val (.slice none 0 0),.val (.slice none 0 0),.val (.slice none 0 0),dS ByteArray.empty]]⟩,⟨none,lf (.val undef),[bx 19 164 [dI g.1.1,.ref 3,.ref 16,.ref 18,dS (a.2.2.2++b.2.2.2)]]⟩] [0,1,3,3,1,31,31,1,255,511,511,1,4095,4095,16383,16383,4095,0,262143,0]
 refine z_ ?_
 refine zz (fun _ c=>ac (dBs 14 (e:=QI) WO) rfl) ?_
 refine z2 ?_
 refine zz (fun _ c=>ac (Zi 15 (c.v rfl) (c.en 14 rfl) (Evl.rep (c.v rfl)) rfl QcH Hp (by (simp only[ah,aH,ap,av,aC];omega)) rfl (c.fr 15 rfl) (nlr rfl)) rfl) ?_
 refine z2 ?_
 refine zz (fun _ c=>ac (Zi 16 (c.v rfl) (c.en 15 rfl) (Evl.rep (c.v rfl)) rfl QcH Hp (by (simp only[ah,aH,ap,av,aC];omega)) rfl (c.fr 16 rfl) (nlr rfl)) rfl) ?_
 refine zz (fun _ c=>ac (dBs 17 (e:=ZY) WP) rfl) ?_
 refine z2 ?_
 refine zz (fun _ c=>ac (Zi 18 (c.v rfl) (c.en 17 rfl) (Evl.rep (c.v rfl)) rfl QvL Qbg (by (simp only[ah,aH,ap,av,aC];omega)) rfl (c.fr 18 rfl) (nlr rfl)) rfl) ?_
 refine z4 ?_
 refine zz (fun _ c=>ac (Qw (c.v rfl) (c.v rfl) rfl (by (have Q:=QhP B;have R:=QhP z;omega))) rfl)<|zz (fun _ c=>ac (Qk Qbb ⟨_,_,rfl,(c.w rfl),⟨_,_,rfl,(c.w rfl),⟨_,_,rfl,(c.w rfl),⟨_,_,rfl,(c.w rfl),rfl⟩⟩⟩⟩ (au.1 (by show ((Zj _ [dI g.1.1,.ref 3]&&(Zj _ [.ref 16]&&(Zj _ [.ref 18]&&(Zj _ [dS (a.2.2.2++b.2.2.2)]&&true)))))=true;simp only[Zj,Kq,bt,bW];rw[(c.en 3 rfl),(c.en 16 rfl),(c.en 18 rfl)];rfl)) rfl rfl) rfl)<|zz (fun _ c=>ac (XW 19 Qkz Vx rfl rfl (c.fr 19 rfl) (nlr rfl)) rfl)<|zz (fun _ c=>ac (ZA (c.v rfl) (c.en 19 rfl) (c.w rfl) (by show Zj _ [dI g.1.1,.ref 3,.ref 16,.ref 18,dS (a.2.2.2++b.2.2.2)]=true;simp only[Zj,Kq,bt,bW];rw[(c.en 3 rfl),(c.en 16 rfl),(c.en 18 rfl)];rfl) Z9 rfl) rfl) ?_
 exact zN
 refine w4 ?_
 refine alL 51 fun _=> ?_
 refine w4 ?_
 refine lp0 b.2.2.1.length (fun k=>⟨[(2,lP 0 0),(4,lP 2 0),(5,lB false),(8,lP 19 0),(51,lf (.dat XQ b.2.2.1)),(52,lI (b.2.2.1.length:Int)),(53,lI (k:Int))],[bx 0 164 [dI a.1.1,.dat XZ a.1.2,.dat Ql a.2.1,.dat XQ a.2.2.1,dS a.2.2.2],bx 2 164 [dI 0,.val (.slice none 0 0),.val (.slice none 0 0),.val (.slice none 0 0),dS ByteArray.empty],ar 3 290 Zu g.1.2,ar 16 103 QI ((([])++a.2.1)++b.2.1),bx 19 164 [dI g.1.1,.ref 3,.ref 16,.ref 20,dS (a.2.2.2++b.2.2.2)],ar 20 183 ZY (a.2.2.1++(b.2.2.1.take k).map (unL a.2.1.length))]⟩) ?_ fun k _=> ?_
 exact wp [(20,18)] ⟨rfl,rfl,rfl,rfl,rfl,(Qm (by simp)),trivial⟩
 refine w4 ?_
 cases i:(decide ((k:Int)<(b.2.2.1.length:Int)))
 have m:=aa i
 refine w6 ?_
 refine lc (Ky (Wf (g.1,(([])++a.2.1)++b.2.1,a.2.2.1++(b.2.2.1.take k).map (unL a.2.1.length),a.2.2.2++b.2.2.2)) KP ⟨_,_,rfl,(QgG (Qn rfl) ⟨_,_,rfl,.inl rfl,⟨_,_,rfl,.inr ⟨_,_,_,_,rfl,rfl,rfl⟩,⟨_,_,rfl,.inr ⟨_,_,_,_,rfl,rfl,rfl⟩,⟨_,_,rfl,.inr ⟨_,_,_,_,rfl,rfl,rfl⟩,⟨_,_,rfl,.inl rfl,rfl⟩⟩⟩⟩⟩),rfl⟩ rfl rfl rfl) ?_
 refine w2 ?_
 cases j:(decide (StgOk (g.1,(([])++a.2.1)++b.2.1,a.2.2.1++(b.2.2.1.take k).map (unL a.2.1.length),a.2.2.2++b.2.2.2)))
 have n:=aa j
 refine w2 ?_
 refine lc (Qk Qbb rfl (au.1 rfl) rfl rfl) ?_
 refine w3 ?_
 refine AC.wk (Qr 21 (p:=2) (off:=1) 290 Zu rfl rfl (Fresh.of rfl) (nlr rfl))<|AC.wk (Qr 22 (p:=2) (off:=2) 103 QI rfl rfl (Fresh.of rfl) (nlr rfl))<|AC.wk (Qr 23 (p:=2) (off:=3) 183 ZY rfl rfl (Fresh.of rfl) (nlr rfl))<|Qe ?_
 subst q
 refine Zh (x:=(((0,[]),([],([],ByteArray.empty))),false)) [(0,21),(1,22),(2,23)] ?_ (XR rfl (Rs.cell rfl rfl Z9 rfl) (UH rfl)) rfl ⟨rfl,rfl,rfl,trivial⟩ rfl rfl
 exact fun h=>absurd h (by decide)
 have n:=ab j
 refine w8 ?_
 subst q
 refine Zh (x:=(((g.1.1,g.1.2),((([])++a.2.1)++b.2.1,(a.2.2.1++(b.2.2.1.take k).map (unL a.2.1.length),a.2.2.2++b.2.2.2))),true)) [(0,3),(1,16),(2,20)] ?_ (XR rfl (Rs.cell rfl rfl Z9 rfl) (UH rfl)) rfl ⟨rfl,rfl,rfl,trivial⟩ rfl rfl
 ·(intro _;rw[ZD (by omega)];simp_all [unS];done)
 have m:=ab i
 refine w5 ?_
 obtain ⟨f,d⟩:=gx b.2.2.1 k
 have G:=Qzd (StgOk.labs ‹StgOk b› _ (ae d))
 refine w2 ?_
 refine lc (xal 24 ZY WP) ?_
 refine w6 ?_
 refine alI 58 fun _=> ?_
 refine w2 ?_
 cases l:(decide (0≤f.1))
 have o:=aa l
 refine w6 ?_
 refine lc (dBs 25 (e:=ZY) WP (hab:=by exact ⟨_,_,_,_,rfl,⟨[dI f.1],[dB f.2],_,_,_,_,rfl,rfl,⟨rfl,rfl⟩,⟨rfl,rfl⟩,rfl⟩,⟨rfl,rfl⟩,rfl⟩)) ?_
 refine lc (dA 26 Qbg (hb:=by (simp only[ah,aH,ap,av,aC];omega))) ?_
 refine w2 ?_
 refine Qd ?_
 refine w4 ?_
 refine Qd ?_
 refine l0_ ?_
 exact wp [(20,26)] ⟨rfl,rfl,rfl,rfl,rfl,(Qm (by rw[QE d];simp[unL, *])),trivial⟩
 have o:=ab l
 refine w6 ?_
 refine alL 63 fun _=> ?_
 refine w9 ?_
 refine lc (dBs 27 (e:=ZY) WP (hab:=by exact ⟨_,_,_,_,rfl,⟨[dI (f.1+(a.2.1.length:Int))],[dB f.2],_,_,_,_,rfl,rfl,⟨rfl,rfl⟩,⟨rfl,rfl⟩,rfl⟩,⟨rfl,rfl⟩,rfl⟩)) ?_
 refine lc (dA 28 Qbg (hb:=by (simp only[ah,aH,ap,av,aC];omega))) ?_
 refine w2 ?_
 refine Qd ?_
 refine w4 ?_
 refine Qd ?_
 refine l0_ ?_
 exact wp [(20,28)] ⟨rfl,rfl,rfl,rfl,rfl,(Qm (by rw[QE d];simp[unL, *])),trivial⟩
section
variable {l:List ByteArray}{x:ByteArray}{j kd:Int}{i k:Nat}{g:List Qy}
theorem Qox:∀(l:List ByteArray) (j:Int),sgA (l++[x]) j=sgA l j++sgN x (j+(l.length:Int)) x.size
 | [],j=>by simp[sgA]
 | y::l,j=>by
  rw[cX,sgA,sgA,Qox l (j+1),aR,av]
  congr 3
  omega
theorem Qta (a:l[k]? =some x):sgA (l.take k) 1++sgN x ((k:Int)+1) x.size=sgA (l.take (k+1)) 1:=by
 have b:=(ai.1 a).1
 rw[QE a,Qox,ap,show (1:Int)+((min k l.length:Nat):Int)=(k:Int)+1 by omega]
theorem Qtb:(g++sgN x kd i)++[(x.extract ((i:Nat):Int).toNat ((i:Int)+1).toNat,kd)]=g++sgN x kd (i+1):=by
 unfold sgN
 rw[bO,bB,aR,dp,show ((i:Int)+1).toNat=i+1 by omega];rfl
end
theorem QM (f:ByteArray)(d:ByteArray)(a:ByteArray)(c:ByteArray)(Y:(ZQ c 32).all okA=true)(hs:c.size≤900∧f.size≤100∧d.size≤100∧a.size≤100):FC Tryz.prog 118 [(false,[dS f]),(false,[dS d]),(false,[dS a]),(false,[dS c])] [] 0 (Is (ag [dI (((Qt f d a c).1).1),.ref 0,.ref 1,.ref 2,dS ((Qt f d a c).2.2.2)]) [ar 0 290 Zu (((Qt f d a c).1).2),ar 1 103 QI ((Qt f d a c).2.1),ar 2 183 ZY ((Qt f d a c).2.2.1)]):=by
 have a4:=Qqb (s:=c) (b:=32)
 have V:([f,d,a]:List ByteArray).length=3:=rfl
 refine Qj Tryz.func118 rfl rfl Tryz.ntmps118 fun O_ X a6 Q X_ U T=> ?_
 refine w_ ?_
 refine lc (xal 0 Qkz Vx) ?_
 refine w2 ?_
 refine lc (Qk Qt6 rfl (au.1 rfl) rfl rfl) ?_
 refine xbx 1 ?_
 refine w7 ?_
 refine lc (dBs 2 (e:= .str) Z3) ?_
 refine w4 ?_
 refine AC.wk (Qr 3 (p:=1) (off:=2) 103 QI rfl rfl (Fresh.of rfl) (nlr rfl)) ?_
 refine Qu (fun A B=>∃(k:Nat) (t:List (ByteArray×Int)),k≤([f,d,a]).length∧A=([f,d,a]).length - k∧(t=sgA (([f,d,a]:List ByteArray).take k) 1)∧(t.length≤100*k)∧B=⟨[(3,lf (dS c)),(8,lP 0 0),(9,lP 1 0),(20,lR 2),(21,lI (([f,d,a]).length:Int)),(22,lI (k:Int))],[bx 0 164 [dI 0,.val (.slice none 0 0),.val (.slice none 0 0),.val (.slice none 0 0),dS ByteArray.empty],bx 1 242 [dI 0,.val (.slice none 0 0),.ref 4,.val (.slice none 0 0),dS ByteArray.empty,.val (.slice none 0 0),.val (.slice none 0 0)],ar 2 9 .str ([f,d,a]),ar 4 103 QI t]⟩) ⟨0,([]:(Ql:Ty).Den),aL _,rfl,rfl,(aL _),rfl⟩ ?_ ?_
 exact wp [(4,3)] ⟨rfl,rfl,rfl,(Qm (by first|rfl|simp)),trivial⟩
 rintro A B ⟨k,t,Z,a1,F,hL,rfl⟩
 refine w4 ?_
 cases H:(decide ((k:Int)<(([f,d,a]).length:Int)))
 have I:=aa H
 refine w6 ?_
 refine lc (UV (Vd c 32 (by omega)).frozen Qan ⟨_,_,rfl,(Qn rfl),⟨_,_,rfl,(Evl.ev (QJ 32 rfl)),rfl⟩⟩ rfl rfl) ?_
 refine alL 54 fun _=> ?_
 refine w4 ?_
 refine AC.wk (Qr 5 (p:=1) (off:=1) 290 Zu rfl rfl (Fresh.of rfl) (nlr rfl))<|AC.wk (Qr 6 (p:=1) (off:=3) 183 ZY rfl rfl (Fresh.of rfl) (nlr rfl))<|AC.wk (Qr 7 (p:=1) (off:=5) 9 .str rfl rfl (Fresh.of rfl) (nlr rfl))<|AC.wk (Qr 8 (p:=1) (off:=6) 9 .str rfl rfl (Fresh.of rfl) (nlr rfl)) ?_
 refine Qu (fun A B=>∃(m:Nat) (n:((Int×(List (List Int×List Int)))×(List (ByteArray×Int))×(List (Int×Bool))×ByteArray)×List ByteArray×List ByteArray),m≤(ZQ c 32).length∧A=(ZQ c 32).length - m∧(n=((ZQ c 32).take m).foldl arV (((0,[]),t,[],ByteArray.empty),[],[]))∧(DBJ n m (2*m) (2*m))∧B=⟨[(8,lP 0 0),(9,lP 1 0),(54,lf (.dat Qb (ZQ c 32))),(55,lI ((ZQ c 32).length:Int)),(56,lI (m:Int))],[bx 0 164 [dI 0,.val (.slice none 0 0),.val (.slice none 0 0),.val (.slice none 0 0),dS ByteArray.empty],bx 1 242 [dI n.1.1.1,.ref 9,.ref 10,.ref 11,dS n.1.2.2.2,.ref 12,.ref 13],ar 9 290 Zu n.1.1.2,ar 10 103 QI n.1.2.1,ar 11 183 ZY n.1.2.2.1,ar 12 9 .str n.2.1,ar 13 9 .str n.2.2]⟩) ⟨0,(((0,([]:(XZ:Ty).Den)),t,([]:(XQ:Ty).Den),ByteArray.empty),([]:(Qb:Ty).Den),([]:(Qb:Ty).Den)),aL _,rfl,rfl,(DBJ.zero _),rfl⟩ ?_ ?_
 exact wp [(9,5),(10,4),(11,6),(12,7),(13,8)] ⟨rfl,rfl,(Qm (by first|rfl|simp)),(Qm (by first|rfl|simp)),(Qm (by first|rfl|simp)),(Qm (by first|rfl|simp)),(Qm (by first|rfl|simp)),trivial⟩
 rintro A B ⟨m,n,a0,a2,E,N,rfl⟩
 refine w4 ?_
 cases J:(decide ((m:Int)<((ZQ c 32).length:Int)))
 have K:=aa J
 refine w11 ?_
 have R:(n.1.1.1:Int)=(((Qt f d a c).1).1):=by
  (rw[E,ZD (by omega),F,ZD (by omega)];rfl)
 have S:(n.1.2.2.2:ByteArray)=((Qt f d a c).2.2.2):=by
  (rw[E,ZD (by omega),F,ZD (by omega)];rfl)
 exact fi_ [(0,9),(1,10),(2,11)] X ⟨(Qm (by (rw[E,ZD (by omega),F,ZD (by omega)];rfl))),(Qm (by (rw[E,ZD (by omega),F,ZD (by omega)];rfl))),(Qm (by (rw[E,ZD (by omega),F,ZD (by omega)];rfl))),trivial⟩ (h0:=by rw[R,S] <;> rfl)
 have K:=ab J
 refine w5 ?_
 obtain ⟨r,y⟩:=gx (ZQ c 32) m
 have L:=y
 have a5:=QaQ (ae y)
 refine w7 ?_
 refine lc (dP 14 [(0,1),(1,10),(2,9),(3,11),(4,12),(5,13)] (Qdi n r m N (by omega) (au.1 Y _ (ae L)) (by omega)) Qlv) ?_
 refine Qd ?_
 refine w4 ?_
 refine Qd<|QV ⟨m+1,((((arV n r).1.1.1,(arV n r).1.1.2),(arV n r).1.2.1,(arV n r).1.2.2.1,(arV n r).1.2.2.2),(arV n r).2.1,(arV n r).2.2),by omega,rfl,(by rw[E,QE L,cP];rfl),(N.ar_ (text:=r)),rfl⟩ (by omega) ?_
 exact wp [(9,16),(11,17),(12,18),(13,19)] ⟨rfl,rfl,(Qm (by first|rfl|simp)),(Qm (by first|rfl|simp)),(Qm (by first|rfl|simp)),(Qm (by first|rfl|simp)),(Qm (by first|rfl|simp)),trivial⟩
 have I:=ab H
 refine w7 ?_
 obtain ⟨q,z⟩:=gx ([f,d,a]) k
 have M:=z
 have a3:q.size≤100:=by have o:=ae z;simp only[aJ,bN,or_false] at o;rcases o with rfl|rfl|rfl <;> omega
 refine w8 ?_
 refine Qu (fun A B=>∃(i:Nat) (C:List (ByteArray×Int)),i≤q.size∧A=q.size - i∧(C=t++sgN q ((k:Int)+1) i)∧(C.length≤100*k+i)∧B=⟨[(3,lf (dS c)),(8,lP 0 0),(9,lP 1 0),(10,lI (k:Int)),(11,lf (dS q)),(12,lI (i:Int)),(20,lR 2),(21,lI (([f,d,a]).length:Int)),(22,lI (k:Int)),(23,lB true),(24,lI (k:Int)),(25,lf (.ept 2 1 k 0)),(26,lf (dS q))],[bx 0 164 [dI 0,.val (.slice none 0 0),.val (.slice none 0 0),.val (.slice none 0 0),dS ByteArray.empty],bx 1 242 [dI 0,.val (.slice none 0 0),.ref 20,.val (.slice none 0 0),dS ByteArray.empty,.val (.slice none 0 0),.val (.slice none 0 0)],ar 2 9 .str ([f,d,a]),ar 20 103 QI C]⟩) ⟨0,t,aL _,rfl,(by simp[sgN]),(by omega),rfl⟩ ?_ ?_
 exact wo [(20,4)]
 rintro A B ⟨i,C,O,P,G,W,rfl⟩
 refine w4 ?_
 refine alS 28 fun _=> ?_
 refine lc (Q5 (Qa rfl) rfl Zo) ?_
 refine w2 ?_
 cases u:(decide ((i:Int)<(q.size:Int)))
 have D:=aa u
 refine w6 ?_
 refine Qd<|QV ⟨k+1,C,by omega,rfl,(by rw[G,F,show i=q.size by omega];exact Qta M),(by omega),rfl⟩ (by omega) ?_
 exact wo [(4,20)]
 have D:=ab u
 refine w4 ?_
 apply dV (i9 33 _ _ _ _ _ _ _ _ _ (io 42 _::io 43 (lf (dS (q.extract ((i:Int)).toNat ((i:Int)+1).toNat)))::i2 44 _ _ (io 46 (ag [dS (q.extract ((i:Int)).toNat ((i:Int)+1).toNat),dI ((k:Int)+1)])::⟨some 47,lR 21,[ar 21 103 QI ([(q.extract ((i:Int)).toNat ((i:Int)+1).toNat,(k:Int)+1)])]⟩::⟨some 48,lR 22,[ar 22 103 QI (C++([(q.extract ((i:Int)).toNat ((i:Int)+1).toNat,(k:Int)+1)])),(20,none),(21,none)]⟩::i3 49 _ _ _ [⟨none,lf (.val undef),[bx 1 242 [dI 0,.val (.slice none 0 0),.ref 22,.val (.slice none 0 0),dS ByteArray.empty,.val (.slice none 0 0),.val (.slice none 0 0)]]⟩]))) [0,1,1,1,1,1,63,127,255,255,63,2047,2047,63,63,1,0,0,0,0]
 refine z10 ?_
 refine zz (fun _ o=>ac (show Does _ _ _ _ (St.put _ 43 (lf (dS (q.extract ((i:Int)).toNat ((i:Int)+1).toNat)))) from Zb (l:=(some (i:Int))) (h:=(some ((i:Int)+1))) (o.v rfl) (by exact (o.v rfl)) (by exact (o.v rfl)) Zo rfl (by first|omega|(simp only[ak,aj];omega)) (by first|omega|(simp only[ak,aj];omega)) (by first|omega|(simp only[ak,aj];omega))) rfl) ?_
 refine z2 ?_
 refine zz (fun _ o=>ac (Qk Qt2 ⟨_,_,rfl,(o.w rfl),⟨_,_,rfl,(o.w rfl),rfl⟩⟩ (au.1 rfl) rfl rfl) rfl) ?_
 refine zz (fun _ o=>ac (dBs 21 (e:=QI) WO (hab:=by exact ⟨_,_,_,_,rfl,⟨[dS (q.extract ((i:Int)).toNat ((i:Int)+1).toNat)],[dI ((k:Int)+1)],_,_,_,_,rfl,rfl,⟨rfl,rfl⟩,⟨rfl,rfl⟩,rfl⟩,⟨rfl,rfl⟩,rfl⟩)) rfl) ?_
 refine zz (fun _ o=>ac (dA 22 Hp (hb:=by first|omega|(simp only[av,aC];omega))) rfl) ?_
 refine z3 ?_
 refine zz (fun _ o=>ac (ZA (o.v rfl) (o.en 1 rfl) (o.w rfl) (by simp only[Zj,Kq,bt,bW];rw[(o.en 22 rfl)];rfl) Qx1 rfl) rfl) ?_
 exact zN
 refine w5 ?_
 refine Qd<|QV ⟨i+1,(C++([(q.extract ((i:Int)).toNat ((i:Int)+1).toNat,(k:Int)+1)])),by omega,rfl,(by rw[G];exact Qtb),(by simp only[ah,av,aC];omega),rfl⟩ (by omega) ?_
 exact wp [(20,22)] ⟨rfl,rfl,rfl,(Qm (by first|rfl|simp)),trivial⟩
def tx0:ByteArray:=⟨#[97,98]⟩
def tx1:ByteArray:=⟨#[99]⟩
def tx2:ByteArray:=⟨#[]⟩
def tx3:ByteArray:=⟨#[97,43,62,99,43,32,98,43,62,99,43,32,99,43,62,97,45,32,99,43,62,98,45,32,97,45,62,99,45,32,98,45,62,99,45,32,42,99,45,62,97,43,32,42,99,45,62,98,43]⟩
def tx4:ByteArray:=⟨#[97]⟩
def tx5:ByteArray:=⟨#[98]⟩
def tx6:ByteArray:=⟨#[97,43,62,98,43,32,98,43,62,97,45,32,97,45,62,98,45,32,42,98,45,62,97,43]⟩
def tx7:ByteArray:=⟨#[114]⟩
def tx8:ByteArray:=⟨#[120,121]⟩
def tx9:ByteArray:=⟨#[114,43,62,120,43,32,114,43,62,121,43,32,120,43,62,114,45,32,121,43,62,114,45,32,114,45,62,120,45,32,114,45,62,121,45,32,42,120,45,62,114,43,32,42,121,45,62,114,43]⟩
def Qqj:ByteArray:=⟨#[97,100]⟩
def Hc:ByteArray:=⟨#[98,99]⟩
def Qqk:ByteArray:=⟨#[97,43,62,98,43,32,98,43,62,100,43,32,100,43,62,99,43,32,99,43,62,97,45,32,97,45,62,98,45,32,98,45,62,100,45,32,100,45,62,99,45,32,42,99,45,62,97,43]⟩
def Qql:ByteArray:=⟨#[120]⟩
def Qqm:ByteArray:=⟨#[97,43,62,120,43,32,120,43,62,98,43,32,98,43,62,97,45,32,97,45,62,120,45,32,120,45,62,98,45,32,42,98,45,62,97,43]⟩
def Qqn:ByteArray:=⟨#[42,95,112,62,97,43,32,95,112,62,98,43,32,97,43,62,99,43,47,49,32,99,43,47,49,62,97,45,32,97,45,62,99,45,47,49,32,99,45,47,49,62,95,112,32,98,43,62,99,43,47,50,32,99,43,47,50,62,98,45,32,98,45,62,99,45,47,50,32,99,45,47,50,62,95,112]⟩
def Qqo:ByteArray:=⟨#[97,43,62,126,32,126,62,98,43,32,98,43,62,97,45,32,97,45,62,98,45,32,42,98,45,62,97,43]⟩
def Qgi:ByteArray:=⟨#[42,121,45,62,114,43,32,114,43,62,120,43,32,120,43,62,120,45,32,120,45,62,121,43,32,121,43,62,114,45,32,114,45,62,121,45]⟩
def Qgj:ByteArray:=⟨#[42,97,45,62,97,43,32,97,43,62,95,112,32,95,112,62,98,43,32,95,112,62,99,43,32,98,43,62,98,45,32,99,43,62,99,45,32,98,45,62,95,113,32,99,45,62,95,113,32,95,113,62,97,45]⟩
def Qqp:ByteArray:=⟨#[97,43,47,49,62,98,43,32,98,43,62,97,43,47,50,32,97,43,47,50,62,98,45,32,42,98,45,62,97,43,47,49]⟩
def QAb:ByteArray:=⟨#[112]⟩
def QAc:ByteArray:=⟨#[113]⟩
def QAd:ByteArray:=⟨#[112,43,62,113,43,32,113,43,62,112,45,32,112,45,62,113,45,32,42,113,45,62,112,43]⟩
def Qqq:ByteArray:=⟨#[42,95,112,62,97,43,32,97,43,62,98,43,32,98,43,62,95,113]⟩
theorem Ws (code:List UInt8)(at_:Int)(sd:Int)(n:0≤at_∧at_≤999999000):FC Tryz.prog 245 [(false,[.ptr 0 0])] [bx 0 86 [.dat QS code,dI at_,.val (.int .u64 sd)]] 1 (Ex (fun x:ZG×Int×Int=>Ty.tot Qdu x.1≤1000∧(1≤x.1.2.1.length∧1≤x.1.2.2.1.length)∧(at_≤x.2.1∧x.2.1≤at_+10)) (fun x:ZG×Int×Int=>ag [dI x.1.1.1,.ref 1,.ref 2,.ref 3,dS x.1.2.2.2]) (fun x:ZG×Int×Int=>[bx 0 86 [.dat QS code,dI x.2.1,.val (.int .u64 x.2.2)],ar 1 290 Zu x.1.1.2,ar 2 103 QI x.1.2.1,ar 3 183 ZY x.1.2.2.1])):=by
 refine Qj Tryz.func245 rfl rfl Tryz.ntmps245 fun h a f b m d c=> ?_
 refine w_ ?_
 refine lc (xal 1 Qkz Vx) ?_
 refine w4 ?_
 have e:=ZP code at_ sd 7
 refine lc (dP 2 [] (QF code at_ sd 7 (by omega)) Zy) ?_
 refine w6 ?_
 refine cd_ (fun _ _=> ?_) fun _ _=> ?_
 refine w4 ?_
 refine cd_ (fun _ _=> ?_) fun _ _=> ?_
 refine w4 ?_
 refine cd_ (fun _ _=> ?_) fun _ _=> ?_
 refine w4 ?_
 refine cd_ (fun _ _=> ?_) fun _ _=> ?_
 refine w4 ?_
 refine cd_ (fun _ _=> ?_) fun _ _=> ?_
 refine w4 ?_
 refine cd_ (fun _ _=> ?_) fun _ _=> ?_
 refine w3 ?_
 refine lc (dG 3 (QM tx4 tx5 tx2 Qqo (by decide+kernel) (by decide+kernel)) Zk) ?_
 refine w3 ?_
 subst a
 refine Zh (x:=(((((Qt tx4 tx5 tx2 Qqo).1).1,((Qt tx4 tx5 tx2 Qqo).1).2),((Qt tx4 tx5 tx2 Qqo).2.1,((Qt tx4 tx5 tx2 Qqo).2.2.1,(Qt tx4 tx5 tx2 Qqo).2.2.2))),((pkA 7 at_),(pkS code at_ sd 7)))) [(0,0),(1,3),(2,4),(3,5)] ?_ (Res.one rfl (Rs.cell rfl rfl Z9 rfl)) rfl ⟨rfl,rfl,rfl,rfl,trivial⟩ rfl rfl
 first|(dsimp only;exact ⟨by decide+kernel,⟨by decide+kernel,by decide+kernel⟩,by omega⟩)
 refine w_ ?_
 refine lc (dG 6 (QM tx0 tx1 tx2 Qqn (by decide+kernel) (by decide+kernel)) Zk) ?_
 refine w3 ?_
 subst a
 refine Zh (x:=(((((Qt tx0 tx1 tx2 Qqn).1).1,((Qt tx0 tx1 tx2 Qqn).1).2),((Qt tx0 tx1 tx2 Qqn).2.1,((Qt tx0 tx1 tx2 Qqn).2.2.1,(Qt tx0 tx1 tx2 Qqn).2.2.2))),((pkA 7 at_),(pkS code at_ sd 7)))) [(0,0),(1,6),(2,7),(3,8)] ?_ (Res.one rfl (Rs.cell rfl rfl Z9 rfl)) rfl ⟨rfl,rfl,rfl,rfl,trivial⟩ rfl rfl
 first|(dsimp only;exact ⟨by decide+kernel,⟨by decide+kernel,by decide+kernel⟩,by omega⟩)
 refine w_ ?_
 refine lc (dG 9 (QM tx4 tx5 Qql Qqm (by decide+kernel) (by decide+kernel)) Zk) ?_
 refine w3 ?_
 subst a
 refine Zh (x:=(((((Qt tx4 tx5 Qql Qqm).1).1,((Qt tx4 tx5 Qql Qqm).1).2),((Qt tx4 tx5 Qql Qqm).2.1,((Qt tx4 tx5 Qql Qqm).2.2.1,(Qt tx4 tx5 Qql Qqm).2.2.2))),((pkA 7 at_),(pkS code at_ sd 7)))) [(0,0),(1,9),(2,10),(3,11)] ?_ (Res.one rfl (Rs.cell rfl rfl Z9 rfl)) rfl ⟨rfl,rfl,rfl,rfl,trivial⟩ rfl rfl
 first|(dsimp only;exact ⟨by decide+kernel,⟨by decide+kernel,by decide+kernel⟩,by omega⟩)
 refine w_ ?_
 refine lc (dG 12 (QM Qqj Hc tx2 Qqk (by decide+kernel) (by decide+kernel)) Zk) ?_
 refine w3 ?_
 subst a
 refine Zh (x:=(((((Qt Qqj Hc tx2 Qqk).1).1,((Qt Qqj Hc tx2 Qqk).1).2),((Qt Qqj Hc tx2 Qqk).2.1,((Qt Qqj Hc tx2 Qqk).2.2.1,(Qt Qqj Hc tx2 Qqk).2.2.2))),((pkA 7 at_),(pkS code at_ sd 7)))) [(0,0),(1,12),(2,13),(3,14)] ?_ (Res.one rfl (Rs.cell rfl rfl Z9 rfl)) rfl ⟨rfl,rfl,rfl,rfl,trivial⟩ rfl rfl
 first|(dsimp only;exact ⟨by decide+kernel,⟨by decide+kernel,by decide+kernel⟩,by omega⟩)
 refine w_ ?_
 refine lc (dG 15 (QM tx7 tx8 tx2 tx9 (by decide+kernel) (by decide+kernel)) Zk) ?_
 refine w3 ?_
 subst a
 refine Zh (x:=(((((Qt tx7 tx8 tx2 tx9).1).1,((Qt tx7 tx8 tx2 tx9).1).2),((Qt tx7 tx8 tx2 tx9).2.1,((Qt tx7 tx8 tx2 tx9).2.2.1,(Qt tx7 tx8 tx2 tx9).2.2.2))),((pkA 7 at_),(pkS code at_ sd 7)))) [(0,0),(1,15),(2,16),(3,17)] ?_ (Res.one rfl (Rs.cell rfl rfl Z9 rfl)) rfl ⟨rfl,rfl,rfl,rfl,trivial⟩ rfl rfl
 first|(dsimp only;exact ⟨by decide+kernel,⟨by decide+kernel,by decide+kernel⟩,by omega⟩)
 refine w_ ?_
 refine lc (dG 18 (QM tx4 tx5 tx2 tx6 (by decide+kernel) (by decide+kernel)) Zk) ?_
 refine w3 ?_
 subst a
 refine Zh (x:=(((((Qt tx4 tx5 tx2 tx6).1).1,((Qt tx4 tx5 tx2 tx6).1).2),((Qt tx4 tx5 tx2 tx6).2.1,((Qt tx4 tx5 tx2 tx6).2.2.1,(Qt tx4 tx5 tx2 tx6).2.2.2))),((pkA 7 at_),(pkS code at_ sd 7)))) [(0,0),(1,18),(2,19),(3,20)] ?_ (Res.one rfl (Rs.cell rfl rfl Z9 rfl)) rfl ⟨rfl,rfl,rfl,rfl,trivial⟩ rfl rfl
 first|(dsimp only;exact ⟨by decide+kernel,⟨by decide+kernel,by decide+kernel⟩,by omega⟩)
 refine w_ ?_
 refine lc (dG 21 (QM tx0 tx1 tx2 tx3 (by decide+kernel) (by decide+kernel)) Zk) ?_
 refine w3 ?_
 subst a
 refine Zh (x:=(((((Qt tx0 tx1 tx2 tx3).1).1,((Qt tx0 tx1 tx2 tx3).1).2),((Qt tx0 tx1 tx2 tx3).2.1,((Qt tx0 tx1 tx2 tx3).2.2.1,(Qt tx0 tx1 tx2 tx3).2.2.2))),((pkA 7 at_),(pkS code at_ sd 7)))) [(0,0),(1,21),(2,22),(3,23)] ?_ (Res.one rfl (Rs.cell rfl rfl Z9 rfl)) rfl ⟨rfl,rfl,rfl,rfl,trivial⟩ rfl rfl
 first|(dsimp only;exact ⟨by decide+kernel,⟨by decide+kernel,by decide+kernel⟩,by omega⟩)
theorem Qbt (code:List UInt8)(at_:Int)(sd:Int)[∀s,Decidable (StgOk s)][∀s,Decidable (Y8 s)](w:0≤at_∧at_≤999998900):FC Tryz.prog 170 [(false,[.ptr 0 0])] [bx 0 86 [.dat QS code,dI at_,.val (.int .u64 sd)]] 1 (Ex (fun x:ZG×Int×Int=>Ty.tot Qdu x.1≤1000∧(1≤x.1.2.1.length∧1≤x.1.2.2.1.length)∧(at_≤x.2.1∧x.2.1≤at_+20)) (fun x:ZG×Int×Int=>ag [dI x.1.1.1,.ref 1,.ref 2,.ref 3,dS x.1.2.2.2]) (fun x:ZG×Int×Int=>[bx 0 86 [.dat QS code,dI x.2.1,.val (.int .u64 x.2.2)],ar 1 290 Zu x.1.1.2,ar 2 103 QI x.1.2.1,ar 3 183 ZY x.1.2.2.1])):=by
 refine Qj Tryz.func170 rfl rfl Tryz.ntmps170 fun u b t n v p o=> ?_
 refine w_ ?_
 refine lc (xal 1 Qkz Vx) ?_
 refine w4 ?_
 have q:=ZP code at_ sd 9
 refine lc (dP 2 [] (QF code at_ sd 9 (by omega)) Zy) ?_
 refine w6 ?_
 refine cd_ (fun _ _=> ?_) fun _ _=> ?_
 refine w4 ?_
 refine cd_ (fun _ _=> ?_) fun _ _=> ?_
 refine w4 ?_
 refine cd_ (fun _ _=> ?_) fun _ _=> ?_
 refine w4 ?_
 refine cd_ (fun _ _=> ?_) fun _ _=> ?_
 refine w4 ?_
 refine cd_ (fun _ _=> ?_) fun _ _=> ?_
 refine w4 ?_
 refine Ys 3 [(0,0)] (Ws code (pkA 9 at_) (pkS code at_ sd 9) (by omega)) Qe3 e1_ ⟨rfl,trivial⟩ rfl (fun _=>rfl) (fun _=>⟨trivial,(Fresh.of rfl),(Fresh.of rfl),(Fresh.of rfl),trivial⟩) (nlr rfl) fun d r=> ?_
 refine w3 ?_
 subst b
 refine Zh (x:=(((d.1.1.1,d.1.1.2),(d.1.2.1,(d.1.2.2.1,d.1.2.2.2))),(d.2.1,d.2.2))) [(0,0),(1,4),(2,5),(3,6)] ?_ (Res.one rfl (Rs.cell rfl rfl Z9 rfl)) rfl ⟨rfl,rfl,rfl,rfl,trivial⟩ rfl rfl
 (have c:=‹Ty.tot Qdu _≤1000∧_›;dsimp only;exact ⟨c.1,c.2.1,by omega⟩)
 refine w_ ?_
 refine lc (dG 7 (QM tx4 tx5 tx2 Qqq (by decide+kernel) (by decide+kernel)) Zk) ?_
 refine w3 ?_
 subst b
 refine Zh (x:=(((((Qt tx4 tx5 tx2 Qqq).1).1,((Qt tx4 tx5 tx2 Qqq).1).2),((Qt tx4 tx5 tx2 Qqq).2.1,((Qt tx4 tx5 tx2 Qqq).2.2.1,(Qt tx4 tx5 tx2 Qqq).2.2.2))),((pkA 9 at_),(pkS code at_ sd 9)))) [(0,0),(1,7),(2,8),(3,9)] ?_ (Res.one rfl (Rs.cell rfl rfl Z9 rfl)) rfl ⟨rfl,rfl,rfl,rfl,trivial⟩ rfl rfl
 (dsimp only;exact ⟨by decide+kernel,⟨by decide+kernel,by decide+kernel⟩,by omega⟩)
 refine w_ ?_
 refine lc (dK (QM QAb QAc tx2 QAd (by decide+kernel) (by decide+kernel)).frozenG Zk) ?_
 refine lc (dK (QM tx4 tx5 tx2 tx6 (by decide+kernel) (by decide+kernel)).frozenG Zk) ?_
 refine Ys 10 [] (Qbs (Qt QAb QAc tx2 QAd) (Qt tx4 tx5 tx2 tx6) (by decide+kernel) (by decide+kernel)) QlN e2_ trivial rfl (fun _=>rfl) (fun _=>⟨(Fresh.of rfl),(Fresh.of rfl),(Fresh.of rfl),trivial⟩) (nlr rfl) fun e h=> ?_
 refine w3 ?_
 refine lc (xal 13 Qkz Vx) ?_
 refine w6 ?_
 refine cb_ (fun _=> ?_) fun _=> ?_
 refine w4 ?_
 refine Ys 14 [(0,0)] (Ws code (pkA 9 at_) (pkS code at_ sd 9) (by omega)) Qe3 e1_ ⟨rfl,trivial⟩ rfl (fun _=>rfl) (fun _=>⟨trivial,(Fresh.of rfl),(Fresh.of rfl),(Fresh.of rfl),trivial⟩) (nlr rfl) fun a m=> ?_
 refine w3 ?_
 subst b
 refine Zh (x:=(((a.1.1.1,a.1.1.2),(a.1.2.1,(a.1.2.2.1,a.1.2.2.2))),(a.2.1,a.2.2))) [(0,0),(1,15),(2,16),(3,17)] ?_ (Res.one rfl (Rs.cell rfl rfl Z9 rfl)) rfl ⟨rfl,rfl,rfl,rfl,trivial⟩ rfl rfl
 (have c:=‹Ty.tot Qdu _≤1000∧_›;dsimp only;exact ⟨c.1,c.2.1,by omega⟩)
 refine w5 ?_
 subst b
 refine Zh (x:=(((e.1.1.1,e.1.1.2),(e.1.2.1,(e.1.2.2.1,e.1.2.2.2))),((pkA 9 at_),(pkS code at_ sd 9)))) [(0,0),(1,10),(2,11),(3,12)] ?_ (Res.one rfl (Rs.cell rfl rfl Z9 rfl)) rfl ⟨rfl,rfl,rfl,rfl,trivial⟩ rfl rfl
 (have c:=‹_=true→_=unS _ _›;have f:=c ‹_›;dsimp only;rw[f];exact ⟨by decide+kernel,⟨by decide+kernel,by decide+kernel⟩,by omega⟩)
 refine w_ ?_
 refine lc (dG 18 (QM tx4 tx5 tx2 Qqp (by decide+kernel) (by decide+kernel)) Zk) ?_
 refine w3 ?_
 subst b
 refine Zh (x:=(((((Qt tx4 tx5 tx2 Qqp).1).1,((Qt tx4 tx5 tx2 Qqp).1).2),((Qt tx4 tx5 tx2 Qqp).2.1,((Qt tx4 tx5 tx2 Qqp).2.2.1,(Qt tx4 tx5 tx2 Qqp).2.2.2))),((pkA 9 at_),(pkS code at_ sd 9)))) [(0,0),(1,18),(2,19),(3,20)] ?_ (Res.one rfl (Rs.cell rfl rfl Z9 rfl)) rfl ⟨rfl,rfl,rfl,rfl,trivial⟩ rfl rfl
 (dsimp only;exact ⟨by decide+kernel,⟨by decide+kernel,by decide+kernel⟩,by omega⟩)
 refine w_ ?_
 refine lc (dG 21 (QM tx4 Hc tx2 Qgj (by decide+kernel) (by decide+kernel)) Zk) ?_
 refine w3 ?_
 subst b
 refine Zh (x:=(((((Qt tx4 Hc tx2 Qgj).1).1,((Qt tx4 Hc tx2 Qgj).1).2),((Qt tx4 Hc tx2 Qgj).2.1,((Qt tx4 Hc tx2 Qgj).2.2.1,(Qt tx4 Hc tx2 Qgj).2.2.2))),((pkA 9 at_),(pkS code at_ sd 9)))) [(0,0),(1,21),(2,22),(3,23)] ?_ (Res.one rfl (Rs.cell rfl rfl Z9 rfl)) rfl ⟨rfl,rfl,rfl,rfl,trivial⟩ rfl rfl
 (dsimp only;exact ⟨by decide+kernel,⟨by decide+kernel,by decide+kernel⟩,by omega⟩)
 refine w_ ?_
 refine lc (dG 24 (QM tx7 tx8 tx2 Qgi (by decide+kernel) (by decide+kernel)) Zk) ?_
 refine w3 ?_
 subst b
 refine Zh (x:=(((((Qt tx7 tx8 tx2 Qgi).1).1,((Qt tx7 tx8 tx2 Qgi).1).2),((Qt tx7 tx8 tx2 Qgi).2.1,((Qt tx7 tx8 tx2 Qgi).2.2.1,(Qt tx7 tx8 tx2 Qgi).2.2.2))),((pkA 9 at_),(pkS code at_ sd 9)))) [(0,0),(1,24),(2,25),(3,26)] ?_ (Res.one rfl (Rs.cell rfl rfl Z9 rfl)) rfl ⟨rfl,rfl,rfl,rfl,trivial⟩ rfl rfl
 (dsimp only;exact ⟨by decide+kernel,⟨by decide+kernel,by decide+kernel⟩,by omega⟩)
end Go.Proofs.YtjfpbcmfbnnooaaGreat
