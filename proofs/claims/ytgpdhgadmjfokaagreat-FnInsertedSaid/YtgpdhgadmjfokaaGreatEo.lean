/- Walks over abstract states: two graphs as one, the reference; graphs compared. -/
import Derived.Test.YtgpdhgadmjfokaaGreatDe
import Derived.Test.YtgpdhgadmjfokaaGreatWk
import Derived.Test.YtgpdhgadmjfokaaGreatAk
import Derived.Test.YtgpdhgadmjfokaaGreatStr
import Derived.Test.YtgpdhgadmjfokaaGreatProg
import Derived.KernelRfl
import Derived.Test.YtgpdhgadmjfokaaGreatAl
import Derived.Test.YtgpdhgadmjfokaaGreatWw
import Derived.Test.YtgpdhgadmjfokaaGreatEd
import Derived.Test.YtgpdhgadmjfokaaGreatUg
set_option linter.unusedSimpArgs false
set_option linter.unusedVariables false
set_option linter.unusedSectionVars false
namespace Go.Proofs.YtgpdhgadmjfokaaGreat
open Go.RowKit
set_option maxRecDepth 100000
set_option maxHeartbeats 4000000
def unN (a b:YU):YU:=(a.1+b.1,a.2++b.2.map (QiZ a.1))
def unL (n:Nat)(l:QZ):QZ:=if 0≤l.1 then (l.1+(n:Int),l.2) else l
def unS (a b:QV):QV:=(unN a.1 b.1,a.2.1++b.2.1,a.2.2.1++b.2.2.1.map (unL a.2.1.length),a.2.2.2++b.2.2.2)
theorem Qk3 {l:List Int}{hi:Int}(h:Ki l hi):∀x∈l,0≤x∧x≤hi:=fun x b=>by
 obtain ⟨k,a⟩:=aJ.1 b
 exact (h k (ae.1 a).1 x a).1
theorem Qkp:∀{l:List Int} {hi:Int},Ki l hi→ -1≤hi→(l.length:Int)≤hi+1:=fun {l hi} h g=>by
 have b:∀(k:Nat) x,l[k]? =some x→(k:Int)≤x:=fun k=>by
  induction k with
  | zero=>intro x a; exact (h 0 (ae.1 a).1 x a).1.1
  | succ k f=>
   intro x a
   have c:=(ae.1 a).1
   obtain ⟨y,d⟩:∃y,l[k]? =some y:=⟨_,aj (by omega)⟩
   have e:=f y d
   have i:=(h (k+1) c x a).2 k y rfl d
   omega
 by_cases j:l.length=0
 ·omega
 ·obtain ⟨x,a⟩:∃x,l[l.length - 1]? =some x:=⟨_,aj (by omega)⟩
  have c:=b _ x a
  have e:=(h _ (ae.1 a).1 x a).1.2
  omega
theorem Wz {n:YU}(h:Xa n):(1≤n.1∧n.1≤30)∧n.2.length≤24∧∀t∈n.2,(t.1.length≤30∧t.2.length≤30)∧(∀x∈t.1,0≤x∧x≤29)∧∀x∈t.2,0≤x∧x≤29:=by
 obtain ⟨d,e,f⟩:=h
 refine ⟨d,e,fun t g=> ?_⟩
 obtain ⟨_,b,c⟩:=f t g
 have i:=Qkp b (by omega)
 have j:=Qkp c (by omega)
 exact ⟨⟨by omega,by omega⟩,fun x a=>by have:=Qk3 b x a; omega,fun x a=>by have:=Qk3 c x a; omega⟩
theorem UP (l:List Int)(d:Int)(p:l.length≤100000)(hb:∀x∈l, -9223372036854775808≤x+d∧x+d≤9223372036854775807):FC Tryz.prog 465 [(false,[.dat QO l]),(false,[dI d])] [] 0 (XD 3 .int (l.map fun x=>x+d)):=by
 refine Qu Tryz.func465 rfl rfl Tryz.ntmps465 fun n i m f o h g=> ?_
 refine acI 1 fun _=> ?_
 refine w9 ?_
 refine alL 8 fun _=> ?_
 refine w4 ?_
 refine AC.wk (Wk.nilS 0 5 3 .int rfl (Fresh.of rfl) (nlr rfl)) ?_
 refine lp0 l.length (fun k=>⟨[(1,lI d),(4,lf (.val (.slice none 0 0))),(5,lR 1),(8,lf (.dat QO l)),(9,lI (l.length:Int)),(10,lI (k:Int))],[ar 1 3 .int ((l.take k).map fun x=>x+d)]⟩) ?_ fun k _=> ?_
 exact wp [(1,0)] ⟨(Qh (by simp)),trivial⟩
 refine w4 ?_
 cases a:(decide ((k:Int) < (l.length:Int)))
 have b:=aa a
 refine w7 ?_
 refine Qe<|fo_ i ?_
 ·(rw[Q5 (by omega)]; done)
 have b:=ab a
 refine w5 ?_
 obtain ⟨q,c⟩:=gx l k
 have j:=hb _ (ai c)
 refine w2 ?_
 refine alI 13 fun _=> ?_
 refine w7 ?_
 refine lc (dBs 2 (e:= .int) Yz) ?_
 refine lc (dA 3 Xe) ?_
 refine w_ ?_
 refine Qc ?_
 refine w4 ?_
 refine Qc ?_
 refine l0_ ?_
 exact wp [(1,3)] ⟨(Qh (by rw[QI c]; simp)),trivial⟩
theorem Vb (n:YU)[Decidable (Xa n)]:FC Tryz.prog 356 [(true,leaves H6 n)] [] 0 (Q7 (lf (dB (decide (Xa n))))):=Qaf fun d w e h=>by
 obtain ⟨c,rfl,a⟩:=h.agg1
 have b:=a.len
 match c,b with
 | [a0,a1],_=>exact (Qdc a0 a1 n w a).mono fun _ _ h=>VF h
theorem QtE {n:Nat}{l:QZ}(h:QeO n l): -1≤l.1∧l.1≤(n:Int):=by
 unfold QeO at h; omega
theorem Hg (a:Qlf)(b:Qlf)[∀s,Decidable (StgOk s)][∀s,Decidable (Xa s)](D:Ty.tot H6 a≤2000000):FC Tryz.prog 430 [(true,[dI a.1, .dat Xr a.2]),(true,[dI b.1, .dat Xr b.2])] [] 0 (Ex (fun x:YU×Bool=>x.2=true→x.1=unN a b) (fun x:YU×Bool=>PV.tup [(true,[dI x.1.1, .ref 0]),(false,[dB x.2])]) (fun x:YU×Bool=>[ar 0 245 Z4 x.1.2])):=by
 refine Qu Tryz.func430 rfl rfl Tryz.ntmps430 fun F y E A G C B=> ?_
 refine acG 0 0 fun _=> ?_
 refine acG 1 0 fun _=> ?_
 refine w_ ?_
 refine xbx 0 ?_
 refine xbx 1 ?_
 refine lc (xal 2 QnL Qar) ?_
 refine w5 ?_
 refine lc (dK (Vb a) JL) ?_
 refine w2 ?_
 cases i:(decide (Xa a))
 have j:=aa i
 refine w7 ?_
 refine lc (Qi QfZ rfl (aq.1 rfl) rfl rfl) ?_
 refine w3 ?_
 refine AC.wk (Qt 3 (p:=2) (off:=1) 245 Z4 rfl rfl (Fresh.of rfl) (nlr rfl))<|Qe ?_
 subst y
 refine Za (x:=((0,[]),false)) [(0,3)] ?_ (Xh rfl (Rs.cell rfl rfl Qfo rfl) (XE rfl)) rfl ⟨rfl,trivial⟩ rfl rfl
 exact fun h=>absurd h (by decide)
 have j:=ab i
 refine w_ ?_
 refine lgy rfl rfl (dK (Vb b) JL) ?_
 refine w3 ?_
 cases l:(decide (Xa b))
 have m:=aa l
 refine w2 ?_
 refine lc (Qi QfZ rfl (aq.1 rfl) rfl rfl) ?_
 refine w3 ?_
 refine AC.wk (Qt 4 (p:=2) (off:=1) 245 Z4 rfl rfl (Fresh.of rfl) (nlr rfl))<|Qe ?_
 subst y
 refine Za (x:=((0,[]),false)) [(0,4)] ?_ (Xh rfl (Rs.cell rfl rfl Qfo rfl) (XE rfl)) rfl ⟨rfl,trivial⟩ rfl rfl
 exact fun h=>absurd h (by decide)
 have m:=ab l
 refine w4 ?_
 refine lc (dG 5 (Qb4 a D) Qh9) ?_
 refine lc (xal 6 QnL Qar) ?_
 refine w7 ?_
 refine lc (Xd (Qa rfl) (Qa rfl) rfl (by first | omega | (have t:=(Wz ‹Xa a›).1; have u:=(Wz ‹Xa b›).1; omega))) ?_
 refine w7 ?_
 refine alL 27 fun _=> ?_
 refine w4 ?_
 refine lp0 b.2.length (fun k=>⟨[(2,lP 0 0),(4,lP 2 0),(5,lB false),(6,lP 6 0),(27,lf (.dat Xr b.2)),(28,lI (b.2.length:Int)),(29,lI (k:Int))],[bx 0 59 [dI a.1, .dat Xr a.2],bx 2 59 [dI 0, .val (.slice none 0 0)],bx 6 59 [dI (a.1+b.1), .ref 7],ar 7 245 Z4 (a.2++(b.2.take k).map (QiZ a.1))]⟩) ?_ fun k _=> ?_
 exact wp [(7,5)] ⟨rfl,rfl,rfl,(Qh (by simp)),trivial⟩
 refine w4 ?_
 cases n:(decide ((k:Int) < (b.2.length:Int)))
 have o:=aa n
 refine w6 ?_
 refine lc (X8 (Vb (a.1+b.1,a.2++(b.2.take k).map (QiZ a.1))) JL ⟨_,_,rfl,(QaR (Qr rfl) ⟨_,_,rfl, .inl rfl,⟨_,_,rfl, .inr ⟨_,_,_,_,rfl,rfl,rfl⟩,rfl⟩⟩),rfl⟩ rfl rfl rfl) ?_
 refine w2 ?_
 cases q:(decide (Xa (a.1+b.1,a.2++(b.2.take k).map (QiZ a.1))))
 have r:=aa q
 refine w2 ?_
 refine lc (Qi QfZ rfl (aq.1 rfl) rfl rfl) ?_
 refine w3 ?_
 refine AC.wk (Qt 8 (p:=2) (off:=1) 245 Z4 rfl rfl (Fresh.of rfl) (nlr rfl))<|Qe ?_
 subst y
 refine Za (x:=((0,[]),false)) [(0,8)] ?_ (Xh rfl (Rs.cell rfl rfl Qfo rfl) (XE rfl)) rfl ⟨rfl,trivial⟩ rfl rfl
 exact fun h=>absurd h (by decide)
 have r:=ab q
 refine w8 ?_
 subst y
 refine Za (x:=((a.1+b.1,a.2++(b.2.take k).map (QiZ a.1)),true)) [(0,7)] ?_ (Xh rfl (Rs.cell rfl rfl Qfo rfl) (XE rfl)) rfl ⟨rfl,trivial⟩ rfl rfl
 (intro _; rw[Q5 (by omega)]; rfl)
 have o:=ab n
 refine w5 ?_
 obtain ⟨f,d⟩:=gx b.2 k
 refine w2 ?_
 refine lc (xal 9 Z4 Uq) ?_
 refine w2 ?_
 apply dV (i6 33 _ _ _ _ _ _ [⟨some 39,lR 10,[ar 10 3 .int (f.1.map fun x=>x+a.1)]⟩,io 40 (lP 9 1),io 41 (lf (.dat QO f.2)),io 42 (lP 0 0),io 43 (lI a.1),⟨some 44,lR 11,[ar 11 3 .int (f.2.map fun x=>x+a.1)]⟩,io 45 (ag [.ref 10, .ref 11]),⟨some 46,lR 12,[ar 12 245 Z4 ([(f.1.map fun x=>x+a.1,f.2.map fun x=>x+a.1)]),(10,none),(11,none)]⟩,⟨some 47,lR 13,[ar 13 245 Z4 ((a.2++(b.2.take k).map (QiZ a.1))++([(f.1.map fun x=>x+a.1,f.2.map fun x=>x+a.1)])),(7,none),(12,none)]⟩,io 48 _,⟨none,lf (.val undef),[bx 6 59 [dI (a.1+b.1), .ref 13]]⟩]) [0,0,3,3,15,15,3,127,127,511,511,3,3,3,0,0,0]
 refine z6 ?_
 refine zz (fun _ c=>ac (dO 10 (UP f.1 a.1 (by have:=((Wz ‹Xa b›).2.2 _ (ai d)).1; omega) (fun z g=>by have t:=((Wz ‹Xa b›).2.2 _ (ai d)).2.1 z g; have u:=(Wz ‹Xa a›).1; omega)) Qc6) rfl) ?_
 refine z4 ?_
 refine zz (fun _ c=>ac (dO 11 (UP f.2 a.1 (by have:=((Wz ‹Xa b›).2.2 _ (ai d)).1; omega) (fun z g=>by have t:=((Wz ‹Xa b›).2.2 _ (ai d)).2.2 z g; have u:=(Wz ‹Xa a›).1; omega)) Qc6) rfl) ?_
 refine zz (fun _ c=>ac (Qi Qbx ⟨_,_,rfl,(c.w rfl),⟨_,_,rfl,(c.w rfl),rfl⟩⟩ (aq.1 (by simp only[Q2,WB,bj,bz]; rw[(c.en 10 rfl),(c.en 11 rfl)]; rfl)) rfl rfl) rfl)<|zz (fun _ c=>ac (Wy 12 (e:=Z4) Qao KE Uq rfl ⟨_,_,rfl,(c.w rfl),rfl⟩ (aq.1 (by simp only[Q2,WB,bj,bz]; rw[(c.en 10 rfl),(c.en 11 rfl)]; rfl)) ⟨_,_,_,_,rfl,⟨[.ref 10],[.ref 11],_,_,_,_,rfl,rfl,(.inl ⟨_,rfl,(c.en 10 rfl),rfl⟩),(.inl ⟨_,rfl,(c.en 11 rfl),rfl⟩),rfl⟩,⟨rfl,rfl⟩,rfl⟩ (by decide) rfl rfl (c.fr 12 rfl) (nlr rfl)) rfl) ?_
 refine zz (fun _ c=>ac (dA 13 Qbm (hb:=by (have t:=(Wz ‹Xa a›).2.1; have u:=(Wz ‹Xa b›).2.1; simp only[ah,aE,au,ap,aD]; omega))) rfl) ?_
 refine z_ ?_
 refine zz (fun _ c=>ac (QX (c.v rfl) (c.en 6 rfl) (c.w rfl) (by simp only[Q2,WB,bj,bz]; rw[(c.en 13 rfl)]; rfl) Qnr rfl) rfl) ?_
 exact zN
 refine w2 ?_
 refine lc (Xd (Qa rfl) (Qo rfl) rfl (by first | omega | (have t:=(Wz ‹Xa a›).1; have u:=(Wz ‹Xa b›).1; omega))) ?_
 refine w_ ?_
 refine Qc ?_
 refine l0_ ?_
 exact wp [(7,13)] ⟨rfl,rfl,rfl,(Qh (by rw[QI d]; simp[QiZ])),trivial⟩
theorem Hf (a:QhK)(b:QhK)[∀s,Decidable (StgOk s)][∀s,Decidable (Xa s)](B:Ty.tot Qbc a≤2000000)(z:Ty.tot Qbc b≤2000000):FC Tryz.prog 362 [(true,[dI a.1.1, .dat Xr a.1.2, .dat Qj a.2.1, .dat YI a.2.2.1,dS a.2.2.2]),(true,[dI b.1.1, .dat Xr b.1.2, .dat Qj b.2.1, .dat YI b.2.2.1,dS b.2.2.2])] [] 0 (Ex (fun x:QV×Bool=>x.2=true→x.1=unS a b) (fun x:QV×Bool=>PV.tup [(true,[dI x.1.1.1, .ref 0, .ref 1, .ref 2,dS x.1.2.2.2]),(false,[dB x.2])]) (fun x:QV×Bool=>[ar 0 245 Z4 x.1.1.2,ar 1 44 Qz x.1.2.1,ar 2 86 Qv x.1.2.2.1])):=by
 obtain ⟨A,L,M⟩:=Qem B
 obtain ⟨I,J,K⟩:=Qem z
 refine Qu Tryz.func362 rfl rfl Tryz.ntmps362 fun O q N C P E D=> ?_
 refine acG 0 0 fun _=> ?_
 refine acG 1 0 fun _=> ?_
 refine w_ ?_
 refine xbx 0 ?_
 refine xbx 1 ?_
 refine lc (xal 2 Qlp Jr) ?_
 refine w7 ?_
 refine YQ 3 [] (Hg a.1 b.1 A) QiM e2_ trivial rfl (fun _=>rfl) (fun _=>⟨(Fresh.of rfl),trivial⟩) (nlr rfl) fun g H=> ?_
 refine w3 ?_
 refine lc (xal 4 QnL Qar) ?_
 refine w8 ?_
 cases F:(g.2)
 refine w12 ?_
 refine lc (Qi Qc2 rfl (aq.1 rfl) rfl rfl) ?_
 refine w3 ?_
 refine AC.wk (Qt 5 (p:=2) (off:=1) 245 Z4 rfl rfl (Fresh.of rfl) (nlr rfl))<|AC.wk (Qt 6 (p:=2) (off:=2) 44 Qz rfl rfl (Fresh.of rfl) (nlr rfl))<|AC.wk (Qt 7 (p:=2) (off:=3) 86 Qv rfl rfl (Fresh.of rfl) (nlr rfl))<|Qe ?_
 subst q
 refine Za (x:=(((0,[]),([],([],ByteArray.empty))),false)) [(0,5),(1,6),(2,7)] ?_ (Xh rfl (Rs.cell rfl rfl Ym rfl) (XE rfl)) rfl ⟨rfl,rfl,rfl,trivial⟩ rfl rfl
 exact fun h=>absurd h (by decide)
 refine w_ ?_
 refine lgy rfl rfl (dK (XK a) Uz) ?_
 refine w3 ?_
 cases r:(decide (StgOk a))
 have t:=aa r
 refine w7 ?_
 refine lc (Qi Qc2 rfl (aq.1 rfl) rfl rfl) ?_
 refine w3 ?_
 refine AC.wk (Qt 8 (p:=2) (off:=1) 245 Z4 rfl rfl (Fresh.of rfl) (nlr rfl))<|AC.wk (Qt 9 (p:=2) (off:=2) 44 Qz rfl rfl (Fresh.of rfl) (nlr rfl))<|AC.wk (Qt 10 (p:=2) (off:=3) 86 Qv rfl rfl (Fresh.of rfl) (nlr rfl))<|Qe ?_
 subst q
 refine Za (x:=(((0,[]),([],([],ByteArray.empty))),false)) [(0,8),(1,9),(2,10)] ?_ (Xh rfl (Rs.cell rfl rfl Ym rfl) (XE rfl)) rfl ⟨rfl,rfl,rfl,trivial⟩ rfl rfl
 exact fun h=>absurd h (by decide)
 have t:=ab r
 refine w_ ?_
 refine lgy rfl rfl (dK (XK b) Uz) ?_
 refine w3 ?_
 cases u:(decide (StgOk b))
 have y:=aa u
 refine w2 ?_
 refine lc (Qi Qc2 rfl (aq.1 rfl) rfl rfl) ?_
 refine w3 ?_
 refine AC.wk (Qt 11 (p:=2) (off:=1) 245 Z4 rfl rfl (Fresh.of rfl) (nlr rfl))<|AC.wk (Qt 12 (p:=2) (off:=2) 44 Qz rfl rfl (Fresh.of rfl) (nlr rfl))<|AC.wk (Qt 13 (p:=2) (off:=3) 86 Qv rfl rfl (Fresh.of rfl) (nlr rfl))<|Qe ?_
 subst q
 refine Za (x:=(((0,[]),([],([],ByteArray.empty))),false)) [(0,11),(1,12),(2,13)] ?_ (Xh rfl (Rs.cell rfl rfl Ym rfl) (XE rfl)) rfl ⟨rfl,rfl,rfl,trivial⟩ rfl rfl
 exact fun h=>absurd h (by decide)
 have y:=ab u
 refine w2 ?_
 apply dW [io 32 _,⟨some 33,lR 14,[ar 14 44 Qz ([])]⟩,io 34 (lP 0 2),io 35 (lf (.dat Qj a.2.1)),⟨some 36,lR 15,[ar 15 44 Qz (([])++a.2.1),(14,none)]⟩,io 37 (lP 1 2),io 38 (lf (.dat Qj b.2.1)),⟨some 39,lR 16,[ar 16 44 Qz ((([])++a.2.1)++b.2.1),(15,none)]⟩,⟨some 40,lR 17,[ar 17 86 Qv ([])]⟩,io 41 (lP 0 3),io 42 (lf (.dat YI a.2.2.1)),⟨some 43,lR 18,[ar 18 86 Qv (([])++a.2.2.1),(17,none)]⟩,io 44 (lP 0 4),io 45 (lf (dS a.2.2.2)),io 46 (lP 1 4),io 47 (lf (dS b.2.2.2)),io 48 (lf (dS (a.2.2.2++b.2.2.2))),io 49 (ag [dI g.1.1, .ref 3, .ref 16, .ref 18,dS (a.2.2.2++b.2.2.2)]),⟨some 8,lP 19 0,[bx 19 62 [dI 0, .val (.slice none 0 0), .val (.slice none 0 0), .val (.slice none 0 0),dS ByteArray.empty]]⟩,⟨none,lf (.val undef),[bx 19 62 [dI g.1.1, .ref 3, .ref 16, .ref 18,dS (a.2.2.2++b.2.2.2)]]⟩] [0,1,3,3,1,31,31,1,255,511,511,1,4095,4095,16383,16383,4095,0,262143,0]
 refine z_ ?_
 refine zz (fun _ c=>ac (dBs 14 (e:=Qz) Ux) rfl) ?_
 refine z2 ?_
 refine zz (fun _ c=>ac (Zf 15 (c.v rfl) (c.en 14 rfl) (Evl.rep (c.v rfl)) rfl Qax U2 (by (simp only[ah,aE,au,ap,aD]; omega)) rfl (c.fr 15 rfl) (nlr rfl)) rfl) ?_
 refine z2 ?_
 refine zz (fun _ c=>ac (Zf 16 (c.v rfl) (c.en 15 rfl) (Evl.rep (c.v rfl)) rfl Qax U2 (by (simp only[ah,aE,au,ap,aD]; omega)) rfl (c.fr 16 rfl) (nlr rfl)) rfl) ?_
 refine zz (fun _ c=>ac (dBs 17 (e:=Qv) XN) rfl) ?_
 refine z2 ?_
 refine zz (fun _ c=>ac (Zf 18 (c.v rfl) (c.en 17 rfl) (Evl.rep (c.v rfl)) rfl Qtc QaH (by (simp only[ah,aE,au,ap,aD]; omega)) rfl (c.fr 18 rfl) (nlr rfl)) rfl) ?_
 refine z4 ?_
 refine zz (fun _ c=>ac (Q8 (c.v rfl) (c.v rfl) rfl (by (have Q:=QdI B; have R:=QdI z; omega))) rfl)<|zz (fun _ c=>ac (Qi Qc2 ⟨_,_,rfl,(c.w rfl),⟨_,_,rfl,(c.w rfl),⟨_,_,rfl,(c.w rfl),⟨_,_,rfl,(c.w rfl),rfl⟩⟩⟩⟩ (aq.1 (by show ((Q2 _ [dI g.1.1, .ref 3]&&(Q2 _ [.ref 16]&&(Q2 _ [.ref 18]&&(Q2 _ [dS (a.2.2.2++b.2.2.2)]&&true)))))=true; simp only[Q2,WB,bj,bz]; rw[(c.en 3 rfl),(c.en 16 rfl),(c.en 18 rfl)]; rfl)) rfl rfl) rfl)<|zz (fun _ c=>ac (UB 19 Qlp Jr rfl rfl (c.fr 19 rfl) (nlr rfl)) rfl)<|zz (fun _ c=>ac (QX (c.v rfl) (c.en 19 rfl) (c.w rfl) (by show Q2 _ [dI g.1.1, .ref 3, .ref 16, .ref 18,dS (a.2.2.2++b.2.2.2)]=true; simp only[Q2,WB,bj,bz]; rw[(c.en 3 rfl),(c.en 16 rfl),(c.en 18 rfl)]; rfl) Ym rfl) rfl) ?_
 exact zN
 refine w4 ?_
 refine alL 51 fun _=> ?_
 refine w4 ?_
 refine lp0 b.2.2.1.length (fun k=>⟨[(2,lP 0 0),(4,lP 2 0),(5,lB false),(8,lP 19 0),(51,lf (.dat YI b.2.2.1)),(52,lI (b.2.2.1.length:Int)),(53,lI (k:Int))],[bx 0 62 [dI a.1.1, .dat Xr a.1.2, .dat Qj a.2.1, .dat YI a.2.2.1,dS a.2.2.2],bx 2 62 [dI 0, .val (.slice none 0 0), .val (.slice none 0 0), .val (.slice none 0 0),dS ByteArray.empty],ar 3 245 Z4 g.1.2,ar 16 44 Qz ((([])++a.2.1)++b.2.1),bx 19 62 [dI g.1.1, .ref 3, .ref 16, .ref 20,dS (a.2.2.2++b.2.2.2)],ar 20 86 Qv (a.2.2.1++(b.2.2.1.take k).map (unL a.2.1.length))]⟩) ?_ fun k _=> ?_
 exact wp [(20,18)] ⟨rfl,rfl,rfl,rfl,rfl,(Qh (by simp)),trivial⟩
 refine w4 ?_
 cases i:(decide ((k:Int) < (b.2.2.1.length:Int)))
 have m:=aa i
 refine w6 ?_
 refine lc (X8 (XK (g.1,(([])++a.2.1)++b.2.1,a.2.2.1++(b.2.2.1.take k).map (unL a.2.1.length),a.2.2.2++b.2.2.2)) Uz ⟨_,_,rfl,(QaR (Qr rfl) ⟨_,_,rfl, .inl rfl,⟨_,_,rfl, .inr ⟨_,_,_,_,rfl,rfl,rfl⟩,⟨_,_,rfl, .inr ⟨_,_,_,_,rfl,rfl,rfl⟩,⟨_,_,rfl, .inr ⟨_,_,_,_,rfl,rfl,rfl⟩,⟨_,_,rfl, .inl rfl,rfl⟩⟩⟩⟩⟩),rfl⟩ rfl rfl rfl) ?_
 refine w2 ?_
 cases j:(decide (StgOk (g.1,(([])++a.2.1)++b.2.1,a.2.2.1++(b.2.2.1.take k).map (unL a.2.1.length),a.2.2.2++b.2.2.2)))
 have n:=aa j
 refine w2 ?_
 refine lc (Qi Qc2 rfl (aq.1 rfl) rfl rfl) ?_
 refine w3 ?_
 refine AC.wk (Qt 21 (p:=2) (off:=1) 245 Z4 rfl rfl (Fresh.of rfl) (nlr rfl))<|AC.wk (Qt 22 (p:=2) (off:=2) 44 Qz rfl rfl (Fresh.of rfl) (nlr rfl))<|AC.wk (Qt 23 (p:=2) (off:=3) 86 Qv rfl rfl (Fresh.of rfl) (nlr rfl))<|Qe ?_
 subst q
 refine Za (x:=(((0,[]),([],([],ByteArray.empty))),false)) [(0,21),(1,22),(2,23)] ?_ (Xh rfl (Rs.cell rfl rfl Ym rfl) (XE rfl)) rfl ⟨rfl,rfl,rfl,trivial⟩ rfl rfl
 exact fun h=>absurd h (by decide)
 have n:=ab j
 refine w8 ?_
 subst q
 refine Za (x:=(((g.1.1,g.1.2),((([])++a.2.1)++b.2.1,(a.2.2.1++(b.2.2.1.take k).map (unL a.2.1.length),a.2.2.2++b.2.2.2))),true)) [(0,3),(1,16),(2,20)] ?_ (Xh rfl (Rs.cell rfl rfl Ym rfl) (XE rfl)) rfl ⟨rfl,rfl,rfl,trivial⟩ rfl rfl
 ·(intro _; rw[Q5 (by omega)]; simp_all [unS]; done)
 have m:=ab i
 refine w5 ?_
 obtain ⟨f,d⟩:=gx b.2.2.1 k
 have G:=QtE (StgOk.labs ‹StgOk b› _ (ai d))
 refine w2 ?_
 refine lc (xal 24 Qv XN) ?_
 refine w6 ?_
 refine alI 58 fun _=> ?_
 refine w2 ?_
 cases l:(decide (0≤f.1))
 have o:=aa l
 refine w6 ?_
 refine lc (dBs 25 (e:=Qv) XN (hab:=by exact ⟨_,_,_,_,rfl,⟨[dI f.1],[dB f.2],_,_,_,_,rfl,rfl,⟨rfl,rfl⟩,⟨rfl,rfl⟩,rfl⟩,⟨rfl,rfl⟩,rfl⟩)) ?_
 refine lc (dA 26 QaH (hb:=by (simp only[ah,aE,au,ap,aD]; omega))) ?_
 refine w2 ?_
 refine Qc ?_
 refine w4 ?_
 refine Qc ?_
 refine l0_ ?_
 exact wp [(20,26)] ⟨rfl,rfl,rfl,rfl,rfl,(Qh (by rw[QI d]; simp[unL, *])),trivial⟩
 have o:=ab l
 refine w6 ?_
 refine alL 63 fun _=> ?_
 refine w9 ?_
 refine lc (dBs 27 (e:=Qv) XN (hab:=by exact ⟨_,_,_,_,rfl,⟨[dI (f.1+(a.2.1.length:Int))],[dB f.2],_,_,_,_,rfl,rfl,⟨rfl,rfl⟩,⟨rfl,rfl⟩,rfl⟩,⟨rfl,rfl⟩,rfl⟩)) ?_
 refine lc (dA 28 QaH (hb:=by (simp only[ah,aE,au,ap,aD]; omega))) ?_
 refine w2 ?_
 refine Qc ?_
 refine w4 ?_
 refine Qc ?_
 refine l0_ ?_
 exact wp [(20,28)] ⟨rfl,rfl,rfl,rfl,rfl,(Qh (by rw[QI d]; simp[unL, *])),trivial⟩
end Go.Proofs.YtgpdhgadmjfokaaGreat
namespace Go.Proofs.YtgpdhgadmjfokaaGreat
open Go.RowKit
set_option maxRecDepth 100000
set_option maxHeartbeats 4000000
section
variable {n:YU}{k i j m:Nat}{mk:ByteArray}{t u:Int}{on l:List Int}{s:QV}{xt xu:QR}{ms:List ByteArray}{as_:List (List Int)}
def QuG [∀s,Decidable (StgOk s)](s:QV):List (List Int):=ofG ltP (QvL s.1 (Ql s).1.1)
end
end Go.Proofs.YtgpdhgadmjfokaaGreat
namespace Go.Proofs.YtgpdhgadmjfokaaGreat
open Go.RowKit
set_option maxRecDepth 100000
set_option maxHeartbeats 4000000
section
variable [∀s,Decidable (StgOk s)]{s:QV}{o:QF}
def QtD (s:QV)(o:QF):Bool:=(Qn0 s o).2&&((pfV s (Qn0 s o).1).2&&(pfV s (Qn0 s o).1).1)
def Qve (s:QV)(b:Int):Bool:=decide (0≤((s.2.2.1[b.toNat]?).getD (0,false)).1)&& !decide (((s.2.1[(((s.2.2.1[b.toNat]?).getD (0,false)).1).toNat]?).getD (ByteArray.empty,0)).2=1)
end
end Go.Proofs.YtgpdhgadmjfokaaGreat
namespace Go.Proofs.YtgpdhgadmjfokaaGreat
open Go.RowKit
set_option maxRecDepth 100000
set_option maxHeartbeats 4000000
section
variable [∀s,Decidable (StgOk s)]{s:QV}{P:List (List Int)}{a b:Int}{k i j n:Nat}{m:Bool}{ms:List Bool}{x:List Int}{os_:List QF}
def Qr2 (s:QV)(a b:Int)(ms:List Bool):List QF:=(ms.filter fun m=>Qve s b&&QtD s (a,b,m)).map fun m=>(a,b,m)
def Qt8 (s:QV)(P:List (List Int))(a b:Int):List QF:=if (P.any fun p=>decide (p=[min a b,max a b]))=true∧a≠b then Qr2 s a b [false,true] else []
def QvM (s:QV)(P:List (List Int))(a:Int)(i:Nat):List QF:=(List.range i).flatMap fun b=>Qt8 s P a ((b:Nat):Int)
def QvP (s:QV)(P:List (List Int))(n k:Nat):List QF:=(List.range k).flatMap fun a=>QvM s P ((a:Nat):Int) n
theorem QvO {l:List (List Int)}{y:List Int}(c:l[k]? =some x)(h:¬x=y):((l.take k).any fun p=>decide (p=y))=((l.take (k+1)).any fun p=>decide (p=y)):=by rw[QI c]; simp[h]
def Qv2 (s:QV)(c:Bool)(a b:Int)(ms:List Bool):List QF:=if c=true∧a≠b then Qr2 s a b ms else []
def QtX (s:QV):List QF:=QvP s (QuG s) s.1.2.length s.1.2.length
end
section
variable [∀s,Decidable (StgOk s)]{s:QV}
def QrY (s:QV):List QF:=if (sgV s).2=true then QtX s else []
end
end Go.Proofs.YtgpdhgadmjfokaaGreat
namespace Go.Proofs.YtgpdhgadmjfokaaGreat
open Go.RowKit
set_option maxRecDepth 100000
set_option maxHeartbeats 4000000
theorem QmL (n:Int): -9223372036854775808≤IntKind.i64.wrap n∧IntKind.i64.wrap n≤9223372036854775807:=by
 simp only[IntKind.wrap,IntKind.bits,IntKind.signed]
 simp
 split <;> omega
theorem Qma {A:Amb}{P:Program}{s:St}{x y:Operand}{d:Nat}{T c ty:TypeId}{b:String}{e:Array Edge}{g:Option (Nat×Bool)}{m n:Int}(k:Evl A s x (dI m))(l:Evl A s y (dI n))(j:Nat.blt d A.n=true):Does A P ⟨some d, .binOp .add T x y c,ty,b,e,g⟩ s (s.put d (lf (dI (IntKind.i64.wrap (m+n))))):=
 Qf rfl j fun o a w r=>⟨.int .i64 (IntKind.i64.wrap (m+n)),by
  have f:=k.i r
  have h:=l.i r
  simp only[execOp,f,h,eqGuard_at_int,binOp,Op.intArith]
  simp,_,rfl,Yk (QmL _)⟩
end Go.Proofs.YtgpdhgadmjfokaaGreat
namespace Go.Proofs.YtgpdhgadmjfokaaGreat
open Go.RowKit
set_option maxRecDepth 100000
set_option maxHeartbeats 4000000
theorem Qa8 (a:List ByteArray)(b:List ByteArray)(h:a=b):FC Tryz.prog 104 [(false,[.dat Qm a]),(false,[.dat Qm b])] [] 0 (Q7 (lB true)):=by
 have q:a.length=b.length:=by rw[h]
 refine Qu Tryz.func104 rfl rfl Tryz.ntmps104 fun t i s n u p o=> ?_
 refine w6 ?_
 refine alL 6 fun _=> ?_
 refine w2 ?_
 refine alL 8 fun _=> ?_
 refine w3 ?_
 refine cn_ (fun _ _=> ?_) fun _ _=> ?_
 refine w4 ?_
 refine alL 11 fun _=> ?_
 refine w4 ?_
 refine lp0 a.length (fun k=>⟨[(0,lf (.dat Qm a)),(1,lf (.dat Qm b)),(12,lI (a.length:Int)),(13,lI (k:Int))],[]⟩) ?_ fun k _=> ?_
 exact wo []
 refine w4 ?_
 cases f:(decide ((k:Int) < (a.length:Int)))
 have g:=aa f
 refine w7 ?_
 exact fe_ i
 have g:=ab f
 refine w8 ?_
 obtain ⟨j,r⟩:=gx a k
 obtain ⟨l,m⟩:=gx b k
 apply dW (i9 16 _ _ _ _ _ _ _ _ _ []) [0,1,0,0,15,31,15,15,0]
 exact y9
 cases d:(!decide (j=l))
 have e:(j=l):=QJ d
 refine w6 ?_
 refine Qc ?_
 refine l0_ ?_
 exact wo []
 have e:¬(j=l):=QU d
 refine w4 ?_
 refine Qe<|fqB i ?_
 ·(exfalso; subst h; simp_all; done)
 refine w3 ?_
 refine Qe<|fqB i ?_
 ·(exfalso; subst h; simp_all; done)
theorem QbN (a:List ByteArray)(b:List ByteArray)(h:a=b):FC Tryz.prog 25 [(false,[.dat Qm a]),(false,[.dat Qm b])] [] 0 (Q7 (lB true)):=by
 have q:a.length=b.length:=by rw[h]
 refine Qu Tryz.func25 rfl rfl Tryz.ntmps25 fun t i s n u p o=> ?_
 refine w6 ?_
 refine alL 6 fun _=> ?_
 refine w2 ?_
 refine alL 8 fun _=> ?_
 refine w3 ?_
 refine cn_ (fun _ _=> ?_) fun _ _=> ?_
 refine w4 ?_
 refine alL 11 fun _=> ?_
 refine w4 ?_
 refine lp0 a.length (fun k=>⟨[(0,lf (.dat Qm a)),(1,lf (.dat Qm b)),(12,lI (a.length:Int)),(13,lI (k:Int))],[]⟩) ?_ fun k _=> ?_
 exact wo []
 refine w4 ?_
 cases f:(decide ((k:Int) < (a.length:Int)))
 have g:=aa f
 refine w7 ?_
 exact fe_ i
 have g:=ab f
 refine w8 ?_
 obtain ⟨j,r⟩:=gx a k
 obtain ⟨l,m⟩:=gx b k
 apply dW (i9 16 _ _ _ _ _ _ _ _ _ []) [0,1,0,0,15,31,15,15,0]
 exact y9
 cases d:(!decide (j=l))
 have e:(j=l):=QJ d
 refine w6 ?_
 refine Qc ?_
 refine l0_ ?_
 exact wo []
 have e:¬(j=l):=QU d
 refine w4 ?_
 refine Qe<|fqB i ?_
 ·(exfalso; subst h; simp_all; done)
 refine w3 ?_
 refine Qe<|fqB i ?_
 ·(exfalso; subst h; simp_all; done)
theorem U4 (a:List Int)(b:List Int)(h:a=b):FC Tryz.prog 22 [(false,[.dat QO a]),(false,[.dat QO b])] [] 0 (Q7 (lB true)):=by
 have q:a.length=b.length:=by rw[h]
 refine Qu Tryz.func22 rfl rfl Tryz.ntmps22 fun t i s n u p o=> ?_
 refine w6 ?_
 refine alL 6 fun _=> ?_
 refine w2 ?_
 refine alL 8 fun _=> ?_
 refine w3 ?_
 refine cn_ (fun _ _=> ?_) fun _ _=> ?_
 refine w4 ?_
 refine alL 11 fun _=> ?_
 refine w4 ?_
 refine lp0 a.length (fun k=>⟨[(0,lf (.dat QO a)),(1,lf (.dat QO b)),(12,lI (a.length:Int)),(13,lI (k:Int))],[]⟩) ?_ fun k _=> ?_
 exact wo []
 refine w4 ?_
 cases f:(decide ((k:Int) < (a.length:Int)))
 have g:=aa f
 refine w7 ?_
 exact fe_ i
 have g:=ab f
 refine w8 ?_
 obtain ⟨j,r⟩:=gx a k
 obtain ⟨l,m⟩:=gx b k
 apply dW (i9 16 _ _ _ _ _ _ _ _ _ []) [0,1,0,0,15,31,15,15,0]
 exact y9
 cases d:(!decide (j=l))
 have e:(j=l):=QJ d
 refine w6 ?_
 refine Qc ?_
 refine l0_ ?_
 exact wo []
 have e:¬(j=l):=QU d
 refine w4 ?_
 refine Qe<|fqB i ?_
 ·(exfalso; subst h; simp_all; done)
 refine w3 ?_
 refine Qe<|fqB i ?_
 ·(exfalso; subst h; simp_all; done)
theorem VO (a:Z9)(b:Z9)(h:a=b):FC Tryz.prog 21 [(true,[.dat Qj a.1, .dat Qm a.2.1, .dat Qw a.2.2]),(true,[.dat Qj b.1, .dat Qm b.2.1, .dat Qw b.2.2])] [] 0 (Q7 (lB true)):=by
 have x:a.2.2.length=b.2.2.length:=by rw[h]
 refine Qu Tryz.func21 rfl rfl Tryz.ntmps21 fun z m y s A v u=> ?_
 refine w_ ?_
 refine xbx 0 ?_
 refine xbx 1 ?_
 refine w8 ?_
 refine lc (dK (UW a.1 b.1) Qhw) ?_
 refine w2 ?_
 cases f:(decide (a.1=b.1))
 have g:=aa f
 refine w16 ?_
 refine w5 ?_
 refine Qe<|fqB m ?_
 ·(exfalso; subst h; simp_all; done)
 have g:=ab f
 refine w4 ?_
 refine lgy rfl rfl (dK (Qa8 a.2.1 b.2.1 (by rw[h])) Qie) ?_
 refine w5 ?_
 refine alL 22 fun _=> ?_
 refine w3 ?_
 refine alL 25 fun _=> ?_
 refine w4 ?_
 refine cn_ (fun _ _=> ?_) fun _ _=> ?_
 refine w5 ?_
 refine alL 30 fun _=> ?_
 refine w4 ?_
 refine lp0 a.2.2.length (fun k=>⟨[(2,lP 0 0),(3,lP 1 0),(31,lI (a.2.2.length:Int)),(32,lI (k:Int))],[bx 0 27 [.dat Qj a.1, .dat Qm a.2.1, .dat Qw a.2.2],bx 1 27 [.dat Qj b.1, .dat Qm b.2.1, .dat Qw b.2.2]]⟩) ?_ fun k _=> ?_
 exact wo []
 refine w4 ?_
 cases i:(decide ((k:Int) < (a.2.2.length:Int)))
 have j:=aa i
 refine w7 ?_
 exact fe_ m
 have j:=ab i
 refine w8 ?_
 obtain ⟨o,n⟩:=gx a.2.2 k
 obtain ⟨e,l⟩:=gx b.2.2 k
 apply dW (i9 35 _ _ _ _ _ _ _ _ _ [io 44 _,io 45 (lB (!(Ty.beq QG o e)))]) [0,0,3,0,0,31,31,127,31,31,0]
 refine z10 ?_
 refine zz (fun _ r=>ac (Qak Qr3 QrL (r.w rfl) (r.w rfl) (p:=o) (q:=e) rfl rfl rfl) rfl) ?_
 exact zN
 cases d:(Ty.beq QG o e)
 refine w4 ?_
 refine Qe<|fqB m ?_
 (exfalso; subst h; have t:=cG ((n).symm.trans l); rw[t,QaK] at d; exact absurd d (by decide))
 refine w6 ?_
 refine Qc ?_
 refine l0_ ?_
 exact wo []
 refine w3 ?_
 refine Qe<|fqB m ?_
 ·(exfalso; subst h; simp_all; done)
section
variable {c:DSg}[∀c,Decidable (SgOk c)]
def hcV (c:DSg):Bool:=decide (SgOk c)&&decide ((Qcy c).length=0)
end
end Go.Proofs.YtgpdhgadmjfokaaGreat
namespace Go.Proofs.YtgpdhgadmjfokaaGreat
open Go.RowKit
set_option maxRecDepth 100000
set_option maxHeartbeats 4000000
def Jc (c:DSg)(v:Int):Bool:=match c.2.2[v.toNat]? with | some a=>K5 c a.2.1 | none=>false
theorem QqN {c:DSg}{v:Int}{a:DAr}(h:c.2.2[v.toNat]? =some a):K5 c a.2.1=Jc c v:=by unfold Jc; rw[h]
section
variable {c:DSg}{s:ByteArray}[∀c,Decidable (SgOk c)]{k:Nat}{v:Int}
def QdB (c:DSg)(s:ByteArray):List Int:=if okP c s=true then XX (ZP s) c.2.2 c.2.2.length else []
theorem Qs4 (h:okP c s=false):[]=QdB c s:=(if_neg (by rw[h]; decide)).symm
theorem Qug (h:okP c s=true)(e:c.2.2.length=k):XX (ZP s) c.2.2 k=QdB c s:=by subst e; exact (if_pos h).symm
theorem Qui (h:¬SignsOk c s):okP c s=false:=(Qdg h).symm
def Qat (c:DSg)(s:ByteArray):Bool:=okP c s&& !QdD c s
theorem Qup (h:okP c s=false):false=Qat c s:=by unfold Qat; rw[h]; rfl
theorem QtP (h:okP c s=true):(!QdD c s)=Qat c s:=by unfold Qat; rw[h]; rfl
theorem QnR (h:okP c s=true):QdB c s=XX (ZP s) c.2.2 c.2.2.length:=if_pos h
theorem Qrz (h:okP c s=true):(!((QdB c s).any fun v=>Jc c v))=Qat c s:=by
 rw[← QtP h,QnR h]
 congr 1
 rw[ce,bY]
 constructor
 ·rintro ⟨v,o,f⟩
  obtain ⟨k,d⟩:=aJ.1 o
  obtain ⟨j,a,m,n,b,g⟩:=Hw d
  unfold Jc at f
  subst m
  rw[cu,b] at f
  show (c.2.2.any fun a:DAr=>ZP s a&&K5 c a.2.1)=true
  exact bY.2 ⟨a,ai b,by show (ZP s a&&K5 c a.2.1)=true; rw[g]; exact f⟩
 ·intro e
  have e:(c.2.2.any fun a:DAr=>ZP s a&&K5 c a.2.1)=true:=e
  obtain ⟨a,l,i⟩:=bY.1 e
  rw[aL] at i
  obtain ⟨k,d⟩:=aJ.1 l
  refine ⟨(k:Int),QcE.2 ⟨k,a,rfl,(ae.1 d).1,d,i.1⟩, ?_⟩
  unfold Jc
  rw[cu,d]; exact i.2
end
theorem VC (c:Z9)(s:ByteArray)[∀c,Decidable (SgOk c)]:FC Tryz.prog 20 [(true,[.dat Qj c.1, .dat Qm c.2.1, .dat Qw c.2.2]),(false,[dS s])] [] 0 (Q7 (PV.tup [(false,[dB (okP c s)]),(false,[dB (decide (SignsOk c s))])])):=by
 refine Qu Tryz.func20 rfl rfl Tryz.ntmps20 fun o d n f p m l=> ?_
 refine w_ ?_
 refine xbx 0 ?_
 refine w7 ?_
 refine lc (dK (UQ c s) Qcu) ?_
 refine w2 ?_
 cases a:(decide (SignsOk c s))
 have b:=aa a
 refine w6 ?_
 have g:(false:Bool)=(okP c s):=by
  exact Qdg ‹_›
 have h:(false:Bool)=(decide (SignsOk c s)):=by
  exact (aI ‹_›).symm
 exact fr_ d (e:=by rw[← g,← h] <;> rfl)
 have b:=ab a
 refine w5 ?_
 refine lc (dK (YA c s ‹_›) W2) ?_
 refine w4 ?_
 have i:(Y8 c s:Bool)=(okP c s):=by
  exact Qfy ‹_›
 have j:(true:Bool)=(decide (SignsOk c s)):=by
  exact (aT ‹_›).symm
 exact fr_ d (e:=by rw[i,← j] <;> rfl)
theorem Vd (c:Z9)[∀c,Decidable (SgOk c)]:FC Tryz.prog 23 [(true,[.dat Qj c.1, .dat Qm c.2.1, .dat Qw c.2.2])] [] 0 (Q7 (lB (decide (SgOk c)))):=by
 refine Qu Tryz.func23 rfl rfl Tryz.ntmps23 fun g e f a h d b=> ?_
 refine w_ ?_
 refine xbx 0 ?_
 refine w4 ?_
 refine lc (dK (Zz c) Yy) ?_
 refine w3 ?_
 exact fe_ e
theorem K7 (c:Z9)(s:ByteArray)[∀c,Decidable (SgOk c)]:FC Tryz.prog 16 [(true,[.dat Qj c.1, .dat Qm c.2.1, .dat Qw c.2.2]),(false,[dS s])] [] 0 (Is (PV.tup [(false,[.ref 0]),(false,[dB (okP c s)])]) [ar 0 3 .int (QdB c s)]):=by
 refine Qu Tryz.func16 rfl rfl Tryz.ntmps16 fun i a h b j g f=> ?_
 refine w_ ?_
 refine xbx 0 ?_
 refine w7 ?_
 refine lc (dK (Wb c s) H3) ?_
 refine w2 ?_
 refine cx_ (fun _=> ?_) fun _=> ?_
 refine w4 ?_
 refine AC.wk (Wk.nilS 1 4 3 .int rfl (Fresh.of rfl) (nlr rfl))<|Qe ?_
 have d:(false:Bool)=(okP c s):=by
  exact (by assumption:okP c s=false).symm
 exact fi_ [(0,1)] a ⟨(Qh (by exact Qs4 ‹_›)),trivial⟩ (h0:=by rw[← d] <;> rfl)
 refine w4 ?_
 refine lc (dO 2 (W6 c s (Vo.1 ‹_›).1) QeC) ?_
 refine w4 ?_
 have e:(true:Bool)=(okP c s):=by
  exact (by assumption:okP c s=true).symm
 exact fi_ [(0,2)] a ⟨(Qh (by exact Qug ‹_› rfl)),trivial⟩ (h0:=by rw[← e] <;> rfl)
theorem VL (c:Z9)(s:ByteArray)[∀c,Decidable (SgOk c)]:FC Tryz.prog 18 [(true,[.dat Qj c.1, .dat Qm c.2.1, .dat Qw c.2.2]),(false,[dS s])] [] 0 (Q7 (PV.tup [(false,[dB (Qat c s)]),(false,[dB (okP c s)])])):=by
 refine Qu Tryz.func18 rfl rfl Tryz.ntmps18 fun m a l b n j i=> ?_
 refine w_ ?_
 refine xbx 0 ?_
 refine w7 ?_
 refine lc (dK (Wb c s) H3) ?_
 refine w2 ?_
 refine cx_ (fun _=> ?_) fun _=> ?_
 refine w5 ?_
 have d:(false:Bool)=(Qat c s):=by
  exact Qup ‹_›
 have f:(false:Bool)=(okP c s):=by
  exact (by assumption:okP c s=false).symm
 exact fr_ a (e:=by rw[← d,← f] <;> rfl)
 refine w4 ?_
 refine lc (dK (Qa3 c s (Vo.1 ‹_›).1) QlK) ?_
 refine w4 ?_
 have g:(!QdD c s:Bool)=(Qat c s):=by
  exact QtP ‹_›
 have h:(true:Bool)=(okP c s):=by
  exact (by assumption:okP c s=true).symm
 exact fr_ a (e:=by rw[g,← h] <;> rfl)
theorem WF (c:Z9)(s:ByteArray)[∀c,Decidable (SgOk c)]:FC Tryz.prog 15 [(true,[.dat Qj c.1, .dat Qm c.2.1, .dat Qw c.2.2]),(false,[dS s])] [] 0 (Is (PV.tup [(false,[.ref 0]),(false,[dB (okP c s)])]) [(0,some (.arr 3 .int (QdB c s)))]):=by
 refine Qu Tryz.func15 rfl rfl Tryz.ntmps15 fun y j x m z r q=> ?_
 refine w_ ?_
 refine xbx 0 ?_
 refine w7 ?_
 refine lc (dK (Ye c s) Qac) ?_
 refine w10 ?_
 cases b:(decide (SignsOk c s))
 have d:=aa b
 refine w9 ?_
 refine AC.wk (Wk.nilS 1 4 3 .int rfl (Fresh.of rfl) (nlr rfl))<|Qe ?_
 have n:(false:Bool)=(okP c s):=by
  exact (Qui ‹_›).symm
 exact fi_ [(0,1)] j ⟨(Qh (by exact Qs4 (Qui ‹_›))),trivial⟩ (h0:=by rw[← n] <;> rfl)
 have d:=ab b
 refine w4 ?_
 refine cx_ (fun _=> ?_) fun _=> ?_
 refine w4 ?_
 refine AC.wk (Wk.nilS 2 4 3 .int rfl (Fresh.of rfl) (nlr rfl))<|Qe ?_
 have o:(false:Bool)=(okP c s):=by
  exact (by assumption:okP c s=false).symm
 exact fi_ [(0,2)] j ⟨(Qh (by exact Qs4 ‹_›)),trivial⟩ (h0:=by rw[← o] <;> rfl)
 refine w2 ?_
 refine lc (dBs 3 (e:= .int) Yz) ?_
 refine w6 ?_
 refine alL 25 fun _=> ?_
 refine w4 ?_
 have i:=(Vo.1 (show okP c s=true by assumption)).1
 have u:=i.2.2.few
 refine lp0 c.2.2.length (fun k=>⟨[(1,lf (dS s)),(4,lf (.val (.slice none 0 0))),(5,lB false),(8,lR 4),(25,lf (.dat Qw c.2.2)),(26,lI (c.2.2.length:Int)),(27,lI (k:Int))],[(4,some (.arr 3 .int (XX (ZP s) c.2.2 k)))]⟩) ?_ fun k _=> ?_
 exact wp [(4,3)] ⟨(Qh (rfl)),trivial⟩
 have w:=Qf8 (f:=ZP s) (as_:=c.2.2) (k:=k)
 refine w4 ?_
 cases g:(decide ((k:Int) < (c.2.2.length:Int)))
 have h:=aa g
 refine w9 ?_
 have p:(true:Bool)=(okP c s):=by
  exact (by assumption:okP c s=true).symm
 exact fi_ [(0,4)] j ⟨(Qh (by exact Qug ‹_› (by omega))),trivial⟩ (h0:=by rw[← p] <;> rfl)
 have h:=ab g
 refine w6 ?_
 obtain ⟨ar,a⟩:=gx c.2.2 k
 have t:=i.at_ (ai a)
 refine w2 ?_
 refine lc (xal 5 QG Zu) ?_
 refine w6 ?_
 refine lc (dK (YJ ar s (by omega) (by omega)) K1) ?_
 refine w_ ?_
 cases l:(ZP s ar)
 refine w6 ?_
 refine Qc ?_
 refine l0_ ?_
 exact wp [] ⟨(Qh (by first | exact Hr a ‹_› | exact Qbr a ‹_›)),trivial⟩
 refine w4 ?_
 refine lc (dBs 6 (e:= .int) Yz) ?_
 refine lc (dA 7 Xe) ?_
 refine w_ ?_
 refine Qc ?_
 refine w4 ?_
 refine Qc ?_
 refine l0_ ?_
 exact wp [(4,7)] ⟨(Qh (by first | exact Hr a ‹_› | exact Qbr a ‹_›)),trivial⟩
theorem Vf (v:Int)(c:Z9)(hv:SgOk c)(o:0≤v∧v < (c.2.2.length:Int)):FC Tryz.prog 96 [(false,[dI v]),(false,[.ptr 0 0])] [bx 0 27 [.dat Qj c.1, .dat Qm c.2.1, .dat Qw c.2.2]] 1 (Is (lB (Jc c v)) [bx 0 27 [.dat Qj c.1, .dat Qm c.2.1, .dat Qw c.2.2]]):=by
 refine Qu Tryz.func96 rfl rfl Tryz.ntmps96 fun m j l f n i h=> ?_
 refine acI 0 fun _=> ?_
 refine w3 ?_
 obtain ⟨ar,d⟩:=gx c.2.2 ((v).toNat)
 have e:=d
 have a:=(hv.arcs _ (ai d)).2.2.1
 have b:ar.2.1 < (c.1.length:Int):=QbF a
 apply dW (i7 4 _ _ _ _ _ _ _ [io 11 (lB (K5 c ar.2.1)),io 3 _]) [0,1,1,7,1,1,1,0,0]
 refine z7 ?_
 refine zz (fun _ p=>ac (dK (Qa1 c ar.2.1 b) QmH) rfl) ?_
 exact y1
 refine w_ ?_
 have g:(K5 c ar.2.1:Bool)=(Jc c v):=by
  exact QqN e
 exact fi_ [] j ⟨rfl,trivial⟩ (h0:=by rw[g] <;> rfl)
theorem U5 (l:List Int)(c:Z9)(hv:SgOk c)(q:∀v∈l,0≤v∧v < (c.2.2.length:Int)):FC Tryz.prog 202 [(false,[.dat QO l]),(false,[.clo 96 [0]])] [bx 0 27 [.dat Qj c.1, .dat Qm c.2.1, .dat Qw c.2.2]] 1 (Is (lI (ZD (fun v:Int=>Jc c v) l)) [bx 0 27 [.dat Qj c.1, .dat Qm c.2.1, .dat Qw c.2.2]]):=by
 refine Qu Tryz.func202 rfl rfl Tryz.ntmps202 fun t h r i u o n=> ?_
 refine w6 ?_
 refine alL 6 fun _=> ?_
 refine w4 ?_
 refine lpK l.length (fun k=>NoneTo (fun v:Int=>Jc c v) l k) (fun k=>⟨[(0,lf (.dat QO l)),(1,lf (.clo 96 [0])),(7,lI (l.length:Int)),(8,lI (k:Int))],[bx 0 27 [.dat Qj c.1, .dat Qm c.2.1, .dat Qw c.2.2]]⟩) (NoneTo.zero) ?_ fun k _ a=> ?_
 exact wo []
 refine w4 ?_
 cases d:(decide ((k:Int) < (l.length:Int)))
 have e:=aa d
 refine w7 ?_
 have j:((-1):Int)=(ZD (fun v:Int=>Jc c v) l):=by
  first | exact (a.no (by omega)).symm
 exact fi_ [] h ⟨rfl,trivial⟩ (h0:=by rw[← j] <;> rfl)
 have e:=ab d
 refine w12 ?_
 obtain ⟨g,b⟩:=gx l k
 have f:=q _ (ai b)
 refine w2 ?_
 refine alI 15 fun _=> ?_
 refine lc (W8 (args0:=[(false,[dI g])]) (caps:=[0]) 1 [(0,0)] (Vf g c hv f) QlJ rfl (Qa rfl) rfl rfl ⟨_,_,rfl,(Qr rfl),rfl⟩ ⟨rfl,trivial⟩ rfl ⟨trivial,trivial⟩ (nlr rfl)) ?_
 refine w_ ?_
 cases p:(Jc c g)
 refine w6 ?_
 refine Qc ?_
 refine lK_ (a.step b ‹_›) ?_
 exact wo []
 refine w6 ?_
 have m:((k:Int):Int)=(ZD (fun v:Int=>Jc c v) l):=by
  exact (a.at b ‹_›).symm
 exact fi_ [] h ⟨rfl,trivial⟩ (h0:=by rw[m] <;> rfl)
theorem VT (l:List Int)(c:Z9)(hv:SgOk c)(g:∀v∈l,0≤v∧v < (c.2.2.length:Int)):FC Tryz.prog 95 [(false,[.dat QO l]),(false,[.clo 96 [0]])] [bx 0 27 [.dat Qj c.1, .dat Qm c.2.1, .dat Qw c.2.2]] 1 (Is (lB (l.any (fun v:Int=>Jc c v))) [bx 0 27 [.dat Qj c.1, .dat Qm c.2.1, .dat Qw c.2.2]]):=by
 refine Qu Tryz.func95 rfl rfl Tryz.ntmps95 fun i f h a j e d=> ?_
 refine w6 ?_
 refine lc (dP 1 [] (U5 l c hv g) Qii) ?_
 refine w4 ?_
 have b:(decide (0≤(ZD (fun v:Int=>Jc c v) l)):Bool)=(l.any (fun v:Int=>Jc c v)):=by
  exact Uf _ _
 exact fi_ [] f ⟨rfl,trivial⟩ (h0:=by rw[b] <;> rfl)
theorem Uc (c:Z9)(s:ByteArray)[∀c,Decidable (SgOk c)]:FC Tryz.prog 17 [(true,[.dat Qj c.1, .dat Qm c.2.1, .dat Qw c.2.2]),(false,[dS s])] [] 0 (Q7 (PV.tup [(false,[dB (Qat c s)]),(false,[dB (okP c s)])])):=by
 refine Qu Tryz.func17 rfl rfl Tryz.ntmps17 fun q d p g r n m=> ?_
 refine w_ ?_
 refine xbx 0 ?_
 refine w6 ?_
 refine lc (dK (WF c s).frozenG Qeu) ?_
 refine w11 ?_
 refine cx_ (fun _=> ?_) fun _=> ?_
 refine w5 ?_
 have h:(false:Bool)=(Qat c s):=by
  exact Qup ‹_›
 have i:(false:Bool)=(okP c s):=by
  exact (by assumption:okP c s=false).symm
 exact fr_ d (e:=by rw[← h,← i] <;> rfl)
 refine w3 ?_
 refine lc (Wh ⟨_,_,rfl,(Qa rfl),rfl,rfl⟩ rfl) ?_
 refine lc (dP 1 [] (VT (QdB c s) c (Vo.1 ‹_›).1.2.2 (fun v f=>by rw[QnR ‹_›] at f; obtain ⟨w,b⟩:=aJ.1 f; obtain ⟨u,t,o,_,a,_⟩:=Hw b; have:=(ae.1 a).1; omega)) QmG) ?_
 refine w5 ?_
 have j:(!((QdB c s).any (fun v:Int=>Jc c v)):Bool)=(Qat c s):=by
  exact Qrz ‹_›
 have l:(true:Bool)=(okP c s):=by
  exact (by assumption:okP c s=true).symm
 exact fr_ d (e:=by rw[j,← l] <;> rfl)
end Go.Proofs.YtgpdhgadmjfokaaGreat
