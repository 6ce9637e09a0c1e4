/- Walks over abstract states: two graphs as one, the reference; graphs compared. -/
import Derived.Test.YtgpdhgadmjfokaaGreatGDk
import Derived.Test.YtgpdhgadmjfokaaGreatGWk
import Derived.Test.YtgpdhgadmjfokaaGreatGAl
import Derived.Test.YtgpdhgadmjfokaaGreatGStr
import Derived.Test.YtgpdhgadmjfokaaGreatProg
import Derived.KernelRfl
import Derived.Test.YtgpdhgadmjfokaaGreatGDd
import Derived.Test.YtgpdhgadmjfokaaGreatGDf
set_option linter.unusedSimpArgs false
set_option linter.unusedVariables false
set_option linter.unusedSectionVars false
namespace Go.Proofs.YtgpdhgadmjfokaaGreat
open Go.RowKit
set_option maxRecDepth 100000
set_option maxHeartbeats 4000000
def unN (a b:Yu):Yu:=(a.1+b.1,a.2++b.2.map (Qf9 a.1))
def unL (n:Nat)(l:Zk):Zk:=if 0≤l.1 then (l.1+(n:Int),l.2) else l
def unS (a b:QP):QP:=(unN a.1 b.1,a.2.1++b.2.1,a.2.2.1++b.2.2.1.map (unL a.2.1.length),a.2.2.2++b.2.2.2)
theorem QiG {l:List Int}{hi:Int}(h:VY l hi):∀x∈l,0≤x∧x≤hi:=fun x hx=>by
  obtain ⟨k,hk⟩:=aT.1 hx
  exact (h k (ah.1 hk).1 x hk).1
theorem Qi7:∀{l:List Int} {hi:Int},VY l hi→ -1≤hi→(l.length:Int)≤hi+1:=fun {l hi} h h0=>by
  have hstep:∀(k:Nat) x,l[k]? =some x→(k:Int)≤x:=fun k=>by
    induction k with
    | zero=>intro x hx; exact (h 0 (ah.1 hx).1 x hx).1.1
    | succ k ih=>
      intro x hx
      have h1:=(ah.1 hx).1
      obtain ⟨y,hy⟩:∃y,l[k]? =some y:=⟨_,aa (by omega)⟩
      have h2:=ih y hy
      have h3:=(h (k+1) h1 x hx).2 k y rfl hy
      omega
  by_cases hl:l.length=0
  · omega
  · obtain ⟨x, hx⟩ : ∃ x, l[l.length - 1]? = some x := ⟨_, aa (by omega)⟩
    have h1:=hstep _ x hx
    have h2:=(h _ (ah.1 hx).1 x hx).1.2
    omega
theorem XM {n:Yu}(h:YA n):(1≤n.1∧n.1≤30)∧n.2.length≤24∧∀t∈n.2,(t.1.length≤30∧t.2.length≤30)∧(∀x∈t.1,0≤x∧x≤29)∧∀x∈t.2,0≤x∧x≤29:=by
  obtain ⟨h1,h2,h3⟩:=h
  refine ⟨h1,h2,fun t ht=> ?_⟩
  obtain ⟨_,k1,k2⟩:=h3 t ht
  have l1:=Qi7 k1 (by omega)
  have l2:=Qi7 k2 (by omega)
  exact ⟨⟨by omega,by omega⟩,fun x hx=>by have:=QiG k1 x hx; omega,fun x hx=>by have:=QiG k2 x hx; omega⟩
theorem VK (l:List Int)(d:Int)(hl:l.length≤100000)(hb:∀x∈l, -9223372036854775808≤x+d∧x+d≤9223372036854775807):FC Tryz.prog 465 [(false,[.dat (.sl 3 .int) l]),(false,[dI d])] [] 0 (Yo 3 .int (l.map fun x=>x+d)):=by
 refine Qn Tryz.func465 rfl rfl Tryz.ntmps465 fun O_ hO w0_ N0_ X_ h0_ f0_=> ?_
 refine acI 1 fun hi1=> ?_
 iterate 9 refine w_ ?_
 refine alL 8 fun hl2=> ?_
 iterate 4 refine w_ ?_
 refine AC.wk (Wk.nilS 0 5 3 .int rfl (Fresh.of rfl) (nlr rfl)) ?_
 refine lp0 l.length (fun k=>⟨[(1,lI d),(4,lf (.val (.slice none 0 0))),(5,lR 1),(8,lf (.dat (.sl 3 .int) l)),(9,lI (l.length:Int)),(10,lI (k:Int))],[ar 1 3 .int ((l.take k).map fun x=>x+d)]⟩) ?_ fun k hk3=> ?_
 · exact Wk.of [(1,0)] rfl ⟨rfl,rfl,rfl,rfl,rfl,rfl,trivial⟩ ⟨(Qj (by simp)),trivial⟩ rfl rfl
 iterate 4 refine w_ ?_
 cases hb4:(decide ((k:Int) < (l.length:Int)))
 ·have hb4':=ae hb4
  refine w_ ?_
  refine Qh ?_
  refine (?_:AC _ _ _ _ _)
  iterate 4 refine w_ ?_
  refine Qb<|fo_ hO ?_
  (rw[QO (by omega)]; done)
 ·have hb4':=ab hb4
  iterate 5 refine w_ ?_
  obtain ⟨x5,hx6⟩:∃z,l[k]? =some z:=⟨_,aa (by omega)⟩
  have hbz:=hb _ (aj hx6)
  iterate 2 refine w_ ?_
  refine alI 13 fun hi7=> ?_
  iterate 7 refine w_ ?_
  refine lc (dBs 2 (e:= .int) ZL) ?_
  refine lc (dA 3 YO) ?_
  refine w_ ?_
  refine Qc ?_
  refine (?_:AC _ _ _ _ _)
  iterate 3 refine w_ ?_
  refine Qc ?_
  refine l0_ ?_
  exact Wk.of [(1,3)] rfl ⟨rfl,rfl,rfl,rfl,rfl,rfl,trivial⟩ ⟨(Qj (by rw[Qs hx6]; simp)),trivial⟩ rfl rfl
theorem X5 (n:Yu)[Decidable (YA n)]:FC Tryz.prog 356 [(true,leaves JC n)] [] 0 (QY (lf (dB (decide (YA n))))):=Qee fun gh w vs h=>by
  obtain ⟨us,rfl,hr⟩:=h.agg1
  have hl:=hr.len
  match us,hl with
  | [a0,a1],_=>exact (Qb0 a0 a1 n w hr).mono fun _ _ h=>K7 h
theorem QqD {n:Nat}{l:Zk}(h:Qdd n l): -1≤l.1∧l.1≤(n:Int):=by
  unfold Qdd at h; omega
theorem Jh (a:Int×(List (List Int×List Int)))(b:Int×(List (List Int×List Int)))[∀s,Decidable (StgOk s)][∀s,Decidable (YA s)](hz:Ty.tot JC a≤2000000):FC Tryz.prog 430 [(true,[dI a.1, .dat (.sl 245 (.pr (.sl 3 .int) (.sl 3 .int))) a.2]),(true,[dI b.1, .dat (.sl 245 (.pr (.sl 3 .int) (.sl 3 .int))) b.2])] [] 0 (Ex (fun x:Yu×Bool=>x.2=true→x.1=unN a b) (fun x:Yu×Bool=>PV.tup [(true,[dI x.1.1, .ref 0]),(false,[dB x.2])]) (fun x:Yu×Bool=>[ar 0 245 (.pr (.sl 3 .int) (.sl 3 .int)) x.1.2])):=by
 refine Qn Tryz.func430 rfl rfl Tryz.ntmps430 fun O_ hO w0_ N0_ X_ h0_ f0_=> ?_
 refine acG 0 0 fun hi1=> ?_
 refine acG 1 0 fun hi2=> ?_
 refine w_ ?_
 refine xbx 0 ?_
 refine xbx 1 ?_
 refine lc (xal 2 (.pr .int (.sl 245 (.pr (.sl 3 .int) (.sl 3 .int)))) J2) ?_
 iterate 5 refine w_ ?_
 refine lc (dK (X5 a) Kf) ?_
 iterate 2 refine w_ ?_
 cases hb3:(decide (YA a))
 ·have hb3':=ae hb3
  iterate 7 refine w_ ?_
  refine lc (Qm Qdu rfl (aA.1 rfl) rfl rfl) ?_
  iterate 3 refine w_ ?_
  refine AC.wk (QL 3 (p:=2) (off:=1) 245 (.pr (.sl 3 .int) (.sl 3 .int)) rfl rfl (Fresh.of rfl) (nlr rfl))<|Qb ?_
  subst hO
  refine QR (x:=((0,[]),false)) [(0,3)] ?_ (Xt rfl (QD rfl rfl QdH rfl) (Yc rfl)) rfl ⟨rfl,trivial⟩ rfl rfl
  exact fun h=>absurd h (by decide)
 ·have hb3':=ab hb3
  refine w_ ?_
  refine lgy rfl rfl (dK (X5 b) Kf) ?_
  iterate 3 refine w_ ?_
  cases hb4:(decide (YA b))
  ·have hb4':=ae hb4
   iterate 2 refine w_ ?_
   refine lc (Qm Qdu rfl (aA.1 rfl) rfl rfl) ?_
   iterate 3 refine w_ ?_
   refine AC.wk (QL 4 (p:=2) (off:=1) 245 (.pr (.sl 3 .int) (.sl 3 .int)) rfl rfl (Fresh.of rfl) (nlr rfl))<|Qb ?_
   subst hO
   refine QR (x:=((0,[]),false)) [(0,4)] ?_ (Xt rfl (QD rfl rfl QdH rfl) (Yc rfl)) rfl ⟨rfl,trivial⟩ rfl rfl
   exact fun h=>absurd h (by decide)
  ·have hb4':=ab hb4
   iterate 4 refine w_ ?_
   refine lc (dG 5 (QbV a hz) QgB) ?_
   refine lc (xal 6 (.pr .int (.sl 245 (.pr (.sl 3 .int) (.sl 3 .int)))) J2) ?_
   iterate 7 refine w_ ?_
   refine lc (Wc (Qa rfl) (Qa rfl) rfl (by first | omega | (have h1:=(XM ‹YA a›).1; have h2:=(XM ‹YA b›).1; omega))) ?_
   iterate 7 refine w_ ?_
   refine alL 27 fun hl5=> ?_
   iterate 4 refine w_ ?_
   refine lp0 b.2.length (fun k=>⟨[(2,lP 0 0),(4,lP 2 0),(5,lB false),(6,lP 6 0),(27,lf (.dat (.sl 245 (.pr (.sl 3 .int) (.sl 3 .int))) b.2)),(28,lI (b.2.length:Int)),(29,lI (k:Int))],[bx 0 59 [dI a.1, .dat (.sl 245 (.pr (.sl 3 .int) (.sl 3 .int))) a.2],bx 2 59 [dI 0, .val (.slice none 0 0)],bx 6 59 [dI (a.1+b.1), .ref 7],ar 7 245 (.pr (.sl 3 .int) (.sl 3 .int)) (a.2++(b.2.take k).map (Qf9 a.1))]⟩) ?_ fun k hk6=> ?_
   · exact Wk.of [(7,5)] rfl ⟨rfl,rfl,rfl,rfl,rfl,rfl,rfl,trivial⟩ ⟨rfl,rfl,rfl,(Qj (by simp)),trivial⟩ rfl rfl
   iterate 4 refine w_ ?_
   cases hb7:(decide ((k:Int) < (b.2.length:Int)))
   ·have hb7':=ae hb7
    refine w_ ?_
    refine Qh ?_
    refine (?_:AC _ _ _ _ _)
    iterate 3 refine w_ ?_
    refine lc (Wp (X5 (a.1+b.1,a.2++(b.2.take k).map (Qf9 a.1))) Kf ⟨_,_,rfl,(U0 (Ql rfl) ⟨_,_,rfl, .inl rfl,⟨_,_,rfl, .inr ⟨_,_,_,_,rfl,rfl,rfl⟩,rfl⟩⟩),rfl⟩ rfl rfl rfl) ?_
    iterate 2 refine w_ ?_
    cases hb8:(decide (YA (a.1+b.1,a.2++(b.2.take k).map (Qf9 a.1))))
    ·have hb8':=ae hb8
     iterate 2 refine w_ ?_
     refine lc (Qm Qdu rfl (aA.1 rfl) rfl rfl) ?_
     iterate 3 refine w_ ?_
     refine AC.wk (QL 8 (p:=2) (off:=1) 245 (.pr (.sl 3 .int) (.sl 3 .int)) rfl rfl (Fresh.of rfl) (nlr rfl))<|Qb ?_
     subst hO
     refine QR (x:=((0,[]),false)) [(0,8)] ?_ (Xt rfl (QD rfl rfl QdH rfl) (Yc rfl)) rfl ⟨rfl,trivial⟩ rfl rfl
     exact fun h=>absurd h (by decide)
    ·have hb8':=ab hb8
     iterate 7 refine w_ ?_
     refine Qb ?_
     subst hO
     refine QR (x:=((a.1+b.1,a.2++(b.2.take k).map (Qf9 a.1)),true)) [(0,7)] ?_ (Xt rfl (QD rfl rfl QdH rfl) (Yc rfl)) rfl ⟨rfl,trivial⟩ rfl rfl
     (intro _; rw[QO (by omega)]; rfl)
   ·have hb7':=ab hb7
    iterate 5 refine w_ ?_
    obtain ⟨x9,hx10⟩:∃z,b.2[k]? =some z:=⟨_,aa (by omega)⟩
    iterate 2 refine w_ ?_
    refine lc (xal 9 (.pr (.sl 3 .int) (.sl 3 .int)) VB) ?_
    iterate 2 refine w_ ?_
    apply dV (i6 33 _ _ _ _ _ _ [⟨some 39,lR 10,[ar 10 3 .int (x9.1.map fun x=>x+a.1)]⟩,io 40 (lP 9 1),io 41 (lf (.dat (.sl 3 .int) x9.2)),io 42 (lP 0 0),io 43 (lI a.1),⟨some 44,lR 11,[ar 11 3 .int (x9.2.map fun x=>x+a.1)]⟩,io 45 (ag [.ref 10, .ref 11]),⟨some 46,lR 12,[ar 12 245 (.pr (.sl 3 .int) (.sl 3 .int)) ([(x9.1.map fun x=>x+a.1,x9.2.map fun x=>x+a.1)]),(10,none),(11,none)]⟩,⟨some 47,lR 13,[ar 13 245 (.pr (.sl 3 .int) (.sl 3 .int)) ((a.2++(b.2.take k).map (Qf9 a.1))++([(x9.1.map fun x=>x+a.1,x9.2.map fun x=>x+a.1)])),(7,none),(12,none)]⟩,io 48 _,⟨none,lf (.val undef),[bx 6 59 [dI (a.1+b.1), .ref 13]]⟩]) [0,0,3,3,15,15,3,127,127,511,511,3,3,3,0,0,0]
    iterate 6 refine z_ ?_
    refine zz (fun _ h_=>ac (dO 10 (VK x9.1 a.1 (by have:=((XM ‹YA b›).2.2 _ (aj hx10)).1; omega) (fun z hz_=>by have h1:=((XM ‹YA b›).2.2 _ (aj hx10)).2.1 z hz_; have h2:=(XM ‹YA a›).1; omega)) Qbr) rfl) ?_
    iterate 4 refine z_ ?_
    refine zz (fun _ h_=>ac (dO 11 (VK x9.2 a.1 (by have:=((XM ‹YA b›).2.2 _ (aj hx10)).1; omega) (fun z hz_=>by have h1:=((XM ‹YA b›).2.2 _ (aj hx10)).2.2 z hz_; have h2:=(XM ‹YA a›).1; omega)) Qbr) rfl) ?_
    refine zz (fun _ h_=>ac (Qm Qac ⟨_,_,rfl,(h_.w rfl),⟨_,_,rfl,(h_.w rfl),rfl⟩⟩ (aA.1 (by simp only[Zb,UT,bt,co]; rw[(h_.en 10 rfl),(h_.en 11 rfl)]; rfl)) rfl rfl) rfl)<|zz (fun _ h_=>ac (XH 12 (e:=(.pr (.sl 3 .int) (.sl 3 .int))) JJ Ux VB rfl ⟨_,_,rfl,(h_.w rfl),rfl⟩ (aA.1 (by simp only[Zb,UT,bt,co]; rw[(h_.en 10 rfl),(h_.en 11 rfl)]; rfl)) ⟨_,_,_,_,rfl,⟨[.ref 10],[.ref 11],_,_,_,_,rfl,rfl,(.inl ⟨_,rfl,(h_.en 10 rfl),rfl⟩),(.inl ⟨_,rfl,(h_.en 11 rfl),rfl⟩),rfl⟩,⟨rfl,rfl⟩,rfl⟩ (by decide) rfl rfl (h_.fr 12 rfl) (nlr rfl)) rfl) ?_
    refine zz (fun _ h_=>ac (dA 13 Qad (hb:=by (have h1:=(XM ‹YA a›).2.1; have h2:=(XM ‹YA b›).2.1; simp only[ao,aN,aw,ax,aK]; omega))) rfl) ?_
    refine z_ ?_
    refine zz (fun _ h_=>ac (ZE (h_.v rfl) (h_.en 6 rfl) (h_.w rfl) (by simp only[Zb,UT,bt,co]; rw[(h_.en 13 rfl)]; rfl) Qlh rfl) rfl) ?_
    exact zN
    refine (?_:AC _ _ _ _ _)
    refine w_ ?_
    refine lc (Wc (Qa rfl) (Qk rfl) rfl (by first | omega | (have h1:=(XM ‹YA a›).1; have h2:=(XM ‹YA b›).1; omega))) ?_
    refine w_ ?_
    refine Qc ?_
    refine l0_ ?_
    exact Wk.of [(7,13)] rfl ⟨rfl,rfl,rfl,rfl,rfl,rfl,rfl,trivial⟩ ⟨rfl,rfl,rfl,(Qj (by rw[Qs hx10]; simp[Qf9])),trivial⟩ rfl rfl
theorem Jw (a:(Int×(List (List Int×List Int)))×(List (ByteArray×Int))×(List (Int×Bool))×ByteArray)(b:(Int×(List (List Int×List Int)))×(List (ByteArray×Int))×(List (Int×Bool))×ByteArray)[∀s,Decidable (StgOk s)][∀s,Decidable (YA s)](hz:Ty.tot HK a≤2000000)(hzb:Ty.tot HK b≤2000000):FC Tryz.prog 362 [(true,[dI a.1.1, .dat (.sl 245 (.pr (.sl 3 .int) (.sl 3 .int))) a.1.2, .dat (.sl 44 (.pr .str .int)) a.2.1, .dat (.sl 86 (.pr .int .bool)) a.2.2.1,dS a.2.2.2]),(true,[dI b.1.1, .dat (.sl 245 (.pr (.sl 3 .int) (.sl 3 .int))) b.1.2, .dat (.sl 44 (.pr .str .int)) b.2.1, .dat (.sl 86 (.pr .int .bool)) b.2.2.1,dS b.2.2.2])] [] 0 (Ex (fun x:QP×Bool=>x.2=true→x.1=unS a b) (fun x:QP×Bool=>PV.tup [(true,[dI x.1.1.1, .ref 0, .ref 1, .ref 2,dS x.1.2.2.2]),(false,[dB x.2])]) (fun x:QP×Bool=>[ar 0 245 (.pr (.sl 3 .int) (.sl 3 .int)) x.1.1.2,ar 1 44 (.pr .str .int) x.1.2.1,ar 2 86 (.pr .int .bool) x.1.2.2.1])):=by
 obtain ⟨hz1,hz2,hz3⟩:=Qcw hz
 obtain ⟨hy1,hy2,hy3⟩:=Qcw hzb
 refine Qn Tryz.func362 rfl rfl Tryz.ntmps362 fun O_ hO w0_ N0_ X_ h0_ f0_=> ?_
 refine acG 0 0 fun hi1=> ?_
 refine acG 1 0 fun hi2=> ?_
 refine w_ ?_
 refine xbx 0 ?_
 refine xbx 1 ?_
 refine lc (xal 2 (.pr (.pr .int (.sl 245 (.pr (.sl 3 .int) (.sl 3 .int)))) (.pr (.sl 44 (.pr .str .int)) (.pr (.sl 86 (.pr .int .bool)) .str))) Kl) ?_
 iterate 7 refine w_ ?_
 refine ZQ 3 [] (Jh a.1 b.1 hz1) QgH e2_ trivial rfl (fun _=>rfl) (fun _=>⟨(Fresh.of rfl),trivial⟩) (nlr rfl) fun x3 hx4=> ?_
 iterate 3 refine w_ ?_
 refine lc (xal 4 (.pr .int (.sl 245 (.pr (.sl 3 .int) (.sl 3 .int)))) J2) ?_
 iterate 8 refine w_ ?_
 cases hb5:(x3.2)
 ·iterate 12 refine w_ ?_
  refine lc (Qm Qb4 rfl (aA.1 rfl) rfl rfl) ?_
  iterate 3 refine w_ ?_
  refine AC.wk (QL 5 (p:=2) (off:=1) 245 (.pr (.sl 3 .int) (.sl 3 .int)) rfl rfl (Fresh.of rfl) (nlr rfl))<|AC.wk (QL 6 (p:=2) (off:=2) 44 (.pr .str .int) rfl rfl (Fresh.of rfl) (nlr rfl))<|AC.wk (QL 7 (p:=2) (off:=3) 86 (.pr .int .bool) rfl rfl (Fresh.of rfl) (nlr rfl))<|Qb ?_
  subst hO
  refine QR (x:=(((0,[]),([],([],ByteArray.empty))),false)) [(0,5),(1,6),(2,7)] ?_ (Xt rfl (QD rfl rfl Z1 rfl) (Yc rfl)) rfl ⟨rfl,rfl,rfl,trivial⟩ rfl rfl
  exact fun h=>absurd h (by decide)
 ·refine w_ ?_
  refine lgy rfl rfl (dK (Y8 a) Vl) ?_
  iterate 3 refine w_ ?_
  cases hb6:(decide (StgOk a))
  ·have hb6':=ae hb6
   iterate 7 refine w_ ?_
   refine lc (Qm Qb4 rfl (aA.1 rfl) rfl rfl) ?_
   iterate 3 refine w_ ?_
   refine AC.wk (QL 8 (p:=2) (off:=1) 245 (.pr (.sl 3 .int) (.sl 3 .int)) rfl rfl (Fresh.of rfl) (nlr rfl))<|AC.wk (QL 9 (p:=2) (off:=2) 44 (.pr .str .int) rfl rfl (Fresh.of rfl) (nlr rfl))<|AC.wk (QL 10 (p:=2) (off:=3) 86 (.pr .int .bool) rfl rfl (Fresh.of rfl) (nlr rfl))<|Qb ?_
   subst hO
   refine QR (x:=(((0,[]),([],([],ByteArray.empty))),false)) [(0,8),(1,9),(2,10)] ?_ (Xt rfl (QD rfl rfl Z1 rfl) (Yc rfl)) rfl ⟨rfl,rfl,rfl,trivial⟩ rfl rfl
   exact fun h=>absurd h (by decide)
  ·have hb6':=ab hb6
   refine w_ ?_
   refine lgy rfl rfl (dK (Y8 b) Vl) ?_
   iterate 3 refine w_ ?_
   cases hb7:(decide (StgOk b))
   ·have hb7':=ae hb7
    iterate 2 refine w_ ?_
    refine lc (Qm Qb4 rfl (aA.1 rfl) rfl rfl) ?_
    iterate 3 refine w_ ?_
    refine AC.wk (QL 11 (p:=2) (off:=1) 245 (.pr (.sl 3 .int) (.sl 3 .int)) rfl rfl (Fresh.of rfl) (nlr rfl))<|AC.wk (QL 12 (p:=2) (off:=2) 44 (.pr .str .int) rfl rfl (Fresh.of rfl) (nlr rfl))<|AC.wk (QL 13 (p:=2) (off:=3) 86 (.pr .int .bool) rfl rfl (Fresh.of rfl) (nlr rfl))<|Qb ?_
    subst hO
    refine QR (x:=(((0,[]),([],([],ByteArray.empty))),false)) [(0,11),(1,12),(2,13)] ?_ (Xt rfl (QD rfl rfl Z1 rfl) (Yc rfl)) rfl ⟨rfl,rfl,rfl,trivial⟩ rfl rfl
    exact fun h=>absurd h (by decide)
   ·have hb7':=ab hb7
    iterate 2 refine w_ ?_
    apply dW [io 32 _,⟨some 33,lR 14,[ar 14 44 (.pr .str .int) ([])]⟩,io 34 (lP 0 2),io 35 (lf (.dat (.sl 44 (.pr .str .int)) a.2.1)),⟨some 36,lR 15,[ar 15 44 (.pr .str .int) (([])++a.2.1),(14,none)]⟩,io 37 (lP 1 2),io 38 (lf (.dat (.sl 44 (.pr .str .int)) b.2.1)),⟨some 39,lR 16,[ar 16 44 (.pr .str .int) ((([])++a.2.1)++b.2.1),(15,none)]⟩,⟨some 40,lR 17,[ar 17 86 (.pr .int .bool) ([])]⟩,io 41 (lP 0 3),io 42 (lf (.dat (.sl 86 (.pr .int .bool)) a.2.2.1)),⟨some 43,lR 18,[ar 18 86 (.pr .int .bool) (([])++a.2.2.1),(17,none)]⟩,io 44 (lP 0 4),io 45 (lf (dS a.2.2.2)),io 46 (lP 1 4),io 47 (lf (dS b.2.2.2)),io 48 (lf (dS (a.2.2.2++b.2.2.2))),io 49 (ag [dI x3.1.1, .ref 3, .ref 16, .ref 18,dS (a.2.2.2++b.2.2.2)]),⟨some 8,lP 19 0,[bx 19 62 [dI 0, .val (.slice none 0 0), .val (.slice none 0 0), .val (.slice none 0 0),dS ByteArray.empty]]⟩,⟨none,lf (.val undef),[bx 19 62 [dI x3.1.1, .ref 3, .ref 16, .ref 18,dS (a.2.2.2++b.2.2.2)]]⟩] [0,1,3,3,1,31,31,1,255,511,511,1,4095,4095,16383,16383,4095,0,262143,0]
    refine z_ ?_
    refine zz (fun _ h_=>ac (dBs 14 (e:=(.pr .str .int)) JH) rfl) ?_
    iterate 2 refine z_ ?_
    refine zz (fun _ h_=>ac (Zs 15 (h_.v rfl) (h_.en 14 rfl) (Evl.rep (h_.v rfl)) rfl Qho Qds (by (simp only[ao,aN,aw,ax,aK]; omega)) rfl (h_.fr 15 rfl) (nlr rfl)) rfl) ?_
    iterate 2 refine z_ ?_
    refine zz (fun _ h_=>ac (Zs 16 (h_.v rfl) (h_.en 15 rfl) (Evl.rep (h_.v rfl)) rfl Qho Qds (by (simp only[ao,aN,aw,ax,aK]; omega)) rfl (h_.fr 16 rfl) (nlr rfl)) rfl) ?_
    refine zz (fun _ h_=>ac (dBs 17 (e:=(.pr .int .bool)) Wb) rfl) ?_
    iterate 2 refine z_ ?_
    refine zz (fun _ h_=>ac (Zs 18 (h_.v rfl) (h_.en 17 rfl) (Evl.rep (h_.v rfl)) rfl QpV QaB (by (simp only[ao,aN,aw,ax,aK]; omega)) rfl (h_.fr 18 rfl) (nlr rfl)) rfl) ?_
    iterate 4 refine z_ ?_
    refine zz (fun _ h_=>ac (ZH (h_.v rfl) (h_.v rfl) rfl (by (have h1:=Qdm hz; have h2:=Qdm hzb; omega))) rfl)<|zz (fun _ h_=>ac (Qm Qb4 ⟨_,_,rfl,(h_.w rfl),⟨_,_,rfl,(h_.w rfl),⟨_,_,rfl,(h_.w rfl),⟨_,_,rfl,(h_.w rfl),rfl⟩⟩⟩⟩ (aA.1 (by show ((Zb _ [dI x3.1.1, .ref 3]&&(Zb _ [.ref 16]&&(Zb _ [.ref 18]&&(Zb _ [dS (a.2.2.2++b.2.2.2)]&&true)))))=true; simp only[Zb,UT,bt,co]; rw[(h_.en 3 rfl),(h_.en 16 rfl),(h_.en 18 rfl)]; rfl)) rfl rfl) rfl)<|zz (fun _ h_=>ac (Wg 19 (.pr (.pr .int (.sl 245 (.pr (.sl 3 .int) (.sl 3 .int)))) (.pr (.sl 44 (.pr .str .int)) (.pr (.sl 86 (.pr .int .bool)) .str))) Kl rfl rfl (h_.fr 19 rfl) (nlr rfl)) rfl)<|zz (fun _ h_=>ac (ZE (h_.v rfl) (h_.en 19 rfl) (h_.w rfl) (by show Zb _ [dI x3.1.1, .ref 3, .ref 16, .ref 18,dS (a.2.2.2++b.2.2.2)]=true; simp only[Zb,UT,bt,co]; rw[(h_.en 3 rfl),(h_.en 16 rfl),(h_.en 18 rfl)]; rfl) Z1 rfl) rfl) ?_
    exact zN
    iterate 4 refine w_ ?_
    refine alL 51 fun hl8=> ?_
    iterate 4 refine w_ ?_
    refine lp0 b.2.2.1.length (fun k=>⟨[(2,lP 0 0),(4,lP 2 0),(5,lB false),(8,lP 19 0),(51,lf (.dat (.sl 86 (.pr .int .bool)) b.2.2.1)),(52,lI (b.2.2.1.length:Int)),(53,lI (k:Int))],[bx 0 62 [dI a.1.1, .dat (.sl 245 (.pr (.sl 3 .int) (.sl 3 .int))) a.1.2, .dat (.sl 44 (.pr .str .int)) a.2.1, .dat (.sl 86 (.pr .int .bool)) a.2.2.1,dS a.2.2.2],bx 2 62 [dI 0, .val (.slice none 0 0), .val (.slice none 0 0), .val (.slice none 0 0),dS ByteArray.empty],ar 3 245 (.pr (.sl 3 .int) (.sl 3 .int)) x3.1.2,ar 16 44 (.pr .str .int) ((([])++a.2.1)++b.2.1),bx 19 62 [dI x3.1.1, .ref 3, .ref 16, .ref 20,dS (a.2.2.2++b.2.2.2)],ar 20 86 (.pr .int .bool) (a.2.2.1++(b.2.2.1.take k).map (unL a.2.1.length))]⟩) ?_ fun k hk9=> ?_
    · exact Wk.of [(20,18)] rfl ⟨rfl,rfl,rfl,rfl,rfl,rfl,rfl,trivial⟩ ⟨rfl,rfl,rfl,rfl,rfl,(Qj (by simp)),trivial⟩ rfl rfl
    iterate 4 refine w_ ?_
    cases hb10:(decide ((k:Int) < (b.2.2.1.length:Int)))
    ·have hb10':=ae hb10
     refine w_ ?_
     refine Qh ?_
     refine (?_:AC _ _ _ _ _)
     iterate 3 refine w_ ?_
     refine lc (Wp (Y8 (x3.1,(([])++a.2.1)++b.2.1,a.2.2.1++(b.2.2.1.take k).map (unL a.2.1.length),a.2.2.2++b.2.2.2)) Vl ⟨_,_,rfl,(U0 (Ql rfl) ⟨_,_,rfl, .inl rfl,⟨_,_,rfl, .inr ⟨_,_,_,_,rfl,rfl,rfl⟩,⟨_,_,rfl, .inr ⟨_,_,_,_,rfl,rfl,rfl⟩,⟨_,_,rfl, .inr ⟨_,_,_,_,rfl,rfl,rfl⟩,⟨_,_,rfl, .inl rfl,rfl⟩⟩⟩⟩⟩),rfl⟩ rfl rfl rfl) ?_
     iterate 2 refine w_ ?_
     cases hb11:(decide (StgOk (x3.1,(([])++a.2.1)++b.2.1,a.2.2.1++(b.2.2.1.take k).map (unL a.2.1.length),a.2.2.2++b.2.2.2)))
     ·have hb11':=ae hb11
      iterate 2 refine w_ ?_
      refine lc (Qm Qb4 rfl (aA.1 rfl) rfl rfl) ?_
      iterate 3 refine w_ ?_
      refine AC.wk (QL 21 (p:=2) (off:=1) 245 (.pr (.sl 3 .int) (.sl 3 .int)) rfl rfl (Fresh.of rfl) (nlr rfl))<|AC.wk (QL 22 (p:=2) (off:=2) 44 (.pr .str .int) rfl rfl (Fresh.of rfl) (nlr rfl))<|AC.wk (QL 23 (p:=2) (off:=3) 86 (.pr .int .bool) rfl rfl (Fresh.of rfl) (nlr rfl))<|Qb ?_
      subst hO
      refine QR (x:=(((0,[]),([],([],ByteArray.empty))),false)) [(0,21),(1,22),(2,23)] ?_ (Xt rfl (QD rfl rfl Z1 rfl) (Yc rfl)) rfl ⟨rfl,rfl,rfl,trivial⟩ rfl rfl
      exact fun h=>absurd h (by decide)
     ·have hb11':=ab hb11
      iterate 7 refine w_ ?_
      refine Qb ?_
      subst hO
      refine QR (x:=(((x3.1.1,x3.1.2),((([])++a.2.1)++b.2.1,(a.2.2.1++(b.2.2.1.take k).map (unL a.2.1.length),a.2.2.2++b.2.2.2))),true)) [(0,3),(1,16),(2,20)] ?_ (Xt rfl (QD rfl rfl Z1 rfl) (Yc rfl)) rfl ⟨rfl,rfl,rfl,trivial⟩ rfl rfl
      (intro _; rw[QO (by omega)]; simp_all [unS]; done)
    ·have hb10':=ab hb10
     iterate 5 refine w_ ?_
     obtain ⟨x12,hx13⟩:∃z,b.2.2.1[k]? =some z:=⟨_,aa (by omega)⟩
     have hlb:=QqD (StgOk.labs ‹StgOk b› _ (aj hx13))
     iterate 2 refine w_ ?_
     refine lc (xal 24 (.pr .int .bool) Wb) ?_
     iterate 6 refine w_ ?_
     refine alI 58 fun hi14=> ?_
     iterate 2 refine w_ ?_
     cases hb15:(decide (0≤x12.1))
     ·have hb15':=ae hb15
      iterate 6 refine w_ ?_
      refine lc (dBs 25 (e:=(.pr .int .bool)) Wb (hab:=by exact ⟨_,_,_,_,rfl,⟨[dI x12.1],[dB x12.2],_,_,_,_,rfl,rfl,⟨rfl,rfl⟩,⟨rfl,rfl⟩,rfl⟩,⟨rfl,rfl⟩,rfl⟩)) ?_
      refine lc (dA 26 QaB (hb:=by (simp only[ao,aN,aw,ax,aK]; omega))) ?_
      iterate 2 refine w_ ?_
      refine Qc ?_
      refine (?_:AC _ _ _ _ _)
      iterate 3 refine w_ ?_
      refine Qc ?_
      refine l0_ ?_
      exact Wk.of [(20,26)] rfl ⟨rfl,rfl,rfl,rfl,rfl,rfl,rfl,trivial⟩ ⟨rfl,rfl,rfl,rfl,rfl,(Qj (by rw[Qs hx13]; simp[unL, *])),trivial⟩ rfl rfl
     ·have hb15':=ab hb15
      iterate 6 refine w_ ?_
      refine alL 63 fun hl16=> ?_
      iterate 9 refine w_ ?_
      refine lc (dBs 27 (e:=(.pr .int .bool)) Wb (hab:=by exact ⟨_,_,_,_,rfl,⟨[dI (x12.1+(a.2.1.length:Int))],[dB x12.2],_,_,_,_,rfl,rfl,⟨rfl,rfl⟩,⟨rfl,rfl⟩,rfl⟩,⟨rfl,rfl⟩,rfl⟩)) ?_
      refine lc (dA 28 QaB (hb:=by (simp only[ao,aN,aw,ax,aK]; omega))) ?_
      iterate 2 refine w_ ?_
      refine Qc ?_
      refine (?_:AC _ _ _ _ _)
      iterate 3 refine w_ ?_
      refine Qc ?_
      refine l0_ ?_
      exact Wk.of [(20,28)] rfl ⟨rfl,rfl,rfl,rfl,rfl,rfl,rfl,trivial⟩ ⟨rfl,rfl,rfl,rfl,rfl,(Qj (by rw[Qs hx13]; simp[unL, *])),trivial⟩ rfl rfl
end Go.Proofs.YtgpdhgadmjfokaaGreat
namespace Go.Proofs.YtgpdhgadmjfokaaGreat
open Go.RowKit
set_option maxRecDepth 100000
set_option maxHeartbeats 4000000
section
variable {l:List ByteArray}{x:ByteArray}{j kd:Int}{i k:Nat}{g:List QB}
theorem QiR:∀(l:List ByteArray) (j:Int),sgA (l++[x]) j=sgA l j++sgN x (j+(l.length:Int)) x.size
  | [],j=>by simp[sgA]
  | y :: l,j=>by
    rw[cD,sgA,sgA,QiR l (j+1),aP,ax]
    congr 3
    omega
theorem QmK (hx:l[k]? =some x):sgA (l.take k) 1++sgN x ((k:Int)+1) x.size=sgA (l.take (k+1)) 1:=by
  have hk:=(ah.1 hx).1
  rw[Qs hx,QiR,aw,show (1:Int)+((min k l.length:Nat):Int)=(k:Int)+1 by omega]
theorem Qlm:(g++sgN x kd i)++[(x.extract ((i:Nat):Int).toNat ((i:Int)+1).toNat,kd)]=g++sgN x kd (i+1):=by
  unfold sgN
  rw[cp,cC,aP,cO,show ((i:Int)+1).toNat=i+1 by omega]; rfl
end
theorem Qz (ins:ByteArray)(outs:ByteArray)(inner:ByteArray)(arcs:ByteArray)(hk:(Zl arcs 32).all okA=true)(hs:arcs.size≤900∧ins.size≤100∧outs.size≤100∧inner.size≤100):FC Tryz.prog 275 [(false,[dS ins]),(false,[dS outs]),(false,[dS inner]),(false,[dS arcs])] [] 0 (Is (ag [dI (((Qo ins outs inner arcs).1).1), .ref 0, .ref 1, .ref 2,dS ((Qo ins outs inner arcs).2.2.2)]) [ar 0 245 (.pr (.sl 3 .int) (.sl 3 .int)) (((Qo ins outs inner arcs).1).2),ar 1 44 (.pr .str .int) ((Qo ins outs inner arcs).2.1),ar 2 86 (.pr .int .bool) ((Qo ins outs inner arcs).2.2.1)]):=by
 have hsl:=Qkr (s:=arcs) (b:=32)
 have h3l:([ins,outs,inner]:List ByteArray).length=3:=rfl
 refine Qn Tryz.func275 rfl rfl Tryz.ntmps275 fun O_ hO w0_ N0_ X_ h0_ f0_=> ?_
 refine w_ ?_
 refine lc (xal 0 (.pr (.pr .int (.sl 245 (.pr (.sl 3 .int) (.sl 3 .int)))) (.pr (.sl 44 (.pr .str .int)) (.pr (.sl 86 (.pr .int .bool)) .str))) Kl) ?_
 iterate 2 refine w_ ?_
 refine lc (Qm QnE rfl (aA.1 rfl) rfl rfl) ?_
 refine xbx 1 ?_
 iterate 7 refine w_ ?_
 refine lc (dBs 2 (e:= .str) Hd) ?_
 iterate 4 refine w_ ?_
 refine AC.wk (QL 3 (p:=1) (off:=2) 44 (.pr .str .int) rfl rfl (Fresh.of rfl) (nlr rfl)) ?_
 refine QK (fun m_ s_=>∃(k:Nat) (g1:List (ByteArray×Int)),k≤([ins,outs,inner]).length∧m_=([ins,outs,inner]).length - k∧(g1=sgA (([ins,outs,inner]:List ByteArray).take k) 1)∧(g1.length≤100*k)∧s_=⟨[(3,lf (dS arcs)),(8,lP 0 0),(9,lP 1 0),(20,lR 2),(21,lI (([ins,outs,inner]).length:Int)),(22,lI (k:Int))],[bx 0 62 [dI 0, .val (.slice none 0 0), .val (.slice none 0 0), .val (.slice none 0 0),dS ByteArray.empty],bx 1 341 [dI 0, .val (.slice none 0 0), .ref 4, .val (.slice none 0 0),dS ByteArray.empty, .val (.slice none 0 0), .val (.slice none 0 0)],ar 2 9 .str ([ins,outs,inner]),ar 4 44 (.pr .str .int) g1]⟩) ⟨0,([]:((.sl 44 (.pr .str .int)):Ty).Den),aU _,rfl,rfl,(aU _),rfl⟩ ?_ ?_
 · exact Wk.of [(4,3)] rfl ⟨rfl,rfl,rfl,rfl,rfl,rfl,trivial⟩ ⟨rfl,rfl,rfl,(Qj (by first | rfl | simp)),trivial⟩ rfl rfl
 rintro m_ s_ ⟨k,g1,hk1,hm2,hG,hL,rfl⟩
 iterate 4 refine w_ ?_
 cases hb3:(decide ((k:Int) < (([ins,outs,inner]).length:Int)))
 ·have hb3':=ae hb3
  refine w_ ?_
  refine Qh ?_
  refine (?_:AC _ _ _ _ _)
  iterate 3 refine w_ ?_
  refine lc (Vf (XG arcs 32 (by omega)).frozen Ko ⟨_,_,rfl,(Ql rfl),⟨_,_,rfl,(Evl.ev (Q6 32 rfl)),rfl⟩⟩ rfl rfl) ?_
  refine alL 54 fun hl4=> ?_
  iterate 4 refine w_ ?_
  refine AC.wk (QL 5 (p:=1) (off:=1) 245 (.pr (.sl 3 .int) (.sl 3 .int)) rfl rfl (Fresh.of rfl) (nlr rfl))<|AC.wk (QL 6 (p:=1) (off:=3) 86 (.pr .int .bool) rfl rfl (Fresh.of rfl) (nlr rfl))<|AC.wk (QL 7 (p:=1) (off:=5) 9 .str rfl rfl (Fresh.of rfl) (nlr rfl))<|AC.wk (QL 8 (p:=1) (off:=6) 9 .str rfl rfl (Fresh.of rfl) (nlr rfl)) ?_
  refine QK (fun m_ s_=>∃(m:Nat) (bb:((Int×(List (List Int×List Int)))×(List (ByteArray×Int))×(List (Int×Bool))×ByteArray)×List ByteArray×List ByteArray),m≤(Zl arcs 32).length∧m_=(Zl arcs 32).length - m∧(bb=((Zl arcs 32).take m).foldl arV (((0,[]),g1,[],ByteArray.empty),[],[]))∧(DBJ bb m (2*m) (2*m))∧s_=⟨[(8,lP 0 0),(9,lP 1 0),(54,lf (.dat (.sl 9 .str) (Zl arcs 32))),(55,lI ((Zl arcs 32).length:Int)),(56,lI (m:Int))],[bx 0 62 [dI 0, .val (.slice none 0 0), .val (.slice none 0 0), .val (.slice none 0 0),dS ByteArray.empty],bx 1 341 [dI bb.1.1.1, .ref 9, .ref 10, .ref 11,dS bb.1.2.2.2, .ref 12, .ref 13],ar 9 245 (.pr (.sl 3 .int) (.sl 3 .int)) bb.1.1.2,ar 10 44 (.pr .str .int) bb.1.2.1,ar 11 86 (.pr .int .bool) bb.1.2.2.1,ar 12 9 .str bb.2.1,ar 13 9 .str bb.2.2]⟩) ⟨0,(((0,([]:((.sl 245 (.pr (.sl 3 .int) (.sl 3 .int))):Ty).Den)),g1,([]:((.sl 86 (.pr .int .bool)):Ty).Den),ByteArray.empty),([]:((.sl 9 .str):Ty).Den),([]:((.sl 9 .str):Ty).Den)),aU _,rfl,rfl,(DBJ.zero _),rfl⟩ ?_ ?_
  · exact Wk.of [(9,5),(10,4),(11,6),(12,7),(13,8)] rfl ⟨rfl,rfl,rfl,rfl,rfl,trivial⟩ ⟨rfl,rfl,(Qj (by first | rfl | simp)),(Qj (by first | rfl | simp)),(Qj (by first | rfl | simp)),(Qj (by first | rfl | simp)),(Qj (by first | rfl | simp)),trivial⟩ rfl rfl
  rintro m_ s_ ⟨m,bb,hk5,hm6,hB,hJ,rfl⟩
  iterate 4 refine w_ ?_
  cases hb7:(decide ((m:Int) < ((Zl arcs 32).length:Int)))
  ·have hb7':=ae hb7
   refine w_ ?_
   refine Qh ?_
   refine (?_:AC _ _ _ _ _)
   iterate 7 refine w_ ?_
   refine Qb ?_
   have e8:(bb.1.1.1:Int)=(((Qo ins outs inner arcs).1).1):=by
    (rw[hB,QO (by omega),hG,QO (by omega)]; rfl)
   have e9:(bb.1.2.2.2:ByteArray)=((Qo ins outs inner arcs).2.2.2):=by
    (rw[hB,QO (by omega),hG,QO (by omega)]; rfl)
   exact fi_ [(0,9),(1,10),(2,11)] hO ⟨(Qj (by (rw[hB,QO (by omega),hG,QO (by omega)]; rfl))),(Qj (by (rw[hB,QO (by omega),hG,QO (by omega)]; rfl))),(Qj (by (rw[hB,QO (by omega),hG,QO (by omega)]; rfl))),trivial⟩ (h0:=((congrArg (fun z_=>ag [dI z_, .ref 9, .ref 10, .ref 11,dS bb.1.2.2.2]) e8)).trans (congrArg (fun z_=>ag [dI (((Qo ins outs inner arcs).1).1), .ref 9, .ref 10, .ref 11,dS z_]) e9))
  ·have hb7':=ab hb7
   iterate 5 refine w_ ?_
   obtain ⟨tx,hx11⟩:∃z,(Zl arcs 32)[m]? =some z:=⟨_,aa (by omega)⟩
   have htx:=hx11
   have hts:=U8 (aj hx11)
   iterate 7 refine w_ ?_
   refine lc (dP 14 [(0,1),(1,10),(2,9),(3,11),(4,12),(5,13)] (Hw bb tx m hJ (by omega) (aA.1 hk _ (aj htx)) (by omega)) QfS) ?_
   refine Qc ?_
   refine (?_:AC _ _ _ _ _)
   iterate 3 refine w_ ?_
   refine Qc<|Zq ⟨m+1,((((arV bb tx).1.1.1,(arV bb tx).1.1.2),(arV bb tx).1.2.1,(arV bb tx).1.2.2.1,(arV bb tx).1.2.2.2),(arV bb tx).2.1,(arV bb tx).2.2),by omega,rfl,(by rw[hB,Qs htx,bl]; rfl),(hJ.ar_ (text:=tx)),rfl⟩ (by omega) ?_
   exact Wk.of [(9,16),(11,17),(12,18),(13,19)] rfl ⟨rfl,rfl,rfl,rfl,rfl,trivial⟩ ⟨rfl,rfl,(Qj (by first | rfl | simp)),(Qj (by first | rfl | simp)),(Qj (by first | rfl | simp)),(Qj (by first | rfl | simp)),(Qj (by first | rfl | simp)),trivial⟩ rfl rfl
 ·have hb3':=ab hb3
  iterate 7 refine w_ ?_
  obtain ⟨nm,hx13⟩:∃z,([ins,outs,inner])[k]? =some z:=⟨_,aa (by omega)⟩
  have hnm:=hx13
  have hns:nm.size≤100:=by have h_:=aj hx13; simp only[aJ,cH,or_false] at h_; rcases h_ with rfl | rfl | rfl <;> omega
  iterate 8 refine w_ ?_
  refine QK (fun m_ s_=>∃(i:Nat) (g2:List (ByteArray×Int)),i≤nm.size∧m_=nm.size - i∧(g2=g1++sgN nm ((k:Int)+1) i)∧(g2.length≤100*k+i)∧s_=⟨[(3,lf (dS arcs)),(8,lP 0 0),(9,lP 1 0),(10,lI (k:Int)),(11,lf (dS nm)),(12,lI (i:Int)),(20,lR 2),(21,lI (([ins,outs,inner]).length:Int)),(22,lI (k:Int)),(23,lB true),(24,lI (k:Int)),(25,lf (.ept 2 1 k 0)),(26,lf (dS nm))],[bx 0 62 [dI 0, .val (.slice none 0 0), .val (.slice none 0 0), .val (.slice none 0 0),dS ByteArray.empty],bx 1 341 [dI 0, .val (.slice none 0 0), .ref 20, .val (.slice none 0 0),dS ByteArray.empty, .val (.slice none 0 0), .val (.slice none 0 0)],ar 2 9 .str ([ins,outs,inner]),ar 20 44 (.pr .str .int) g2]⟩) ⟨0,g1,aU _,rfl,(by simp[sgN]),(by omega),rfl⟩ ?_ ?_
  · exact Wk.of [(20,4)] rfl ⟨rfl,rfl,rfl,rfl,rfl,rfl,rfl,rfl,rfl,rfl,rfl,rfl,rfl,trivial⟩ ⟨rfl,rfl,rfl,rfl,trivial⟩ rfl rfl
  rintro m_ s_ ⟨i,g2,hk14,hm15,hG2,hL2,rfl⟩
  iterate 4 refine w_ ?_
  refine alS 28 fun hl16=> ?_
  refine lc (ZN (Qa rfl) rfl Zx) ?_
  iterate 2 refine w_ ?_
  cases hb17:(decide ((i:Int) < (nm.size:Int)))
  ·have hb17':=ae hb17
   refine w_ ?_
   refine Qh ?_
   refine (?_:AC _ _ _ _ _)
   iterate 3 refine w_ ?_
   refine Qc<|Zq ⟨k+1,g2,by omega,rfl,(by rw[hG2,hG,show i=nm.size by omega]; exact QmK hnm),(by omega),rfl⟩ (by omega) ?_
   exact Wk.of [(4,20)] rfl ⟨rfl,rfl,rfl,rfl,rfl,rfl,trivial⟩ ⟨rfl,rfl,rfl,rfl,trivial⟩ rfl rfl
  ·have hb17':=ab hb17
   iterate 4 refine w_ ?_
   apply dV (i9 33 _ _ _ _ _ _ _ _ _ (io 42 _ :: io 43 (lf (dS (nm.extract ((i:Int)).toNat ((i:Int)+1).toNat))) :: i2 44 _ _ (io 46 (ag [dS (nm.extract ((i:Int)).toNat ((i:Int)+1).toNat),dI ((k:Int)+1)]) :: ⟨some 47,lR 21,[ar 21 44 (.pr .str .int) ([(nm.extract ((i:Int)).toNat ((i:Int)+1).toNat,(k:Int)+1)])]⟩ :: ⟨some 48,lR 22,[ar 22 44 (.pr .str .int) (g2++([(nm.extract ((i:Int)).toNat ((i:Int)+1).toNat,(k:Int)+1)])),(20,none),(21,none)]⟩ :: i3 49 _ _ _ [⟨none,lf (.val undef),[bx 1 341 [dI 0, .val (.slice none 0 0), .ref 22, .val (.slice none 0 0),dS ByteArray.empty, .val (.slice none 0 0), .val (.slice none 0 0)]]⟩]))) [0,1,1,1,1,1,63,127,255,255,63,2047,2047,63,63,1,0,0,0,0]
   iterate 10 refine z_ ?_
   refine zz (fun _ h_=>ac (show Does _ _ _ _ (St.put _ 43 (lf (dS (nm.extract ((i:Int)).toNat ((i:Int)+1).toNat)))) from QW (l:=(some (i:Int))) (h:=(some ((i:Int)+1))) (h_.v rfl) (by exact (h_.v rfl)) (by exact (h_.v rfl)) Zx rfl (by first | omega | (simp only[au,ap]; omega)) (by first | omega | (simp only[au,ap]; omega)) (by first | omega | (simp only[au,ap]; omega))) rfl) ?_
   iterate 2 refine z_ ?_
   refine zz (fun _ h_=>ac (Qm Qpi ⟨_,_,rfl,(h_.w rfl),⟨_,_,rfl,(h_.w rfl),rfl⟩⟩ (aA.1 rfl) rfl rfl) rfl) ?_
   refine zz (fun _ h_=>ac (dBs 21 (e:=(.pr .str .int)) JH (hab:=by exact ⟨_,_,_,_,rfl,⟨[dS (nm.extract ((i:Int)).toNat ((i:Int)+1).toNat)],[dI ((k:Int)+1)],_,_,_,_,rfl,rfl,⟨rfl,rfl⟩,⟨rfl,rfl⟩,rfl⟩,⟨rfl,rfl⟩,rfl⟩)) rfl) ?_
   refine zz (fun _ h_=>ac (dA 22 Qds (hb:=by first | omega | (simp only[ax,aK]; omega))) rfl) ?_
   iterate 3 refine z_ ?_
   refine zz (fun _ h_=>ac (ZE (h_.v rfl) (h_.en 1 rfl) (h_.w rfl) (by simp only[Zb,UT,bt,co]; rw[(h_.en 22 rfl)]; rfl) Qpc rfl) rfl) ?_
   exact zN
   refine (?_:AC _ _ _ _ _)
   iterate 4 refine w_ ?_
   refine Qc<|Zq ⟨i+1,(g2++([(nm.extract ((i:Int)).toNat ((i:Int)+1).toNat,(k:Int)+1)])),by omega,rfl,(by rw[hG2]; exact Qlm),(by simp only[ao,ax,aK]; omega),rfl⟩ (by omega) ?_
   exact Wk.of [(20,22)] rfl ⟨rfl,rfl,rfl,rfl,rfl,rfl,rfl,rfl,rfl,rfl,rfl,rfl,rfl,trivial⟩ ⟨rfl,rfl,rfl,(Qj (by first | rfl | simp)),trivial⟩ rfl rfl
def tx0:ByteArray:=⟨#[97,98]⟩
def tx1:ByteArray:=⟨#[99]⟩
def tx2:ByteArray:=⟨#[]⟩
def tx3:ByteArray:=⟨#[97,43,62,99,43,32,98,43,62,99,43,32,99,43,62,97,45,32,99,43,62,98,45,32,97,45,62,99,45,32,98,45,62,99,45,32,42,99,45,62,97,43,32,42,99,45,62,98,43]⟩
def tx4:ByteArray:=⟨#[97]⟩
def tx5:ByteArray:=⟨#[98]⟩
def tx6:ByteArray:=⟨#[97,43,62,98,43,32,98,43,62,97,45,32,97,45,62,98,45,32,42,98,45,62,97,43]⟩
def tx7:ByteArray:=⟨#[114]⟩
def tx8:ByteArray:=⟨#[120,121]⟩
def tx9:ByteArray:=⟨#[114,43,62,120,43,32,114,43,62,121,43,32,120,43,62,114,45,32,121,43,62,114,45,32,114,45,62,120,45,32,114,45,62,121,45,32,42,120,45,62,114,43,32,42,121,45,62,114,43]⟩
def QjT:ByteArray:=⟨#[97,100]⟩
def VZ:ByteArray:=⟨#[98,99]⟩
def QjE:ByteArray:=⟨#[97,43,62,98,43,32,98,43,62,100,43,32,100,43,62,99,43,32,99,43,62,97,45,32,97,45,62,98,45,32,98,45,62,100,45,32,100,45,62,99,45,32,42,99,45,62,97,43]⟩
def Qkf:ByteArray:=⟨#[120]⟩
def Qjk:ByteArray:=⟨#[97,43,62,120,43,32,120,43,62,98,43,32,98,43,62,97,45,32,97,45,62,120,45,32,120,45,62,98,45,32,42,98,45,62,97,43]⟩
def QjA:ByteArray:=⟨#[42,95,112,62,97,43,32,95,112,62,98,43,32,97,43,62,99,43,47,49,32,99,43,47,49,62,97,45,32,97,45,62,99,45,47,49,32,99,45,47,49,62,95,112,32,98,43,62,99,43,47,50,32,99,43,47,50,62,98,45,32,98,45,62,99,45,47,50,32,99,45,47,50,62,95,112]⟩
def Qj8:ByteArray:=⟨#[97,43,62,126,32,126,62,98,43,32,98,43,62,97,45,32,97,45,62,98,45,32,42,98,45,62,97,43]⟩
def QbT:ByteArray:=⟨#[42,121,45,62,114,43,32,114,43,62,120,43,32,120,43,62,120,45,32,120,45,62,121,43,32,121,43,62,114,45,32,114,45,62,121,45]⟩
def Qa2:ByteArray:=⟨#[42,97,45,62,97,43,32,97,43,62,95,112,32,95,112,62,98,43,32,95,112,62,99,43,32,98,43,62,98,45,32,99,43,62,99,45,32,98,45,62,95,113,32,99,45,62,95,113,32,95,113,62,97,45]⟩
def QjL:ByteArray:=⟨#[97,43,47,49,62,98,43,32,98,43,62,97,43,47,50,32,97,43,47,50,62,98,45,32,42,98,45,62,97,43,47,49]⟩
def QrD:ByteArray:=⟨#[112]⟩
def QrR:ByteArray:=⟨#[113]⟩
def Qrj:ByteArray:=⟨#[112,43,62,113,43,32,113,43,62,112,45,32,112,45,62,113,45,32,42,113,45,62,112,43]⟩
def Qjv:ByteArray:=⟨#[42,95,112,62,97,43,32,97,43,62,98,43,32,98,43,62,95,113]⟩
theorem Yj (code:List UInt8)(at_:Int)(sd:Int)(ha:0≤at_∧at_≤999999000):FC Tryz.prog 273 [(false,[.ptr 0 0])] [bx 0 119 [.dat (.sl 5 .u8) code,dI at_, .val (.int .u64 sd)]] 1 (Ex (fun x:QP×Int×Int=>Ty.tot HK x.1≤1000∧(1≤x.1.2.1.length∧1≤x.1.2.2.1.length)∧(at_≤x.2.1∧x.2.1≤at_+10)) (fun x:QP×Int×Int=>ag [dI x.1.1.1, .ref 1, .ref 2, .ref 3,dS x.1.2.2.2]) (fun x:QP×Int×Int=>[bx 0 119 [.dat (.sl 5 .u8) code,dI x.2.1, .val (.int .u64 x.2.2)],ar 1 245 (.pr (.sl 3 .int) (.sl 3 .int)) x.1.1.2,ar 2 44 (.pr .str .int) x.1.2.1,ar 3 86 (.pr .int .bool) x.1.2.2.1])):=by
 refine Qn Tryz.func273 rfl rfl Tryz.ntmps273 fun O_ hO w0_ N0_ X_ h0_ f0_=> ?_
 refine w_ ?_
 refine lc (xal 1 (.pr (.pr .int (.sl 245 (.pr (.sl 3 .int) (.sl 3 .int)))) (.pr (.sl 44 (.pr .str .int)) (.pr (.sl 86 (.pr .int .bool)) .str))) Kl) ?_
 iterate 4 refine w_ ?_
 have hp1:=ZA code at_ sd 7
 refine lc (dP 2 [] (Qv code at_ sd 7 (by omega)) Zg) ?_
 iterate 6 refine w_ ?_
 refine cd_ (fun hb2 hb2'=> ?_) fun hb2 hb2'=> ?_
 ·iterate 4 refine w_ ?_
  refine cd_ (fun hb3 hb3'=> ?_) fun hb3 hb3'=> ?_
  ·iterate 4 refine w_ ?_
   refine cd_ (fun hb4 hb4'=> ?_) fun hb4 hb4'=> ?_
   ·iterate 4 refine w_ ?_
    refine cd_ (fun hb5 hb5'=> ?_) fun hb5 hb5'=> ?_
    ·iterate 4 refine w_ ?_
     refine cd_ (fun hb6 hb6'=> ?_) fun hb6 hb6'=> ?_
     ·iterate 4 refine w_ ?_
      refine cd_ (fun hb7 hb7'=> ?_) fun hb7 hb7'=> ?_
      ·refine AC.skip ?_
       refine (?_:AC _ _ _ _ _)
       refine w_ ?_
       refine lc (dG 3 (Qz tx4 tx5 tx2 Qj8 (by decide+kernel) (by decide+kernel)) QX) ?_
       iterate 2 refine w_ ?_
       refine Qb ?_
       subst hO
       refine QR (x:=(((((Qo tx4 tx5 tx2 Qj8).1).1,((Qo tx4 tx5 tx2 Qj8).1).2),((Qo tx4 tx5 tx2 Qj8).2.1,((Qo tx4 tx5 tx2 Qj8).2.2.1,(Qo tx4 tx5 tx2 Qj8).2.2.2))),((pkA 7 at_),(pkS code at_ sd 7)))) [(0,0),(1,3),(2,4),(3,5)] ?_ (Res.one rfl (QD rfl rfl Z1 rfl)) rfl ⟨rfl,rfl,rfl,rfl,trivial⟩ rfl rfl
       first | (dsimp only; exact ⟨by decide+kernel,⟨by decide+kernel,by decide+kernel⟩,by omega⟩)
      ·refine w_ ?_
       refine lc (dG 6 (Qz tx0 tx1 tx2 QjA (by decide+kernel) (by decide+kernel)) QX) ?_
       iterate 2 refine w_ ?_
       refine Qb ?_
       subst hO
       refine QR (x:=(((((Qo tx0 tx1 tx2 QjA).1).1,((Qo tx0 tx1 tx2 QjA).1).2),((Qo tx0 tx1 tx2 QjA).2.1,((Qo tx0 tx1 tx2 QjA).2.2.1,(Qo tx0 tx1 tx2 QjA).2.2.2))),((pkA 7 at_),(pkS code at_ sd 7)))) [(0,0),(1,6),(2,7),(3,8)] ?_ (Res.one rfl (QD rfl rfl Z1 rfl)) rfl ⟨rfl,rfl,rfl,rfl,trivial⟩ rfl rfl
       first | (dsimp only; exact ⟨by decide+kernel,⟨by decide+kernel,by decide+kernel⟩,by omega⟩)
     ·refine w_ ?_
      refine lc (dG 9 (Qz tx4 tx5 Qkf Qjk (by decide+kernel) (by decide+kernel)) QX) ?_
      iterate 2 refine w_ ?_
      refine Qb ?_
      subst hO
      refine QR (x:=(((((Qo tx4 tx5 Qkf Qjk).1).1,((Qo tx4 tx5 Qkf Qjk).1).2),((Qo tx4 tx5 Qkf Qjk).2.1,((Qo tx4 tx5 Qkf Qjk).2.2.1,(Qo tx4 tx5 Qkf Qjk).2.2.2))),((pkA 7 at_),(pkS code at_ sd 7)))) [(0,0),(1,9),(2,10),(3,11)] ?_ (Res.one rfl (QD rfl rfl Z1 rfl)) rfl ⟨rfl,rfl,rfl,rfl,trivial⟩ rfl rfl
      first | (dsimp only; exact ⟨by decide+kernel,⟨by decide+kernel,by decide+kernel⟩,by omega⟩)
    ·refine w_ ?_
     refine lc (dG 12 (Qz QjT VZ tx2 QjE (by decide+kernel) (by decide+kernel)) QX) ?_
     iterate 2 refine w_ ?_
     refine Qb ?_
     subst hO
     refine QR (x:=(((((Qo QjT VZ tx2 QjE).1).1,((Qo QjT VZ tx2 QjE).1).2),((Qo QjT VZ tx2 QjE).2.1,((Qo QjT VZ tx2 QjE).2.2.1,(Qo QjT VZ tx2 QjE).2.2.2))),((pkA 7 at_),(pkS code at_ sd 7)))) [(0,0),(1,12),(2,13),(3,14)] ?_ (Res.one rfl (QD rfl rfl Z1 rfl)) rfl ⟨rfl,rfl,rfl,rfl,trivial⟩ rfl rfl
     first | (dsimp only; exact ⟨by decide+kernel,⟨by decide+kernel,by decide+kernel⟩,by omega⟩)
   ·refine w_ ?_
    refine lc (dG 15 (Qz tx7 tx8 tx2 tx9 (by decide+kernel) (by decide+kernel)) QX) ?_
    iterate 2 refine w_ ?_
    refine Qb ?_
    subst hO
    refine QR (x:=(((((Qo tx7 tx8 tx2 tx9).1).1,((Qo tx7 tx8 tx2 tx9).1).2),((Qo tx7 tx8 tx2 tx9).2.1,((Qo tx7 tx8 tx2 tx9).2.2.1,(Qo tx7 tx8 tx2 tx9).2.2.2))),((pkA 7 at_),(pkS code at_ sd 7)))) [(0,0),(1,15),(2,16),(3,17)] ?_ (Res.one rfl (QD rfl rfl Z1 rfl)) rfl ⟨rfl,rfl,rfl,rfl,trivial⟩ rfl rfl
    first | (dsimp only; exact ⟨by decide+kernel,⟨by decide+kernel,by decide+kernel⟩,by omega⟩)
  ·refine w_ ?_
   refine lc (dG 18 (Qz tx4 tx5 tx2 tx6 (by decide+kernel) (by decide+kernel)) QX) ?_
   iterate 2 refine w_ ?_
   refine Qb ?_
   subst hO
   refine QR (x:=(((((Qo tx4 tx5 tx2 tx6).1).1,((Qo tx4 tx5 tx2 tx6).1).2),((Qo tx4 tx5 tx2 tx6).2.1,((Qo tx4 tx5 tx2 tx6).2.2.1,(Qo tx4 tx5 tx2 tx6).2.2.2))),((pkA 7 at_),(pkS code at_ sd 7)))) [(0,0),(1,18),(2,19),(3,20)] ?_ (Res.one rfl (QD rfl rfl Z1 rfl)) rfl ⟨rfl,rfl,rfl,rfl,trivial⟩ rfl rfl
   first | (dsimp only; exact ⟨by decide+kernel,⟨by decide+kernel,by decide+kernel⟩,by omega⟩)
 ·refine w_ ?_
  refine lc (dG 21 (Qz tx0 tx1 tx2 tx3 (by decide+kernel) (by decide+kernel)) QX) ?_
  iterate 2 refine w_ ?_
  refine Qb ?_
  subst hO
  refine QR (x:=(((((Qo tx0 tx1 tx2 tx3).1).1,((Qo tx0 tx1 tx2 tx3).1).2),((Qo tx0 tx1 tx2 tx3).2.1,((Qo tx0 tx1 tx2 tx3).2.2.1,(Qo tx0 tx1 tx2 tx3).2.2.2))),((pkA 7 at_),(pkS code at_ sd 7)))) [(0,0),(1,21),(2,22),(3,23)] ?_ (Res.one rfl (QD rfl rfl Z1 rfl)) rfl ⟨rfl,rfl,rfl,rfl,trivial⟩ rfl rfl
  first | (dsimp only; exact ⟨by decide+kernel,⟨by decide+kernel,by decide+kernel⟩,by omega⟩)
theorem Jk (code:List UInt8)(at_:Int)(sd:Int)[∀s,Decidable (StgOk s)][∀s,Decidable (YA s)](ha:0≤at_∧at_≤999998900):FC Tryz.prog 254 [(false,[.ptr 0 0])] [bx 0 119 [.dat (.sl 5 .u8) code,dI at_, .val (.int .u64 sd)]] 1 (Ex (fun x:QP×Int×Int=>Ty.tot HK x.1≤1000∧(1≤x.1.2.1.length∧1≤x.1.2.2.1.length)∧(at_≤x.2.1∧x.2.1≤at_+20)) (fun x:QP×Int×Int=>ag [dI x.1.1.1, .ref 1, .ref 2, .ref 3,dS x.1.2.2.2]) (fun x:QP×Int×Int=>[bx 0 119 [.dat (.sl 5 .u8) code,dI x.2.1, .val (.int .u64 x.2.2)],ar 1 245 (.pr (.sl 3 .int) (.sl 3 .int)) x.1.1.2,ar 2 44 (.pr .str .int) x.1.2.1,ar 3 86 (.pr .int .bool) x.1.2.2.1])):=by
 refine Qn Tryz.func254 rfl rfl Tryz.ntmps254 fun O_ hO w0_ N0_ X_ h0_ f0_=> ?_
 refine w_ ?_
 refine lc (xal 1 (.pr (.pr .int (.sl 245 (.pr (.sl 3 .int) (.sl 3 .int)))) (.pr (.sl 44 (.pr .str .int)) (.pr (.sl 86 (.pr .int .bool)) .str))) Kl) ?_
 iterate 4 refine w_ ?_
 have hp1:=ZA code at_ sd 9
 refine lc (dP 2 [] (Qv code at_ sd 9 (by omega)) Zg) ?_
 iterate 6 refine w_ ?_
 refine cd_ (fun hb2 hb2'=> ?_) fun hb2 hb2'=> ?_
 ·iterate 4 refine w_ ?_
  refine cd_ (fun hb3 hb3'=> ?_) fun hb3 hb3'=> ?_
  ·iterate 4 refine w_ ?_
   refine cd_ (fun hb4 hb4'=> ?_) fun hb4 hb4'=> ?_
   ·iterate 4 refine w_ ?_
    refine cd_ (fun hb5 hb5'=> ?_) fun hb5 hb5'=> ?_
    ·iterate 4 refine w_ ?_
     refine cd_ (fun hb6 hb6'=> ?_) fun hb6 hb6'=> ?_
     ·refine AC.skip ?_
      refine (?_:AC _ _ _ _ _)
      iterate 2 refine w_ ?_
      refine ZQ 3 [(0,0)] (Yj code (pkA 9 at_) (pkS code at_ sd 9) (by omega)) KD e1_ ⟨rfl,trivial⟩ rfl (fun _=>rfl) (fun _=>⟨trivial,(Fresh.of rfl),(Fresh.of rfl),(Fresh.of rfl),trivial⟩) (nlr rfl) fun x7 hx8=> ?_
      iterate 2 refine w_ ?_
      refine Qb ?_
      subst hO
      refine QR (x:=(((x7.1.1.1,x7.1.1.2),(x7.1.2.1,(x7.1.2.2.1,x7.1.2.2.2))),(x7.2.1,x7.2.2))) [(0,0),(1,4),(2,5),(3,6)] ?_ (Res.one rfl (QD rfl rfl Z1 rfl)) rfl ⟨rfl,rfl,rfl,rfl,trivial⟩ rfl rfl
      (have h_:=‹Ty.tot HK _≤1000∧_›; dsimp only; exact ⟨h_.1,h_.2.1,by omega⟩)
     ·refine w_ ?_
      refine lc (dG 7 (Qz tx4 tx5 tx2 Qjv (by decide+kernel) (by decide+kernel)) QX) ?_
      iterate 2 refine w_ ?_
      refine Qb ?_
      subst hO
      refine QR (x:=(((((Qo tx4 tx5 tx2 Qjv).1).1,((Qo tx4 tx5 tx2 Qjv).1).2),((Qo tx4 tx5 tx2 Qjv).2.1,((Qo tx4 tx5 tx2 Qjv).2.2.1,(Qo tx4 tx5 tx2 Qjv).2.2.2))),((pkA 9 at_),(pkS code at_ sd 9)))) [(0,0),(1,7),(2,8),(3,9)] ?_ (Res.one rfl (QD rfl rfl Z1 rfl)) rfl ⟨rfl,rfl,rfl,rfl,trivial⟩ rfl rfl
      (dsimp only; exact ⟨by decide+kernel,⟨by decide+kernel,by decide+kernel⟩,by omega⟩)
    ·refine w_ ?_
     refine lc (dK (Qz QrD QrR tx2 Qrj (by decide+kernel) (by decide+kernel)).frozenG QX) ?_
     refine lc (dK (Qz tx4 tx5 tx2 tx6 (by decide+kernel) (by decide+kernel)).frozenG QX) ?_
     refine ZQ 10 [] (Jw (Qo QrD QrR tx2 Qrj) (Qo tx4 tx5 tx2 tx6) (by decide+kernel) (by decide+kernel)) Qgx e2_ trivial rfl (fun _=>rfl) (fun _=>⟨(Fresh.of rfl),(Fresh.of rfl),(Fresh.of rfl),trivial⟩) (nlr rfl) fun x9 hx10=> ?_
     iterate 3 refine w_ ?_
     refine lc (xal 13 (.pr (.pr .int (.sl 245 (.pr (.sl 3 .int) (.sl 3 .int)))) (.pr (.sl 44 (.pr .str .int)) (.pr (.sl 86 (.pr .int .bool)) .str))) Kl) ?_
     iterate 6 refine w_ ?_
     refine cb_ (fun hb11=> ?_) fun hb11=> ?_
     ·refine AC.skip ?_
      refine (?_:AC _ _ _ _ _)
      iterate 2 refine w_ ?_
      refine ZQ 14 [(0,0)] (Yj code (pkA 9 at_) (pkS code at_ sd 9) (by omega)) KD e1_ ⟨rfl,trivial⟩ rfl (fun _=>rfl) (fun _=>⟨trivial,(Fresh.of rfl),(Fresh.of rfl),(Fresh.of rfl),trivial⟩) (nlr rfl) fun x12 hx13=> ?_
      iterate 2 refine w_ ?_
      refine Qb ?_
      subst hO
      refine QR (x:=(((x12.1.1.1,x12.1.1.2),(x12.1.2.1,(x12.1.2.2.1,x12.1.2.2.2))),(x12.2.1,x12.2.2))) [(0,0),(1,15),(2,16),(3,17)] ?_ (Res.one rfl (QD rfl rfl Z1 rfl)) rfl ⟨rfl,rfl,rfl,rfl,trivial⟩ rfl rfl
      (have h_:=‹Ty.tot HK _≤1000∧_›; dsimp only; exact ⟨h_.1,h_.2.1,by omega⟩)
     ·iterate 4 refine w_ ?_
      refine Qb ?_
      subst hO
      refine QR (x:=(((x9.1.1.1,x9.1.1.2),(x9.1.2.1,(x9.1.2.2.1,x9.1.2.2.2))),((pkA 9 at_),(pkS code at_ sd 9)))) [(0,0),(1,10),(2,11),(3,12)] ?_ (Res.one rfl (QD rfl rfl Z1 rfl)) rfl ⟨rfl,rfl,rfl,rfl,trivial⟩ rfl rfl
      (have h_:=‹_=true→_=unS _ _›; have h2_:=h_ (by assumption); dsimp only; rw[h2_]; exact ⟨by decide+kernel,⟨by decide+kernel,by decide+kernel⟩,by omega⟩)
   ·refine w_ ?_
    refine lc (dG 18 (Qz tx4 tx5 tx2 QjL (by decide+kernel) (by decide+kernel)) QX) ?_
    iterate 2 refine w_ ?_
    refine Qb ?_
    subst hO
    refine QR (x:=(((((Qo tx4 tx5 tx2 QjL).1).1,((Qo tx4 tx5 tx2 QjL).1).2),((Qo tx4 tx5 tx2 QjL).2.1,((Qo tx4 tx5 tx2 QjL).2.2.1,(Qo tx4 tx5 tx2 QjL).2.2.2))),((pkA 9 at_),(pkS code at_ sd 9)))) [(0,0),(1,18),(2,19),(3,20)] ?_ (Res.one rfl (QD rfl rfl Z1 rfl)) rfl ⟨rfl,rfl,rfl,rfl,trivial⟩ rfl rfl
    (dsimp only; exact ⟨by decide+kernel,⟨by decide+kernel,by decide+kernel⟩,by omega⟩)
  ·refine w_ ?_
   refine lc (dG 21 (Qz tx4 VZ tx2 Qa2 (by decide+kernel) (by decide+kernel)) QX) ?_
   iterate 2 refine w_ ?_
   refine Qb ?_
   subst hO
   refine QR (x:=(((((Qo tx4 VZ tx2 Qa2).1).1,((Qo tx4 VZ tx2 Qa2).1).2),((Qo tx4 VZ tx2 Qa2).2.1,((Qo tx4 VZ tx2 Qa2).2.2.1,(Qo tx4 VZ tx2 Qa2).2.2.2))),((pkA 9 at_),(pkS code at_ sd 9)))) [(0,0),(1,21),(2,22),(3,23)] ?_ (Res.one rfl (QD rfl rfl Z1 rfl)) rfl ⟨rfl,rfl,rfl,rfl,trivial⟩ rfl rfl
   (dsimp only; exact ⟨by decide+kernel,⟨by decide+kernel,by decide+kernel⟩,by omega⟩)
 ·refine w_ ?_
  refine lc (dG 24 (Qz tx7 tx8 tx2 QbT (by decide+kernel) (by decide+kernel)) QX) ?_
  iterate 2 refine w_ ?_
  refine Qb ?_
  subst hO
  refine QR (x:=(((((Qo tx7 tx8 tx2 QbT).1).1,((Qo tx7 tx8 tx2 QbT).1).2),((Qo tx7 tx8 tx2 QbT).2.1,((Qo tx7 tx8 tx2 QbT).2.2.1,(Qo tx7 tx8 tx2 QbT).2.2.2))),((pkA 9 at_),(pkS code at_ sd 9)))) [(0,0),(1,24),(2,25),(3,26)] ?_ (Res.one rfl (QD rfl rfl Z1 rfl)) rfl ⟨rfl,rfl,rfl,rfl,trivial⟩ rfl rfl
  (dsimp only; exact ⟨by decide+kernel,⟨by decide+kernel,by decide+kernel⟩,by omega⟩)
end Go.Proofs.YtgpdhgadmjfokaaGreat
