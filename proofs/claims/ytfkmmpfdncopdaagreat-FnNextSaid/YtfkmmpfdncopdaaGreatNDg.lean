/- Walks over abstract states: two graphs as one, the reference; graphs compared. -/
import Derived.Test.YtfkmmpfdncopdaaGreatNDk
import Derived.Test.YtfkmmpfdncopdaaGreatNWj
import Derived.Test.YtfkmmpfdncopdaaGreatNAk
import Derived.Test.YtfkmmpfdncopdaaGreatNStr
import Derived.Test.YtfkmmpfdncopdaaGreatProg
import Derived.KernelRfl
import Derived.Test.YtfkmmpfdncopdaaGreatNAl
import Derived.Test.YtfkmmpfdncopdaaGreatNDd
import Derived.Test.YtfkmmpfdncopdaaGreatNDf
set_option linter.unusedSimpArgs false
set_option linter.unusedVariables false
set_option linter.unusedSectionVars false
namespace Go.Proofs.YtfkmmpfdncopdaaGreat
open Go.RowKit
set_option maxRecDepth 100000
set_option maxHeartbeats 4000000
def unN (a b:Y0):Y0:=(a.1+b.1,a.2++b.2.map (Qg4 a.1))
def unL (n:Nat)(l:ZF):ZF:=if 0≤l.1 then (l.1+(n:Int),l.2) else l
def unS (a b:Zq):Zq:=(unN a.1 b.1,a.2.1++b.2.1,a.2.2.1++b.2.2.1.map (unL a.2.1.length),a.2.2.2++b.2.2.2)
theorem Qjn {l:List Int}{hi:Int}(h:Uy l hi):∀x∈l,0≤x∧x≤hi:=fun x hx=>by
  obtain ⟨k,hk⟩:=aM.1 hx
  exact (h k (ah.1 hk).1 x hk).1
theorem QiQ:∀{l:List Int} {hi:Int},Uy l hi→ -1≤hi→(l.length:Int)≤hi+1:=fun {l hi} h h0=>by
  have hstep:∀(k:Nat) x,l[k]? =some x→(k:Int)≤x:=fun k=>by
    induction k with
    | zero=>intro x hx; exact (h 0 (ah.1 hx).1 x hx).1.1
    | succ k ih=>
      intro x hx
      have h1:=(ah.1 hx).1
      obtain ⟨y,hy⟩:∃y,l[k]? =some y:=⟨_,aa (by omega)⟩
      have h2:=ih y hy
      have h3:=(h (k+1) h1 x hx).2 k y rfl hy
      omega
  by_cases hl:l.length=0
  · omega
  · obtain ⟨x, hx⟩ : ∃ x, l[l.length - 1]? = some x := ⟨_, aa (by omega)⟩
    have h1:=hstep _ x hx
    have h2:=(h _ (ah.1 hx).1 x hx).1.2
    omega
theorem X5 {n:Y0}(h:Y1 n):(1≤n.1∧n.1≤30)∧n.2.length≤24∧∀t∈n.2,(t.1.length≤30∧t.2.length≤30)∧(∀x∈t.1,0≤x∧x≤29)∧∀x∈t.2,0≤x∧x≤29:=by
  obtain ⟨h1,h2,h3⟩:=h
  refine ⟨h1,h2,fun t ht=> ?_⟩
  obtain ⟨_,k1,k2⟩:=h3 t ht
  have l1:=QiQ k1 (by omega)
  have l2:=QiQ k2 (by omega)
  exact ⟨⟨by omega,by omega⟩,fun x hx=>by have:=Qjn k1 x hx; omega,fun x hx=>by have:=Qjn k2 x hx; omega⟩
theorem Ue (l:List Int)(d:Int)(hl:l.length≤100000)(hb:∀x∈l, -9223372036854775808≤x+d∧x+d≤9223372036854775807):FC Tryz.prog 378 [(false,[.dat (.sl 3 .int) l]),(false,[dI d])] [] 0 (WC 3 .int (l.map fun x=>x+d)):=by
 refine Ql Tryz.func378 rfl rfl Tryz.ntmps378 fun O_ hO w0_ N0_ X_ h0_ f0_=> ?_
 refine acI 1 fun hi1=> ?_
 iterate 9 refine w_ ?_
 refine alL 8 fun hl2=> ?_
 iterate 4 refine w_ ?_
 refine AC.wk (Wk.nilS 0 5 3 .int rfl (Fresh.of rfl) (nlr rfl)) ?_
 refine lp0 l.length (fun k=>⟨[(1,lI d),(4,lf (.val (.slice none 0 0))),(5,lR 1),(8,lf (.dat (.sl 3 .int) l)),(9,lI (l.length:Int)),(10,lI (k:Int))],[ar 1 3 .int ((l.take k).map fun x=>x+d)]⟩) ?_ fun k hk3=> ?_
 · exact Wk.of [(1,0)] rfl ⟨rfl,rfl,rfl,rfl,rfl,rfl,trivial⟩ ⟨(Qn (by simp)),trivial⟩ rfl rfl
 iterate 4 refine w_ ?_
 cases hb4:(decide ((k:Int) < (l.length:Int)))
 ·have hb4':=ab hb4
  refine w_ ?_
  refine Qj ?_
  refine (?_:AC _ _ _ _ _)
  iterate 4 refine w_ ?_
  refine Qb<|fo_ hO ?_
  (rw[ZK (by omega)]; done)
 ·have hb4':=ae hb4
  iterate 5 refine w_ ?_
  obtain ⟨x5,hx6⟩:∃z,l[k]? =some z:=⟨_,aa (by omega)⟩
  have hbz:=hb _ (ap hx6)
  iterate 2 refine w_ ?_
  refine alI 13 fun hi7=> ?_
  iterate 7 refine w_ ?_
  refine lc (dBs 2 (e:= .int) Vu) ?_
  refine lc (dA 3 Vz) ?_
  refine w_ ?_
  refine Qd ?_
  refine (?_:AC _ _ _ _ _)
  iterate 3 refine w_ ?_
  refine Qd ?_
  refine l0_ ?_
  exact Wk.of [(1,3)] rfl ⟨rfl,rfl,rfl,rfl,rfl,rfl,trivial⟩ ⟨(Qn (by rw[QQ hx6]; simp)),trivial⟩ rfl rfl
theorem Wq (n:Y0)[Decidable (Y1 n)]:FC Tryz.prog 231 [(true,leaves Hm n)] [] 0 (QH (lf (dB (decide (Y1 n))))):=QeY fun gh w vs h=>by
  obtain ⟨us,rfl,hr⟩:=h.agg1
  have hl:=hr.len
  match us,hl with
  | [a0,a1],_=>exact (Qa9 a0 a1 n w hr).mono fun _ _ h=>Js h
theorem QrB {n:Nat}{l:ZF}(h:Qdp n l): -1≤l.1∧l.1≤(n:Int):=by
  unfold Qdp at h; omega
theorem Jf (a:Int×(List (List Int×List Int)))(b:Int×(List (List Int×List Int)))[∀s,Decidable (StgOk s)][∀s,Decidable (Y1 s)](hz:Ty.tot Hm a≤2000000):FC Tryz.prog 354 [(true,[dI a.1, .dat (.sl 237 (.pr (.sl 3 .int) (.sl 3 .int))) a.2]),(true,[dI b.1, .dat (.sl 237 (.pr (.sl 3 .int) (.sl 3 .int))) b.2])] [] 0 (Ex (fun x:Y0×Bool=>x.2=true→x.1=unN a b) (fun x:Y0×Bool=>PV.tup [(true,[dI x.1.1, .ref 0]),(false,[dB x.2])]) (fun x:Y0×Bool=>[ar 0 237 (.pr (.sl 3 .int) (.sl 3 .int)) x.1.2])):=by
 refine Ql Tryz.func354 rfl rfl Tryz.ntmps354 fun O_ hO w0_ N0_ X_ h0_ f0_=> ?_
 refine acG 0 0 fun hi1=> ?_
 refine acG 1 0 fun hi2=> ?_
 refine w_ ?_
 refine xbx 0 ?_
 refine xbx 1 ?_
 refine lc (xal 2 (.pr .int (.sl 237 (.pr (.sl 3 .int) (.sl 3 .int)))) Hz) ?_
 iterate 5 refine w_ ?_
 refine lc (dK (Wq a) KO) ?_
 iterate 2 refine w_ ?_
 cases hb3:(decide (Y1 a))
 ·have hb3':=ab hb3
  iterate 7 refine w_ ?_
  refine lc (Qp Qeb rfl (aB.1 rfl) rfl rfl) ?_
  iterate 3 refine w_ ?_
  refine AC.wk (Qu 3 (p:=2) (off:=1) 237 (.pr (.sl 3 .int) (.sl 3 .int)) rfl rfl (Fresh.of rfl) (nlr rfl))<|Qb ?_
  subst hO
  refine Q5 (x:=((0,[]),false)) [(0,3)] ?_ (Ys rfl (QK rfl rfl Qes rfl) (Xd rfl)) rfl ⟨rfl,trivial⟩ rfl rfl
  exact fun h=>absurd h (by decide)
 ·have hb3':=ae hb3
  refine w_ ?_
  refine lgy rfl rfl (dK (Wq b) KO) ?_
  iterate 3 refine w_ ?_
  cases hb4:(decide (Y1 b))
  ·have hb4':=ab hb4
   iterate 2 refine w_ ?_
   refine lc (Qp Qeb rfl (aB.1 rfl) rfl rfl) ?_
   iterate 3 refine w_ ?_
   refine AC.wk (Qu 4 (p:=2) (off:=1) 237 (.pr (.sl 3 .int) (.sl 3 .int)) rfl rfl (Fresh.of rfl) (nlr rfl))<|Qb ?_
   subst hO
   refine Q5 (x:=((0,[]),false)) [(0,4)] ?_ (Ys rfl (QK rfl rfl Qes rfl) (Xd rfl)) rfl ⟨rfl,trivial⟩ rfl rfl
   exact fun h=>absurd h (by decide)
  ·have hb4':=ae hb4
   iterate 4 refine w_ ?_
   refine lc (dG 5 (QbY a hz) QgZ) ?_
   refine lc (xal 6 (.pr .int (.sl 237 (.pr (.sl 3 .int) (.sl 3 .int)))) Hz) ?_
   iterate 7 refine w_ ?_
   refine lc (Wv (Qa rfl) (Qa rfl) rfl (by first | omega | (have h1:=(X5 ‹Y1 a›).1; have h2:=(X5 ‹Y1 b›).1; omega))) ?_
   iterate 7 refine w_ ?_
   refine alL 27 fun hl5=> ?_
   iterate 4 refine w_ ?_
   refine lp0 b.2.length (fun k=>⟨[(2,lP 0 0),(4,lP 2 0),(5,lB false),(6,lP 6 0),(27,lf (.dat (.sl 237 (.pr (.sl 3 .int) (.sl 3 .int))) b.2)),(28,lI (b.2.length:Int)),(29,lI (k:Int))],[bx 0 80 [dI a.1, .dat (.sl 237 (.pr (.sl 3 .int) (.sl 3 .int))) a.2],bx 2 80 [dI 0, .val (.slice none 0 0)],bx 6 80 [dI (a.1+b.1), .ref 7],ar 7 237 (.pr (.sl 3 .int) (.sl 3 .int)) (a.2++(b.2.take k).map (Qg4 a.1))]⟩) ?_ fun k hk6=> ?_
   · exact Wk.of [(7,5)] rfl ⟨rfl,rfl,rfl,rfl,rfl,rfl,rfl,trivial⟩ ⟨rfl,rfl,rfl,(Qn (by simp)),trivial⟩ rfl rfl
   iterate 4 refine w_ ?_
   cases hb7:(decide ((k:Int) < (b.2.length:Int)))
   ·have hb7':=ab hb7
    refine w_ ?_
    refine Qj ?_
    refine (?_:AC _ _ _ _ _)
    iterate 3 refine w_ ?_
    refine lc (VW (Wq (a.1+b.1,a.2++(b.2.take k).map (Qg4 a.1))) KO ⟨_,_,rfl,(QdO (Qm rfl) ⟨_,_,rfl, .inl rfl,⟨_,_,rfl, .inr ⟨_,_,_,_,rfl,rfl,rfl⟩,rfl⟩⟩),rfl⟩ rfl rfl rfl) ?_
    iterate 2 refine w_ ?_
    cases hb8:(decide (Y1 (a.1+b.1,a.2++(b.2.take k).map (Qg4 a.1))))
    ·have hb8':=ab hb8
     iterate 2 refine w_ ?_
     refine lc (Qp Qeb rfl (aB.1 rfl) rfl rfl) ?_
     iterate 3 refine w_ ?_
     refine AC.wk (Qu 8 (p:=2) (off:=1) 237 (.pr (.sl 3 .int) (.sl 3 .int)) rfl rfl (Fresh.of rfl) (nlr rfl))<|Qb ?_
     subst hO
     refine Q5 (x:=((0,[]),false)) [(0,8)] ?_ (Ys rfl (QK rfl rfl Qes rfl) (Xd rfl)) rfl ⟨rfl,trivial⟩ rfl rfl
     exact fun h=>absurd h (by decide)
    ·have hb8':=ae hb8
     iterate 7 refine w_ ?_
     refine Qb ?_
     subst hO
     refine Q5 (x:=((a.1+b.1,a.2++(b.2.take k).map (Qg4 a.1)),true)) [(0,7)] ?_ (Ys rfl (QK rfl rfl Qes rfl) (Xd rfl)) rfl ⟨rfl,trivial⟩ rfl rfl
     (intro _; rw[ZK (by omega)]; rfl)
   ·have hb7':=ae hb7
    iterate 5 refine w_ ?_
    obtain ⟨x9,hx10⟩:∃z,b.2[k]? =some z:=⟨_,aa (by omega)⟩
    iterate 2 refine w_ ?_
    refine lc (xal 9 (.pr (.sl 3 .int) (.sl 3 .int)) V2) ?_
    iterate 2 refine w_ ?_
    apply dV (i6 33 _ _ _ _ _ _ [⟨some 39,lR 10,[ar 10 3 .int (x9.1.map fun x=>x+a.1)]⟩,io 40 (lP 9 1),io 41 (lf (.dat (.sl 3 .int) x9.2)),io 42 (lP 0 0),io 43 (lI a.1),⟨some 44,lR 11,[ar 11 3 .int (x9.2.map fun x=>x+a.1)]⟩,io 45 (ag [.ref 10, .ref 11]),⟨some 46,lR 12,[ar 12 237 (.pr (.sl 3 .int) (.sl 3 .int)) ([(x9.1.map fun x=>x+a.1,x9.2.map fun x=>x+a.1)]),(10,none),(11,none)]⟩,⟨some 47,lR 13,[ar 13 237 (.pr (.sl 3 .int) (.sl 3 .int)) ((a.2++(b.2.take k).map (Qg4 a.1))++([(x9.1.map fun x=>x+a.1,x9.2.map fun x=>x+a.1)])),(7,none),(12,none)]⟩,io 48 _,⟨none,lf (.val undef),[bx 6 80 [dI (a.1+b.1), .ref 13]]⟩]) [0,0,3,3,15,15,3,127,127,511,511,3,3,3,0,0,0]
    iterate 6 refine z_ ?_
    refine zz (fun _ h_=>ac (dO 10 (Ue x9.1 a.1 (by have:=((X5 ‹Y1 b›).2.2 _ (ap hx10)).1; omega) (fun z hz_=>by have h1:=((X5 ‹Y1 b›).2.2 _ (ap hx10)).2.1 z hz_; have h2:=(X5 ‹Y1 a›).1; omega)) Qbn) rfl) ?_
    iterate 4 refine z_ ?_
    refine zz (fun _ h_=>ac (dO 11 (Ue x9.2 a.1 (by have:=((X5 ‹Y1 b›).2.2 _ (ap hx10)).1; omega) (fun z hz_=>by have h1:=((X5 ‹Y1 b›).2.2 _ (ap hx10)).2.2 z hz_; have h2:=(X5 ‹Y1 a›).1; omega)) Qbn) rfl) ?_
    refine zz (fun _ h_=>ac (Qp Qa4 ⟨_,_,rfl,(h_.w rfl),⟨_,_,rfl,(h_.w rfl),rfl⟩⟩ (aB.1 (by simp only[Q6,Vb,bm,bJ]; rw[(h_.en 10 rfl),(h_.en 11 rfl)]; rfl)) rfl rfl) rfl)<|zz (fun _ h_=>ac (X7 12 (e:=(.pr (.sl 3 .int) (.sl 3 .int))) HT UZ V2 rfl ⟨_,_,rfl,(h_.w rfl),rfl⟩ (aB.1 (by simp only[Q6,Vb,bm,bJ]; rw[(h_.en 10 rfl),(h_.en 11 rfl)]; rfl)) ⟨_,_,_,_,rfl,⟨[.ref 10],[.ref 11],_,_,_,_,rfl,rfl,(.inl ⟨_,rfl,(h_.en 10 rfl),rfl⟩),(.inl ⟨_,rfl,(h_.en 11 rfl),rfl⟩),rfl⟩,⟨rfl,rfl⟩,rfl⟩ (by decide) rfl rfl (h_.fr 12 rfl) (nlr rfl)) rfl) ?_
    refine zz (fun _ h_=>ac (dA 13 QaZ (hb:=by (have h1:=(X5 ‹Y1 a›).2.1; have h2:=(X5 ‹Y1 b›).2.1; simp only[ai,aP,aq,au,aF]; omega))) rfl) ?_
    refine z_ ?_
    refine zz (fun _ h_=>ac (Zf (h_.v rfl) (h_.en 6 rfl) (h_.w rfl) (by simp only[Q6,Vb,bm,bJ]; rw[(h_.en 13 rfl)]; rfl) Qnu rfl) rfl) ?_
    exact zN
    refine (?_:AC _ _ _ _ _)
    refine w_ ?_
    refine lc (Wv (Qa rfl) (Qo rfl) rfl (by first | omega | (have h1:=(X5 ‹Y1 a›).1; have h2:=(X5 ‹Y1 b›).1; omega))) ?_
    refine w_ ?_
    refine Qd ?_
    refine l0_ ?_
    exact Wk.of [(7,13)] rfl ⟨rfl,rfl,rfl,rfl,rfl,rfl,rfl,trivial⟩ ⟨rfl,rfl,rfl,(Qn (by rw[QQ hx10]; simp[Qg4])),trivial⟩ rfl rfl
theorem Jr (a:(Int×(List (List Int×List Int)))×(List (ByteArray×Int))×(List (Int×Bool))×ByteArray)(b:(Int×(List (List Int×List Int)))×(List (ByteArray×Int))×(List (Int×Bool))×ByteArray)[∀s,Decidable (StgOk s)][∀s,Decidable (Y1 s)](hz:Ty.tot Qah a≤2000000)(hzb:Ty.tot Qah b≤2000000):FC Tryz.prog 304 [(true,[dI a.1.1, .dat (.sl 237 (.pr (.sl 3 .int) (.sl 3 .int))) a.1.2, .dat (.sl 203 (.pr .str .int)) a.2.1, .dat (.sl 120 (.pr .int .bool)) a.2.2.1,dS a.2.2.2]),(true,[dI b.1.1, .dat (.sl 237 (.pr (.sl 3 .int) (.sl 3 .int))) b.1.2, .dat (.sl 203 (.pr .str .int)) b.2.1, .dat (.sl 120 (.pr .int .bool)) b.2.2.1,dS b.2.2.2])] [] 0 (Ex (fun x:Zq×Bool=>x.2=true→x.1=unS a b) (fun x:Zq×Bool=>PV.tup [(true,[dI x.1.1.1, .ref 0, .ref 1, .ref 2,dS x.1.2.2.2]),(false,[dB x.2])]) (fun x:Zq×Bool=>[ar 0 237 (.pr (.sl 3 .int) (.sl 3 .int)) x.1.1.2,ar 1 203 (.pr .str .int) x.1.2.1,ar 2 120 (.pr .int .bool) x.1.2.2.1])):=by
 obtain ⟨hz1,hz2,hz3⟩:=Qc3 hz
 obtain ⟨hy1,hy2,hy3⟩:=Qc3 hzb
 refine Ql Tryz.func304 rfl rfl Tryz.ntmps304 fun O_ hO w0_ N0_ X_ h0_ f0_=> ?_
 refine acG 0 0 fun hi1=> ?_
 refine acG 1 0 fun hi2=> ?_
 refine w_ ?_
 refine xbx 0 ?_
 refine xbx 1 ?_
 refine lc (xal 2 (.pr (.pr .int (.sl 237 (.pr (.sl 3 .int) (.sl 3 .int)))) (.pr (.sl 203 (.pr .str .int)) (.pr (.sl 120 (.pr .int .bool)) .str))) KP) ?_
 iterate 7 refine w_ ?_
 refine Yv 3 [] (Jf a.1 b.1 hz1) Qg7 e2_ trivial rfl (fun _=>rfl) (fun _=>⟨(Fresh.of rfl),trivial⟩) (nlr rfl) fun x3 hx4=> ?_
 iterate 3 refine w_ ?_
 refine lc (xal 4 (.pr .int (.sl 237 (.pr (.sl 3 .int) (.sl 3 .int)))) Hz) ?_
 iterate 8 refine w_ ?_
 cases hb5:(x3.2)
 ·iterate 12 refine w_ ?_
  refine lc (Qp Qbo rfl (aB.1 rfl) rfl rfl) ?_
  iterate 3 refine w_ ?_
  refine AC.wk (Qu 5 (p:=2) (off:=1) 237 (.pr (.sl 3 .int) (.sl 3 .int)) rfl rfl (Fresh.of rfl) (nlr rfl))<|AC.wk (Qu 6 (p:=2) (off:=2) 203 (.pr .str .int) rfl rfl (Fresh.of rfl) (nlr rfl))<|AC.wk (Qu 7 (p:=2) (off:=3) 120 (.pr .int .bool) rfl rfl (Fresh.of rfl) (nlr rfl))<|Qb ?_
  subst hO
  refine Q5 (x:=(((0,[]),([],([],ByteArray.empty))),false)) [(0,5),(1,6),(2,7)] ?_ (Ys rfl (QK rfl rfl Yj rfl) (Xd rfl)) rfl ⟨rfl,rfl,rfl,trivial⟩ rfl rfl
  exact fun h=>absurd h (by decide)
 ·refine w_ ?_
  refine lgy rfl rfl (dK (Xn a) VL) ?_
  iterate 3 refine w_ ?_
  cases hb6:(decide (StgOk a))
  ·have hb6':=ab hb6
   iterate 7 refine w_ ?_
   refine lc (Qp Qbo rfl (aB.1 rfl) rfl rfl) ?_
   iterate 3 refine w_ ?_
   refine AC.wk (Qu 8 (p:=2) (off:=1) 237 (.pr (.sl 3 .int) (.sl 3 .int)) rfl rfl (Fresh.of rfl) (nlr rfl))<|AC.wk (Qu 9 (p:=2) (off:=2) 203 (.pr .str .int) rfl rfl (Fresh.of rfl) (nlr rfl))<|AC.wk (Qu 10 (p:=2) (off:=3) 120 (.pr .int .bool) rfl rfl (Fresh.of rfl) (nlr rfl))<|Qb ?_
   subst hO
   refine Q5 (x:=(((0,[]),([],([],ByteArray.empty))),false)) [(0,8),(1,9),(2,10)] ?_ (Ys rfl (QK rfl rfl Yj rfl) (Xd rfl)) rfl ⟨rfl,rfl,rfl,trivial⟩ rfl rfl
   exact fun h=>absurd h (by decide)
  ·have hb6':=ae hb6
   refine w_ ?_
   refine lgy rfl rfl (dK (Xn b) VL) ?_
   iterate 3 refine w_ ?_
   cases hb7:(decide (StgOk b))
   ·have hb7':=ab hb7
    iterate 2 refine w_ ?_
    refine lc (Qp Qbo rfl (aB.1 rfl) rfl rfl) ?_
    iterate 3 refine w_ ?_
    refine AC.wk (Qu 11 (p:=2) (off:=1) 237 (.pr (.sl 3 .int) (.sl 3 .int)) rfl rfl (Fresh.of rfl) (nlr rfl))<|AC.wk (Qu 12 (p:=2) (off:=2) 203 (.pr .str .int) rfl rfl (Fresh.of rfl) (nlr rfl))<|AC.wk (Qu 13 (p:=2) (off:=3) 120 (.pr .int .bool) rfl rfl (Fresh.of rfl) (nlr rfl))<|Qb ?_
    subst hO
    refine Q5 (x:=(((0,[]),([],([],ByteArray.empty))),false)) [(0,11),(1,12),(2,13)] ?_ (Ys rfl (QK rfl rfl Yj rfl) (Xd rfl)) rfl ⟨rfl,rfl,rfl,trivial⟩ rfl rfl
    exact fun h=>absurd h (by decide)
   ·have hb7':=ae hb7
    iterate 2 refine w_ ?_
    apply dW [io 32 _,⟨some 33,lR 14,[ar 14 203 (.pr .str .int) ([])]⟩,io 34 (lP 0 2),io 35 (lf (.dat (.sl 203 (.pr .str .int)) a.2.1)),⟨some 36,lR 15,[ar 15 203 (.pr .str .int) (([])++a.2.1),(14,none)]⟩,io 37 (lP 1 2),io 38 (lf (.dat (.sl 203 (.pr .str .int)) b.2.1)),⟨some 39,lR 16,[ar 16 203 (.pr .str .int) ((([])++a.2.1)++b.2.1),(15,none)]⟩,⟨some 40,lR 17,[ar 17 120 (.pr .int .bool) ([])]⟩,io 41 (lP 0 3),io 42 (lf (.dat (.sl 120 (.pr .int .bool)) a.2.2.1)),⟨some 43,lR 18,[ar 18 120 (.pr .int .bool) (([])++a.2.2.1),(17,none)]⟩,io 44 (lP 0 4),io 45 (lf (dS a.2.2.2)),io 46 (lP 1 4),io 47 (lf (dS b.2.2.2)),io 48 (lf (dS (a.2.2.2++b.2.2.2))),io 49 (ag [dI x3.1.1, .ref 3, .ref 16, .ref 18,dS (a.2.2.2++b.2.2.2)]),⟨some 8,lP 19 0,[bx 19 83 [dI 0, .val (.slice none 0 0), .val (.slice none 0 0), .val (.slice none 0 0),dS ByteArray.empty]]⟩,⟨none,lf (.val undef),[bx 19 83 [dI x3.1.1, .ref 3, .ref 16, .ref 18,dS (a.2.2.2++b.2.2.2)]]⟩] [0,1,3,3,1,31,31,1,255,511,511,1,4095,4095,16383,16383,4095,0,262143,0]
    refine z_ ?_
    refine zz (fun _ h_=>ac (dBs 14 (e:=(.pr .str .int)) JV) rfl) ?_
    iterate 2 refine z_ ?_
    refine zz (fun _ h_=>ac (Za 15 (h_.v rfl) (h_.en 14 rfl) (Evl.rep (h_.v rfl)) rfl Qib QaN (by (simp only[ai,aP,aq,au,aF]; omega)) rfl (h_.fr 15 rfl) (nlr rfl)) rfl) ?_
    iterate 2 refine z_ ?_
    refine zz (fun _ h_=>ac (Za 16 (h_.v rfl) (h_.en 15 rfl) (Evl.rep (h_.v rfl)) rfl Qib QaN (by (simp only[ai,aP,aq,au,aF]; omega)) rfl (h_.fr 16 rfl) (nlr rfl)) rfl) ?_
    refine zz (fun _ h_=>ac (dBs 17 (e:=(.pr .int .bool)) XH) rfl) ?_
    iterate 2 refine z_ ?_
    refine zz (fun _ h_=>ac (Za 18 (h_.v rfl) (h_.en 17 rfl) (Evl.rep (h_.v rfl)) rfl QqB Jy (by (simp only[ai,aP,aq,au,aF]; omega)) rfl (h_.fr 18 rfl) (nlr rfl)) rfl) ?_
    iterate 4 refine z_ ?_
    refine zz (fun _ h_=>ac (Q3 (h_.v rfl) (h_.v rfl) rfl (by (have h1:=Qdi hz; have h2:=Qdi hzb; omega))) rfl)<|zz (fun _ h_=>ac (Qp Qbo ⟨_,_,rfl,(h_.w rfl),⟨_,_,rfl,(h_.w rfl),⟨_,_,rfl,(h_.w rfl),⟨_,_,rfl,(h_.w rfl),rfl⟩⟩⟩⟩ (aB.1 (by show ((Q6 _ [dI x3.1.1, .ref 3]&&(Q6 _ [.ref 16]&&(Q6 _ [.ref 18]&&(Q6 _ [dS (a.2.2.2++b.2.2.2)]&&true)))))=true; simp only[Q6,Vb,bm,bJ]; rw[(h_.en 3 rfl),(h_.en 16 rfl),(h_.en 18 rfl)]; rfl)) rfl rfl) rfl)<|zz (fun _ h_=>ac (KY 19 (.pr (.pr .int (.sl 237 (.pr (.sl 3 .int) (.sl 3 .int)))) (.pr (.sl 203 (.pr .str .int)) (.pr (.sl 120 (.pr .int .bool)) .str))) KP rfl rfl (h_.fr 19 rfl) (nlr rfl)) rfl)<|zz (fun _ h_=>ac (Zf (h_.v rfl) (h_.en 19 rfl) (h_.w rfl) (by show Q6 _ [dI x3.1.1, .ref 3, .ref 16, .ref 18,dS (a.2.2.2++b.2.2.2)]=true; simp only[Q6,Vb,bm,bJ]; rw[(h_.en 3 rfl),(h_.en 16 rfl),(h_.en 18 rfl)]; rfl) Yj rfl) rfl) ?_
    exact zN
    iterate 4 refine w_ ?_
    refine alL 51 fun hl8=> ?_
    iterate 4 refine w_ ?_
    refine lp0 b.2.2.1.length (fun k=>⟨[(2,lP 0 0),(4,lP 2 0),(5,lB false),(8,lP 19 0),(51,lf (.dat (.sl 120 (.pr .int .bool)) b.2.2.1)),(52,lI (b.2.2.1.length:Int)),(53,lI (k:Int))],[bx 0 83 [dI a.1.1, .dat (.sl 237 (.pr (.sl 3 .int) (.sl 3 .int))) a.1.2, .dat (.sl 203 (.pr .str .int)) a.2.1, .dat (.sl 120 (.pr .int .bool)) a.2.2.1,dS a.2.2.2],bx 2 83 [dI 0, .val (.slice none 0 0), .val (.slice none 0 0), .val (.slice none 0 0),dS ByteArray.empty],ar 3 237 (.pr (.sl 3 .int) (.sl 3 .int)) x3.1.2,ar 16 203 (.pr .str .int) ((([])++a.2.1)++b.2.1),bx 19 83 [dI x3.1.1, .ref 3, .ref 16, .ref 20,dS (a.2.2.2++b.2.2.2)],ar 20 120 (.pr .int .bool) (a.2.2.1++(b.2.2.1.take k).map (unL a.2.1.length))]⟩) ?_ fun k hk9=> ?_
    · exact Wk.of [(20,18)] rfl ⟨rfl,rfl,rfl,rfl,rfl,rfl,rfl,trivial⟩ ⟨rfl,rfl,rfl,rfl,rfl,(Qn (by simp)),trivial⟩ rfl rfl
    iterate 4 refine w_ ?_
    cases hb10:(decide ((k:Int) < (b.2.2.1.length:Int)))
    ·have hb10':=ab hb10
     refine w_ ?_
     refine Qj ?_
     refine (?_:AC _ _ _ _ _)
     iterate 3 refine w_ ?_
     refine lc (VW (Xn (x3.1,(([])++a.2.1)++b.2.1,a.2.2.1++(b.2.2.1.take k).map (unL a.2.1.length),a.2.2.2++b.2.2.2)) VL ⟨_,_,rfl,(QdO (Qm rfl) ⟨_,_,rfl, .inl rfl,⟨_,_,rfl, .inr ⟨_,_,_,_,rfl,rfl,rfl⟩,⟨_,_,rfl, .inr ⟨_,_,_,_,rfl,rfl,rfl⟩,⟨_,_,rfl, .inr ⟨_,_,_,_,rfl,rfl,rfl⟩,⟨_,_,rfl, .inl rfl,rfl⟩⟩⟩⟩⟩),rfl⟩ rfl rfl rfl) ?_
     iterate 2 refine w_ ?_
     cases hb11:(decide (StgOk (x3.1,(([])++a.2.1)++b.2.1,a.2.2.1++(b.2.2.1.take k).map (unL a.2.1.length),a.2.2.2++b.2.2.2)))
     ·have hb11':=ab hb11
      iterate 2 refine w_ ?_
      refine lc (Qp Qbo rfl (aB.1 rfl) rfl rfl) ?_
      iterate 3 refine w_ ?_
      refine AC.wk (Qu 21 (p:=2) (off:=1) 237 (.pr (.sl 3 .int) (.sl 3 .int)) rfl rfl (Fresh.of rfl) (nlr rfl))<|AC.wk (Qu 22 (p:=2) (off:=2) 203 (.pr .str .int) rfl rfl (Fresh.of rfl) (nlr rfl))<|AC.wk (Qu 23 (p:=2) (off:=3) 120 (.pr .int .bool) rfl rfl (Fresh.of rfl) (nlr rfl))<|Qb ?_
      subst hO
      refine Q5 (x:=(((0,[]),([],([],ByteArray.empty))),false)) [(0,21),(1,22),(2,23)] ?_ (Ys rfl (QK rfl rfl Yj rfl) (Xd rfl)) rfl ⟨rfl,rfl,rfl,trivial⟩ rfl rfl
      exact fun h=>absurd h (by decide)
     ·have hb11':=ae hb11
      iterate 7 refine w_ ?_
      refine Qb ?_
      subst hO
      refine Q5 (x:=(((x3.1.1,x3.1.2),((([])++a.2.1)++b.2.1,(a.2.2.1++(b.2.2.1.take k).map (unL a.2.1.length),a.2.2.2++b.2.2.2))),true)) [(0,3),(1,16),(2,20)] ?_ (Ys rfl (QK rfl rfl Yj rfl) (Xd rfl)) rfl ⟨rfl,rfl,rfl,trivial⟩ rfl rfl
      (intro _; rw[ZK (by omega)]; simp_all [unS]; done)
    ·have hb10':=ae hb10
     iterate 5 refine w_ ?_
     obtain ⟨x12,hx13⟩:∃z,b.2.2.1[k]? =some z:=⟨_,aa (by omega)⟩
     have hlb:=QrB (StgOk.labs ‹StgOk b› _ (ap hx13))
     iterate 2 refine w_ ?_
     refine lc (xal 24 (.pr .int .bool) XH) ?_
     iterate 6 refine w_ ?_
     refine alI 58 fun hi14=> ?_
     iterate 2 refine w_ ?_
     cases hb15:(decide (0≤x12.1))
     ·have hb15':=ab hb15
      iterate 6 refine w_ ?_
      refine lc (dBs 25 (e:=(.pr .int .bool)) XH (hab:=by exact ⟨_,_,_,_,rfl,⟨[dI x12.1],[dB x12.2],_,_,_,_,rfl,rfl,⟨rfl,rfl⟩,⟨rfl,rfl⟩,rfl⟩,⟨rfl,rfl⟩,rfl⟩)) ?_
      refine lc (dA 26 Jy (hb:=by (simp only[ai,aP,aq,au,aF]; omega))) ?_
      iterate 2 refine w_ ?_
      refine Qd ?_
      refine (?_:AC _ _ _ _ _)
      iterate 3 refine w_ ?_
      refine Qd ?_
      refine l0_ ?_
      exact Wk.of [(20,26)] rfl ⟨rfl,rfl,rfl,rfl,rfl,rfl,rfl,trivial⟩ ⟨rfl,rfl,rfl,rfl,rfl,(Qn (by rw[QQ hx13]; simp[unL, *])),trivial⟩ rfl rfl
     ·have hb15':=ae hb15
      iterate 6 refine w_ ?_
      refine alL 63 fun hl16=> ?_
      iterate 9 refine w_ ?_
      refine lc (dBs 27 (e:=(.pr .int .bool)) XH (hab:=by exact ⟨_,_,_,_,rfl,⟨[dI (x12.1+(a.2.1.length:Int))],[dB x12.2],_,_,_,_,rfl,rfl,⟨rfl,rfl⟩,⟨rfl,rfl⟩,rfl⟩,⟨rfl,rfl⟩,rfl⟩)) ?_
      refine lc (dA 28 Jy (hb:=by (simp only[ai,aP,aq,au,aF]; omega))) ?_
      iterate 2 refine w_ ?_
      refine Qd ?_
      refine (?_:AC _ _ _ _ _)
      iterate 3 refine w_ ?_
      refine Qd ?_
      refine l0_ ?_
      exact Wk.of [(20,28)] rfl ⟨rfl,rfl,rfl,rfl,rfl,rfl,rfl,trivial⟩ ⟨rfl,rfl,rfl,rfl,rfl,(Qn (by rw[QQ hx13]; simp[unL, *])),trivial⟩ rfl rfl
end Go.Proofs.YtfkmmpfdncopdaaGreat
namespace Go.Proofs.YtfkmmpfdncopdaaGreat
open Go.RowKit
set_option maxRecDepth 100000
set_option maxHeartbeats 4000000
section
variable {l:List ByteArray}{x:ByteArray}{j kd:Int}{i k:Nat}{g:List Qz}
theorem Qjk:∀(l:List ByteArray) (j:Int),sgA (l++[x]) j=sgA l j++sgN x (j+(l.length:Int)) x.size
  | [],j=>by simp[sgA]
  | y :: l,j=>by
    rw[cJ,sgA,sgA,Qjk l (j+1),aZ,au]
    congr 3
    omega
theorem Qmq (hx:l[k]? =some x):sgA (l.take k) 1++sgN x ((k:Int)+1) x.size=sgA (l.take (k+1)) 1:=by
  have hk:=(ah.1 hx).1
  rw[QQ hx,Qjk,aq,show (1:Int)+((min k l.length:Nat):Int)=(k:Int)+1 by omega]
theorem Qmz:(g++sgN x kd i)++[(x.extract ((i:Nat):Int).toNat ((i:Int)+1).toNat,kd)]=g++sgN x kd (i+1):=by
  unfold sgN
  rw[cE,ce,aZ,Int.toNat_natCast,show ((i:Int)+1).toNat=i+1 by omega]; rfl
end
theorem QI (ins:ByteArray)(outs:ByteArray)(inner:ByteArray)(arcs:ByteArray)(hk:(Zw arcs 32).all okA=true)(hs:arcs.size≤900∧ins.size≤100∧outs.size≤100∧inner.size≤100):FC Tryz.prog 188 [(false,[dS ins]),(false,[dS outs]),(false,[dS inner]),(false,[dS arcs])] [] 0 (Is (ag [dI (((Qr ins outs inner arcs).1).1), .ref 0, .ref 1, .ref 2,dS ((Qr ins outs inner arcs).2.2.2)]) [ar 0 237 (.pr (.sl 3 .int) (.sl 3 .int)) (((Qr ins outs inner arcs).1).2),ar 1 203 (.pr .str .int) ((Qr ins outs inner arcs).2.1),ar 2 120 (.pr .int .bool) ((Qr ins outs inner arcs).2.2.1)]):=by
 have hsl:=Qk5 (s:=arcs) (b:=32)
 have h3l:([ins,outs,inner]:List ByteArray).length=3:=rfl
 refine Ql Tryz.func188 rfl rfl Tryz.ntmps188 fun O_ hO w0_ N0_ X_ h0_ f0_=> ?_
 refine w_ ?_
 refine lc (xal 0 (.pr (.pr .int (.sl 237 (.pr (.sl 3 .int) (.sl 3 .int)))) (.pr (.sl 203 (.pr .str .int)) (.pr (.sl 120 (.pr .int .bool)) .str))) KP) ?_
 iterate 2 refine w_ ?_
 refine lc (Qp QnL rfl (aB.1 rfl) rfl rfl) ?_
 refine xbx 1 ?_
 iterate 7 refine w_ ?_
 refine lc (dBs 2 (e:= .str) Yb) ?_
 iterate 4 refine w_ ?_
 refine AC.wk (Qu 3 (p:=1) (off:=2) 203 (.pr .str .int) rfl rfl (Fresh.of rfl) (nlr rfl)) ?_
 refine Qy (fun m_ s_=>∃(k:Nat) (g1:List (ByteArray×Int)),k≤([ins,outs,inner]).length∧m_=([ins,outs,inner]).length - k∧(g1=sgA (([ins,outs,inner]:List ByteArray).take k) 1)∧(g1.length≤100*k)∧s_=⟨[(3,lf (dS arcs)),(8,lP 0 0),(9,lP 1 0),(20,lR 2),(21,lI (([ins,outs,inner]).length:Int)),(22,lI (k:Int))],[bx 0 83 [dI 0, .val (.slice none 0 0), .val (.slice none 0 0), .val (.slice none 0 0),dS ByteArray.empty],bx 1 274 [dI 0, .val (.slice none 0 0), .ref 4, .val (.slice none 0 0),dS ByteArray.empty, .val (.slice none 0 0), .val (.slice none 0 0)],ar 2 9 .str ([ins,outs,inner]),ar 4 203 (.pr .str .int) g1]⟩) ⟨0,([]:((.sl 203 (.pr .str .int)):Ty).Den),aR _,rfl,rfl,(aR _),rfl⟩ ?_ ?_
 · exact Wk.of [(4,3)] rfl ⟨rfl,rfl,rfl,rfl,rfl,rfl,trivial⟩ ⟨rfl,rfl,rfl,(Qn (by first | rfl | simp)),trivial⟩ rfl rfl
 rintro m_ s_ ⟨k,g1,hk1,hm2,hG,hL,rfl⟩
 iterate 4 refine w_ ?_
 cases hb3:(decide ((k:Int) < (([ins,outs,inner]).length:Int)))
 ·have hb3':=ab hb3
  refine w_ ?_
  refine Qj ?_
  refine (?_:AC _ _ _ _ _)
  iterate 3 refine w_ ?_
  refine lc (U3 (XZ arcs 32 (by omega)).frozen Jd ⟨_,_,rfl,(Qm rfl),⟨_,_,rfl,(Evl.ev (QG 32 rfl)),rfl⟩⟩ rfl rfl) ?_
  refine alL 54 fun hl4=> ?_
  iterate 4 refine w_ ?_
  refine AC.wk (Qu 5 (p:=1) (off:=1) 237 (.pr (.sl 3 .int) (.sl 3 .int)) rfl rfl (Fresh.of rfl) (nlr rfl))<|AC.wk (Qu 6 (p:=1) (off:=3) 120 (.pr .int .bool) rfl rfl (Fresh.of rfl) (nlr rfl))<|AC.wk (Qu 7 (p:=1) (off:=5) 9 .str rfl rfl (Fresh.of rfl) (nlr rfl))<|AC.wk (Qu 8 (p:=1) (off:=6) 9 .str rfl rfl (Fresh.of rfl) (nlr rfl)) ?_
  refine Qy (fun m_ s_=>∃(m:Nat) (bb:((Int×(List (List Int×List Int)))×(List (ByteArray×Int))×(List (Int×Bool))×ByteArray)×List ByteArray×List ByteArray),m≤(Zw arcs 32).length∧m_=(Zw arcs 32).length - m∧(bb=((Zw arcs 32).take m).foldl arV (((0,[]),g1,[],ByteArray.empty),[],[]))∧(DBJ bb m (2*m) (2*m))∧s_=⟨[(8,lP 0 0),(9,lP 1 0),(54,lf (.dat (.sl 9 .str) (Zw arcs 32))),(55,lI ((Zw arcs 32).length:Int)),(56,lI (m:Int))],[bx 0 83 [dI 0, .val (.slice none 0 0), .val (.slice none 0 0), .val (.slice none 0 0),dS ByteArray.empty],bx 1 274 [dI bb.1.1.1, .ref 9, .ref 10, .ref 11,dS bb.1.2.2.2, .ref 12, .ref 13],ar 9 237 (.pr (.sl 3 .int) (.sl 3 .int)) bb.1.1.2,ar 10 203 (.pr .str .int) bb.1.2.1,ar 11 120 (.pr .int .bool) bb.1.2.2.1,ar 12 9 .str bb.2.1,ar 13 9 .str bb.2.2]⟩) ⟨0,(((0,([]:((.sl 237 (.pr (.sl 3 .int) (.sl 3 .int))):Ty).Den)),g1,([]:((.sl 120 (.pr .int .bool)):Ty).Den),ByteArray.empty),([]:((.sl 9 .str):Ty).Den),([]:((.sl 9 .str):Ty).Den)),aR _,rfl,rfl,(DBJ.zero _),rfl⟩ ?_ ?_
  · exact Wk.of [(9,5),(10,4),(11,6),(12,7),(13,8)] rfl ⟨rfl,rfl,rfl,rfl,rfl,trivial⟩ ⟨rfl,rfl,(Qn (by first | rfl | simp)),(Qn (by first | rfl | simp)),(Qn (by first | rfl | simp)),(Qn (by first | rfl | simp)),(Qn (by first | rfl | simp)),trivial⟩ rfl rfl
  rintro m_ s_ ⟨m,bb,hk5,hm6,hB,hJ,rfl⟩
  iterate 4 refine w_ ?_
  cases hb7:(decide ((m:Int) < ((Zw arcs 32).length:Int)))
  ·have hb7':=ab hb7
   refine w_ ?_
   refine Qj ?_
   refine (?_:AC _ _ _ _ _)
   iterate 7 refine w_ ?_
   refine Qb ?_
   have e8:(bb.1.1.1:Int)=(((Qr ins outs inner arcs).1).1):=by
    (rw[hB,ZK (by omega),hG,ZK (by omega)]; rfl)
   have e9:(bb.1.2.2.2:ByteArray)=((Qr ins outs inner arcs).2.2.2):=by
    (rw[hB,ZK (by omega),hG,ZK (by omega)]; rfl)
   exact fi_ [(0,9),(1,10),(2,11)] hO ⟨(Qn (by (rw[hB,ZK (by omega),hG,ZK (by omega)]; rfl))),(Qn (by (rw[hB,ZK (by omega),hG,ZK (by omega)]; rfl))),(Qn (by (rw[hB,ZK (by omega),hG,ZK (by omega)]; rfl))),trivial⟩ (h0:=((congrArg (fun z_=>ag [dI z_, .ref 9, .ref 10, .ref 11,dS bb.1.2.2.2]) e8)).trans (congrArg (fun z_=>ag [dI (((Qr ins outs inner arcs).1).1), .ref 9, .ref 10, .ref 11,dS z_]) e9))
  ·have hb7':=ae hb7
   iterate 5 refine w_ ?_
   obtain ⟨tx,hx11⟩:∃z,(Zw arcs 32)[m]? =some z:=⟨_,aa (by omega)⟩
   have htx:=hx11
   have hts:=Jb (ap hx11)
   iterate 7 refine w_ ?_
   refine lc (dP 14 [(0,1),(1,10),(2,9),(3,11),(4,12),(5,13)] (Qay bb tx m hJ (by omega) (aB.1 hk _ (ap htx)) (by omega)) Qiv) ?_
   refine Qd ?_
   refine (?_:AC _ _ _ _ _)
   iterate 3 refine w_ ?_
   refine Qd<|Q0 ⟨m+1,((((arV bb tx).1.1.1,(arV bb tx).1.1.2),(arV bb tx).1.2.1,(arV bb tx).1.2.2.1,(arV bb tx).1.2.2.2),(arV bb tx).2.1,(arV bb tx).2.2),by omega,rfl,(by rw[hB,QQ htx,List.foldl_append]; rfl),(hJ.ar_ (text:=tx)),rfl⟩ (by omega) ?_
   exact Wk.of [(9,16),(11,17),(12,18),(13,19)] rfl ⟨rfl,rfl,rfl,rfl,rfl,trivial⟩ ⟨rfl,rfl,(Qn (by first | rfl | simp)),(Qn (by first | rfl | simp)),(Qn (by first | rfl | simp)),(Qn (by first | rfl | simp)),(Qn (by first | rfl | simp)),trivial⟩ rfl rfl
 ·have hb3':=ae hb3
  iterate 7 refine w_ ?_
  obtain ⟨nm,hx13⟩:∃z,([ins,outs,inner])[k]? =some z:=⟨_,aa (by omega)⟩
  have hnm:=hx13
  have hns:nm.size≤100:=by have h_:=ap hx13; simp only[aE,bW,or_false] at h_; rcases h_ with rfl | rfl | rfl <;> omega
  iterate 8 refine w_ ?_
  refine Qy (fun m_ s_=>∃(i:Nat) (g2:List (ByteArray×Int)),i≤nm.size∧m_=nm.size - i∧(g2=g1++sgN nm ((k:Int)+1) i)∧(g2.length≤100*k+i)∧s_=⟨[(3,lf (dS arcs)),(8,lP 0 0),(9,lP 1 0),(10,lI (k:Int)),(11,lf (dS nm)),(12,lI (i:Int)),(20,lR 2),(21,lI (([ins,outs,inner]).length:Int)),(22,lI (k:Int)),(23,lB true),(24,lI (k:Int)),(25,lf (.ept 2 1 k 0)),(26,lf (dS nm))],[bx 0 83 [dI 0, .val (.slice none 0 0), .val (.slice none 0 0), .val (.slice none 0 0),dS ByteArray.empty],bx 1 274 [dI 0, .val (.slice none 0 0), .ref 20, .val (.slice none 0 0),dS ByteArray.empty, .val (.slice none 0 0), .val (.slice none 0 0)],ar 2 9 .str ([ins,outs,inner]),ar 20 203 (.pr .str .int) g2]⟩) ⟨0,g1,aR _,rfl,(by simp[sgN]),(by omega),rfl⟩ ?_ ?_
  · exact Wk.of [(20,4)] rfl ⟨rfl,rfl,rfl,rfl,rfl,rfl,rfl,rfl,rfl,rfl,rfl,rfl,rfl,trivial⟩ ⟨rfl,rfl,rfl,rfl,trivial⟩ rfl rfl
  rintro m_ s_ ⟨i,g2,hk14,hm15,hG2,hL2,rfl⟩
  iterate 4 refine w_ ?_
  refine alS 28 fun hl16=> ?_
  refine lc (QZ (Qa rfl) rfl Zc) ?_
  iterate 2 refine w_ ?_
  cases hb17:(decide ((i:Int) < (nm.size:Int)))
  ·have hb17':=ab hb17
   refine w_ ?_
   refine Qj ?_
   refine (?_:AC _ _ _ _ _)
   iterate 3 refine w_ ?_
   refine Qd<|Q0 ⟨k+1,g2,by omega,rfl,(by rw[hG2,hG,show i=nm.size by omega]; exact Qmq hnm),(by omega),rfl⟩ (by omega) ?_
   exact Wk.of [(4,20)] rfl ⟨rfl,rfl,rfl,rfl,rfl,rfl,trivial⟩ ⟨rfl,rfl,rfl,rfl,trivial⟩ rfl rfl
  ·have hb17':=ae hb17
   iterate 4 refine w_ ?_
   apply dV (i9 33 _ _ _ _ _ _ _ _ _ (io 42 _ :: io 43 (lf (dS (nm.extract ((i:Int)).toNat ((i:Int)+1).toNat))) :: i2 44 _ _ (io 46 (ag [dS (nm.extract ((i:Int)).toNat ((i:Int)+1).toNat),dI ((k:Int)+1)]) :: ⟨some 47,lR 21,[ar 21 203 (.pr .str .int) ([(nm.extract ((i:Int)).toNat ((i:Int)+1).toNat,(k:Int)+1)])]⟩ :: ⟨some 48,lR 22,[ar 22 203 (.pr .str .int) (g2++([(nm.extract ((i:Int)).toNat ((i:Int)+1).toNat,(k:Int)+1)])),(20,none),(21,none)]⟩ :: i3 49 _ _ _ [⟨none,lf (.val undef),[bx 1 274 [dI 0, .val (.slice none 0 0), .ref 22, .val (.slice none 0 0),dS ByteArray.empty, .val (.slice none 0 0), .val (.slice none 0 0)]]⟩]))) [0,1,1,1,1,1,63,127,255,255,63,2047,2047,63,63,1,0,0,0,0]
   iterate 10 refine z_ ?_
   refine zz (fun _ h_=>ac (show Does _ _ _ _ (St.put _ 43 (lf (dS (nm.extract ((i:Int)).toNat ((i:Int)+1).toNat)))) from QW (l:=(some (i:Int))) (h:=(some ((i:Int)+1))) (h_.v rfl) (by exact (h_.v rfl)) (by exact (h_.v rfl)) Zc rfl (by first | omega | (simp only[ak,aj]; omega)) (by first | omega | (simp only[ak,aj]; omega)) (by first | omega | (simp only[ak,aj]; omega))) rfl) ?_
   iterate 2 refine z_ ?_
   refine zz (fun _ h_=>ac (Qp Qoi ⟨_,_,rfl,(h_.w rfl),⟨_,_,rfl,(h_.w rfl),rfl⟩⟩ (aB.1 rfl) rfl rfl) rfl) ?_
   refine zz (fun _ h_=>ac (dBs 21 (e:=(.pr .str .int)) JV (hab:=by exact ⟨_,_,_,_,rfl,⟨[dS (nm.extract ((i:Int)).toNat ((i:Int)+1).toNat)],[dI ((k:Int)+1)],_,_,_,_,rfl,rfl,⟨rfl,rfl⟩,⟨rfl,rfl⟩,rfl⟩,⟨rfl,rfl⟩,rfl⟩)) rfl) ?_
   refine zz (fun _ h_=>ac (dA 22 QaN (hb:=by first | omega | (simp only[au,aF]; omega))) rfl) ?_
   iterate 3 refine z_ ?_
   refine zz (fun _ h_=>ac (Zf (h_.v rfl) (h_.en 1 rfl) (h_.w rfl) (by simp only[Q6,Vb,bm,bJ]; rw[(h_.en 22 rfl)]; rfl) QqS rfl) rfl) ?_
   exact zN
   refine (?_:AC _ _ _ _ _)
   iterate 4 refine w_ ?_
   refine Qd<|Q0 ⟨i+1,(g2++([(nm.extract ((i:Int)).toNat ((i:Int)+1).toNat,(k:Int)+1)])),by omega,rfl,(by rw[hG2]; exact Qmz),(by simp only[ai,au,aF]; omega),rfl⟩ (by omega) ?_
   exact Wk.of [(20,22)] rfl ⟨rfl,rfl,rfl,rfl,rfl,rfl,rfl,rfl,rfl,rfl,rfl,rfl,rfl,trivial⟩ ⟨rfl,rfl,rfl,(Qn (by first | rfl | simp)),trivial⟩ rfl rfl
def tx0:ByteArray:=⟨#[97,98]⟩
def tx1:ByteArray:=⟨#[99]⟩
def tx2:ByteArray:=⟨#[]⟩
def tx3:ByteArray:=⟨#[97,43,62,99,43,32,98,43,62,99,43,32,99,43,62,97,45,32,99,43,62,98,45,32,97,45,62,99,45,32,98,45,62,99,45,32,42,99,45,62,97,43,32,42,99,45,62,98,43]⟩
def tx4:ByteArray:=⟨#[97]⟩
def tx5:ByteArray:=⟨#[98]⟩
def tx6:ByteArray:=⟨#[97,43,62,98,43,32,98,43,62,97,45,32,97,45,62,98,45,32,42,98,45,62,97,43]⟩
def tx7:ByteArray:=⟨#[114]⟩
def tx8:ByteArray:=⟨#[120,121]⟩
def tx9:ByteArray:=⟨#[114,43,62,120,43,32,114,43,62,121,43,32,120,43,62,114,45,32,121,43,62,114,45,32,114,45,62,120,45,32,114,45,62,121,45,32,42,120,45,62,114,43,32,42,121,45,62,114,43]⟩
def Qk3:ByteArray:=⟨#[97,100]⟩
def Qai:ByteArray:=⟨#[98,99]⟩
def Qkc:ByteArray:=⟨#[97,43,62,98,43,32,98,43,62,100,43,32,100,43,62,99,43,32,99,43,62,97,45,32,97,45,62,98,45,32,98,45,62,100,45,32,100,45,62,99,45,32,42,99,45,62,97,43]⟩
def QkY:ByteArray:=⟨#[120]⟩
def QjX:ByteArray:=⟨#[97,43,62,120,43,32,120,43,62,98,43,32,98,43,62,97,45,32,97,45,62,120,45,32,120,45,62,98,45,32,42,98,45,62,97,43]⟩
def QkQ:ByteArray:=⟨#[42,95,112,62,97,43,32,95,112,62,98,43,32,97,43,62,99,43,47,49,32,99,43,47,49,62,97,45,32,97,45,62,99,45,47,49,32,99,45,47,49,62,95,112,32,98,43,62,99,43,47,50,32,99,43,47,50,62,98,45,32,98,45,62,99,45,47,50,32,99,45,47,50,62,95,112]⟩
def Qk8:ByteArray:=⟨#[97,43,62,126,32,126,62,98,43,32,98,43,62,97,45,32,97,45,62,98,45,32,42,98,45,62,97,43]⟩
def Qkm:ByteArray:=⟨#[42,121,45,62,114,43,32,114,43,62,120,43,32,120,43,62,120,45,32,120,45,62,121,43,32,121,43,62,114,45,32,114,45,62,121,45]⟩
def Qki:ByteArray:=⟨#[42,97,45,62,97,43,32,97,43,62,95,112,32,95,112,62,98,43,32,95,112,62,99,43,32,98,43,62,98,45,32,99,43,62,99,45,32,98,45,62,95,113,32,99,45,62,95,113,32,95,113,62,97,45]⟩
def Qkn:ByteArray:=⟨#[97,43,47,49,62,98,43,32,98,43,62,97,43,47,50,32,97,43,47,50,62,98,45,32,42,98,45,62,97,43,47,49]⟩
def QsE:ByteArray:=⟨#[112]⟩
def QsD:ByteArray:=⟨#[113]⟩
def Qr6:ByteArray:=⟨#[112,43,62,113,43,32,113,43,62,112,45,32,112,45,62,113,45,32,42,113,45,62,112,43]⟩
def QjT:ByteArray:=⟨#[42,95,112,62,97,43,32,97,43,62,98,43,32,98,43,62,95,113]⟩
theorem Xx (code:List UInt8)(at_:Int)(sd:Int)(ha:0≤at_∧at_≤999999000):FC Tryz.prog 187 [(false,[.ptr 0 0])] [bx 0 93 [.dat (.sl 5 .u8) code,dI at_, .val (.int .u64 sd)]] 1 (Ex (fun x:Zq×Int×Int=>Ty.tot Qah x.1≤1000∧(1≤x.1.2.1.length∧1≤x.1.2.2.1.length)∧(at_≤x.2.1∧x.2.1≤at_+10)) (fun x:Zq×Int×Int=>ag [dI x.1.1.1, .ref 1, .ref 2, .ref 3,dS x.1.2.2.2]) (fun x:Zq×Int×Int=>[bx 0 93 [.dat (.sl 5 .u8) code,dI x.2.1, .val (.int .u64 x.2.2)],ar 1 237 (.pr (.sl 3 .int) (.sl 3 .int)) x.1.1.2,ar 2 203 (.pr .str .int) x.1.2.1,ar 3 120 (.pr .int .bool) x.1.2.2.1])):=by
 refine Ql Tryz.func187 rfl rfl Tryz.ntmps187 fun O_ hO w0_ N0_ X_ h0_ f0_=> ?_
 refine w_ ?_
 refine lc (xal 1 (.pr (.pr .int (.sl 237 (.pr (.sl 3 .int) (.sl 3 .int)))) (.pr (.sl 203 (.pr .str .int)) (.pr (.sl 120 (.pr .int .bool)) .str))) KP) ?_
 iterate 4 refine w_ ?_
 have hp1:=YN code at_ sd 7
 refine lc (dP 2 [] (QF code at_ sd 7 (by omega)) Z4) ?_
 iterate 6 refine w_ ?_
 refine cd_ (fun hb2 hb2'=> ?_) fun hb2 hb2'=> ?_
 ·iterate 4 refine w_ ?_
  refine cd_ (fun hb3 hb3'=> ?_) fun hb3 hb3'=> ?_
  ·iterate 4 refine w_ ?_
   refine cd_ (fun hb4 hb4'=> ?_) fun hb4 hb4'=> ?_
   ·iterate 4 refine w_ ?_
    refine cd_ (fun hb5 hb5'=> ?_) fun hb5 hb5'=> ?_
    ·iterate 4 refine w_ ?_
     refine cd_ (fun hb6 hb6'=> ?_) fun hb6 hb6'=> ?_
     ·iterate 4 refine w_ ?_
      refine cd_ (fun hb7 hb7'=> ?_) fun hb7 hb7'=> ?_
      ·refine AC.skip ?_
       refine (?_:AC _ _ _ _ _)
       refine w_ ?_
       refine lc (dG 3 (QI tx4 tx5 tx2 Qk8 (by decide+kernel) (by decide+kernel)) Zy) ?_
       iterate 2 refine w_ ?_
       refine Qb ?_
       subst hO
       refine Q5 (x:=(((((Qr tx4 tx5 tx2 Qk8).1).1,((Qr tx4 tx5 tx2 Qk8).1).2),((Qr tx4 tx5 tx2 Qk8).2.1,((Qr tx4 tx5 tx2 Qk8).2.2.1,(Qr tx4 tx5 tx2 Qk8).2.2.2))),((pkA 7 at_),(pkS code at_ sd 7)))) [(0,0),(1,3),(2,4),(3,5)] ?_ (Res.one rfl (QK rfl rfl Yj rfl)) rfl ⟨rfl,rfl,rfl,rfl,trivial⟩ rfl rfl
       first | (dsimp only; exact ⟨by decide+kernel,⟨by decide+kernel,by decide+kernel⟩,by omega⟩)
      ·refine w_ ?_
       refine lc (dG 6 (QI tx0 tx1 tx2 QkQ (by decide+kernel) (by decide+kernel)) Zy) ?_
       iterate 2 refine w_ ?_
       refine Qb ?_
       subst hO
       refine Q5 (x:=(((((Qr tx0 tx1 tx2 QkQ).1).1,((Qr tx0 tx1 tx2 QkQ).1).2),((Qr tx0 tx1 tx2 QkQ).2.1,((Qr tx0 tx1 tx2 QkQ).2.2.1,(Qr tx0 tx1 tx2 QkQ).2.2.2))),((pkA 7 at_),(pkS code at_ sd 7)))) [(0,0),(1,6),(2,7),(3,8)] ?_ (Res.one rfl (QK rfl rfl Yj rfl)) rfl ⟨rfl,rfl,rfl,rfl,trivial⟩ rfl rfl
       first | (dsimp only; exact ⟨by decide+kernel,⟨by decide+kernel,by decide+kernel⟩,by omega⟩)
     ·refine w_ ?_
      refine lc (dG 9 (QI tx4 tx5 QkY QjX (by decide+kernel) (by decide+kernel)) Zy) ?_
      iterate 2 refine w_ ?_
      refine Qb ?_
      subst hO
      refine Q5 (x:=(((((Qr tx4 tx5 QkY QjX).1).1,((Qr tx4 tx5 QkY QjX).1).2),((Qr tx4 tx5 QkY QjX).2.1,((Qr tx4 tx5 QkY QjX).2.2.1,(Qr tx4 tx5 QkY QjX).2.2.2))),((pkA 7 at_),(pkS code at_ sd 7)))) [(0,0),(1,9),(2,10),(3,11)] ?_ (Res.one rfl (QK rfl rfl Yj rfl)) rfl ⟨rfl,rfl,rfl,rfl,trivial⟩ rfl rfl
      first | (dsimp only; exact ⟨by decide+kernel,⟨by decide+kernel,by decide+kernel⟩,by omega⟩)
    ·refine w_ ?_
     refine lc (dG 12 (QI Qk3 Qai tx2 Qkc (by decide+kernel) (by decide+kernel)) Zy) ?_
     iterate 2 refine w_ ?_
     refine Qb ?_
     subst hO
     refine Q5 (x:=(((((Qr Qk3 Qai tx2 Qkc).1).1,((Qr Qk3 Qai tx2 Qkc).1).2),((Qr Qk3 Qai tx2 Qkc).2.1,((Qr Qk3 Qai tx2 Qkc).2.2.1,(Qr Qk3 Qai tx2 Qkc).2.2.2))),((pkA 7 at_),(pkS code at_ sd 7)))) [(0,0),(1,12),(2,13),(3,14)] ?_ (Res.one rfl (QK rfl rfl Yj rfl)) rfl ⟨rfl,rfl,rfl,rfl,trivial⟩ rfl rfl
     first | (dsimp only; exact ⟨by decide+kernel,⟨by decide+kernel,by decide+kernel⟩,by omega⟩)
   ·refine w_ ?_
    refine lc (dG 15 (QI tx7 tx8 tx2 tx9 (by decide+kernel) (by decide+kernel)) Zy) ?_
    iterate 2 refine w_ ?_
    refine Qb ?_
    subst hO
    refine Q5 (x:=(((((Qr tx7 tx8 tx2 tx9).1).1,((Qr tx7 tx8 tx2 tx9).1).2),((Qr tx7 tx8 tx2 tx9).2.1,((Qr tx7 tx8 tx2 tx9).2.2.1,(Qr tx7 tx8 tx2 tx9).2.2.2))),((pkA 7 at_),(pkS code at_ sd 7)))) [(0,0),(1,15),(2,16),(3,17)] ?_ (Res.one rfl (QK rfl rfl Yj rfl)) rfl ⟨rfl,rfl,rfl,rfl,trivial⟩ rfl rfl
    first | (dsimp only; exact ⟨by decide+kernel,⟨by decide+kernel,by decide+kernel⟩,by omega⟩)
  ·refine w_ ?_
   refine lc (dG 18 (QI tx4 tx5 tx2 tx6 (by decide+kernel) (by decide+kernel)) Zy) ?_
   iterate 2 refine w_ ?_
   refine Qb ?_
   subst hO
   refine Q5 (x:=(((((Qr tx4 tx5 tx2 tx6).1).1,((Qr tx4 tx5 tx2 tx6).1).2),((Qr tx4 tx5 tx2 tx6).2.1,((Qr tx4 tx5 tx2 tx6).2.2.1,(Qr tx4 tx5 tx2 tx6).2.2.2))),((pkA 7 at_),(pkS code at_ sd 7)))) [(0,0),(1,18),(2,19),(3,20)] ?_ (Res.one rfl (QK rfl rfl Yj rfl)) rfl ⟨rfl,rfl,rfl,rfl,trivial⟩ rfl rfl
   first | (dsimp only; exact ⟨by decide+kernel,⟨by decide+kernel,by decide+kernel⟩,by omega⟩)
 ·refine w_ ?_
  refine lc (dG 21 (QI tx0 tx1 tx2 tx3 (by decide+kernel) (by decide+kernel)) Zy) ?_
  iterate 2 refine w_ ?_
  refine Qb ?_
  subst hO
  refine Q5 (x:=(((((Qr tx0 tx1 tx2 tx3).1).1,((Qr tx0 tx1 tx2 tx3).1).2),((Qr tx0 tx1 tx2 tx3).2.1,((Qr tx0 tx1 tx2 tx3).2.2.1,(Qr tx0 tx1 tx2 tx3).2.2.2))),((pkA 7 at_),(pkS code at_ sd 7)))) [(0,0),(1,21),(2,22),(3,23)] ?_ (Res.one rfl (QK rfl rfl Yj rfl)) rfl ⟨rfl,rfl,rfl,rfl,trivial⟩ rfl rfl
  first | (dsimp only; exact ⟨by decide+kernel,⟨by decide+kernel,by decide+kernel⟩,by omega⟩)
theorem Ju (code:List UInt8)(at_:Int)(sd:Int)[∀s,Decidable (StgOk s)][∀s,Decidable (Y1 s)](ha:0≤at_∧at_≤999998900):FC Tryz.prog 241 [(false,[.ptr 0 0])] [bx 0 93 [.dat (.sl 5 .u8) code,dI at_, .val (.int .u64 sd)]] 1 (Ex (fun x:Zq×Int×Int=>Ty.tot Qah x.1≤1000∧(1≤x.1.2.1.length∧1≤x.1.2.2.1.length)∧(at_≤x.2.1∧x.2.1≤at_+20)) (fun x:Zq×Int×Int=>ag [dI x.1.1.1, .ref 1, .ref 2, .ref 3,dS x.1.2.2.2]) (fun x:Zq×Int×Int=>[bx 0 93 [.dat (.sl 5 .u8) code,dI x.2.1, .val (.int .u64 x.2.2)],ar 1 237 (.pr (.sl 3 .int) (.sl 3 .int)) x.1.1.2,ar 2 203 (.pr .str .int) x.1.2.1,ar 3 120 (.pr .int .bool) x.1.2.2.1])):=by
 refine Ql Tryz.func241 rfl rfl Tryz.ntmps241 fun O_ hO w0_ N0_ X_ h0_ f0_=> ?_
 refine w_ ?_
 refine lc (xal 1 (.pr (.pr .int (.sl 237 (.pr (.sl 3 .int) (.sl 3 .int)))) (.pr (.sl 203 (.pr .str .int)) (.pr (.sl 120 (.pr .int .bool)) .str))) KP) ?_
 iterate 4 refine w_ ?_
 have hp1:=YN code at_ sd 9
 refine lc (dP 2 [] (QF code at_ sd 9 (by omega)) Z4) ?_
 iterate 6 refine w_ ?_
 refine cd_ (fun hb2 hb2'=> ?_) fun hb2 hb2'=> ?_
 ·iterate 4 refine w_ ?_
  refine cd_ (fun hb3 hb3'=> ?_) fun hb3 hb3'=> ?_
  ·iterate 4 refine w_ ?_
   refine cd_ (fun hb4 hb4'=> ?_) fun hb4 hb4'=> ?_
   ·iterate 4 refine w_ ?_
    refine cd_ (fun hb5 hb5'=> ?_) fun hb5 hb5'=> ?_
    ·iterate 4 refine w_ ?_
     refine cd_ (fun hb6 hb6'=> ?_) fun hb6 hb6'=> ?_
     ·refine AC.skip ?_
      refine (?_:AC _ _ _ _ _)
      iterate 2 refine w_ ?_
      refine Yv 3 [(0,0)] (Xx code (pkA 9 at_) (pkS code at_ sd 9) (by omega)) Qcf e1_ ⟨rfl,trivial⟩ rfl (fun _=>rfl) (fun _=>⟨trivial,(Fresh.of rfl),(Fresh.of rfl),(Fresh.of rfl),trivial⟩) (nlr rfl) fun x7 hx8=> ?_
      iterate 2 refine w_ ?_
      refine Qb ?_
      subst hO
      refine Q5 (x:=(((x7.1.1.1,x7.1.1.2),(x7.1.2.1,(x7.1.2.2.1,x7.1.2.2.2))),(x7.2.1,x7.2.2))) [(0,0),(1,4),(2,5),(3,6)] ?_ (Res.one rfl (QK rfl rfl Yj rfl)) rfl ⟨rfl,rfl,rfl,rfl,trivial⟩ rfl rfl
      (have h_:=‹Ty.tot Qah _≤1000∧_›; dsimp only; exact ⟨h_.1,h_.2.1,by omega⟩)
     ·refine w_ ?_
      refine lc (dG 7 (QI tx4 tx5 tx2 QjT (by decide+kernel) (by decide+kernel)) Zy) ?_
      iterate 2 refine w_ ?_
      refine Qb ?_
      subst hO
      refine Q5 (x:=(((((Qr tx4 tx5 tx2 QjT).1).1,((Qr tx4 tx5 tx2 QjT).1).2),((Qr tx4 tx5 tx2 QjT).2.1,((Qr tx4 tx5 tx2 QjT).2.2.1,(Qr tx4 tx5 tx2 QjT).2.2.2))),((pkA 9 at_),(pkS code at_ sd 9)))) [(0,0),(1,7),(2,8),(3,9)] ?_ (Res.one rfl (QK rfl rfl Yj rfl)) rfl ⟨rfl,rfl,rfl,rfl,trivial⟩ rfl rfl
      (dsimp only; exact ⟨by decide+kernel,⟨by decide+kernel,by decide+kernel⟩,by omega⟩)
    ·refine w_ ?_
     refine lc (dK (QI QsE QsD tx2 Qr6 (by decide+kernel) (by decide+kernel)).frozenG Zy) ?_
     refine lc (dK (QI tx4 tx5 tx2 tx6 (by decide+kernel) (by decide+kernel)).frozenG Zy) ?_
     refine Yv 10 [] (Jr (Qr QsE QsD tx2 Qr6) (Qr tx4 tx5 tx2 tx6) (by decide+kernel) (by decide+kernel)) Qij e2_ trivial rfl (fun _=>rfl) (fun _=>⟨(Fresh.of rfl),(Fresh.of rfl),(Fresh.of rfl),trivial⟩) (nlr rfl) fun x9 hx10=> ?_
     iterate 3 refine w_ ?_
     refine lc (xal 13 (.pr (.pr .int (.sl 237 (.pr (.sl 3 .int) (.sl 3 .int)))) (.pr (.sl 203 (.pr .str .int)) (.pr (.sl 120 (.pr .int .bool)) .str))) KP) ?_
     iterate 6 refine w_ ?_
     refine cb_ (fun hb11=> ?_) fun hb11=> ?_
     ·refine AC.skip ?_
      refine (?_:AC _ _ _ _ _)
      iterate 2 refine w_ ?_
      refine Yv 14 [(0,0)] (Xx code (pkA 9 at_) (pkS code at_ sd 9) (by omega)) Qcf e1_ ⟨rfl,trivial⟩ rfl (fun _=>rfl) (fun _=>⟨trivial,(Fresh.of rfl),(Fresh.of rfl),(Fresh.of rfl),trivial⟩) (nlr rfl) fun x12 hx13=> ?_
      iterate 2 refine w_ ?_
      refine Qb ?_
      subst hO
      refine Q5 (x:=(((x12.1.1.1,x12.1.1.2),(x12.1.2.1,(x12.1.2.2.1,x12.1.2.2.2))),(x12.2.1,x12.2.2))) [(0,0),(1,15),(2,16),(3,17)] ?_ (Res.one rfl (QK rfl rfl Yj rfl)) rfl ⟨rfl,rfl,rfl,rfl,trivial⟩ rfl rfl
      (have h_:=‹Ty.tot Qah _≤1000∧_›; dsimp only; exact ⟨h_.1,h_.2.1,by omega⟩)
     ·iterate 4 refine w_ ?_
      refine Qb ?_
      subst hO
      refine Q5 (x:=(((x9.1.1.1,x9.1.1.2),(x9.1.2.1,(x9.1.2.2.1,x9.1.2.2.2))),((pkA 9 at_),(pkS code at_ sd 9)))) [(0,0),(1,10),(2,11),(3,12)] ?_ (Res.one rfl (QK rfl rfl Yj rfl)) rfl ⟨rfl,rfl,rfl,rfl,trivial⟩ rfl rfl
      (have h_:=‹_=true→_=unS _ _›; have h2_:=h_ (by assumption); dsimp only; rw[h2_]; exact ⟨by decide+kernel,⟨by decide+kernel,by decide+kernel⟩,by omega⟩)
   ·refine w_ ?_
    refine lc (dG 18 (QI tx4 tx5 tx2 Qkn (by decide+kernel) (by decide+kernel)) Zy) ?_
    iterate 2 refine w_ ?_
    refine Qb ?_
    subst hO
    refine Q5 (x:=(((((Qr tx4 tx5 tx2 Qkn).1).1,((Qr tx4 tx5 tx2 Qkn).1).2),((Qr tx4 tx5 tx2 Qkn).2.1,((Qr tx4 tx5 tx2 Qkn).2.2.1,(Qr tx4 tx5 tx2 Qkn).2.2.2))),((pkA 9 at_),(pkS code at_ sd 9)))) [(0,0),(1,18),(2,19),(3,20)] ?_ (Res.one rfl (QK rfl rfl Yj rfl)) rfl ⟨rfl,rfl,rfl,rfl,trivial⟩ rfl rfl
    (dsimp only; exact ⟨by decide+kernel,⟨by decide+kernel,by decide+kernel⟩,by omega⟩)
  ·refine w_ ?_
   refine lc (dG 21 (QI tx4 Qai tx2 Qki (by decide+kernel) (by decide+kernel)) Zy) ?_
   iterate 2 refine w_ ?_
   refine Qb ?_
   subst hO
   refine Q5 (x:=(((((Qr tx4 Qai tx2 Qki).1).1,((Qr tx4 Qai tx2 Qki).1).2),((Qr tx4 Qai tx2 Qki).2.1,((Qr tx4 Qai tx2 Qki).2.2.1,(Qr tx4 Qai tx2 Qki).2.2.2))),((pkA 9 at_),(pkS code at_ sd 9)))) [(0,0),(1,21),(2,22),(3,23)] ?_ (Res.one rfl (QK rfl rfl Yj rfl)) rfl ⟨rfl,rfl,rfl,rfl,trivial⟩ rfl rfl
   (dsimp only; exact ⟨by decide+kernel,⟨by decide+kernel,by decide+kernel⟩,by omega⟩)
 ·refine w_ ?_
  refine lc (dG 24 (QI tx7 tx8 tx2 Qkm (by decide+kernel) (by decide+kernel)) Zy) ?_
  iterate 2 refine w_ ?_
  refine Qb ?_
  subst hO
  refine Q5 (x:=(((((Qr tx7 tx8 tx2 Qkm).1).1,((Qr tx7 tx8 tx2 Qkm).1).2),((Qr tx7 tx8 tx2 Qkm).2.1,((Qr tx7 tx8 tx2 Qkm).2.2.1,(Qr tx7 tx8 tx2 Qkm).2.2.2))),((pkA 9 at_),(pkS code at_ sd 9)))) [(0,0),(1,24),(2,25),(3,26)] ?_ (Res.one rfl (QK rfl rfl Yj rfl)) rfl ⟨rfl,rfl,rfl,rfl,trivial⟩ rfl rfl
  (dsimp only; exact ⟨by decide+kernel,⟨by decide+kernel,by decide+kernel⟩,by omega⟩)
end Go.Proofs.YtfkmmpfdncopdaaGreat
