/- Walks over abstract states: two graphs as one, the reference; graphs compared. -/
import Derived.Test.YtjaadeknhofhpaaGreatDk
import Derived.Test.YtjaadeknhofhpaaGreatWb
import Derived.Test.YtjaadeknhofhpaaGreatWi
import Derived.Test.YtjaadeknhofhpaaGreatCi
import Derived.Test.YtjaadeknhofhpaaGreatCa
import Derived.Test.YtjaadeknhofhpaaGreatVc
set_option linter.unusedSimpArgs false
set_option linter.unusedVariables false
set_option linter.unusedSectionVars false
namespace Go.Proofs.YtjaadeknhofhpaaGreat
open Go.RowKit
set_option maxRecDepth 100000
set_option maxHeartbeats 4000000
def unN (a b:Xj):Xj:=(a.1+b.1,a.2++b.2.map (Qdv a.1))
def unL (n:Nat)(l:ZD):ZD:=if 0≤l.1 then (l.1+(n:Int),l.2) else l
def unS (a b:QX):QX:=(unN a.1 b.1,a.2.1++b.2.1,a.2.2.1++b.2.2.1.map (unL a.2.1.length),a.2.2.2++b.2.2.2)
theorem Qk7 {l:List Int}{hi:Int}(h:JX l hi):∀x∈l,0≤x∧x≤hi:=fun x hx=>by
  obtain ⟨k,hk⟩:=aS.1 hx
  exact (h k (au.1 hk).1 x hk).1
theorem QlN:∀{l:List Int} {hi:Int},JX l hi→ -1≤hi→(l.length:Int)≤hi+1:=fun {l hi} h h0=>by
  have hstep:∀(k:Nat) x,l[k]? =some x→(k:Int)≤x:=fun k=>by
    induction k with
    | zero=>intro x hx; exact (h 0 (au.1 hx).1 x hx).1.1
    | succ k ih=>
      intro x hx
      have h1:=(au.1 hx).1
      obtain ⟨y,hy⟩:∃y,l[k]? =some y:=⟨_,ap (by omega)⟩
      have h2:=ih y hy
      have h3:=(h (k+1) h1 x hx).2 k y rfl hy
      omega
  by_cases hl:l.length=0
  · omega
  · obtain ⟨x, hx⟩ : ∃ x, l[l.length - 1]? = some x := ⟨_, ap (by omega)⟩
    have h1:=hstep _ x hx
    have h2:=(h _ (au.1 hx).1 x hx).1.2
    omega
theorem VI {n:Xj}(h:Xv n):(1≤n.1∧n.1≤30)∧n.2.length≤24∧∀t∈n.2,(t.1.length≤30∧t.2.length≤30)∧(∀x∈t.1,0≤x∧x≤29)∧∀x∈t.2,0≤x∧x≤29:=by
  obtain ⟨h1,h2,h3⟩:=h
  refine ⟨h1,h2,fun t ht=> ?_⟩
  obtain ⟨_,k1,k2⟩:=h3 t ht
  have l1:=QlN k1 (by omega)
  have l2:=QlN k2 (by omega)
  exact ⟨⟨by omega,by omega⟩,fun x hx=>by have:=Qk7 k1 x hx; omega,fun x hx=>by have:=Qk7 k2 x hx; omega⟩
theorem Jo (l:List Int)(d:Int)(hl:l.length≤100000)(hb:∀x∈l, -9223372036854775808≤x+d∧x+d≤9223372036854775807):FC Tryz.prog 378 [(false,[.dat Qs l]),(false,[dI d])] [] 0 (Uz 3 .int (l.map fun x=>x+d)):=by
 refine QO Tryz.func378 rfl rfl Tryz.ntmps378 fun O_ hO w0_ N0_ X_ h0_ f0_=> ?_
 refine AC.fact (QC (x:= .tmp 1) (Qa rfl)) fun hi1=> ?_
 iterate 9 refine w_ ?_
 refine AL.fact (Qo (x:= .tmp 8) (Qa rfl)) fun hl2=> ?_
 iterate 4 refine w_ ?_
 refine AC.wk (Wk.nilS 0 5 3 .int rfl (Fresh.of rfl) (nlr rfl)) ?_
 refine Qu (fun m_ s_=>∃(k:Nat),k≤l.length∧m_=l.length - k∧s_=⟨[(1,lI d),(4,lf (.val (.slice none 0 0))),(5,lR 1),(8,lf (.dat Qs l)),(9,lI (l.length:Int)),(10,lI (k:Int))],[(1,some (.arr 3 .int ((l.take k).map fun x=>x+d)))]⟩) ⟨0,aw _,rfl,rfl⟩ ?_ ?_
 exact wp [(1,0)] ⟨(Qp (by simp)),trivial⟩
 rintro m_ s_ ⟨k,hk3,hm4,rfl⟩
 iterate 4 refine w_ ?_
 cases hb5:(decide ((k:Int) < (l.length:Int)))
 have hb5':=a7 hb5
 iterate 8 refine w_ ?_
 subst hO
 refine Z3 (e:= .int) (xs:=((l.take k).map fun x=>x+d)) (Qg rfl (Qd rfl)) rfl ?_
 ·(rw[ZF (by omega)]; done)
 have hb5':=a8 hb5
 iterate 5 refine w_ ?_
 obtain ⟨x6,hx7⟩:=gx l k
 have hbz:=hb _ (ai hx7)
 refine lc (Qh (Qa rfl) (Qa rfl) QN QL rfl (by omega) hx7) ?_
 refine w_ ?_
 refine AL.fact (QC (x:= .tmp 13) (Qa rfl)) fun hi8=> ?_
 iterate 7 refine w_ ?_
 refine lc (Qf 2 (e:= .int) QN QL Yu rfl ⟨_,_,rfl,(Qb rfl),rfl⟩ (ae.1 rfl) ⟨_,_,_,_,rfl,⟨rfl,rfl⟩,⟨rfl,rfl⟩,rfl⟩ (by decide) rfl rfl (Fresh.of rfl) (nlr rfl))<|lc (QH 3 (Qa rfl) rfl (Qa rfl) rfl rfl QN Wd (by first | omega | (simp only[aa,av,ab,ah,aj]; omega) | (simp only[aa,ay,ab,ah,aj]; omega)) rfl (Fresh.of rfl) (nlr rfl)) ?_
 refine w_ ?_
 refine Qm ?_
 iterate 4 refine w_ ?_
 refine Qm<|QV ⟨k+1,by omega,rfl,rfl⟩ (by omega) ?_
 exact wp [(1,3)] ⟨(Qp (by rw[Q0 hx7]; simp)),trivial⟩
theorem Uw (n:Xj)[Decidable (Xv n)]:FC Tryz.prog 170 [(true,leaves UD n)] [] 0 (Yj (lf (dB (decide (Xv n))))):=Qka fun gh w vs h=>by
  obtain ⟨us,rfl,hr⟩:=h.agg1
  have hl:=hr.len
  match us,hl with
  | [a0,a1],_=>exact (QdR a0 a1 n w hr).mono fun _ _ h=>Qdu h
theorem QsQ {n:Nat}{l:ZD}(h:Qa3 n l): -1≤l.1∧l.1≤(n:Int):=by
  unfold Qa3 at h; omega
theorem Qbo (a:Int×(List (List Int×List Int)))(b:Int×(List (List Int×List Int)))[∀s,Decidable (StgOk s)][∀s,Decidable (Xv s)](hz:Ty.tot UD a≤2000000):FC Tryz.prog 337 [(true,[dI a.1, .dat QZ a.2]),(true,[dI b.1, .dat QZ b.2])] [] 0 (Ex (fun x:Xj×Bool=>x.2=true→x.1=unN a b) (fun x:Xj×Bool=>PV.tup [(true,[dI x.1.1, .ref 0]),(false,[dB x.2])]) (fun x:Xj×Bool=>[(0,some (.arr 198 QS x.1.2))])):=by
 refine QO Tryz.func337 rfl rfl Tryz.ntmps337 fun O_ hO w0_ N0_ X_ h0_ f0_=> ?_
 refine AC.fact (QI (x:= .tmp 0) (i:=0) (Qb rfl) rfl) fun hi1=>AC.fact (QI (x:= .tmp 1) (i:=0) (Qb rfl) rfl) fun hi2=> ?_
 refine w_ ?_
 refine lc (Qy 0 (Qb rfl) rfl rfl (Fresh.of rfl) (nlr rfl))<|lc (Qy 1 (Qb rfl) rfl rfl (Fresh.of rfl) (nlr rfl))<|lc (Qj 2 Qii KS rfl rfl (Fresh.of rfl) (nlr rfl)) ?_
 iterate 5 refine w_ ?_
 refine lc (Ql (Uw a) QaH ⟨_,_,rfl,(Qb rfl),rfl⟩ rfl rfl) ?_
 iterate 2 refine w_ ?_
 cases hb3:(decide (Xv a))
 have hb3':=a7 hb3
 iterate 7 refine w_ ?_
 refine lc (QA Qb3 rfl (ae.1 rfl) rfl rfl)<|lc (Qc (Qa rfl) rfl (Qb rfl) rfl YD rfl) ?_
 iterate 2 refine w_ ?_
 refine AC.wk (QF 3 (p:=2) (off:=1) 198 QS rfl rfl (Fresh.of rfl) (nlr rfl))<|Q4 ?_
 subst hO
 refine ZU (x:=((0,[]),false)) [(0,3)] ?_ (QB rfl (QG rfl rfl YD rfl) (Qd rfl)) rfl ⟨rfl,trivial⟩ rfl rfl
 exact fun h=>absurd h (by decide)
 have hb3':=a8 hb3
 refine w_ ?_
 refine lgy rfl rfl (Ql (Uw b) QaH ⟨_,_,rfl,(Qb rfl),rfl⟩ rfl rfl) ?_
 iterate 3 refine w_ ?_
 cases hb4:(decide (Xv b))
 have hb4':=a7 hb4
 iterate 2 refine w_ ?_
 refine lc (QA Qb3 rfl (ae.1 rfl) rfl rfl)<|lc (Qc (Qa rfl) rfl (Qb rfl) rfl YD rfl) ?_
 iterate 2 refine w_ ?_
 refine AC.wk (QF 4 (p:=2) (off:=1) 198 QS rfl rfl (Fresh.of rfl) (nlr rfl))<|Q4 ?_
 subst hO
 refine ZU (x:=((0,[]),false)) [(0,4)] ?_ (QB rfl (QG rfl rfl YD rfl) (Qd rfl)) rfl ⟨rfl,trivial⟩ rfl rfl
 exact fun h=>absurd h (by decide)
 have hb4':=a8 hb4
 iterate 4 refine w_ ?_
 refine lc (Q8 5 (Jz a hz) Qd5 ⟨_,_,rfl,(Qb rfl),rfl⟩ rfl rfl ⟨Fresh.of rfl,trivial⟩ (nlr rfl))<|lc (Qj 6 Qii KS rfl rfl (Fresh.of rfl) (nlr rfl))<|lc (Qc (Qa rfl) rfl (Qb rfl) rfl YD rfl) ?_
 iterate 6 refine w_ ?_
 refine lc (Xb (Qa rfl) (Qa rfl) rfl (by first | omega | (have h1:=(VI ‹Xv a›).1; have h2:=(VI ‹Xv b›).1; omega))) ?_
 refine w_ ?_
 refine lc (Qc (Qa rfl) rfl (Qb rfl) rfl QL rfl) ?_
 iterate 5 refine w_ ?_
 refine AL.fact (Qo (x:= .tmp 27) (Qa rfl)) fun hl5=> ?_
 iterate 4 refine w_ ?_
 refine Qu (fun m_ s_=>∃(k:Nat),k≤b.2.length∧m_=b.2.length - k∧s_=⟨[(2,lP 0 0),(4,lP 2 0),(5,lB false),(6,lP 6 0),(27,lf (.dat QZ b.2)),(28,lI (b.2.length:Int)),(29,lI (k:Int))],[(0,some (.box 25 [dI a.1, .dat QZ a.2])),(2,some (.box 25 [dI 0, .val (.slice none 0 0)])),(6,some (.box 25 [dI (a.1+b.1), .ref 7])),(7,some (.arr 198 QS (a.2++(b.2.take k).map (Qdv a.1))))]⟩) ⟨0,aw _,rfl,rfl⟩ ?_ ?_
 exact wp [(0,0),(2,2),(6,6),(7,5)] ⟨rfl,rfl,rfl,(Qp (by simp)),trivial⟩
 rintro m_ s_ ⟨k,hk6,hm7,rfl⟩
 iterate 4 refine w_ ?_
 cases hb8:(decide ((k:Int) < (b.2.length:Int)))
 have hb8':=a7 hb8
 iterate 6 refine w_ ?_
 refine lc (Yv (Uw (a.1+b.1,a.2++(b.2.take k).map (Qdv a.1))) QaH ⟨_,_,rfl,(UM (Qb rfl) ⟨_,_,rfl, .inl rfl,⟨_,_,rfl, .inr ⟨_,_,_,_,rfl,rfl,rfl⟩,rfl⟩⟩),rfl⟩ rfl rfl rfl) ?_
 iterate 2 refine w_ ?_
 cases hb9:(decide (Xv (a.1+b.1,a.2++(b.2.take k).map (Qdv a.1))))
 have hb9':=a7 hb9
 iterate 2 refine w_ ?_
 refine lc (QA Qb3 rfl (ae.1 rfl) rfl rfl)<|lc (Qc (Qa rfl) rfl (Qb rfl) rfl YD rfl) ?_
 iterate 2 refine w_ ?_
 refine AC.wk (QF 8 (p:=2) (off:=1) 198 QS rfl rfl (Fresh.of rfl) (nlr rfl))<|Q4 ?_
 subst hO
 refine ZU (x:=((0,[]),false)) [(0,8)] ?_ (QB rfl (QG rfl rfl YD rfl) (Qd rfl)) rfl ⟨rfl,trivial⟩ rfl rfl
 exact fun h=>absurd h (by decide)
 have hb9':=a8 hb9
 iterate 4 refine w_ ?_
 refine lc (Qc (Qa rfl) rfl (Qb rfl) rfl YD rfl) ?_
 iterate 3 refine w_ ?_
 subst hO
 refine ZU (x:=((a.1+b.1,a.2++(b.2.take k).map (Qdv a.1)),true)) [(0,7)] ?_ (QB rfl (QG rfl rfl YD rfl) (Qd rfl)) rfl ⟨rfl,trivial⟩ rfl rfl
 (intro _; rw[ZF (by omega)]; rfl)
 have hb8':=a8 hb8
 iterate 5 refine w_ ?_
 obtain ⟨x10,hx11⟩:=gx b.2 k
 refine lc (Qh (Qa rfl) (Qa rfl) Zw Zn rfl (by omega) hx11) ?_
 refine w_ ?_
 refine lc (Qj 9 QS We rfl rfl (Fresh.of rfl) (nlr rfl))<|lc (Qc (Qa rfl) rfl (Qb rfl) rfl Zn rfl) ?_
 refine w_ ?_
 refine dv [io 33 (lP 6 1),io 34 (lR 7),io 35 (lP 9 0),io 36 (lf (.dat Qs x10.1)),io 37 (lP 0 0),io 38 (lI a.1),⟨some 39,lR 10,[(10,some (.arr 3 .int (x10.1.map fun x=>x+a.1)))]⟩,io 40 (lP 9 1),io 41 (lf (.dat Qs x10.2)),io 42 (lP 0 0),io 43 (lI a.1),⟨some 44,lR 11,[(11,some (.arr 3 .int (x10.2.map fun x=>x+a.1)))]⟩,io 45 (ag [.ref 10, .ref 11]),⟨some 46,lR 12,[(12,some (.arr 198 QS ([(x10.1.map fun x=>x+a.1,x10.2.map fun x=>x+a.1)]))),(10,none),(11,none)]⟩,⟨some 47,lR 13,[(13,some (.arr 198 QS ((a.2++(b.2.take k).map (Qdv a.1))++([(x10.1.map fun x=>x+a.1,x10.2.map fun x=>x+a.1)])))),(7,none),(12,none)]⟩,io 48 (lP 6 1),⟨none,lf (.val undef),[(6,some (.box 25 [dI (a.1+b.1), .ref 13]))]⟩] [0,1,0,4,0,16,60,0,128,0,512,2044,4092,8188,16383,32767,65535] mixed rfl (by kernel_rfl) ⟨dxf Zz rfl rfl rfl,dxl Yf rfl rfl rfl rfl rfl,dxf Z0 rfl rfl rfl,dxl QU rfl rfl rfl rfl rfl,dxf J2 rfl rfl rfl,dxl QL rfl rfl rfl rfl rfl,fun _ h_=>ac (YF 10 (Jo x10.1 a.1 (by have:=((VI ‹Xv b›).2.2 _ (ai hx11)).1; omega) (fun z hz_=>by have h1:=((VI ‹Xv b›).2.2 _ (ai hx11)).2.1 z hz_; have h2:=(VI ‹Xv a›).1; omega)) QdQ ⟨_,_,rfl,(h_.w rfl),⟨_,_,rfl,(h_.w rfl),rfl⟩⟩ rfl (h_.fr 10 rfl) (nlr rfl)) rfl,dxf YV rfl rfl rfl,dxl QU rfl rfl rfl rfl rfl,dxf J2 rfl rfl rfl,dxl QL rfl rfl rfl rfl rfl,fun _ h_=>ac (YF 11 (Jo x10.2 a.1 (by have:=((VI ‹Xv b›).2.2 _ (ai hx11)).1; omega) (fun z hz_=>by have h1:=((VI ‹Xv b›).2.2 _ (ai hx11)).2.2 z hz_; have h2:=(VI ‹Xv a›).1; omega)) QdQ ⟨_,_,rfl,(h_.w rfl),⟨_,_,rfl,(h_.w rfl),rfl⟩⟩ rfl (h_.fr 11 rfl) (nlr rfl)) rfl,fun _ h_=>ac (QA HA ⟨_,_,rfl,(h_.w rfl),⟨_,_,rfl,(h_.w rfl),rfl⟩⟩ (ae.1 (by simp only[ZB,X7,aQ,b8]; rw[(h_.en 10 rfl),(h_.en 11 rfl)]; rfl)) rfl rfl) rfl,fun _ h_=>ac (Qf 12 (e:=QS) Zw Zn We rfl ⟨_,_,rfl,(h_.w rfl),rfl⟩ (ae.1 (by simp only[ZB,X7,aQ,b8]; rw[(h_.en 10 rfl),(h_.en 11 rfl)]; rfl)) ⟨_,_,_,_,rfl,⟨[.ref 10],[.ref 11],_,_,_,_,rfl,rfl,(.inl ⟨_,rfl,(h_.en 10 rfl),rfl⟩),(.inl ⟨_,rfl,(h_.en 11 rfl),rfl⟩),rfl⟩,⟨rfl,rfl⟩,rfl⟩ (by decide) rfl rfl (h_.fr 12 rfl) (nlr rfl)) rfl,fun _ h_=>ac (QH 13 (h_.v rfl) (h_.en 7 rfl) (h_.v rfl) (h_.en 12 rfl) rfl Zw HD (by (have h1:=(VI ‹Xv a›).2.1; have h2:=(VI ‹Xv b›).2.1; simp only[aa,av,ab,ah,aj]; omega)) rfl (h_.fr 13 rfl) (nlr rfl)) rfl,dxf Zz rfl rfl rfl,fun _ h_=>ac (Qc (h_.v rfl) (h_.en 6 rfl) (h_.w rfl) (by simp only[ZB,X7,aQ,b8]; rw[(h_.en 13 rfl)]; rfl) Yf rfl) rfl,⟨⟩⟩ ?_
 iterate 2 refine w_ ?_
 refine lc (Xb (Qa rfl) (Qv rfl) rfl (by first | omega | (have h1:=(VI ‹Xv a›).1; have h2:=(VI ‹Xv b›).1; omega))) ?_
 refine w_ ?_
 refine Qm<|QV ⟨k+1,by omega,rfl,rfl⟩ (by omega) ?_
 exact wp [(0,0),(2,2),(6,6),(7,13)] ⟨rfl,rfl,rfl,(Qp (by rw[Q0 hx11]; simp[Qdv])),trivial⟩
theorem QaY (a:(Int×(List (List Int×List Int)))×(List (ByteArray×Int))×(List (Int×Bool))×ByteArray)(b:(Int×(List (List Int×List Int)))×(List (ByteArray×Int))×(List (Int×Bool))×ByteArray)[∀s,Decidable (StgOk s)][∀s,Decidable (Xv s)](hz:Ty.tot ZC a≤2000000)(hzb:Ty.tot ZC b≤2000000):FC Tryz.prog 260 [(true,[dI a.1.1, .dat QZ a.1.2, .dat QJ a.2.1, .dat QR a.2.2.1,dS a.2.2.2]),(true,[dI b.1.1, .dat QZ b.1.2, .dat QJ b.2.1, .dat QR b.2.2.1,dS b.2.2.2])] [] 0 (Ex (fun x:QX×Bool=>x.2=true→x.1=unS a b) (fun x:QX×Bool=>PV.tup [(true,[dI x.1.1.1, .ref 0, .ref 1, .ref 2,dS x.1.2.2.2]),(false,[dB x.2])]) (fun x:QX×Bool=>[(0,some (.arr 198 QS x.1.1.2)),(1,some (.arr 90 QY x.1.2.1)),(2,some (.arr 55 Q5 x.1.2.2.1))])):=by
 obtain ⟨hz1,hz2,hz3⟩:=KF hz
 obtain ⟨hy1,hy2,hy3⟩:=KF hzb
 refine QO Tryz.func260 rfl rfl Tryz.ntmps260 fun O_ hO w0_ N0_ X_ h0_ f0_=> ?_
 refine AC.fact (QI (x:= .tmp 0) (i:=0) (Qb rfl) rfl) fun hi1=>AC.fact (QI (x:= .tmp 1) (i:=0) (Qb rfl) rfl) fun hi2=> ?_
 refine w_ ?_
 refine lc (Qy 0 (Qb rfl) rfl rfl (Fresh.of rfl) (nlr rfl))<|lc (Qy 1 (Qb rfl) rfl rfl (Fresh.of rfl) (nlr rfl))<|lc (Qj 2 Xr ZE rfl rfl (Fresh.of rfl) (nlr rfl)) ?_
 iterate 7 refine w_ ?_
 refine Y9 3 [] (Qbo a.1 b.1 hz1) Qj6 ⟨_,_,rfl,(Qb rfl),⟨_,_,rfl,(Qb rfl),rfl⟩⟩ trivial rfl (fun _=>rfl) (fun _=>⟨(Fresh.of rfl),trivial⟩) (nlr rfl) fun x3 hx4=> ?_
 iterate 3 refine w_ ?_
 refine lc (Qj 4 Qii KS rfl rfl (Fresh.of rfl) (nlr rfl))<|lc (Qc (Qa rfl) rfl (Qb rfl) rfl YD rfl) ?_
 iterate 7 refine w_ ?_
 cases hb5:(x3.2)
 iterate 12 refine w_ ?_
 refine lc (QA YS rfl (ae.1 rfl) rfl rfl)<|lc (Qc (Qa rfl) rfl (Qb rfl) rfl Qz rfl) ?_
 iterate 2 refine w_ ?_
 refine AC.wk (QF 5 (p:=2) (off:=1) 198 QS rfl rfl (Fresh.of rfl) (nlr rfl))<|AC.wk (QF 6 (p:=2) (off:=2) 90 QY rfl rfl (Fresh.of rfl) (nlr rfl))<|AC.wk (QF 7 (p:=2) (off:=3) 55 Q5 rfl rfl (Fresh.of rfl) (nlr rfl))<|Q4 ?_
 subst hO
 refine ZU (x:=(((0,[]),([],([],ByteArray.empty))),false)) [(0,5),(1,6),(2,7)] ?_ (QB rfl (QG rfl rfl Qz rfl) (Qd rfl)) rfl ⟨rfl,rfl,rfl,trivial⟩ rfl rfl
 exact fun h=>absurd h (by decide)
 refine w_ ?_
 refine lgy rfl rfl (Ql (Yi a) X3 ⟨_,_,rfl,(Qb rfl),rfl⟩ rfl rfl) ?_
 iterate 3 refine w_ ?_
 cases hb6:(decide (StgOk a))
 have hb6':=a7 hb6
 iterate 7 refine w_ ?_
 refine lc (QA YS rfl (ae.1 rfl) rfl rfl)<|lc (Qc (Qa rfl) rfl (Qb rfl) rfl Qz rfl) ?_
 iterate 2 refine w_ ?_
 refine AC.wk (QF 8 (p:=2) (off:=1) 198 QS rfl rfl (Fresh.of rfl) (nlr rfl))<|AC.wk (QF 9 (p:=2) (off:=2) 90 QY rfl rfl (Fresh.of rfl) (nlr rfl))<|AC.wk (QF 10 (p:=2) (off:=3) 55 Q5 rfl rfl (Fresh.of rfl) (nlr rfl))<|Q4 ?_
 subst hO
 refine ZU (x:=(((0,[]),([],([],ByteArray.empty))),false)) [(0,8),(1,9),(2,10)] ?_ (QB rfl (QG rfl rfl Qz rfl) (Qd rfl)) rfl ⟨rfl,rfl,rfl,trivial⟩ rfl rfl
 exact fun h=>absurd h (by decide)
 have hb6':=a8 hb6
 refine w_ ?_
 refine lgy rfl rfl (Ql (Yi b) X3 ⟨_,_,rfl,(Qb rfl),rfl⟩ rfl rfl) ?_
 iterate 3 refine w_ ?_
 cases hb7:(decide (StgOk b))
 have hb7':=a7 hb7
 iterate 2 refine w_ ?_
 refine lc (QA YS rfl (ae.1 rfl) rfl rfl)<|lc (Qc (Qa rfl) rfl (Qb rfl) rfl Qz rfl) ?_
 iterate 2 refine w_ ?_
 refine AC.wk (QF 11 (p:=2) (off:=1) 198 QS rfl rfl (Fresh.of rfl) (nlr rfl))<|AC.wk (QF 12 (p:=2) (off:=2) 90 QY rfl rfl (Fresh.of rfl) (nlr rfl))<|AC.wk (QF 13 (p:=2) (off:=3) 55 Q5 rfl rfl (Fresh.of rfl) (nlr rfl))<|Q4 ?_
 subst hO
 refine ZU (x:=(((0,[]),([],([],ByteArray.empty))),false)) [(0,11),(1,12),(2,13)] ?_ (QB rfl (QG rfl rfl Qz rfl) (Qd rfl)) rfl ⟨rfl,rfl,rfl,trivial⟩ rfl rfl
 exact fun h=>absurd h (by decide)
 have hb7':=a8 hb7
 iterate 2 refine w_ ?_
 refine dw [io 32 (ag [dI x3.1.1, .ref 3]),⟨some 33,lR 14,[(14,some (.arr 90 QY ([])))]⟩,io 34 (lP 0 2),io 35 (lf (.dat QJ a.2.1)),⟨some 36,lR 15,[(15,some (.arr 90 QY (([])++a.2.1))),(14,none)]⟩,io 37 (lP 1 2),io 38 (lf (.dat QJ b.2.1)),⟨some 39,lR 16,[(16,some (.arr 90 QY ((([])++a.2.1)++b.2.1))),(15,none)]⟩,⟨some 40,lR 17,[(17,some (.arr 55 Q5 ([])))]⟩,io 41 (lP 0 3),io 42 (lf (.dat QR a.2.2.1)),⟨some 43,lR 18,[(18,some (.arr 55 Q5 (([])++a.2.2.1))),(17,none)]⟩,io 44 (lP 0 4),io 45 (lf (dS a.2.2.2)),io 46 (lP 1 4),io 47 (lf (dS b.2.2.2)),io 48 (lf (dS (a.2.2.2++b.2.2.2))),io 49 (ag [dI x3.1.1, .ref 3, .ref 16, .ref 18,dS (a.2.2.2++b.2.2.2)]),⟨some 8,lP 19 0,[(19,some (.box 29 [dI 0, .val (.slice none 0 0), .val (.slice none 0 0), .val (.slice none 0 0),dS ByteArray.empty]))]⟩,⟨none,lf (.val undef),[(19,some (.box 29 [dI x3.1.1, .ref 3, .ref 16, .ref 18,dS (a.2.2.2++b.2.2.2)]))]⟩] [0,0,0,4,14,0,32,126,0,0,512,2046,0,4096,0,16384,61440,131071,0,524287] mixed rfl (by kernel_rfl) ⟨dxa YD rfl rfl rfl rfl,fun _ h_=>ac (Qf 14 (e:=QY) YE YJ UZ rfl rfl (ae.1 rfl) ⟨rfl,rfl⟩ (by decide) rfl rfl (h_.fr 14 rfl) (nlr rfl)) rfl,dxf XH rfl rfl rfl,dxl Ub rfl rfl rfl rfl rfl,fun _ h_=>ac (Zp 15 (h_.v rfl) (h_.en 14 rfl) (Evl.rep (h_.v rfl)) rfl YE QaO (by (simp only[aa,av,ab,ah,aj]; omega)) rfl (h_.fr 15 rfl) (nlr rfl)) rfl,dxf XH rfl rfl rfl,dxl Ub rfl rfl rfl rfl rfl,fun _ h_=>ac (Zp 16 (h_.v rfl) (h_.en 15 rfl) (Evl.rep (h_.v rfl)) rfl YE QaO (by (simp only[aa,av,ab,ah,aj]; omega)) rfl (h_.fr 16 rfl) (nlr rfl)) rfl,fun _ h_=>ac (Qf 17 (e:=Q5) Yq ZO WF rfl rfl (ae.1 rfl) ⟨rfl,rfl⟩ (by decide) rfl rfl (h_.fr 17 rfl) (nlr rfl)) rfl,dxf XP rfl rfl rfl,dxl WK rfl rfl rfl rfl rfl,fun _ h_=>ac (Zp 18 (h_.v rfl) (h_.en 17 rfl) (Evl.rep (h_.v rfl)) rfl Yq QaU (by (simp only[aa,av,ab,ah,aj]; omega)) rfl (h_.fr 18 rfl) (nlr rfl)) rfl,dxf XQ rfl rfl rfl,dxl Zg rfl rfl rfl rfl rfl,dxf XQ rfl rfl rfl,dxl Zg rfl rfl rfl rfl rfl,fun _ h_=>ac (Z9 (h_.v rfl) (h_.v rfl) rfl (by (have h1:=HQ hz; have h2:=HQ hzb; omega))) rfl,fun _ h_=>ac (QA YS ⟨_,_,rfl,(h_.w rfl),⟨_,_,rfl,(h_.w rfl),⟨_,_,rfl,(h_.w rfl),⟨_,_,rfl,(h_.w rfl),rfl⟩⟩⟩⟩ (ae.1 (by simp only[ZB,X7,aQ,b8]; rw[(h_.en 3 rfl),(h_.en 16 rfl),(h_.en 18 rfl)]; rfl)) rfl rfl) rfl,fun _ h_=>ac (Qj 19 Xr ZE rfl rfl (h_.fr 19 rfl) (nlr rfl)) rfl,fun _ h_=>ac (Qc (h_.v rfl) (h_.en 19 rfl) (h_.w rfl) (by simp only[ZB,X7,aQ,b8]; rw[(h_.en 3 rfl),(h_.en 16 rfl),(h_.en 18 rfl)]; rfl) Qz rfl) rfl,⟨⟩⟩ ?_
 iterate 4 refine w_ ?_
 refine AL.fact (Qo (x:= .tmp 51) (Qa rfl)) fun hl8=> ?_
 iterate 4 refine w_ ?_
 refine Qu (fun m_ s_=>∃(k:Nat),k≤b.2.2.1.length∧m_=b.2.2.1.length - k∧s_=⟨[(2,lP 0 0),(4,lP 2 0),(5,lB false),(8,lP 19 0),(51,lf (.dat QR b.2.2.1)),(52,lI (b.2.2.1.length:Int)),(53,lI (k:Int))],[(0,some (.box 29 [dI a.1.1, .dat QZ a.1.2, .dat QJ a.2.1, .dat QR a.2.2.1,dS a.2.2.2])),(2,some (.box 29 [dI 0, .val (.slice none 0 0), .val (.slice none 0 0), .val (.slice none 0 0),dS ByteArray.empty])),(3,some (.arr 198 QS x3.1.2)),(16,some (.arr 90 QY ((([])++a.2.1)++b.2.1))),(19,some (.box 29 [dI x3.1.1, .ref 3, .ref 16, .ref 20,dS (a.2.2.2++b.2.2.2)])),(20,some (.arr 55 Q5 (a.2.2.1++(b.2.2.1.take k).map (unL a.2.1.length))))]⟩) ⟨0,aw _,rfl,rfl⟩ ?_ ?_
 exact wp [(0,0),(2,2),(3,3),(16,16),(19,19),(20,18)] ⟨rfl,rfl,rfl,rfl,rfl,(Qp (by simp)),trivial⟩
 rintro m_ s_ ⟨k,hk9,hm10,rfl⟩
 iterate 4 refine w_ ?_
 cases hb11:(decide ((k:Int) < (b.2.2.1.length:Int)))
 have hb11':=a7 hb11
 iterate 6 refine w_ ?_
 refine lc (Yv (Yi (x3.1,(([])++a.2.1)++b.2.1,a.2.2.1++(b.2.2.1.take k).map (unL a.2.1.length),a.2.2.2++b.2.2.2)) X3 ⟨_,_,rfl,(UM (Qb rfl) ⟨_,_,rfl, .inl rfl,⟨_,_,rfl, .inr ⟨_,_,_,_,rfl,rfl,rfl⟩,⟨_,_,rfl, .inr ⟨_,_,_,_,rfl,rfl,rfl⟩,⟨_,_,rfl, .inr ⟨_,_,_,_,rfl,rfl,rfl⟩,⟨_,_,rfl, .inl rfl,rfl⟩⟩⟩⟩⟩),rfl⟩ rfl rfl rfl) ?_
 iterate 2 refine w_ ?_
 cases hb12:(decide (StgOk (x3.1,(([])++a.2.1)++b.2.1,a.2.2.1++(b.2.2.1.take k).map (unL a.2.1.length),a.2.2.2++b.2.2.2)))
 have hb12':=a7 hb12
 iterate 2 refine w_ ?_
 refine lc (QA YS rfl (ae.1 rfl) rfl rfl)<|lc (Qc (Qa rfl) rfl (Qb rfl) rfl Qz rfl) ?_
 iterate 2 refine w_ ?_
 refine AC.wk (QF 21 (p:=2) (off:=1) 198 QS rfl rfl (Fresh.of rfl) (nlr rfl))<|AC.wk (QF 22 (p:=2) (off:=2) 90 QY rfl rfl (Fresh.of rfl) (nlr rfl))<|AC.wk (QF 23 (p:=2) (off:=3) 55 Q5 rfl rfl (Fresh.of rfl) (nlr rfl))<|Q4 ?_
 subst hO
 refine ZU (x:=(((0,[]),([],([],ByteArray.empty))),false)) [(0,21),(1,22),(2,23)] ?_ (QB rfl (QG rfl rfl Qz rfl) (Qd rfl)) rfl ⟨rfl,rfl,rfl,trivial⟩ rfl rfl
 exact fun h=>absurd h (by decide)
 have hb12':=a8 hb12
 iterate 4 refine w_ ?_
 refine lc (Qc (Qa rfl) rfl (Qb rfl) rfl Qz rfl) ?_
 iterate 3 refine w_ ?_
 subst hO
 refine ZU (x:=(((x3.1.1,x3.1.2),((([])++a.2.1)++b.2.1,(a.2.2.1++(b.2.2.1.take k).map (unL a.2.1.length),a.2.2.2++b.2.2.2))),true)) [(0,3),(1,16),(2,20)] ?_ (QB rfl (QG rfl rfl Qz rfl) (Qd rfl)) rfl ⟨rfl,rfl,rfl,trivial⟩ rfl rfl
 ·(intro _; rw[ZF (by omega)]; simp_all [unS]; done)
 have hb11':=a8 hb11
 iterate 5 refine w_ ?_
 obtain ⟨x13,hx14⟩:=gx b.2.2.1 k
 have hlb:=QsQ (StgOk.labs ‹StgOk b› _ (ai hx14))
 refine lc (Qh (Qa rfl) (Qa rfl) Yq ZO rfl (by omega) hx14) ?_
 refine w_ ?_
 refine lc (Qj 24 Q5 WF rfl rfl (Fresh.of rfl) (nlr rfl))<|lc (Qc (Qa rfl) rfl (Qb rfl) rfl ZO rfl) ?_
 iterate 5 refine w_ ?_
 refine AL.fact (QC (x:= .tmp 58) (Qa rfl)) fun hi15=> ?_
 iterate 2 refine w_ ?_
 cases hb16:(decide (0≤x13.1))
 have hb16':=a7 hb16
 iterate 6 refine w_ ?_
 refine lc (Qf 25 (e:=Q5) Yq ZO WF rfl ⟨_,_,rfl,(Qb rfl),rfl⟩ (ae.1 rfl) ⟨_,_,_,_,rfl,⟨[dI x13.1],[dB x13.2],_,_,_,_,rfl,rfl,⟨rfl,rfl⟩,⟨rfl,rfl⟩,rfl⟩,⟨rfl,rfl⟩,rfl⟩ (by decide) rfl rfl (Fresh.of rfl) (nlr rfl))<|lc (QH 26 (Qa rfl) rfl (Qa rfl) rfl rfl Yq QaU (by (simp only[aa,av,ab,ah,aj]; omega)) rfl (Fresh.of rfl) (nlr rfl)) ?_
 refine w_ ?_
 refine lc (Qc (Qa rfl) rfl (Qb rfl) rfl WK rfl)<|Qm ?_
 iterate 4 refine w_ ?_
 refine Qm<|QV ⟨k+1,by omega,rfl,rfl⟩ (by omega) ?_
 exact wp [(0,0),(2,2),(3,3),(16,16),(19,19),(20,26)] ⟨rfl,rfl,rfl,rfl,rfl,(Qp (by rw[Q0 hx14]; simp[unL, *])),trivial⟩
 have hb16':=a8 hb16
 iterate 6 refine w_ ?_
 refine AL.fact (Qo (x:= .tmp 63) (Qa rfl)) fun hl17=> ?_
 iterate 3 refine w_ ?_
 refine lc (Qc (Qa rfl) rfl (Qb rfl) rfl QL rfl) ?_
 iterate 5 refine w_ ?_
 refine lc (Qf 27 (e:=Q5) Yq ZO WF rfl ⟨_,_,rfl,(Qb rfl),rfl⟩ (ae.1 rfl) ⟨_,_,_,_,rfl,⟨[dI (x13.1+(a.2.1.length:Int))],[dB x13.2],_,_,_,_,rfl,rfl,⟨rfl,rfl⟩,⟨rfl,rfl⟩,rfl⟩,⟨rfl,rfl⟩,rfl⟩ (by decide) rfl rfl (Fresh.of rfl) (nlr rfl))<|lc (QH 28 (Qa rfl) rfl (Qa rfl) rfl rfl Yq QaU (by (simp only[aa,av,ab,ah,aj]; omega)) rfl (Fresh.of rfl) (nlr rfl)) ?_
 refine w_ ?_
 refine lc (Qc (Qa rfl) rfl (Qb rfl) rfl WK rfl)<|Qm ?_
 iterate 4 refine w_ ?_
 refine Qm<|QV ⟨k+1,by omega,rfl,rfl⟩ (by omega) ?_
 exact wp [(0,0),(2,2),(3,3),(16,16),(19,19),(20,28)] ⟨rfl,rfl,rfl,rfl,rfl,(Qp (by rw[Q0 hx14]; simp[unL, *])),trivial⟩
end Go.Proofs.YtjaadeknhofhpaaGreat
namespace Go.Proofs.YtjaadeknhofhpaaGreat
open Go.RowKit
set_option maxRecDepth 100000
set_option maxHeartbeats 4000000
theorem Qmp (n:Int): -9223372036854775808≤IntKind.i64.wrap n∧IntKind.i64.wrap n≤9223372036854775807:=by
  simp only[IntKind.wrap,IntKind.bits,IntKind.signed]
  simp
  split <;> omega
theorem QmY {A:Amb}{P:Program}{s:St}{x y:Operand}{d:Nat}{T T' ty:TypeId}{pos:String}{af:Array Edge}{g:Option (Nat×Bool)}{m n:Int}(hx:Evl A s x (dI m))(hy:Evl A s y (dI n))(hn:Nat.blt d A.n=true):Does A P ⟨some d, .binOp .add T x y T',ty,pos,af,g⟩ s (s.put d (lf (dI (IntKind.i64.wrap (m+n))))):=
  Qr rfl hn fun gh a w r=>⟨.int .i64 (IntKind.i64.wrap (m+n)),by
    have h1:=hx.i r
    have h2:=hy.i r
    simp only[execOp,h1,h2,eqGuard_at_int,binOp,Op.intArith]
    simp,_,rfl,Y3 (Qmp _)⟩
theorem Qbe (a:Int×(List (List Int×List Int)))(b:Int×(List (List Int×List Int)))(h:a=b):FC Tryz.prog 82 [(true,[dI a.1, .dat QZ a.2]),(true,[dI b.1, .dat QZ b.2])] [] 0 (Yj (lB true)):=by
 have hlx:a.2.length=b.2.length:=by rw[h]
 refine QO Tryz.func82 rfl rfl Tryz.ntmps82 fun O_ hO w0_ N0_ X_ h0_ f0_=> ?_
 refine AC.fact (QI (x:= .tmp 0) (i:=0) (Qb rfl) rfl) fun hi1=>AC.fact (QI (x:= .tmp 1) (i:=0) (Qb rfl) rfl) fun hi2=> ?_
 refine w_ ?_
 refine lc (Qy 0 (Qb rfl) rfl rfl (Fresh.of rfl) (nlr rfl))<|lc (Qy 1 (Qb rfl) rfl rfl (Fresh.of rfl) (nlr rfl)) ?_
 iterate 10 refine w_ ?_
 cases hb3:(!decide (a.1=b.1))
 have hb3':(a.1=b.1):=Zm hb3
 iterate 2 refine w_ ?_
 refine AL.fact (Qo (x:= .tmp 13) (Qa rfl)) fun hl4=> ?_
 iterate 3 refine w_ ?_
 refine AL.fact (Qo (x:= .tmp 16) (Qa rfl)) fun hl5=> ?_
 iterate 4 refine w_ ?_
 cases hb6:(!decide ((a.2.length:Int)=(b.2.length:Int)))
 have hb6':((a.2.length:Int)=(b.2.length:Int)):=Zm hb6
 iterate 6 refine w_ ?_
 refine AL.fact (Qo (x:= .tmp 21) (Qa rfl)) fun hl7=> ?_
 iterate 4 refine w_ ?_
 refine Qu (fun m_ s_=>∃(k:Nat),k≤a.2.length∧m_=a.2.length - k∧s_=⟨[(2,lP 0 0),(3,lP 1 0),(22,lI (a.2.length:Int)),(23,lI (k:Int))],[(0,some (.box 25 [dI a.1, .dat QZ a.2])),(1,some (.box 25 [dI b.1, .dat QZ b.2]))]⟩) ⟨0,aw _,rfl,rfl⟩ ?_ ?_
 exact wo [(0,0),(1,1)]
 rintro m_ s_ ⟨k,hk8,hm9,rfl⟩
 iterate 4 refine w_ ?_
 cases hb10:(decide ((k:Int) < (a.2.length:Int)))
 have hb10':=a7 hb10
 iterate 7 refine w_ ?_
 subst hO
 exact Qi (Qg rfl (Qd rfl)) rfl rfl
 have hb10':=a8 hb10
 iterate 8 refine w_ ?_
 obtain ⟨x11,hx12⟩:=gx a.2 k
 obtain ⟨x13,hx14⟩:=gx b.2 k
 cases hb15:(decide (x11.1=x13.1))
 have hb15':=a7 hb15
 refine dw [io 26 (lP 0 1),io 27 (lf (.dat QZ a.2)),io 28 (lI (k:Int)),io 29 (lf (.elt QS x11 0)),io 30 (lf (.elt QS x11 0)),io 31 (lf (.dat Qs x11.1)),io 32 (lP 1 1),io 33 (lf (.dat QZ b.2)),io 34 (lI (k:Int)),io 35 (lf (.elt QS x13 0)),io 36 (lf (.elt QS x13 0)),io 37 (lf (.dat Qs x13.1)),io 38 (lB false),io 39 (lB true),io 40 (lB true),iu 41,iu 42,iu 43,iu 44,iu 45,iu 46,iu 47,iu 48,iu 49,iu 50,iu 51,iu 52,iu 53,iu 54,io 55 (lB true)] [0,1,0,7,15,31,0,64,0,448,960,1984,4095,8191,16383,32767,65535,32767,262143,524287,1048575,32767,2129919,32767,14712831,31490047,65044479,134217727,268435455,536870911] mixed rfl (by kernel_rfl) ⟨dxf Zz rfl rfl rfl,dxl Yf rfl rfl rfl rfl rfl,dxm rfl rfl,fun _ h_=>ac (Qh (h_.v rfl) (h_.v rfl) Zw Zn rfl (by omega) hx12) rfl,fun _ h_=>ac (Yp (h_.v rfl) Z0 rfl) rfl,fun _ h_=>ac (Q3 (h_.v rfl) QU rfl rfl) rfl,dxf Zz rfl rfl rfl,dxl Yf rfl rfl rfl rfl rfl,dxm rfl rfl,fun _ h_=>ac (Qh (h_.v rfl) (h_.v rfl) Zw Zn rfl (by omega) hx14) rfl,fun _ h_=>ac (Yp (h_.v rfl) Z0 rfl) rfl,fun _ h_=>ac (Q3 (h_.v rfl) QU rfl rfl) rfl,fun _ h_=>ac (KK (hb15) (Ql (Xa x11.1 x13.1) W6 ⟨_,_,rfl,(h_.w rfl),⟨_,_,rfl,(h_.w rfl),rfl⟩⟩ rfl rfl)) rfl,fun _ h_=>ac (WD (h_.v rfl) rfl) rfl,dxm rfl rfl,dxo rfl rfl rfl,dxo rfl rfl rfl,dxo rfl rfl rfl,dxo rfl rfl rfl,dxo rfl rfl rfl,dxo rfl rfl rfl,dxo rfl rfl rfl,dxo rfl rfl rfl,dxo rfl rfl rfl,dxo rfl rfl rfl,dxo rfl rfl rfl,dxo rfl rfl rfl,dxo rfl rfl rfl,dxo rfl rfl rfl,fun _ h_=>ac (KR (h_.v rfl) (Evl.ev Xh) rfl) rfl,⟨⟩⟩ ?_
 iterate 5 refine w_ ?_
 subst hO
 have e16:(false:Bool)=true:=by
  (exfalso; subst h; simp_all; done)
 exact Qi (Qg rfl (Qd rfl)) (by rw[← e16] <;> rfl) rfl
 have hb15':=a8 hb15
 refine dw [io 26 (lP 0 1),io 27 (lf (.dat QZ a.2)),io 28 (lI (k:Int)),io 29 (lf (.elt QS x11 0)),io 30 (lf (.elt QS x11 0)),io 31 (lf (.dat Qs x11.1)),io 32 (lP 1 1),io 33 (lf (.dat QZ b.2)),io 34 (lI (k:Int)),io 35 (lf (.elt QS x13 0)),io 36 (lf (.elt QS x13 0)),io 37 (lf (.dat Qs x13.1)),io 38 (lB true),io 39 (lB false),io 40 (lB false),io 41 (lP 0 1),io 42 (lf (.dat QZ a.2)),io 43 (lI (k:Int)),io 44 (lf (.elt QS x11 0)),io 45 (lf (.elt QS x11 1)),io 46 (lf (.dat Qs x11.2)),io 47 (lP 1 1),io 48 (lf (.dat QZ b.2)),io 49 (lI (k:Int)),io 50 (lf (.elt QS x13 0)),io 51 (lf (.elt QS x13 1)),io 52 (lf (.dat Qs x13.2)),io 53 (lB (decide (x11.2=x13.2))),io 54 (lB (!(decide (x11.2=x13.2)))),io 55 (lB (!(decide (x11.2=x13.2))))] [0,1,0,7,15,31,0,64,0,448,960,1984,4095,8191,16383,32767,65535,32767,262143,524287,1048575,32767,2129919,32767,14712831,31490047,65044479,134217727,268435455,536870911] mixed rfl (by kernel_rfl) ⟨dxf Zz rfl rfl rfl,dxl Yf rfl rfl rfl rfl rfl,dxm rfl rfl,fun _ h_=>ac (Qh (h_.v rfl) (h_.v rfl) Zw Zn rfl (by omega) hx12) rfl,fun _ h_=>ac (Yp (h_.v rfl) Z0 rfl) rfl,fun _ h_=>ac (Q3 (h_.v rfl) QU rfl rfl) rfl,dxf Zz rfl rfl rfl,dxl Yf rfl rfl rfl rfl rfl,dxm rfl rfl,fun _ h_=>ac (Qh (h_.v rfl) (h_.v rfl) Zw Zn rfl (by omega) hx14) rfl,fun _ h_=>ac (Yp (h_.v rfl) Z0 rfl) rfl,fun _ h_=>ac (Q3 (h_.v rfl) QU rfl rfl) rfl,fun _ h_=>ac (KK (hb15) (Ql (Xa x11.1 x13.1) W6 ⟨_,_,rfl,(h_.w rfl),⟨_,_,rfl,(h_.w rfl),rfl⟩⟩ rfl rfl)) rfl,fun _ h_=>ac (WD (h_.v rfl) rfl) rfl,dxm rfl rfl,fun _ h_=>day rfl (h_.k rfl) (Xl (h_.v rfl) Zz (by rw[(h_.en 0 rfl)]; rfl) rfl) rfl,fun _ h_=>day rfl (h_.k rfl) (Vi (h_.v rfl) (h_.n 0 rfl) Yf rfl rfl) rfl,fun _ h_=>day rfl (h_.k rfl) (X4 (h_.k rfl) rfl) rfl,fun _ h_=>day rfl (h_.k rfl) (Qh (h_.v rfl) (h_.v rfl) Zw Zn rfl (by omega) hx12) rfl,fun _ h_=>day rfl (h_.k rfl) (Yp (h_.v rfl) YV rfl) rfl,fun _ h_=>day rfl (h_.k rfl) (Q3 (h_.v rfl) QU rfl rfl) rfl,fun _ h_=>day rfl (h_.k rfl) (Xl (h_.v rfl) Zz (by rw[(h_.en 1 rfl)]; rfl) rfl) rfl,fun _ h_=>day rfl (h_.k rfl) (Vi (h_.v rfl) (h_.n 1 rfl) Yf rfl rfl) rfl,fun _ h_=>day rfl (h_.k rfl) (X4 (h_.k rfl) rfl) rfl,fun _ h_=>day rfl (h_.k rfl) (Qh (h_.v rfl) (h_.v rfl) Zw Zn rfl (by omega) hx14) rfl,fun _ h_=>day rfl (h_.k rfl) (Yp (h_.v rfl) YV rfl) rfl,fun _ h_=>day rfl (h_.k rfl) (Q3 (h_.v rfl) QU rfl rfl) rfl,fun _ h_=>day rfl (h_.k rfl) (Ql (Xa x11.2 x13.2) W6 ⟨_,_,rfl,(h_.w rfl),⟨_,_,rfl,(h_.w rfl),rfl⟩⟩ rfl rfl) rfl,fun _ h_=>day rfl (h_.k rfl) (WD (h_.v rfl) rfl) rfl,fun _ h_=>ac (K9 (h_.v rfl) (h_.w rfl) rfl) rfl,⟨⟩⟩ ?_
 cases hb17:(decide (x11.2=x13.2))
 have hb17':=a7 hb17
 iterate 5 refine w_ ?_
 subst hO
 have e18:(false:Bool)=true:=by
  (exfalso; subst h; simp_all; done)
 exact Qi (Qg rfl (Qd rfl)) (by rw[← e18] <;> rfl) rfl
 have hb17':=a8 hb17
 iterate 6 refine w_ ?_
 refine Qm<|QV ⟨k+1,by omega,rfl,rfl⟩ (by omega) ?_
 exact wo [(0,0),(1,1)]
 have hb6':¬((a.2.length:Int)=(b.2.length:Int)):=Zx hb6
 iterate 5 refine w_ ?_
 subst hO
 have e19:(false:Bool)=true:=by
  (exfalso; subst h; simp_all; done)
 exact Qi (Qg rfl (Qd rfl)) (by rw[← e19] <;> rfl) rfl
 have hb3':¬(a.1=b.1):=Zx hb3
 iterate 14 refine w_ ?_
 subst hO
 have e20:(false:Bool)=true:=by
  (exfalso; subst h; simp_all; done)
 exact Qi (Qg rfl (Qd rfl)) (by rw[← e20] <;> rfl) rfl
theorem KD (a:(Int×(List (List Int×List Int)))×(List (ByteArray×Int))×(List (Int×Bool))×ByteArray)(b:(Int×(List (List Int×List Int)))×(List (ByteArray×Int))×(List (Int×Bool))×ByteArray)(h:a=b):FC Tryz.prog 18 [(true,[dI a.1.1, .dat QZ a.1.2, .dat QJ a.2.1, .dat QR a.2.2.1,dS a.2.2.2]),(true,[dI b.1.1, .dat QZ b.1.2, .dat QJ b.2.1, .dat QR b.2.2.1,dS b.2.2.2])] [] 0 (Yj (lB true)):=by
 have hlx:a.2.2.1.length=b.2.2.1.length:=by rw[h]
 refine QO Tryz.func18 rfl rfl Tryz.ntmps18 fun O_ hO w0_ N0_ X_ h0_ f0_=> ?_
 refine AC.fact (QI (x:= .tmp 0) (i:=0) (Qb rfl) rfl) fun hi1=>AC.fact (QI (x:= .tmp 1) (i:=0) (Qb rfl) rfl) fun hi2=> ?_
 refine w_ ?_
 refine lc (Qy 0 (Qb rfl) rfl rfl (Fresh.of rfl) (nlr rfl))<|lc (Qy 1 (Qb rfl) rfl rfl (Fresh.of rfl) (nlr rfl)) ?_
 iterate 8 refine w_ ?_
 refine lc (Ql (Qbe a.1 b.1 (by rw[h])) Qnj ⟨_,_,rfl,(Qb rfl),⟨_,_,rfl,(Qb rfl),rfl⟩⟩ rfl rfl) ?_
 iterate 6 refine w_ ?_
 refine lgy rfl rfl (Ql (WW a.2.1 b.2.1) Qgc ⟨_,_,rfl,(Qb rfl),⟨_,_,rfl,(Qb rfl),rfl⟩⟩ rfl rfl) ?_
 iterate 3 refine w_ ?_
 cases hb3:(decide (a.2.1=b.2.1))
 have hb3':=a7 hb3
 iterate 21 refine w_ ?_
 subst hO
 have e4:(false:Bool)=true:=by
  (exfalso; subst h; simp_all; done)
 exact Qi (Qg rfl (Qd rfl)) (by rw[← e4] <;> rfl) rfl
 have hb3':=a8 hb3
 iterate 2 refine w_ ?_
 refine AL.fact (Qo (x:= .tmp 22) (Qa rfl)) fun hl5=> ?_
 iterate 3 refine w_ ?_
 refine AL.fact (Qo (x:= .tmp 25) (Qa rfl)) fun hl6=> ?_
 iterate 4 refine w_ ?_
 cases hb7:(!decide ((a.2.2.1.length:Int)=(b.2.2.1.length:Int)))
 have hb7':((a.2.2.1.length:Int)=(b.2.2.1.length:Int)):=Zm hb7
 iterate 7 refine w_ ?_
 cases hb8:(!decide (a.2.2.2=b.2.2.2))
 have hb8':(a.2.2.2=b.2.2.2):=Zm hb8
 iterate 6 refine w_ ?_
 refine AL.fact (Qo (x:= .tmp 37) (Qa rfl)) fun hl9=> ?_
 iterate 4 refine w_ ?_
 refine Qu (fun m_ s_=>∃(k:Nat),k≤a.2.2.1.length∧m_=a.2.2.1.length - k∧s_=⟨[(2,lP 0 0),(3,lP 1 0),(38,lI (a.2.2.1.length:Int)),(39,lI (k:Int))],[(0,some (.box 29 [dI a.1.1, .dat QZ a.1.2, .dat QJ a.2.1, .dat QR a.2.2.1,dS a.2.2.2])),(1,some (.box 29 [dI b.1.1, .dat QZ b.1.2, .dat QJ b.2.1, .dat QR b.2.2.1,dS b.2.2.2]))]⟩) ⟨0,aw _,rfl,rfl⟩ ?_ ?_
 exact wo [(0,0),(1,1)]
 rintro m_ s_ ⟨k,hk10,hm11,rfl⟩
 iterate 4 refine w_ ?_
 cases hb12:(decide ((k:Int) < (a.2.2.1.length:Int)))
 have hb12':=a7 hb12
 iterate 7 refine w_ ?_
 subst hO
 exact Qi (Qg rfl (Qd rfl)) rfl rfl
 have hb12':=a8 hb12
 iterate 8 refine w_ ?_
 obtain ⟨x13,hx14⟩:=gx a.2.2.1 k
 obtain ⟨x15,hx16⟩:=gx b.2.2.1 k
 refine dw [io 42 (lP 0 3),io 43 (lf (.dat QR a.2.2.1)),io 44 (lI (k:Int)),io 45 (lf (.elt Q5 x13 0)),io 46 (ag [dI x13.1,dB x13.2]),io 47 (lP 1 3),io 48 (lf (.dat QR b.2.2.1)),io 49 (lI (k:Int)),io 50 (lf (.elt Q5 x15 0)),io 51 (ag [dI x15.1,dB x15.2]),io 52 (lB (!(Ty.beq Q5 x13 x15)))] [0,1,0,7,15,0,32,0,224,480,1023] mixed rfl (by kernel_rfl) ⟨dxf XP rfl rfl rfl,dxl WK rfl rfl rfl rfl rfl,dxm rfl rfl,fun _ h_=>ac (Qh (h_.v rfl) (h_.v rfl) Yq ZO rfl (by omega) hx14) rfl,fun _ h_=>ac (Ya (h_.v rfl) ZO rfl rfl) rfl,dxf XP rfl rfl rfl,dxl WK rfl rfl rfl rfl rfl,dxm rfl rfl,fun _ h_=>ac (Qh (h_.v rfl) (h_.v rfl) Yq ZO rfl (by omega) hx16) rfl,fun _ h_=>ac (Ya (h_.v rfl) ZO rfl rfl) rfl,fun _ h_=>ac (V9 Qkg Qja (h_.w rfl) (h_.w rfl) (p:=x13) (q:=x15) rfl rfl rfl) rfl,⟨⟩⟩ ?_
 cases hb17:(Ty.beq Q5 x13 x15)
 iterate 5 refine w_ ?_
 subst hO
 have e18:(false:Bool)=true:=by
  (exfalso; subst h; have e_:=Option.some.inj ((hx14).symm.trans hx16); rw[e_,Zc] at hb17; exact absurd hb17 (by decide))
 exact Qi (Qg rfl (Qd rfl)) (by rw[← e18] <;> rfl) rfl
 iterate 6 refine w_ ?_
 refine Qm<|QV ⟨k+1,by omega,rfl,rfl⟩ (by omega) ?_
 exact wo [(0,0),(1,1)]
 have hb8':¬(a.2.2.2=b.2.2.2):=Zx hb8
 iterate 5 refine w_ ?_
 subst hO
 have e19:(false:Bool)=true:=by
  (exfalso; subst h; simp_all; done)
 exact Qi (Qg rfl (Qd rfl)) (by rw[← e19] <;> rfl) rfl
 have hb7':¬((a.2.2.1.length:Int)=(b.2.2.1.length:Int)):=Zx hb7
 iterate 12 refine w_ ?_
 subst hO
 have e20:(false:Bool)=true:=by
  (exfalso; subst h; simp_all; done)
 exact Qi (Qg rfl (Qd rfl)) (by rw[← e20] <;> rfl) rfl
end Go.Proofs.YtjaadeknhofhpaaGreat
