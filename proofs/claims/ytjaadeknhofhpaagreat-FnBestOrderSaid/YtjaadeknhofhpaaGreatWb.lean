/- Walks over abstract states: orderings added to a graph. -/
import Derived.Test.YtjaadeknhofhpaaGreatWa
import Derived.Test.YtjaadeknhofhpaaGreatApp
import Derived.Test.YtjaadeknhofhpaaGreatAk
set_option linter.unusedSimpArgs false
set_option linter.unusedVariables false
set_option linter.unusedSectionVars false
namespace Go.Proofs.YtjaadeknhofhpaaGreat
open Go.RowKit
set_option maxRecDepth 100000
set_option maxHeartbeats 4000000
theorem QsL {us:List Value}(h:us.length=5):∃a0 a1 a2 a3 a4,us=[a0,a1,a2,a3,a4]:=by
  match us,h with
  | [a0,a1,a2,a3,a4],_=>exact ⟨_,_,_,_,_,rfl⟩
theorem Qdu {p:Prop}[Decidable p]{w:World}{e:Ending}{w':World}(h:RetB p w e w'):RetB (decide p=true) w e w':=by
  obtain ⟨b,h1,h2,h3⟩:=h
  exact ⟨b,h1,by rw[h2,aN],h3⟩
theorem YQ (s:QX)[Decidable (StgOk s)]:FC Tryz.prog 77 [(true,leaves ZC s)] [] 0 (Yj (lf (dB (decide (StgOk s))))):=Qka fun gh w vs h=>by
  obtain ⟨us,rfl,hr⟩:=h.agg1
  obtain ⟨a0,a1,a2,a3,a4,rfl⟩:=QsL hr.len
  exact (QdF a0 a1 a2 a3 a4 s w hr).mono fun _ _ h=>Qdu h
theorem Yi (s:QX)[Decidable (StgOk s)]:FC Tryz.prog 79 [(true,leaves ZC s)] [] 0 (Yj (lf (dB (decide (StgOk s))))):=Qka fun gh w vs h=>by
  obtain ⟨us,rfl,hr⟩:=h.agg1
  obtain ⟨a0,a1,a2,a3,a4,rfl⟩:=QsL hr.len
  exact (QkJ a0 a1 a2 a3 a4 s w hr).mono fun _ _ h=>Qdu h
def WT (ts:List QW)(a b:Nat)(p:Int):List QW:=(ts.modify a fun t=>(t.1,t.2++[p])).modify b fun t=>(t.1++[p],t.2)
def KX (b:Bool):ByteArray:=⟨#[if b then 49 else 48]⟩
def Zb (s:QX)(o:Qq):QX:=((s.1.1+1,WT s.1.2 o.1.toNat o.2.1.toNat s.1.1),s.2.1,s.2.2.1,s.2.2.2++KX o.2.2)
theorem KC {ts:List QW}{i:Nat}{x:QW}(h:ts[i]? =some x):(ZG Zk ts)[i*2+1]? =some (.dat Qs x.2)∧(ZG Zk ts)[i*2+0]? =some (.dat Qs x.1):=
  ⟨QdH (e:=Zk) (j:=1) h rfl,QdH (e:=Zk) (j:=0) h rfl⟩
theorem QaV {ts:List QW}{i:Nat}{x:QW}{ys:List Int}(h:ts[i]? =some x):(ZG Zk ts).set (i*2+1) (.dat Qs ys)=ZG Zk (ts.set i (x.1,ys)):=
  (Qes (e:=Zk) (j:=1) (x':=(x.1,ys)) h rfl (by decide)).symm
theorem Qao {ts:List QW}{i:Nat}{x:QW}{ys:List Int}(h:ts[i]? =some x):(ZG Zk ts).set (i*2+0) (.dat Qs ys)=ZG Zk (ts.set i (ys,x.2)):=
  (Qes (e:=Zk) (j:=0) (x':=(ys,x.2)) h rfl (by decide)).symm
theorem Qin {ts:List QW}{a b:Nat}{x y:QW}{p:Int}(hx:ts[a]? =some x)(hy:ts[b]? =some y)(hab:a≠b):(ts.set a (x.1,x.2++[p])).set b (y.1++[p],y.2)=WT ts a b p:=by
  unfold WT
  apply bp
  intro i
  have h1:=(au.1 hx).1
  have h2:=(au.1 hy).1
  rw[cO,cO]
  by_cases e1:b=i
  · subst e1
    rw[aU (by simpa using h2)]
    simp[hy,hab]
  · rw [aX e1]
    by_cases e2:a=i
    · subst e2
      rw[aU h1]
      simp[hx,e1]
    · rw [aX e2]
      simp[e1,e2]
theorem QbN {s:QX}(hz:Ty.tot ZC s≤2000000){i:Nat}{x:QW}(hx:s.1.2[i]? =some x):x.1.length≤2000000∧x.2.length≤2000000:=Hv (KF hz).1 x (ai hx)
theorem HQ {s:QX}(hz:Ty.tot ZC s≤2000000):s.2.2.2.size≤2000000:=by
  have:Ty.tot ZC s=Ty.tot UD s.1+((s.2.1.length+(s.2.1.map (Ty.tot Y6)).sum)+((s.2.2.1.length+(s.2.2.1.map (Ty.tot Wj)).sum)+s.2.2.2.size)):=rfl
  omega
theorem XZ (b:UInt8):(⟨#[b]⟩:ByteArray).size=1:=rfl
theorem QtF {α:Type _}{c:List α}{p q:Nat}(h:p≠q)(a b a' b' x y:α):(((((c.set p a).set q b).set p a').set q b').set p x).set q y=(c.set p x).set q y:=by
  apply bp
  intro i
  simp only[aY,aq]
  split <;> split <;> simp_all
theorem Qry {a n:Nat}(h:a < n):a*2+1 < n*2:=by omega
theorem Qrs {a n:Nat}(h:a < n):a*2+0 < n*2:=by omega
theorem JE (b:Bool):FC Tryz.prog 175 [(false,[dB b])] [] 0 (Yj (lf (.dat .u8 (if b then 49 else 48)))):=by
 refine QO Tryz.func175 rfl rfl Tryz.ntmps175 fun O_ hO w0_ N0_ X_ h0_ f0_=> ?_
 refine w_ ?_
 refine lc (VW (ZJ 0 rfl) rfl) ?_
 iterate 5 refine w_ ?_
 cases hb1:(b)
 iterate 3 refine w_ ?_
 refine lc (VW (ZJ 48 rfl) rfl) ?_
 iterate 2 refine w_ ?_
 subst hO
 have e2:(48:UInt8)=(if b then 49 else 48):=by
  simp_all
 exact Qi (Qg rfl (Qd rfl)) (by rw[← e2] <;> rfl) rfl
 iterate 2 refine w_ ?_
 refine lc (VW (ZJ 49 rfl) rfl) ?_
 iterate 2 refine w_ ?_
 subst hO
 have e3:(49:UInt8)=(if b then 49 else 48):=by
  simp_all
 exact Qi (Qg rfl (Qd rfl)) (by rw[← e3] <;> rfl) rfl
theorem Jq (s:(Int×(List (List Int×List Int)))×(List (ByteArray×Int))×(List (Int×Bool))×ByteArray)(o:Int×Int×Bool)(hz:Ty.tot ZC s≤2000000)(hA:0≤o.1∧o.1 < s.1.2.length)(hB:0≤o.2.1∧o.2.1 < s.1.2.length)(hne:o.1≠o.2.1)(hP:1≤s.1.1∧s.1.1≤30):FC Tryz.prog 86 [(true,[dI s.1.1, .dat QZ s.1.2, .dat QJ s.2.1, .dat QR s.2.2.1,dS s.2.2.2]),(true,[dI o.1,dI o.2.1,dB o.2.2])] [] 0 (Is (ag [dI (((Zb s o).1).1), .ref 0, .ref 1, .ref 2,dS ((Zb s o).2.2.2)]) [(0,some (.arr 198 QS (((Zb s o).1).2))),(1,some (.arr 90 QY ((Zb s o).2.1))),(2,some (.arr 55 Q5 ((Zb s o).2.2.1)))]):=by
 obtain ⟨x,hx⟩:∃z,s.1.2[o.1.toNat]? =some z:=⟨_,ap (by omega)⟩
 obtain ⟨y,hy⟩:∃z,s.1.2[o.2.1.toNat]? =some z:=⟨_,ap (by omega)⟩
 have hab:o.1.toNat≠o.2.1.toNat:=by omega
 have hcA:=(KC hx).1
 have hcB:=(KC hy).2
 have hpA:o.1.toNat*2+1 < (ZG QS s.1.2).length:=by rw[Wm]; exact Qry (by omega)
 have hpB:o.2.1.toNat*2+0 < (ZG QS s.1.2).length:=by rw[Wm]; exact Qrs (by omega)
 have hpAB:o.1.toNat*2+1≠o.2.1.toNat*2+0:=by omega
 have hxl:=(QbN hz hx).2
 have hyl:=(QbN hz hy).1
 have hsz:=HQ hz
 refine QO Tryz.func86 rfl rfl Tryz.ntmps86 fun O_ hO w0_ N0_ X_ h0_ f0_=> ?_
 refine AC.fact (QI (x:= .tmp 0) (i:=0) (Qb rfl) rfl) fun hi1=>AC.fact (QI (x:= .tmp 1) (i:=0) (Qb rfl) rfl) fun hi2=>AC.fact (QI (x:= .tmp 1) (i:=1) (Qb rfl) rfl) fun hi3=> ?_
 refine w_ ?_
 refine lc (Qy 0 (Qb rfl) rfl rfl (Fresh.of rfl) (nlr rfl))<|lc (Qy 1 (Qb rfl) rfl rfl (Fresh.of rfl) (nlr rfl))<|lc (Qj 2 Xr ZE rfl rfl (Fresh.of rfl) (nlr rfl)) ?_
 refine w_ ?_
 refine dw [io 9 (ag [dI s.1.1, .dat QZ s.1.2, .dat QJ s.2.1, .dat QR s.2.2.1,dS s.2.2.2]),⟨some 10,ag [dI s.1.1, .ref 3, .ref 4, .ref 5,dS s.2.2.2],[(3,some (.arr 198 QS s.1.2)),(4,some (.arr 90 QY s.2.1)),(5,some (.arr 55 Q5 s.2.2.1))]⟩,io 11 (lP 0 0),io 12 (lP 0 0),io 13 (lI s.1.1),⟨some 5,lP 6 0,[(6,some (.box 29 [dI 0, .val (.slice none 0 0), .val (.slice none 0 0), .val (.slice none 0 0),dS ByteArray.empty]))]⟩,⟨none,lf (.val undef),[(6,some (.box 29 [dI s.1.1, .ref 3, .ref 4, .ref 5,dS s.2.2.2]))]⟩,io 6 (lI s.1.1)] [0,1,0,4,12,0,35,127] mixed rfl (by kernel_rfl) ⟨dxa Qz rfl rfl rfl rfl,fun _ h_=>ac (Q8 3 (Jg s hz) Qf7 ⟨_,_,rfl,(h_.w rfl),rfl⟩ rfl rfl ⟨(h_.fr 3 rfl),(h_.fr 4 rfl),(h_.fr 5 rfl),trivial⟩ (nlr rfl)) rfl,dxf Z1 rfl rfl rfl,dxf J2 rfl rfl rfl,dxl QL rfl rfl rfl rfl rfl,fun _ h_=>ac (Qj 6 Xr ZE rfl rfl (h_.fr 6 rfl) (nlr rfl)) rfl,fun _ h_=>ac (Qc (h_.v rfl) (h_.en 6 rfl) (h_.w rfl) (by simp only[ZB,X7,aQ,b8]; rw[(h_.en 3 rfl),(h_.en 4 rfl),(h_.en 5 rfl)]; rfl) Qz rfl) rfl,dxt rfl rfl,⟨⟩⟩<|AC.wk (Qc0 (q:=3) rfl (by omega))<|AC.wk (V7 7 (q:=3) (p:=(o.1).toNat*2+1) (E':=3) (e':= .int) (ys:=x.2) rfl (hcA) (Fresh.of rfl) (aC rfl)) ?_
 refine AC.wk (V7 8 (q:=3) (p:=(o.2.1).toNat*2+0) (E':=3) (e':= .int) (ys:=y.1) rfl (by simp only[ovr,aY,aq,hpA,hpB,hpAB,hpAB.symm,hcA,hcB,cB,if_true,if_false,↓reduceIte]) (Fresh.of rfl) (aC rfl)) ?_
 refine dw [io 14 (lP 6 0),io 15 (lP 6 1),io 16 (lR 3),io 17 (lP 1 0),io 18 (lI o.1),io 19 (lf (.ept 3 2 ((o.1).toNat) 0)),io 20 (lP 6 0),io 21 (lP 6 1),io 22 (lR 3),io 23 (lP 1 1),io 24 (lI o.2.1),io 25 (lf (.ept 3 2 ((o.2.1).toNat) 0)),io 7 (lf (.ept 3 2 ((o.1).toNat) 0)),io 8 (lf (.ept 3 2 ((o.2.1).toNat) 0))] [0,1,3,0,8,31,0,64,192,0,512,1984,63,8191] mixed rfl (by kernel_rfl) ⟨dxf Z1 rfl rfl rfl,dxf Zz rfl rfl rfl,dxl Yf rfl rfl rfl rfl rfl,dxf Qe4 rfl rfl rfl,dxl QL rfl rfl rfl rfl rfl,fun _ h_=>ac (YN (h_.v rfl) (h_.en 3 rfl) (h_.v rfl) Zw Zn rfl (by omega) (by omega)) rfl,dxf Z1 rfl rfl rfl,dxf Zz rfl rfl rfl,dxl Yf rfl rfl rfl rfl rfl,dxf Qe3 rfl rfl rfl,dxl QL rfl rfl rfl rfl rfl,fun _ h_=>ac (YN (h_.v rfl) (h_.en 3 rfl) (h_.v rfl) Zw Zn rfl (by omega) (by omega)) rfl,dxt rfl rfl,dxt rfl rfl,⟨⟩⟩ ?_
 refine dw [io 26 (lf (.ept 3 2 ((o.1).toNat) 0)),io 27 (lf (.ept 3 2 ((o.2.1).toNat) 0)),io 28 (lf (.ept 3 2 ((o.1).toNat) 0)),io 29 (lf (.ept 3 2 ((o.1).toNat) 0)),io 30 (lf (.ept 3 2 ((o.1).toNat) 1)),io 31 (lR 7),io 32 (lI s.1.1),⟨some 33,lR 9,[(9,some (.arr 3 .int ([s.1.1])))]⟩,⟨some 34,lR 10,[(10,some (.arr 3 .int (x.2++([s.1.1])))),(7,none),(9,none)]⟩,io 35 (lf (.ept 3 2 ((o.2.1).toNat) 0)),io 36 (lf (.ept 3 2 ((o.2.1).toNat) 0)),io 37 (lf (.ept 3 2 ((o.2.1).toNat) 0)),io 38 (lR 8),io 39 (lI s.1.1),⟨some 40,lR 11,[(11,some (.arr 3 .int ([s.1.1])))]⟩,⟨some 41,lR 12,[(12,some (.arr 3 .int (y.1++([s.1.1])))),(8,none),(11,none)]⟩,io 42 (lf (.ept 3 2 ((o.1).toNat) 0)),io 43 (lf (.ept 3 2 ((o.1).toNat) 1)),⟨none,lf (.val undef),[(3,some (.obx 198 2 ((s.1.2).length) (ZG QS (s.1.2)) [((o.1).toNat*2+1, .ref 10),((o.2.1).toNat*2+0, .ref 8),((o.1).toNat*2+1, .ref 7)]))]⟩,io 44 (lf (.ept 3 2 ((o.2.1).toNat) 0)),io 45 (lf (.ept 3 2 ((o.2.1).toNat) 0)),⟨none,lf (.val undef),[(3,some (.obx 198 2 ((s.1.2).length) (ZG QS (s.1.2)) [((o.2.1).toNat*2+0, .ref 12),((o.1).toNat*2+1, .ref 10),((o.2.1).toNat*2+0, .ref 8),((o.1).toNat*2+1, .ref 7)]))]⟩] [0,0,0,4,12,28,0,64,252,0,512,1536,3584,0,8192,32764,65533,131069,262141,524287,1048575,2097151] mixed rfl (by kernel_rfl) ⟨dxm rfl rfl,dxm rfl rfl,dxm rfl rfl,fun _ h_=>ac (Wu (h_.v rfl) (by rw[(h_.en 3 rfl)]; rfl) rfl) rfl,fun _ h_=>ac (ZI (h_.v rfl) YV (by rw[(h_.en 3 rfl)]; rfl) rfl) rfl,fun _ h_=>ac (W5 (h_.v rfl) (h_.en 3 rfl) (by simp only[ovr,aY,aq,hpA,hpB,hpAB,hpAB.symm,hcA,hcB,cB,if_true,if_false,↓reduceIte]) (h_.en 7 rfl) QU rfl) rfl,dxm rfl rfl,fun _ h_=>ac (Qf 9 (e:= .int) QN QL Yu rfl ⟨_,_,rfl,(h_.w rfl),rfl⟩ (ae.1 rfl) ⟨_,_,_,_,rfl,⟨rfl,rfl⟩,⟨rfl,rfl⟩,rfl⟩ (by decide) rfl rfl (h_.fr 9 rfl) (nlr rfl)) rfl,fun _ h_=>ac (QH 10 (h_.v rfl) (h_.en 7 rfl) (h_.v rfl) (h_.en 9 rfl) rfl QN Wd (by first | omega | (simp only[aa,av,ab,ah,aj]; omega) | (simp only[aa,ay,ab,ah,aj]; omega)) rfl (h_.fr 10 rfl) (nlr rfl)) rfl,dxm rfl rfl,fun _ h_=>ac (Wu (h_.v rfl) (by rw[(h_.en 3 rfl)]; rfl) rfl) rfl,fun _ h_=>ac (ZI (h_.v rfl) Z0 (by rw[(h_.en 3 rfl)]; rfl) rfl) rfl,fun _ h_=>ac (W5 (h_.v rfl) (h_.en 3 rfl) (by simp only[ovr,aY,aq,hpA,hpB,hpAB,hpAB.symm,hcA,hcB,cB,if_true,if_false,↓reduceIte]) (h_.en 8 rfl) QU rfl) rfl,dxm rfl rfl,fun _ h_=>ac (Qf 11 (e:= .int) QN QL Yu rfl ⟨_,_,rfl,(h_.w rfl),rfl⟩ (ae.1 rfl) ⟨_,_,_,_,rfl,⟨rfl,rfl⟩,⟨rfl,rfl⟩,rfl⟩ (by decide) rfl rfl (h_.fr 11 rfl) (nlr rfl)) rfl,fun _ h_=>ac (QH 12 (h_.v rfl) (h_.en 8 rfl) (h_.v rfl) (h_.en 11 rfl) rfl QN Wd (by first | omega | (simp only[aa,av,ab,ah,aj]; omega) | (simp only[aa,ay,ab,ah,aj]; omega)) rfl (h_.fr 12 rfl) (nlr rfl)) rfl,fun _ h_=>ac (Wu (h_.v rfl) (by rw[(h_.en 3 rfl)]; rfl) rfl) rfl,fun _ h_=>ac (ZI (h_.v rfl) YV (by rw[(h_.en 3 rfl)]; rfl) rfl) rfl,fun _ h_=>ac (Wp (t:=7) (h_.v rfl) (h_.en 3 rfl) (by simp only[ovr,aY,aq,hpA,hpB,hpAB,hpAB.symm,hcA,hcB,cB,if_true,if_false,↓reduceIte]) (h_.v rfl) (h_.en 10 rfl) QU) rfl,fun _ h_=>ac (Wu (h_.v rfl) (by rw[(h_.en 3 rfl)]; rfl) rfl) rfl,fun _ h_=>ac (ZI (h_.v rfl) Z0 (by rw[(h_.en 3 rfl)]; rfl) rfl) rfl,fun _ h_=>ac (Wp (t:=8) (h_.v rfl) (h_.en 3 rfl) (by simp only[ovr,aY,aq,hpA,hpB,hpAB,hpAB.symm,hcA,hcB,cB,if_true,if_false,↓reduceIte]) (h_.v rfl) (h_.en 12 rfl) QU) rfl,⟨⟩⟩ ?_
 refine YY ?_
 refine AC.wk (Ki (q:=3) (t:=10) (p:=(o.1).toNat*2+1) rfl (by simp only[ovr,aY,aq,hpA,hpB,hpAB,hpAB.symm,hcA,hcB,cB,if_true,if_false,↓reduceIte]) rfl) ?_
 refine AC.wk (Ki (q:=3) (t:=12) (p:=(o.2.1).toNat*2+0) rfl (by simp only[ovr,aY,aq,hpA,hpB,hpAB,hpAB.symm,hcA,hcB,cB,if_true,if_false,↓reduceIte]) rfl) ?_
 refine AC.wk (Qbg (q:=3) (e:=QS) (WT s.1.2 (o.1).toNat (o.2.1).toNat s.1.1) rfl (by simp[WT]) (by simp only[ovr]; rw[QtF hpAB,QaV hx,Qao (by rw[aX hab]; exact hy),Qin hx hy hab])) ?_
 iterate 7 refine w_ ?_
 refine lc (Qc (Qa rfl) rfl (Qb rfl) rfl QL rfl) ?_
 refine w_ ?_
 refine dw [io 52 (lP 6 4),io 53 (lf (dS s.2.2.2)),io 54 (lP 1 2),io 55 (lB o.2.2),io 56 (lf (.dat .u8 (if o.2.2 then 49 else 48))),⟨some 57,lR 13,[(13,some (.arr 5 .u8 ([if o.2.2 then 49 else 48])))]⟩,io 58 (lf (dS (⟨#[if o.2.2 then 49 else 48]⟩:ByteArray))),io 59 (lf (dS (s.2.2.2++(⟨#[if o.2.2 then 49 else 48]⟩:ByteArray)))),io 60 (lP 6 4),⟨none,lf (.val undef),[(6,some (.box 29 [dI (s.1.1+1), .ref 3, .ref 4, .ref 5,dS (s.2.2.2++(⟨#[if o.2.2 then 49 else 48]⟩:ByteArray))]))]⟩] [0,1,0,4,12,28,60,127,255,511] mixed rfl (by kernel_rfl) ⟨dxf XQ rfl rfl rfl,dxl Zg rfl rfl rfl rfl rfl,dxf Qos rfl rfl rfl,dxl Uj rfl rfl rfl rfl rfl,fun _ h_=>ac (Ql (JE o.2.2) QaL ⟨_,_,rfl,(h_.w rfl),rfl⟩ rfl rfl) rfl,fun _ h_=>ac (Qf 13 (e:= .u8) Ze Q2 QfO rfl ⟨_,_,rfl,(h_.w rfl),rfl⟩ (ae.1 rfl) ⟨_,_,_,_,rfl,⟨rfl,rfl⟩,⟨rfl,rfl⟩,rfl⟩ (by decide) rfl rfl (h_.fr 13 rfl) (nlr rfl)) rfl,fun _ h_=>ac (Xp (ys:=[if o.2.2 then 49 else 48]) (Uq (h_.v rfl) (h_.n 13 rfl)) Ze JA ZS rfl) rfl,fun _ h_=>ac (Z9 (h_.v rfl) (h_.v rfl) rfl (by simp only[XZ]; omega)) rfl,dxf XQ rfl rfl rfl,fun _ h_=>ac (Qc (h_.v rfl) (h_.n 6 rfl) (h_.w rfl) rfl Zg rfl) rfl,⟨⟩⟩ ?_
 iterate 2 refine w_ ?_
 refine lc (Qc (Qa rfl) rfl (Qb rfl) rfl Qz rfl) ?_
 iterate 2 refine w_ ?_
 subst hO
 have e4:(s.1.1+1:Int)=(((Zb s o).1).1):=by
  rfl
 have e5:(s.2.2.2++(⟨#[if o.2.2 then 49 else 48]⟩:ByteArray):ByteArray)=((Zb s o).2.2.2):=by
  rfl
 exact QD _ _ [(0,3),(1,4),(2,5)] (Qg rfl (QG rfl rfl Qz rfl)) (by rw[e4,e5] <;> rfl) ⟨(Qp (by rfl)),(Qp (by rfl)),(Qp (by rfl)),trivial⟩ rfl rfl
def Y7:QX:=((0,[]),[],[],ByteArray.empty)
def Z4 (s:QX)[Decidable (StgOk s)]:QX×Bool:=if StgOk s then (s,true) else (Y7,false)
theorem V0 {s:QX}[Decidable (StgOk s)](h:decide (StgOk s)=true):Z4 s=(s,true):=if_pos (a8 h)
theorem Kq {s:QX}[Decidable (StgOk s)](h:decide (StgOk s)=false):Z4 s=(Y7,false):=if_neg (a7 h)
theorem Qfm (s:(Int×(List (List Int×List Int)))×(List (ByteArray×Int))×(List (Int×Bool))×ByteArray)[Decidable (StgOk s)]:FC Tryz.prog 85 [(true,[dI s.1.1, .ref 0, .ref 1, .ref 2,dS s.2.2.2])] [(0,some (.arr 198 QS s.1.2)),(1,some (.arr 90 QY s.2.1)),(2,some (.arr 55 Q5 s.2.2.1))] 0 (Is (PV.tup [(true,[dI ((((Z4 s).1).1).1), .ref 0, .ref 1, .ref 2,dS (((Z4 s).1).2.2.2)]),(false,[dB ((Z4 s).2)])]) [(0,some (.arr 198 QS ((((Z4 s).1).1).2))),(1,some (.arr 90 QY (((Z4 s).1).2.1))),(2,some (.arr 55 Q5 (((Z4 s).1).2.2.1)))]):=by
 refine QO Tryz.func85 rfl rfl Tryz.ntmps85 fun O_ hO w0_ N0_ X_ h0_ f0_=> ?_
 refine AC.fact (QI (x:= .tmp 0) (i:=0) (Qb rfl) rfl) fun hi1=> ?_
 refine w_ ?_
 refine lc (Qy 3 (Qb rfl) rfl rfl (Fresh.of rfl) (nlr rfl))<|lc (Qj 4 Xr ZE rfl rfl (Fresh.of rfl) (nlr rfl)) ?_
 iterate 5 refine w_ ?_
 refine lc (Yv (YQ s) KE ⟨_,_,rfl,(UM (Qb rfl) ⟨_,_,rfl, .inl rfl,⟨_,_,rfl, .inr ⟨_,_,_,_,rfl,rfl,rfl⟩,⟨_,_,rfl, .inr ⟨_,_,_,_,rfl,rfl,rfl⟩,⟨_,_,rfl, .inr ⟨_,_,_,_,rfl,rfl,rfl⟩,⟨_,_,rfl, .inl rfl,rfl⟩⟩⟩⟩⟩),rfl⟩ rfl rfl rfl) ?_
 iterate 2 refine w_ ?_
 cases hb2:(decide (StgOk s))
 have hb2':=a7 hb2
 iterate 2 refine w_ ?_
 refine lc (QA YS rfl (ae.1 rfl) rfl rfl)<|lc (Qc (Qa rfl) rfl (Qb rfl) rfl Qz rfl) ?_
 iterate 2 refine w_ ?_
 refine AC.wk (QF 5 (p:=4) (off:=1) 198 QS rfl rfl (Fresh.of rfl) (nlr rfl))<|AC.wk (QF 6 (p:=4) (off:=2) 90 QY rfl rfl (Fresh.of rfl) (nlr rfl))<|AC.wk (QF 7 (p:=4) (off:=3) 55 Q5 rfl rfl (Fresh.of rfl) (nlr rfl))<|Q4 ?_
 subst hO
 have e3:(0:Int)=((((Z4 s).1).1).1):=by
  (rw[Kq ‹_›]; rfl)
 have e4:(ByteArray.empty:ByteArray)=(((Z4 s).1).2.2.2):=by
  (rw[Kq ‹_›]; rfl)
 have e5:(false:Bool)=((Z4 s).2):=by
  (rw[Kq ‹_›]; done)
 exact QD _ _ [(0,5),(1,6),(2,7)] (QB rfl (QG rfl rfl Qz rfl) (Qd rfl)) ((((congrArg (fun z_=>PV.tup [(true,[dI z_, .ref 5, .ref 6, .ref 7,dS ByteArray.empty]),(false,[dB false])]) e3)).trans (congrArg (fun z_=>PV.tup [(true,[dI ((((Z4 s).1).1).1), .ref 5, .ref 6, .ref 7,dS z_]),(false,[dB false])]) e4)).trans (congrArg (fun z_=>PV.tup [(true,[dI ((((Z4 s).1).1).1), .ref 5, .ref 6, .ref 7,dS (((Z4 s).1).2.2.2)]),(false,[dB z_])]) e5)) ⟨(Qp (by (rw[Kq ‹_›]; rfl))),(Qp (by (rw[Kq ‹_›]; rfl))),(Qp (by (rw[Kq ‹_›]; rfl))),trivial⟩ rfl rfl
 have hb2':=a8 hb2
 iterate 4 refine w_ ?_
 refine lc (Qc (Qa rfl) rfl (Qb rfl) rfl Qz rfl) ?_
 iterate 3 refine w_ ?_
 subst hO
 have e6:(s.1.1:Int)=((((Z4 s).1).1).1):=by
  (rw[V0 ‹_›]; done)
 have e7:(s.2.2.2:ByteArray)=(((Z4 s).1).2.2.2):=by
  (rw[V0 ‹_›]; done)
 have e8:(true:Bool)=((Z4 s).2):=by
  (rw[V0 ‹_›]; done)
 exact QD _ _ [(0,0),(1,1),(2,2)] (QB rfl (QG rfl rfl Qz rfl) (Qd rfl)) (by rw[e6,e7,← e8] <;> rfl) ⟨(Qp (by (rw[V0 ‹_›]; done))),(Qp (by (rw[V0 ‹_›]; done))),(Qp (by (rw[V0 ‹_›]; done))),trivial⟩ rfl rfl
end Go.Proofs.YtjaadeknhofhpaaGreat
