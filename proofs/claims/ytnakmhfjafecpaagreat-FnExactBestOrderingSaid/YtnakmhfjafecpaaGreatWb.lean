/- Walks over abstract states: orderings added to a graph. -/
import Derived.Test.YtnakmhfjafecpaaGreatWa
import Derived.Test.YtnakmhfjafecpaaGreatApp
import Derived.Test.YtnakmhfjafecpaaGreatAk
set_option linter.unusedSimpArgs false
set_option linter.unusedVariables false
set_option linter.unusedSectionVars false
namespace Go.Proofs.YtnakmhfjafecpaaGreat
open Go.RowKit
set_option maxRecDepth 100000
set_option maxHeartbeats 4000000
theorem Qpk {us:List Value}(h:us.length=5):∃a0 a1 a2 a3 a4,us=[a0,a1,a2,a3,a4]:=by
  match us,h with
  | [a0,a1,a2,a3,a4],_=>exact ⟨_,_,_,_,_,rfl⟩
theorem QfK {p:Prop}[Decidable p]{w:World}{e:Ending}{w':World}(h:RetB p w e w'):RetB (decide p=true) w e w':=by
  obtain ⟨b,h1,h2,h3⟩:=h
  exact ⟨b,h1,by rw[h2,decide_eq_true_eq],h3⟩
theorem Yt (s:Q5)[Decidable (StgOk s)]:FC Tryz.prog 190 [(true,leaves Y8 s)] [] 0 (Zq (lf (dB (decide (StgOk s))))):=Qk8 fun gh w vs h=>by
  obtain ⟨us,rfl,hr⟩:=h.agg1
  obtain ⟨a0,a1,a2,a3,a4,rfl⟩:=Qpk hr.len
  exact (QbC a0 a1 a2 a3 a4 s w hr).mono fun _ _ h=>QfK h
theorem YJ (s:Q5)[Decidable (StgOk s)]:FC Tryz.prog 106 [(true,leaves Y8 s)] [] 0 (Zq (lf (dB (decide (StgOk s))))):=Qk8 fun gh w vs h=>by
  obtain ⟨us,rfl,hr⟩:=h.agg1
  obtain ⟨a0,a1,a2,a3,a4,rfl⟩:=Qpk hr.len
  exact (QhK a0 a1 a2 a3 a4 s w hr).mono fun _ _ h=>QfK h
def Wu (ts:List QJ)(a b:Nat)(p:Int):List QJ:=(ts.modify a fun t=>(t.1,t.2++[p])).modify b fun t=>(t.1++[p],t.2)
def U5 (b:Bool):ByteArray:=⟨#[if b then 49 else 48]⟩
def Q2 (s:Q5)(o:QD):Q5:=((s.1.1+1,Wu s.1.2 o.1.toNat o.2.1.toNat s.1.1),s.2.1,s.2.2.1,s.2.2.2++U5 o.2.2)
theorem H3 {ts:List QJ}{i:Nat}{x:QJ}(h:ts[i]? =some x):(Zg QT ts)[i*2+1]? =some (.dat (.sl 3 .int) x.2)∧(Zg QT ts)[i*2+0]? =some (.dat (.sl 3 .int) x.1):=
  ⟨Qc4 (e:=QT) (j:=1) h rfl,Qc4 (e:=QT) (j:=0) h rfl⟩
theorem QcH {ts:List QJ}{i:Nat}{x:QJ}{ys:List Int}(h:ts[i]? =some x):(Zg QT ts).set (i*2+1) (.dat (.sl 3 .int) ys)=Zg QT (ts.set i (x.1,ys)):=
  (Qcu (e:=QT) (j:=1) (x':=(x.1,ys)) h rfl (by decide)).symm
theorem QcS {ts:List QJ}{i:Nat}{x:QJ}{ys:List Int}(h:ts[i]? =some x):(Zg QT ts).set (i*2+0) (.dat (.sl 3 .int) ys)=Zg QT (ts.set i (ys,x.2)):=
  (Qcu (e:=QT) (j:=0) (x':=(ys,x.2)) h rfl (by decide)).symm
theorem Qga {ts:List QJ}{a b:Nat}{x y:QJ}{p:Int}(hx:ts[a]? =some x)(hy:ts[b]? =some y)(hab:a≠b):(ts.set a (x.1,x.2++[p])).set b (y.1++[p],y.2)=Wu ts a b p:=by
  unfold Wu
  apply List.ext_getElem?
  intro i
  have h1:=(List.getElem?_eq_some_iff.1 hx).1
  have h2:=(List.getElem?_eq_some_iff.1 hy).1
  rw[List.getElem?_modify,List.getElem?_modify]
  by_cases e1:b=i
  · subst e1
    rw[List.getElem?_set_self (by simpa using h2)]
    simp[hy,hab]
  · rw [List.getElem?_set_ne e1]
    by_cases e2:a=i
    · subst e2
      rw[List.getElem?_set_self h1]
      simp[hx,e1]
    · rw [List.getElem?_set_ne e2]
      simp[e1,e2]
theorem J8 {s:Q5}(hz:Ty.tot Y8 s≤2000000){i:Nat}{x:QJ}(hx:s.1.2[i]? =some x):x.1.length≤2000000∧x.2.length≤2000000:=K7 (Qab hz).1 x (List.mem_of_getElem? hx)
theorem Qem {s:Q5}(hz:Ty.tot Y8 s≤2000000):s.2.2.2.size≤2000000:=by
  have:Ty.tot Y8 s=Ty.tot VK s.1+((s.2.1.length+(s.2.1.map (Ty.tot ZL)).sum)+((s.2.2.1.length+(s.2.2.1.map (Ty.tot Yl)).sum)+s.2.2.2.size)):=rfl
  omega
theorem Qad (b:UInt8):(⟨#[b]⟩:ByteArray).size=1:=rfl
theorem Qp0 {α:Type _}{c:List α}{p q:Nat}(h:p≠q)(a b a' b' x y:α):(((((c.set p a).set q b).set p a').set q b').set p x).set q y=(c.set p x).set q y:=by
  apply List.ext_getElem?
  intro i
  simp only[List.getElem?_set,List.length_set]
  split <;> split <;> simp_all
theorem Qpe {a n:Nat}(h:a < n):a*2+1 < n*2:=by omega
theorem QpA {a n:Nat}(h:a < n):a*2+0 < n*2:=by omega
theorem KD (b:Bool):FC Tryz.prog 229 [(false,[dB b])] [] 0 (Zq (lf (.dat .u8 (if b then 49 else 48)))):=by
 refine QN Tryz.func229 rfl rfl Tryz.ntmps229 fun O_ hO w0_ N0_ X_ h0_ f0_=> ?_
 refine w_ ?_
 refine lc (WH (ZR 0 rfl) rfl) ?_
 iterate 5 refine w_ ?_
 cases hb1:(b)
 ·iterate 3 refine w_ ?_
  refine lc (WH (ZR 48 rfl) rfl) ?_
  refine w_ ?_
  refine Qf ?_
  subst hO
  have e2:(48:UInt8)=(if b then 49 else 48):=by
   simp_all
  exact Ql (Qm rfl (Qd rfl)) ((congrArg (fun z_=>lf (.dat .u8 z_)) e2)) rfl
 ·iterate 2 refine w_ ?_
  refine lc (WH (ZR 49 rfl) rfl) ?_
  refine w_ ?_
  refine Qf ?_
  subst hO
  have e3:(49:UInt8)=(if b then 49 else 48):=by
   simp_all
  exact Ql (Qm rfl (Qd rfl)) ((congrArg (fun z_=>lf (.dat .u8 z_)) e3)) rfl
theorem UW (s:(Int×(List (List Int×List Int)))×(List (ByteArray×Int))×(List (Int×Bool))×ByteArray)(o:Int×Int×Bool)(hz:Ty.tot Y8 s≤2000000)(hA:0≤o.1∧o.1 < s.1.2.length)(hB:0≤o.2.1∧o.2.1 < s.1.2.length)(hne:o.1≠o.2.1)(hP:1≤s.1.1∧s.1.1≤30):FC Tryz.prog 178 [(true,[dI s.1.1, .dat (.sl 159 (.pr (.sl 3 .int) (.sl 3 .int))) s.1.2, .dat (.sl 145 (.pr .str .int)) s.2.1, .dat (.sl 61 (.pr .int .bool)) s.2.2.1,dS s.2.2.2]),(true,[dI o.1,dI o.2.1,dB o.2.2])] [] 0 (Is (ag [dI (((Q2 s o).1).1), .ref 0, .ref 1, .ref 2,dS ((Q2 s o).2.2.2)]) [(0,some (.arr 159 (.pr (.sl 3 .int) (.sl 3 .int)) (((Q2 s o).1).2))),(1,some (.arr 145 (.pr .str .int) ((Q2 s o).2.1))),(2,some (.arr 61 (.pr .int .bool) ((Q2 s o).2.2.1)))]):=by
 obtain ⟨x,hx⟩:∃z,s.1.2[o.1.toNat]? =some z:=⟨_,List.getElem?_eq_getElem (by omega)⟩
 obtain ⟨y,hy⟩:∃z,s.1.2[o.2.1.toNat]? =some z:=⟨_,List.getElem?_eq_getElem (by omega)⟩
 have hab:o.1.toNat≠o.2.1.toNat:=by omega
 have hcA:=(H3 hx).1
 have hcB:=(H3 hy).2
 have hpA:o.1.toNat*2+1 < (Zg (.pr (.sl 3 .int) (.sl 3 .int)) s.1.2).length:=by rw[Vf]; exact Qpe (by omega)
 have hpB:o.2.1.toNat*2+0 < (Zg (.pr (.sl 3 .int) (.sl 3 .int)) s.1.2).length:=by rw[Vf]; exact QpA (by omega)
 have hpAB:o.1.toNat*2+1≠o.2.1.toNat*2+0:=by omega
 have hxl:=(J8 hz hx).2
 have hyl:=(J8 hz hy).1
 have hsz:=Qem hz
 refine QN Tryz.func178 rfl rfl Tryz.ntmps178 fun O_ hO w0_ N0_ X_ h0_ f0_=> ?_
 refine AC.fact (QG (x:= .tmp 0) (i:=0) (Qb rfl) rfl) fun hi1=>AC.fact (QG (x:= .tmp 1) (i:=0) (Qb rfl) rfl) fun hi2=>AC.fact (QG (x:= .tmp 1) (i:=1) (Qb rfl) rfl) fun hi3=> ?_
 refine w_ ?_
 refine lc (Qw 0 (Qb rfl) rfl rfl (Fresh.of rfl) (nlr rfl))<|lc (Qw 1 (Qb rfl) rfl rfl (Fresh.of rfl) (nlr rfl))<|lc (Qp 2 (.pr (.pr .int (.sl 159 (.pr (.sl 3 .int) (.sl 3 .int)))) (.pr (.sl 145 (.pr .str .int)) (.pr (.sl 61 (.pr .int .bool)) .str))) XH rfl rfl (Fresh.of rfl) (nlr rfl)) ?_
 refine w_ ?_
 refine dw [io 9 (ag [dI s.1.1, .dat (.sl 159 (.pr (.sl 3 .int) (.sl 3 .int))) s.1.2, .dat (.sl 145 (.pr .str .int)) s.2.1, .dat (.sl 61 (.pr .int .bool)) s.2.2.1,dS s.2.2.2]),⟨some 10,ag [dI s.1.1, .ref 3, .ref 4, .ref 5,dS s.2.2.2],[(3,some (.arr 159 (.pr (.sl 3 .int) (.sl 3 .int)) s.1.2)),(4,some (.arr 145 (.pr .str .int) s.2.1)),(5,some (.arr 61 (.pr .int .bool) s.2.2.1))]⟩,io 11 (lP 0 0),io 12 (lP 0 0),io 13 (lI s.1.1),⟨some 5,lP 6 0,[(6,some (.box 39 [dI 0, .val (.slice none 0 0), .val (.slice none 0 0), .val (.slice none 0 0),dS ByteArray.empty]))]⟩,⟨none,lf (.val undef),[(6,some (.box 39 [dI s.1.1, .ref 3, .ref 4, .ref 5,dS s.2.2.2]))]⟩,io 6 (lI s.1.1)] [0,1,0,4,12,0,35,127] mixed rfl (by kernel_rfl) ⟨dxa Q9 rfl rfl rfl rfl,fun _ h_=>ac (Q6 3 (QaT s hz) Qid ⟨_,_,rfl,(h_.w rfl),rfl⟩ rfl rfl ⟨(h_.fr 3 rfl),(h_.fr 4 rfl),(h_.fr 5 rfl),trivial⟩ (nlr rfl)) rfl,dxf ZP rfl rfl rfl,dxf Qdi rfl rfl rfl,dxl QO rfl rfl rfl rfl rfl,fun _ h_=>ac (Qp 6 (.pr (.pr .int (.sl 159 (.pr (.sl 3 .int) (.sl 3 .int)))) (.pr (.sl 145 (.pr .str .int)) (.pr (.sl 61 (.pr .int .bool)) .str))) XH rfl rfl (h_.fr 6 rfl) (nlr rfl)) rfl,fun _ h_=>ac (Qe (h_.v rfl) (h_.en 6 rfl) (h_.w rfl) (by simp only[Zx,Wv,List.all_cons,List.all_nil]; rw[(h_.en 3 rfl),(h_.en 4 rfl),(h_.en 5 rfl)]; rfl) Q9 rfl) rfl,dxt rfl rfl,⟨⟩⟩<|AC.wk (QjP (q:=3) rfl (by omega))<|AC.wk (KR 7 (q:=3) (p:=(o.1).toNat*2+1) (E':=3) (e':= .int) (ys:=x.2) rfl (hcA) (Fresh.of rfl) (Nat.le_of_ble_eq_true rfl)) ?_
 refine AC.wk (KR 8 (q:=3) (p:=(o.2.1).toNat*2+0) (E':=3) (e':= .int) (ys:=y.1) rfl (by simp only[ovr,List.getElem?_set,List.length_set,hpA,hpB,hpAB,hpAB.symm,hcA,hcB,eq_self,if_true,if_false,↓reduceIte]) (Fresh.of rfl) (Nat.le_of_ble_eq_true rfl)) ?_
 refine dw [io 14 (lP 6 0),io 15 (lP 6 1),io 16 (lR 3),io 17 (lP 1 0),io 18 (lI o.1),io 19 (lf (.ept 3 2 ((o.1).toNat) 0)),io 20 (lP 6 0),io 21 (lP 6 1),io 22 (lR 3),io 23 (lP 1 1),io 24 (lI o.2.1),io 25 (lf (.ept 3 2 ((o.2.1).toNat) 0)),io 7 (lf (.ept 3 2 ((o.1).toNat) 0)),io 8 (lf (.ept 3 2 ((o.2.1).toNat) 0))] [0,1,3,0,8,31,0,64,192,0,512,1984,63,8191] mixed rfl (by kernel_rfl) ⟨dxf ZP rfl rfl rfl,dxf ZW rfl rfl rfl,dxl Y7 rfl rfl rfl rfl rfl,dxf Qcn rfl rfl rfl,dxl QO rfl rfl rfl rfl rfl,fun _ h_=>ac (Xx (h_.v rfl) (h_.en 3 rfl) (h_.v rfl) ZO Zh rfl (by omega) (by omega)) rfl,dxf ZP rfl rfl rfl,dxf ZW rfl rfl rfl,dxl Y7 rfl rfl rfl rfl rfl,dxf QcY rfl rfl rfl,dxl QO rfl rfl rfl rfl rfl,fun _ h_=>ac (Xx (h_.v rfl) (h_.en 3 rfl) (h_.v rfl) ZO Zh rfl (by omega) (by omega)) rfl,dxt rfl rfl,dxt rfl rfl,⟨⟩⟩ ?_
 refine dw [io 26 (lf (.ept 3 2 ((o.1).toNat) 0)),io 27 (lf (.ept 3 2 ((o.2.1).toNat) 0)),io 28 (lf (.ept 3 2 ((o.1).toNat) 0)),io 29 (lf (.ept 3 2 ((o.1).toNat) 0)),io 30 (lf (.ept 3 2 ((o.1).toNat) 1)),io 31 (lR 7),io 32 (lI s.1.1),⟨some 33,lR 9,[(9,some (.arr 3 .int ([s.1.1])))]⟩,⟨some 34,lR 10,[(10,some (.arr 3 .int (x.2++([s.1.1])))),(7,none),(9,none)]⟩,io 35 (lf (.ept 3 2 ((o.2.1).toNat) 0)),io 36 (lf (.ept 3 2 ((o.2.1).toNat) 0)),io 37 (lf (.ept 3 2 ((o.2.1).toNat) 0)),io 38 (lR 8),io 39 (lI s.1.1),⟨some 40,lR 11,[(11,some (.arr 3 .int ([s.1.1])))]⟩,⟨some 41,lR 12,[(12,some (.arr 3 .int (y.1++([s.1.1])))),(8,none),(11,none)]⟩,io 42 (lf (.ept 3 2 ((o.1).toNat) 0)),io 43 (lf (.ept 3 2 ((o.1).toNat) 1)),⟨none,lf (.val undef),[(3,some (.obx 159 2 ((s.1.2).length) (Zg (.pr (.sl 3 .int) (.sl 3 .int)) (s.1.2)) [((o.1).toNat*2+1, .ref 10),((o.2.1).toNat*2+0, .ref 8),((o.1).toNat*2+1, .ref 7)]))]⟩,io 44 (lf (.ept 3 2 ((o.2.1).toNat) 0)),io 45 (lf (.ept 3 2 ((o.2.1).toNat) 0)),⟨none,lf (.val undef),[(3,some (.obx 159 2 ((s.1.2).length) (Zg (.pr (.sl 3 .int) (.sl 3 .int)) (s.1.2)) [((o.2.1).toNat*2+0, .ref 12),((o.1).toNat*2+1, .ref 10),((o.2.1).toNat*2+0, .ref 8),((o.1).toNat*2+1, .ref 7)]))]⟩] [0,0,0,4,12,28,0,64,252,0,512,1536,3584,0,8192,32764,65533,131069,262141,524287,1048575,2097151] mixed rfl (by kernel_rfl) ⟨dxm rfl rfl,dxm rfl rfl,dxm rfl rfl,fun _ h_=>ac (Xp (h_.v rfl) (by rw[(h_.en 3 rfl)]; rfl) rfl) rfl,fun _ h_=>ac (Z8 (h_.v rfl) XY (by rw[(h_.en 3 rfl)]; rfl) rfl) rfl,fun _ h_=>ac (UK (h_.v rfl) (h_.en 3 rfl) (by simp only[ovr,List.getElem?_set,List.length_set,hpA,hpB,hpAB,hpAB.symm,hcA,hcB,eq_self,if_true,if_false,↓reduceIte]) (h_.en 7 rfl) QI rfl) rfl,dxm rfl rfl,fun _ h_=>ac (Qg 9 (e:= .int) QE QO Yf rfl ⟨_,_,rfl,(h_.w rfl),rfl⟩ (List.all_eq_true.1 rfl) ⟨_,_,_,_,rfl,⟨rfl,rfl⟩,⟨rfl,rfl⟩,rfl⟩ (by decide) rfl rfl (h_.fr 9 rfl) (nlr rfl)) rfl,fun _ h_=>ac (QQ 10 (h_.v rfl) (h_.en 7 rfl) (h_.v rfl) (h_.en 9 rfl) rfl QE VB (by first | omega | (simp only[List.length_append,List.length_map,List.length_take,List.length_cons,List.length_nil]; omega) | (simp only[List.length_append,List.length_drop,List.length_take,List.length_cons,List.length_nil]; omega)) rfl (h_.fr 10 rfl) (nlr rfl)) rfl,dxm rfl rfl,fun _ h_=>ac (Xp (h_.v rfl) (by rw[(h_.en 3 rfl)]; rfl) rfl) rfl,fun _ h_=>ac (Z8 (h_.v rfl) Yo (by rw[(h_.en 3 rfl)]; rfl) rfl) rfl,fun _ h_=>ac (UK (h_.v rfl) (h_.en 3 rfl) (by simp only[ovr,List.getElem?_set,List.length_set,hpA,hpB,hpAB,hpAB.symm,hcA,hcB,eq_self,if_true,if_false,↓reduceIte]) (h_.en 8 rfl) QI rfl) rfl,dxm rfl rfl,fun _ h_=>ac (Qg 11 (e:= .int) QE QO Yf rfl ⟨_,_,rfl,(h_.w rfl),rfl⟩ (List.all_eq_true.1 rfl) ⟨_,_,_,_,rfl,⟨rfl,rfl⟩,⟨rfl,rfl⟩,rfl⟩ (by decide) rfl rfl (h_.fr 11 rfl) (nlr rfl)) rfl,fun _ h_=>ac (QQ 12 (h_.v rfl) (h_.en 8 rfl) (h_.v rfl) (h_.en 11 rfl) rfl QE VB (by first | omega | (simp only[List.length_append,List.length_map,List.length_take,List.length_cons,List.length_nil]; omega) | (simp only[List.length_append,List.length_drop,List.length_take,List.length_cons,List.length_nil]; omega)) rfl (h_.fr 12 rfl) (nlr rfl)) rfl,fun _ h_=>ac (Xp (h_.v rfl) (by rw[(h_.en 3 rfl)]; rfl) rfl) rfl,fun _ h_=>ac (Z8 (h_.v rfl) XY (by rw[(h_.en 3 rfl)]; rfl) rfl) rfl,fun _ h_=>ac (VA (t:=7) (h_.v rfl) (h_.en 3 rfl) (by simp only[ovr,List.getElem?_set,List.length_set,hpA,hpB,hpAB,hpAB.symm,hcA,hcB,eq_self,if_true,if_false,↓reduceIte]) (h_.v rfl) (h_.en 10 rfl) QI) rfl,fun _ h_=>ac (Xp (h_.v rfl) (by rw[(h_.en 3 rfl)]; rfl) rfl) rfl,fun _ h_=>ac (Z8 (h_.v rfl) Yo (by rw[(h_.en 3 rfl)]; rfl) rfl) rfl,fun _ h_=>ac (VA (t:=8) (h_.v rfl) (h_.en 3 rfl) (by simp only[ovr,List.getElem?_set,List.length_set,hpA,hpB,hpAB,hpAB.symm,hcA,hcB,eq_self,if_true,if_false,↓reduceIte]) (h_.v rfl) (h_.en 12 rfl) QI) rfl,⟨⟩⟩ ?_
 refine Wp ?_
 refine AC.wk (J4 (q:=3) (t:=10) (p:=(o.1).toNat*2+1) rfl (by simp only[ovr,List.getElem?_set,List.length_set,hpA,hpB,hpAB,hpAB.symm,hcA,hcB,eq_self,if_true,if_false,↓reduceIte]) rfl) ?_
 refine AC.wk (J4 (q:=3) (t:=12) (p:=(o.2.1).toNat*2+0) rfl (by simp only[ovr,List.getElem?_set,List.length_set,hpA,hpB,hpAB,hpAB.symm,hcA,hcB,eq_self,if_true,if_false,↓reduceIte]) rfl) ?_
 refine AC.wk (QfW (q:=3) (e:=(.pr (.sl 3 .int) (.sl 3 .int))) (Wu s.1.2 (o.1).toNat (o.2.1).toNat s.1.1) rfl (by simp[Wu]) (by simp only[ovr]; rw[Qp0 hpAB,QcH hx,QcS (by rw[List.getElem?_set_ne hab]; exact hy),Qga hx hy hab])) ?_
 iterate 7 refine w_ ?_
 refine lc (Qe (Qa rfl) rfl (Qb rfl) rfl QO rfl) ?_
 refine w_ ?_
 refine dw [io 52 (lP 6 4),io 53 (lf (dS s.2.2.2)),io 54 (lP 1 2),io 55 (lB o.2.2),io 56 (lf (.dat .u8 (if o.2.2 then 49 else 48))),⟨some 57,lR 13,[(13,some (.arr 5 .u8 ([if o.2.2 then 49 else 48])))]⟩,io 58 (lf (dS (⟨#[if o.2.2 then 49 else 48]⟩:ByteArray))),io 59 (lf (dS (s.2.2.2++(⟨#[if o.2.2 then 49 else 48]⟩:ByteArray)))),io 60 (lP 6 4),⟨none,lf (.val undef),[(6,some (.box 39 [dI (s.1.1+1), .ref 3, .ref 4, .ref 5,dS (s.2.2.2++(⟨#[if o.2.2 then 49 else 48]⟩:ByteArray))]))]⟩] [0,1,0,4,12,28,60,127,255,511] mixed rfl (by kernel_rfl) ⟨dxf V7 rfl rfl rfl,dxl Ze rfl rfl rfl rfl rfl,dxf Ql6 rfl rfl rfl,dxl WW rfl rfl rfl rfl rfl,fun _ h_=>ac (Qn (KD o.2.2) JU ⟨_,_,rfl,(h_.w rfl),rfl⟩ rfl rfl) rfl,fun _ h_=>ac (Qg 13 (e:= .u8) QV QS Qf8 rfl ⟨_,_,rfl,(h_.w rfl),rfl⟩ (List.all_eq_true.1 rfl) ⟨_,_,_,_,rfl,⟨rfl,rfl⟩,⟨rfl,rfl⟩,rfl⟩ (by decide) rfl rfl (h_.fr 13 rfl) (nlr rfl)) rfl,fun _ h_=>ac (Y2 (ys:=[if o.2.2 then 49 else 48]) (Ui (h_.v rfl) (h_.n 13 rfl)) QV Hm W9 rfl) rfl,fun _ h_=>ac (Xs (h_.v rfl) (h_.v rfl) rfl (by simp only[Qad]; omega)) rfl,dxf V7 rfl rfl rfl,fun _ h_=>ac (Qe (h_.v rfl) (h_.n 6 rfl) (h_.w rfl) rfl Ze rfl) rfl,⟨⟩⟩ ?_
 iterate 2 refine w_ ?_
 refine lc (Qe (Qa rfl) rfl (Qb rfl) rfl Q9 rfl) ?_
 refine w_ ?_
 refine Qf ?_
 subst hO
 have e4:(s.1.1+1:Int)=(((Q2 s o).1).1):=by
  rfl
 have e5:(s.2.2.2++(⟨#[if o.2.2 then 49 else 48]⟩:ByteArray):ByteArray)=((Q2 s o).2.2.2):=by
  rfl
 exact QF _ _ [(0,3),(1,4),(2,5)] (Qm rfl (Q3 rfl rfl Q9 rfl)) (((congrArg (fun z_=>ag [dI z_, .ref 3, .ref 4, .ref 5,dS (s.2.2.2++(⟨#[if o.2.2 then 49 else 48]⟩:ByteArray))]) e4)).trans (congrArg (fun z_=>ag [dI (((Q2 s o).1).1), .ref 3, .ref 4, .ref 5,dS z_]) e5)) ⟨(Qy (by rfl)),(Qy (by rfl)),(Qy (by rfl)),trivial⟩ rfl rfl
def Vz:Q5:=((0,[]),[],[],ByteArray.empty)
def Zu (s:Q5)[Decidable (StgOk s)]:Q5×Bool:=if StgOk s then (s,true) else (Vz,false)
theorem WO {s:Q5}[Decidable (StgOk s)](h:decide (StgOk s)=true):Zu s=(s,true):=if_pos (of_decide_eq_true h)
theorem VW {s:Q5}[Decidable (StgOk s)](h:decide (StgOk s)=false):Zu s=(Vz,false):=if_neg (of_decide_eq_false h)
theorem QdC (s:(Int×(List (List Int×List Int)))×(List (ByteArray×Int))×(List (Int×Bool))×ByteArray)[Decidable (StgOk s)]:FC Tryz.prog 242 [(true,[dI s.1.1, .ref 0, .ref 1, .ref 2,dS s.2.2.2])] [(0,some (.arr 159 (.pr (.sl 3 .int) (.sl 3 .int)) s.1.2)),(1,some (.arr 145 (.pr .str .int) s.2.1)),(2,some (.arr 61 (.pr .int .bool) s.2.2.1))] 0 (Is (PV.tup [(true,[dI ((((Zu s).1).1).1), .ref 0, .ref 1, .ref 2,dS (((Zu s).1).2.2.2)]),(false,[dB ((Zu s).2)])]) [(0,some (.arr 159 (.pr (.sl 3 .int) (.sl 3 .int)) ((((Zu s).1).1).2))),(1,some (.arr 145 (.pr .str .int) (((Zu s).1).2.1))),(2,some (.arr 61 (.pr .int .bool) (((Zu s).1).2.2.1)))]):=by
 refine QN Tryz.func242 rfl rfl Tryz.ntmps242 fun O_ hO w0_ N0_ X_ h0_ f0_=> ?_
 refine AC.fact (QG (x:= .tmp 0) (i:=0) (Qb rfl) rfl) fun hi1=> ?_
 refine w_ ?_
 refine lc (Qw 3 (Qb rfl) rfl rfl (Fresh.of rfl) (nlr rfl))<|lc (Qp 4 (.pr (.pr .int (.sl 159 (.pr (.sl 3 .int) (.sl 3 .int)))) (.pr (.sl 145 (.pr .str .int)) (.pr (.sl 61 (.pr .int .bool)) .str))) XH rfl rfl (Fresh.of rfl) (nlr rfl)) ?_
 iterate 5 refine w_ ?_
 refine lc (Zm (Yt s) UO ⟨_,_,rfl,(XR (Qb rfl) ⟨_,_,rfl, .inl rfl,⟨_,_,rfl, .inr ⟨_,_,_,_,rfl,rfl,rfl⟩,⟨_,_,rfl, .inr ⟨_,_,_,_,rfl,rfl,rfl⟩,⟨_,_,rfl, .inr ⟨_,_,_,_,rfl,rfl,rfl⟩,⟨_,_,rfl, .inl rfl,rfl⟩⟩⟩⟩⟩),rfl⟩ rfl rfl rfl) ?_
 iterate 2 refine w_ ?_
 cases hb2:(decide (StgOk s))
 ·have hb2':=of_decide_eq_false hb2
  iterate 2 refine w_ ?_
  refine lc (QH WY rfl (List.all_eq_true.1 rfl) rfl rfl)<|lc (Qe (Qa rfl) rfl (Qb rfl) rfl Q9 rfl) ?_
  iterate 2 refine w_ ?_
  refine AC.wk (QR 5 (p:=4) (off:=1) 159 (.pr (.sl 3 .int) (.sl 3 .int)) rfl rfl (Fresh.of rfl) (nlr rfl))<|AC.wk (QR 6 (p:=4) (off:=2) 145 (.pr .str .int) rfl rfl (Fresh.of rfl) (nlr rfl))<|AC.wk (QR 7 (p:=4) (off:=3) 61 (.pr .int .bool) rfl rfl (Fresh.of rfl) (nlr rfl))<|Qf ?_
  subst hO
  have e3:(0:Int)=((((Zu s).1).1).1):=by
   (rw[VW (by assumption)]; rfl)
  have e4:(ByteArray.empty:ByteArray)=(((Zu s).1).2.2.2):=by
   (rw[VW (by assumption)]; rfl)
  have e5:(false:Bool)=((Zu s).2):=by
   (rw[VW (by assumption)]; done)
  exact QF _ _ [(0,5),(1,6),(2,7)] (QC rfl (Q3 rfl rfl Q9 rfl) (Qd rfl)) ((((congrArg (fun z_=>PV.tup [(true,[dI z_, .ref 5, .ref 6, .ref 7,dS ByteArray.empty]),(false,[dB false])]) e3)).trans (congrArg (fun z_=>PV.tup [(true,[dI ((((Zu s).1).1).1), .ref 5, .ref 6, .ref 7,dS z_]),(false,[dB false])]) e4)).trans (congrArg (fun z_=>PV.tup [(true,[dI ((((Zu s).1).1).1), .ref 5, .ref 6, .ref 7,dS (((Zu s).1).2.2.2)]),(false,[dB z_])]) e5)) ⟨(Qy (by (rw[VW (by assumption)]; rfl))),(Qy (by (rw[VW (by assumption)]; rfl))),(Qy (by (rw[VW (by assumption)]; rfl))),trivial⟩ rfl rfl
 ·have hb2':=of_decide_eq_true hb2
  iterate 4 refine w_ ?_
  refine lc (Qe (Qa rfl) rfl (Qb rfl) rfl Q9 rfl) ?_
  iterate 2 refine w_ ?_
  refine Qf ?_
  subst hO
  have e6:(s.1.1:Int)=((((Zu s).1).1).1):=by
   (rw[WO (by assumption)]; done)
  have e7:(s.2.2.2:ByteArray)=(((Zu s).1).2.2.2):=by
   (rw[WO (by assumption)]; done)
  have e8:(true:Bool)=((Zu s).2):=by
   (rw[WO (by assumption)]; done)
  exact QF _ _ [(0,0),(1,1),(2,2)] (QC rfl (Q3 rfl rfl Q9 rfl) (Qd rfl)) ((((congrArg (fun z_=>PV.tup [(true,[dI z_, .ref 0, .ref 1, .ref 2,dS s.2.2.2]),(false,[dB true])]) e6)).trans (congrArg (fun z_=>PV.tup [(true,[dI ((((Zu s).1).1).1), .ref 0, .ref 1, .ref 2,dS z_]),(false,[dB true])]) e7)).trans (congrArg (fun z_=>PV.tup [(true,[dI ((((Zu s).1).1).1), .ref 0, .ref 1, .ref 2,dS (((Zu s).1).2.2.2)]),(false,[dB z_])]) e8)) ⟨(Qy (by (rw[WO (by assumption)]; done))),(Qy (by (rw[WO (by assumption)]; done))),(Qy (by (rw[WO (by assumption)]; done))),trivial⟩ rfl rfl
end Go.Proofs.YtnakmhfjafecpaaGreat
