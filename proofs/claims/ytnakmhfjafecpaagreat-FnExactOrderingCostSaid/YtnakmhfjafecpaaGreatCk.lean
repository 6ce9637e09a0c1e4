/- Walks over abstract states: the orders that may be put in, the program. -/
import Derived.Test.YtnakmhfjafecpaaGreatCi
import Derived.Test.YtnakmhfjafecpaaGreatWj
set_option linter.unusedSimpArgs false
set_option linter.unusedVariables false
set_option linter.unusedSectionVars false
namespace Go.Proofs.YtnakmhfjafecpaaGreat
open Go.RowKit
set_option maxRecDepth 100000
set_option maxHeartbeats 4000000
section
variable [∀s,Decidable (StgOk s)]{s:Q5}{l:List (List Int)}{p:List Int}{k i m:Nat}{a b:Int}
def Qcq (s:Q5)(l:List (List Int)):List QD:=l.flatMap fun p=>Wq s ((p[0]?).getD 0) ((p[1]?).getD 0) [false,true]
theorem Hi (s:Q5):(Q7 s).length≤200000:=by
  cases h:(Qc s).2 with
  | false=>rw[← QgN h]; exact Nat.zero_le _
  | true=>
    have h1:=QjK (lt:=ltP) (ZI s.1 (Qc s).1.1)
    have h2:=H6 (k:=(Qc s).1.1.length) h
    rw[List.take_length] at h2
    exact Nat.le_trans h1 h2
theorem Qaq:∀x∈Q7 s,∃t u:Int,x=[t,u]∧t < u∧0≤t∧u < (s.1.2.length:Int):=fun x hx=>QfL ((UL QcT _).1 hx)
theorem QnU {as_:List (List Int)}(hx:l[k]? =some p)(h0:p[0]? =some a)(h1:p[1]? =some b):(as_++(l.take k).map swp)++[[b,a]]=as_++(l.take (k+1)).map swp:=by
  rw[QW hx,List.map_append,List.append_assoc]; simp[swp,h0,h1]
theorem Qdf (h:p∈ZJ (Q7 s++((Q7 s).take k).map swp)):∃t u:Int,p=[t,u]∧0≤t∧t < (s.1.2.length:Int)∧0≤u∧u < (s.1.2.length:Int):=by
  rcases List.mem_append.1 ((YH _).mem_iff.1 h) with h | h
  · obtain ⟨t,u,rfl,h1,h2,h3⟩:=Qaq p h; exact ⟨t,u,rfl,by omega,by omega,by omega,by omega⟩
  · obtain ⟨q, hq, rfl⟩ := List.mem_map.1 h
    obtain ⟨t,u,rfl,h1,h2,h3⟩:=Qaq q (List.mem_of_mem_take hq); exact ⟨u,t,rfl,by omega,by omega,by omega,by omega⟩
theorem QjY (hx:l[i]? =some p){ms:List Bool}(hm:ms.length≤m)(h2:ms=[false,true]):Qcq s (l.take i)++Wq s ((p[0]?).getD 0) ((p[1]?).getD 0) (ms.take m)=Qcq s (l.take (i+1)):=by
  rw[List.take_of_length_le hm,h2]; unfold Qcq; rw[QW hx,List.flatMap_append]; simp
theorem Qf7:∀l:List (List Int),(Qcq s l).length≤2*l.length
  | []=>Nat.le_refl _
  | p :: l=>by
    have h1:=Qf7 l
    have h2:=Hc (s:=s) (a:=(p[0]?).getD 0) (b:=(p[1]?).getD 0) (ms:=[false,true])
    unfold Qcq at*
    rw[List.flatMap_cons,List.length_append,List.length_cons]
    simp only[List.length_cons,List.length_nil] at h2
    omega
theorem Qjq {ms:List Bool}(h2:ms.length≤2):(Qcq s ((ZJ (Q7 s++((Q7 s).take k).map swp)).take i)++Wq s a b ms).length≤900000:=by
  have h1:=Qf7 (s:=s) ((ZJ (Q7 s++((Q7 s).take k).map swp)).take i)
  have h3:=Hc (s:=s) (a:=a) (b:=b) (ms:=ms)
  have h4:=(YH (Q7 s++((Q7 s).take k).map swp)).length_eq
  have h5:=Hi s
  simp only[List.length_append,List.length_map,List.length_take] at*
  omega
theorem QlQ:(Qcq s ((ZJ (Q7 s++((Q7 s).take k).map swp)).take i)).length≤900000:=by
  have h:=Qjq (s:=s) (k:=k) (i:=i) (a:=0) (b:=0) (ms:=[]) (Nat.zero_le _)
  rw[List.length_append] at h; omega
theorem QbY (h:p∈ZJ (Q7 s++((Q7 s).take k).map swp)){z:Int}(hz:z∈p):0≤z∧z < (s.1.2.length:Int):=by
  obtain ⟨t,u,rfl,h1,h2,h3,h4⟩:=Qdf h
  rcases List.mem_cons.1 hz with rfl | hz
  · exact ⟨h1,h2⟩
  · rcases List.mem_cons.1 hz with rfl | hz
    · exact ⟨h3,h4⟩
    · cases hz
theorem Qib (h:p∈ZJ (Q7 s++((Q7 s).take k).map swp)):p.length=2:=by
  obtain ⟨t,u,rfl,_⟩:=Qdf h; rfl
theorem Qkg (h:p∈Q7 s):p.length=2:=by
  obtain ⟨t,u,rfl,_⟩:=Qaq p h; rfl
theorem J5 {A:List QD}{ms:List Bool}{g:Bool}(h0:p[0]? =some a)(h1:p[1]? =some b)(hx:ms[m]? =some g)(ho:YX s b=true)(hg:Zw s (a,b,g)=true):
    (A++Wq s ((p[0]?).getD 0) ((p[1]?).getD 0) (ms.take m))++[(a,b,g)]=A++Wq s ((p[0]?).getD 0) ((p[1]?).getD 0) (ms.take (m+1)):=by
  rw[h0,h1,List.append_assoc]
  exact congrArg _ (Qg2 hx (by show (YX s b&&Zw s (a,b,g))=true; rw[ho,hg]; rfl))
theorem VH {A:List QD}{ms:List Bool}{g:Bool}(h1:p[1]? =some b)(hx:ms[m]? =some g)(ho:YX s b=false):
    A++Wq s ((p[0]?).getD 0) ((p[1]?).getD 0) (ms.take m)=A++Wq s ((p[0]?).getD 0) ((p[1]?).getD 0) (ms.take (m+1)):=by
  rw[h1]
  exact congrArg _ (QeJ hx (by show (YX s b&&_)=false; rw[ho]; rfl))
theorem Qba {A:List QD}{ms:List Bool}{g:Bool}(h0:p[0]? =some a)(h1:p[1]? =some b)(hx:ms[m]? =some g)(hg:Zw s (a,b,g)=false):
    A++Wq s ((p[0]?).getD 0) ((p[1]?).getD 0) (ms.take m)=A++Wq s ((p[0]?).getD 0) ((p[1]?).getD 0) (ms.take (m+1)):=by
  rw[h0,h1]
  exact congrArg _ (QeJ hx (by show (_&&Zw s (a,b,g))=false; rw[hg]; simp))
theorem KT {l:Int×Bool}(hx:s.2.2.1[b.toNat]? =some l)(h:¬0≤l.1):YX s b=false:=by unfold YX; rw[hx]; simp; intro h2; omega
theorem KS {l:Int×Bool}{g:Zc}(hx:s.2.2.1[b.toNat]? =some l)(hg:s.2.1[(l.1).toNat]? =some g)(h:g.2=1):YX s b=false:=by unfold YX; rw[hx]; simp[hg,h]
theorem Qbt {l:Int×Bool}{g:Zc}(hx:s.2.2.1[b.toNat]? =some l)(h0:0≤l.1)(hg:s.2.1[(l.1).toNat]? =some g)(h:¬g.2=1):YX s b=true:=by unfold YX; rw[hx]; simp[hg,h,h0]
theorem Qk6 (hk:(Q7 s).length≤k)(hi:(ZJ (Q7 s++((Q7 s).take k).map swp)).length≤i):Qcq s ((ZJ (Q7 s++((Q7 s).take k).map swp)).take i)=Yc s:=by
  rw[List.take_of_length_le hi,List.take_of_length_le hk,Qg4]; rfl
end
theorem YE (s:(Int×(List (List Int×List Int)))×(List (ByteArray×Int))×(List (Int×Bool))×ByteArray)[∀s,Decidable (StgOk s)](hz:Ty.tot Y8 s≤2000000):FC Tryz.prog 36 [(true,[dI s.1.1, .dat (.sl 159 (.pr (.sl 3 .int) (.sl 3 .int))) s.1.2, .dat (.sl 145 (.pr .str .int)) s.2.1, .dat (.sl 61 (.pr .int .bool)) s.2.2.1,dS s.2.2.2])] [] 0 (Is (PV.tup [(false,[.ref 0]),(false,[dB ((sgV s).2)])]) [(0,some (.arr 85 (.pr .int (.pr .int .bool)) (XP s)))]):=by
 refine QN Tryz.func36 rfl rfl Tryz.ntmps36 fun O_ hO w0_ N0_ X_ h0_ f0_=> ?_
 refine AC.fact (QG (x:= .tmp 0) (i:=0) (Qb rfl) rfl) fun hi1=> ?_
 refine w_ ?_
 refine lc (Qw 0 (Qb rfl) rfl rfl (Fresh.of rfl) (nlr rfl)) ?_
 iterate 6 refine w_ ?_
 refine lc (Qn (Yn s).frozenG Qaw ⟨_,_,rfl,(Qb rfl),rfl⟩ rfl rfl) ?_
 iterate 3 refine w_ ?_
 refine lc (Qp 1 (.pr (.sl 145 (.pr .str .int)) (.pr (.sl 9 .str) (.sl 179 (.pr .int (.pr .int (.pr .bool .int)))))) VR rfl rfl (Fresh.of rfl) (nlr rfl))<|lc (Qe (Qa rfl) rfl (Qb rfl) rfl ZA rfl) ?_
 iterate 6 refine w_ ?_
 cases hb2:((sgV s).2)
 ·iterate 5 refine w_ ?_
  refine AC.wk (Wk.nilS 2 2 85 (.pr .int (.pr .int .bool)) rfl (Fresh.of rfl) (nlr rfl))<|Qf ?_
  subst hO
  have e3:(false:Bool)=((sgV s).2):=by
   simp_all
  exact QF _ _ [(0,2)] (QC rfl (Qd rfl) (Qd rfl)) ((congrArg (fun z_=>PV.tup [(false,[.ref 2]),(false,[dB z_])]) e3)) ⟨(Qy (by exact QeS (by assumption))),trivial⟩ rfl rfl
 ·iterate 4 refine w_ ?_
  refine lc (Q6 3 (JL s) Qkx ⟨_,_,rfl,(Qb rfl),rfl⟩ rfl rfl ⟨Fresh.of rfl,trivial⟩ (nlr rfl)) ?_
  iterate 7 refine w_ ?_
  refine Wp ?_
  have hsv:(sgV s).2=true:=by assumption
  obtain ⟨hsg,_⟩:=Zo (Qbz hsv)
  have hsl:=hsg.len
  have hlb:∀l∈s.2.2.1,l.1 < (s.2.1.length:Int):=fun l hl=>by rcases hsg.labs l hl with h | h <;> omega
  refine AC.wk (Wk.toFz (q:=3) rfl) ?_
  iterate 2 refine w_ ?_
  refine lc (Za 4 [(0,3)] (Uh (Q7 s) (by have:=Hi s; omega)) QjX ⟨_,_,rfl,(Qb rfl),rfl⟩ ⟨rfl,trivial⟩ rfl ⟨trivial,trivial⟩ (nlr rfl))<|AL.fact (Qq (x:= .tmp 30) (Qa rfl)) fun hl4=> ?_
  iterate 4 refine w_ ?_
  refine Qx (fun m_ s_=>∃(k:Nat),k≤(Q7 s).length∧m_=(Q7 s).length - k∧s_=⟨[(1,lP 0 0),(2,lf (.val (.slice none 0 0))),(3,lB false),(6,lR 5),(30,lf (.dat (.sl 106 (.sl 3 .int)) (Q7 s))),(31,lI ((Q7 s).length:Int)),(32,lI (k:Int))],[(0,some (.box 39 [dI s.1.1, .dat (.sl 159 (.pr (.sl 3 .int) (.sl 3 .int))) s.1.2, .dat (.sl 145 (.pr .str .int)) s.2.1, .dat (.sl 61 (.pr .int .bool)) s.2.2.1,dS s.2.2.2])),(5,some (.fz 106 (.sl 3 .int) (Q7 s++((Q7 s).take k).map swp)))]⟩) ⟨0,Nat.zero_le _,rfl,rfl⟩ ?_ ?_
  · exact Wk.of [(0,0),(5,3)] rfl ⟨rfl,rfl,rfl,rfl,rfl,rfl,rfl,trivial⟩ ⟨rfl,(Qo0 (by simp)),trivial⟩ rfl rfl
  rintro m_ s_ ⟨k,hk5,hm6,rfl⟩
  have hcf:=Hi s
  have hcl:(Q7 s++((Q7 s).take k).map swp).length≤400000:=by simp only[List.length_append,List.length_map,List.length_take]; omega
  iterate 4 refine w_ ?_
  cases hb7:(decide ((k:Int) < ((Q7 s).length:Int)))
  ·have hb7':=of_decide_eq_false hb7
   refine w_ ?_
   refine QB ?_
   refine (?_:AC _ _ _ _ _)
   iterate 2 refine w_ ?_
   refine lc (Za 6 [(0,5)] (QlF (Q7 s++((Q7 s).take k).map swp) (by have:=Hi s; simp only[List.length_append,List.length_map,List.length_take]; omega)) QeA ⟨_,_,rfl,(Qb rfl),⟨_,_,rfl,(Evl.ev QbZ),rfl⟩⟩ ⟨rfl,trivial⟩ rfl ⟨trivial,trivial⟩ (nlr rfl)) ?_
   iterate 2 refine w_ ?_
   refine lc (Qg 7 (e:=(.pr .int (.pr .int .bool))) Uz ZF Xj rfl rfl (List.all_eq_true.1 rfl) ⟨rfl,rfl⟩ (by decide) rfl rfl (Fresh.of rfl) (nlr rfl)) ?_
   iterate 3 refine w_ ?_
   refine Wp<|AC.wk (JN (i:=6) (q:=5) rfl rfl) ?_
   iterate 2 refine w_ ?_
   refine AL.fact (Qq (x:= .tmp 50) (Qa rfl)) fun hl8=> ?_
   iterate 4 refine w_ ?_
   refine Qx (fun m_ s_=>∃(i:Nat),i≤(ZJ (Q7 s++((Q7 s).take k).map swp)).length∧m_=(ZJ (Q7 s++((Q7 s).take k).map swp)).length - i∧s_=⟨[(1,lP 0 0),(2,lf (.val (.slice none 0 0))),(3,lB false),(10,lR 8),(50,lf (.dat (.sl 106 (.sl 3 .int)) (ZJ (Q7 s++((Q7 s).take k).map swp)))),(51,lI ((ZJ (Q7 s++((Q7 s).take k).map swp)).length:Int)),(52,lI (i:Int))],[(0,some (.box 39 [dI s.1.1, .dat (.sl 159 (.pr (.sl 3 .int) (.sl 3 .int))) s.1.2, .dat (.sl 145 (.pr .str .int)) s.2.1, .dat (.sl 61 (.pr .int .bool)) s.2.2.1,dS s.2.2.2])),(8,some (.arr 85 (.pr .int (.pr .int .bool)) (Qcq s ((ZJ (Q7 s++((Q7 s).take k).map swp)).take i))))]⟩) ⟨0,Nat.zero_le _,rfl,rfl⟩ ?_ ?_
   · exact Wk.of [(0,0),(8,7)] rfl ⟨rfl,rfl,rfl,rfl,rfl,rfl,rfl,trivial⟩ ⟨rfl,(Qy (by simp[Qcq])),trivial⟩ rfl rfl
   rintro m_ s_ ⟨i,hk9,hm10,rfl⟩
   have hof:=QlQ (s:=s) (k:=k) (i:=i)
   iterate 4 refine w_ ?_
   cases hb11:(decide ((i:Int) < ((ZJ (Q7 s++((Q7 s).take k).map swp)).length:Int)))
   ·have hb11':=of_decide_eq_false hb11
    refine w_ ?_
    refine QB ?_
    refine (?_:AC _ _ _ _ _)
    iterate 5 refine w_ ?_
    refine Qf ?_
    subst hO
    have e12:(true:Bool)=((sgV s).2):=by
     simp_all
    exact QF _ _ [(0,8)] (QC rfl (Qd rfl) (Qd rfl)) ((congrArg (fun z_=>PV.tup [(false,[.ref 8]),(false,[dB z_])]) e12)) ⟨(Qy (by (rw[Qk6 (by omega) (by omega)]; exact Hu (by assumption)))),trivial⟩ rfl rfl
   ·have hb11':=of_decide_eq_true hb11
    iterate 5 refine w_ ?_
    obtain ⟨pr,hx14⟩:∃z,(ZJ (Q7 s++((Q7 s).take k).map swp))[i]? =some z:=⟨_,List.getElem?_eq_getElem (by omega)⟩
    have prh:=hx14
    have prl:=Qib (List.mem_of_getElem? hx14)
    refine lc (Qh (Qa rfl) (Qa rfl) Q1 QI rfl (by omega) hx14) ?_
    iterate 3 refine w_ ?_
    obtain ⟨rb,hx16⟩:∃z,pr[1]? =some z:=⟨_,List.getElem?_eq_getElem (by omega)⟩
    have hrb:=hx16
    have hrrb:=QbY (List.mem_of_getElem? prh) (List.mem_of_getElem? hx16)
    obtain ⟨lb,hx18⟩:∃z,s.2.2.1[(rb).toNat]? =some z:=⟨_,List.getElem?_eq_getElem (by omega)⟩
    have lbh:=hx18
    have lbr:=hlb _ (List.mem_of_getElem? hx18)
    refine dw [io 56 (lP 0 3),io 57 (lf (.dat (.sl 61 (.pr .int .bool)) s.2.2.1)),io 58 (lf (.dat (.sl 3 .int) pr)),io 59 (lf (.elt .int rb 0)),io 60 (lI rb),io 61 (lf (.elt (.pr .int .bool) lb 0)),io 62 (lf (.elt (.pr .int .bool) lb 0)),io 63 (lI lb.1),io 13 (lI lb.1)] [0,1,0,4,12,31,63,127,255] mixed rfl (by kernel_rfl) ⟨dxf QcA rfl rfl rfl,dxl Qim rfl rfl rfl rfl rfl,dxm rfl rfl,fun _ h_=>ac (Qh (h_.v rfl) (QM rfl) QE QO rfl (by omega) hx16) rfl,fun _ h_=>ac (Q0 (h_.v rfl) QO rfl rfl) rfl,fun _ h_=>ac (Qh (h_.v rfl) (h_.v rfl) X2 Yr rfl (by omega) hx18) rfl,fun _ h_=>ac (XC (h_.v rfl) QkT rfl) rfl,fun _ h_=>ac (Q0 (h_.v rfl) QO rfl rfl) rfl,dxt rfl rfl,⟨⟩⟩ ?_
    refine w_ ?_
    refine lc (Qg 9 (e:= .bool) Qbi WW Qn5 rfl ⟨_,_,rfl,(Evl.ev Yy),⟨_,_,rfl,(Evl.ev Yy),rfl⟩⟩ (List.all_eq_true.1 rfl) ⟨_,_,_,_,rfl,⟨rfl,rfl⟩,⟨_,_,_,_,rfl,⟨rfl,rfl⟩,⟨rfl,rfl⟩,rfl⟩,rfl⟩ (by decide) rfl rfl (Fresh.of rfl) (nlr rfl)) ?_
    iterate 4 refine w_ ?_
    refine Qx (fun m_ s_=>∃(m:Nat),m≤([false,true]).length∧m_=([false,true]).length - m∧s_=⟨[(1,lP 0 0),(2,lf (.val (.slice none 0 0))),(3,lB false),(10,lR 10),(12,lf (.dat (.sl 3 .int) pr)),(13,lI lb.1),(50,lf (.dat (.sl 106 (.sl 3 .int)) (ZJ (Q7 s++((Q7 s).take k).map swp)))),(51,lI ((ZJ (Q7 s++((Q7 s).take k).map swp)).length:Int)),(52,lI (i:Int)),(53,lB true),(54,lf (.elt (.sl 3 .int) pr 0)),(55,lf (.dat (.sl 3 .int) pr)),(56,lP 0 3),(57,lf (.dat (.sl 61 (.pr .int .bool)) s.2.2.1)),(58,lf (.dat (.sl 3 .int) pr)),(59,lf (.elt .int rb 0)),(60,lI rb),(61,lf (.elt (.pr .int .bool) lb 0)),(62,lf (.elt (.pr .int .bool) lb 0)),(63,lI lb.1),(64,lR 9),(65,lI (([false,true]).length:Int)),(66,lI (m:Int))],[(0,some (.box 39 [dI s.1.1, .dat (.sl 159 (.pr (.sl 3 .int) (.sl 3 .int))) s.1.2, .dat (.sl 145 (.pr .str .int)) s.2.1, .dat (.sl 61 (.pr .int .bool)) s.2.2.1,dS s.2.2.2])),(9,some (.arr 4 .bool ([false,true]))),(10,some (.arr 85 (.pr .int (.pr .int .bool)) (Qcq s ((ZJ (Q7 s++((Q7 s).take k).map swp)).take i)++Wq s ((pr[0]?).getD 0) ((pr[1]?).getD 0) (([false,true]:List Bool).take m))))]⟩) ⟨0,Nat.zero_le _,rfl,rfl⟩ ?_ ?_
    · exact Wk.of [(0,0),(9,9),(10,8)] rfl ⟨rfl,rfl,rfl,rfl,rfl,rfl,rfl,rfl,rfl,rfl,rfl,rfl,rfl,rfl,rfl,rfl,rfl,rfl,rfl,rfl,rfl,rfl,rfl,trivial⟩ ⟨rfl,rfl,(Qy (by simp[Wq])),trivial⟩ rfl rfl
    rintro m_ s_ ⟨m,hk19,hm20,rfl⟩
    have h2l:(([false,true]:List Bool).length)=2:=rfl
    have hog:=Qjq (s:=s) (k:=k) (i:=i) (a:=(pr[0]?).getD 0) (b:=(pr[1]?).getD 0) (ms:=([false,true]:List Bool).take m) (by simp only[List.length_take]; omega)
    iterate 4 refine w_ ?_
    cases hb21:(decide ((m:Int) < (([false,true]).length:Int)))
    ·have hb21':=of_decide_eq_false hb21
     refine w_ ?_
     refine QB ?_
     refine (?_:AC _ _ _ _ _)
     iterate 3 refine w_ ?_
     refine Qk<|QU ⟨i+1,by omega,rfl,rfl⟩ (by omega) ?_
     exact Wk.of [(0,0),(8,10)] rfl ⟨rfl,rfl,rfl,rfl,rfl,rfl,rfl,trivial⟩ ⟨rfl,(Qy (QjY prh (by omega) rfl)),trivial⟩ rfl rfl
    ·have hb21':=of_decide_eq_true hb21
     iterate 5 refine w_ ?_
     refine lc (Qu (e:= .bool) (Qa rfl) rfl (Qa rfl) Qbi WW rfl (by omega) (by first | omega | (simp only[List.length_set]; omega))) ?_
     obtain ⟨mg,hx23⟩:∃z,([false,true])[m]? =some z:=⟨_,List.getElem?_eq_getElem (by omega)⟩
     have mgh:=hx23
     refine lc (QL (e:= .bool) (Qa rfl) rfl hx23 rfl WW rfl rfl) ?_
     iterate 2 refine w_ ?_
     obtain ⟨ra,hx25⟩:∃z,pr[0]? =some z:=⟨_,List.getElem?_eq_getElem (by omega)⟩
     have hra:=hx25
     have hrra:=QbY (List.mem_of_getElem? prh) (List.mem_of_getElem? hx25)
     refine dw [io 70 (lf (.dat (.sl 3 .int) pr)),io 71 (lf (.elt .int ra 0)),io 72 (lI ra),io 73 (lf (.dat (.sl 3 .int) pr)),io 74 (lf (.elt .int rb 0)),io 75 (lI rb),io 76 (lB mg),io 77 (ag [dI ra,dI rb,dB mg]),⟨some 16,lP 11 0,[(11,some (.box 85 [dI 0,dI 0,dB false]))]⟩,⟨none,lf (.val undef),[(11,some (.box 85 [dI ra,dI rb,dB mg]))]⟩] [0,1,3,0,8,24,0,127,0,511] mixed rfl (by kernel_rfl) ⟨dxm rfl rfl,fun _ h_=>ac (Qh (h_.v rfl) (QM rfl) QE QO rfl (by omega) hx25) rfl,fun _ h_=>ac (Q0 (h_.v rfl) QO rfl rfl) rfl,dxm rfl rfl,fun _ h_=>ac (Qh (h_.v rfl) (QM rfl) QE QO rfl (by omega) hx16) rfl,fun _ h_=>ac (Q0 (h_.v rfl) QO rfl rfl) rfl,dxm rfl rfl,fun _ h_=>ac (QH Qfu ⟨_,_,rfl,(h_.w rfl),⟨_,_,rfl,(h_.w rfl),⟨_,_,rfl,(h_.w rfl),rfl⟩⟩⟩ (List.all_eq_true.1 rfl) rfl rfl) rfl,fun _ h_=>ac (Qp 11 (.pr .int (.pr .int .bool)) Xj rfl rfl (h_.fr 11 rfl) (nlr rfl)) rfl,fun _ h_=>ac (Qe (h_.v rfl) (h_.n 11 rfl) (h_.w rfl) rfl ZF rfl) rfl,⟨⟩⟩ ?_
     iterate 4 refine w_ ?_
     cases hb26:(decide (0≤lb.1))
     ·have hb26':=of_decide_eq_false hb26
      iterate 15 refine w_ ?_
      refine AC.skip ?_
      refine (?_:AC _ _ _ _ _)
      iterate 3 refine w_ ?_
      refine Qk<|QU ⟨m+1,by omega,rfl,rfl⟩ (by omega) ?_
      exact Wk.of [(0,0),(9,9),(10,10)] rfl ⟨rfl,rfl,rfl,rfl,rfl,rfl,rfl,rfl,rfl,rfl,rfl,rfl,rfl,rfl,rfl,rfl,rfl,rfl,rfl,rfl,rfl,rfl,rfl,trivial⟩ ⟨rfl,rfl,(Qy (by first | exact J5 hra hrb mgh (Qbt lbh (by assumption) sgh (by assumption)) (by assumption) | exact VH hrb mgh (KT lbh (by assumption)) | exact VH hrb mgh (KS lbh sgh (by assumption)) | exact Qba hra hrb mgh (by assumption))),trivial⟩ rfl rfl
     ·have hb26':=of_decide_eq_true hb26
      iterate 3 refine w_ ?_
      obtain ⟨sg,hx28⟩:∃z,s.2.1[(lb.1).toNat]? =some z:=⟨_,List.getElem?_eq_getElem (by omega)⟩
      have sgh:=hx28
      refine lgy rfl rfl (Qh (Qa rfl) (Qa rfl) YQ Z4 rfl (by omega) hx28) ?_
      iterate 5 refine w_ ?_
      cases hb29:(!decide (sg.2=1))
      ·have hb29':(sg.2=1):=Zb hb29
       iterate 6 refine w_ ?_
       refine AC.skip ?_
       refine (?_:AC _ _ _ _ _)
       iterate 3 refine w_ ?_
       refine Qk<|QU ⟨m+1,by omega,rfl,rfl⟩ (by omega) ?_
       exact Wk.of [(0,0),(9,9),(10,10)] rfl ⟨rfl,rfl,rfl,rfl,rfl,rfl,rfl,rfl,rfl,rfl,rfl,rfl,rfl,rfl,rfl,rfl,rfl,rfl,rfl,rfl,rfl,rfl,rfl,trivial⟩ ⟨rfl,rfl,(Qy (by first | exact J5 hra hrb mgh (Qbt lbh (by assumption) sgh (by assumption)) (by assumption) | exact VH hrb mgh (KT lbh (by assumption)) | exact VH hrb mgh (KS lbh sgh (by assumption)) | exact Qba hra hrb mgh (by assumption))),trivial⟩ rfl rfl
      ·have hb29':¬(sg.2=1):=Zk hb29
       iterate 2 refine w_ ?_
       refine lgy rfl rfl (Qn (Ke s (ra,rb,mg) hz) Qkd ⟨_,_,rfl,(Qb rfl),⟨_,_,rfl,(Qb rfl),rfl⟩⟩ rfl rfl) ?_
       iterate 2 refine w_ ?_
       cases hb30:(Zw s (ra,rb,mg))
       ·refine w_ ?_
        refine AC.skip ?_
        refine (?_:AC _ _ _ _ _)
        iterate 3 refine w_ ?_
        refine Qk<|QU ⟨m+1,by omega,rfl,rfl⟩ (by omega) ?_
        exact Wk.of [(0,0),(9,9),(10,10)] rfl ⟨rfl,rfl,rfl,rfl,rfl,rfl,rfl,rfl,rfl,rfl,rfl,rfl,rfl,rfl,rfl,rfl,rfl,rfl,rfl,rfl,rfl,rfl,rfl,trivial⟩ ⟨rfl,rfl,(Qy (by first | exact J5 hra hrb mgh (Qbt lbh (by assumption) sgh (by assumption)) (by assumption) | exact VH hrb mgh (KT lbh (by assumption)) | exact VH hrb mgh (KS lbh sgh (by assumption)) | exact Qba hra hrb mgh (by assumption))),trivial⟩ rfl rfl
       ·iterate 4 refine w_ ?_
        refine lc (Qg 12 (e:=(.pr .int (.pr .int .bool))) Uz ZF Xj rfl ⟨_,_,rfl,(Qb rfl),rfl⟩ (List.all_eq_true.1 rfl) ⟨_,_,_,_,rfl,⟨[dI ra],[dI rb,dB mg],_,_,_,_,rfl,rfl,⟨rfl,rfl⟩,⟨[dI rb],[dB mg],_,_,_,_,rfl,rfl,⟨rfl,rfl⟩,⟨rfl,rfl⟩,rfl⟩,rfl⟩,⟨rfl,rfl⟩,rfl⟩ (by decide) rfl rfl (Fresh.of rfl) (nlr rfl))<|lc (QQ 13 (Qa rfl) rfl (Qa rfl) rfl rfl Uz Qls (by first | omega | (simp only[List.length_append,List.length_map,List.length_take,List.length_cons,List.length_nil] at*; omega)) rfl (Fresh.of rfl) (nlr rfl)) ?_
        refine w_ ?_
        refine Qk ?_
        refine (?_:AC _ _ _ _ _)
        iterate 3 refine w_ ?_
        refine Qk<|QU ⟨m+1,by omega,rfl,rfl⟩ (by omega) ?_
        exact Wk.of [(0,0),(9,9),(10,13)] rfl ⟨rfl,rfl,rfl,rfl,rfl,rfl,rfl,rfl,rfl,rfl,rfl,rfl,rfl,rfl,rfl,rfl,rfl,rfl,rfl,rfl,rfl,rfl,rfl,trivial⟩ ⟨rfl,rfl,(Qy (by first | exact J5 hra hrb mgh (Qbt lbh (by assumption) sgh (by assumption)) (by assumption) | exact VH hrb mgh (KT lbh (by assumption)) | exact VH hrb mgh (KS lbh sgh (by assumption)) | exact Qba hra hrb mgh (by assumption))),trivial⟩ rfl rfl
  ·have hb7':=of_decide_eq_true hb7
   iterate 5 refine w_ ?_
   obtain ⟨p,hx32⟩:∃z,(Q7 s)[k]? =some z:=⟨_,List.getElem?_eq_getElem (by omega)⟩
   have ph:=hx32
   have pl:=Qkg (List.mem_of_getElem? hx32)
   refine lc (Qh (Qa rfl) (Qa rfl) Q1 QI rfl (by omega) hx32) ?_
   iterate 3 refine w_ ?_
   obtain ⟨pb,hx34⟩:∃z,p[1]? =some z:=⟨_,List.getElem?_eq_getElem (by omega)⟩
   have hpb:=hx34
   obtain ⟨pa,hx36⟩:∃z,p[0]? =some z:=⟨_,List.getElem?_eq_getElem (by omega)⟩
   have hpa:=hx36
   refine dv [io 36 (lR 5),io 37 (lf (.dat (.sl 3 .int) p)),io 38 (lf (.elt .int pb 0)),io 39 (lI pb),io 40 (lf (.dat (.sl 3 .int) p)),io 41 (lf (.elt .int pa 0)),io 42 (lI pa),⟨some 43,lR 14,[(14,some (.arr 3 .int ([pb,pa])))]⟩,⟨some 44,lR 15,[(15,some (.arr 106 (.sl 3 .int) ([[pb,pa]]))),(14,none)]⟩,⟨some 45,lR 16,[(16,some (.fz 106 (.sl 3 .int) ((Q7 s++((Q7 s).take k).map swp)++([[pb,pa]])))),(5,none),(15,none)]⟩,io 6 (lR 16)] [0,0,2,6,0,16,48,126,254,511,1023] mixed rfl (by kernel_rfl) ⟨dxm rfl rfl,dxm rfl rfl,fun _ h_=>ac (Qh (h_.v rfl) (QM rfl) QE QO rfl (by omega) hx34) rfl,fun _ h_=>ac (Q0 (h_.v rfl) QO rfl rfl) rfl,dxm rfl rfl,fun _ h_=>ac (Qh (h_.v rfl) (QM rfl) QE QO rfl (by omega) hx36) rfl,fun _ h_=>ac (Q0 (h_.v rfl) QO rfl rfl) rfl,fun _ h_=>ac (Qg 14 (e:= .int) QE QO Yf rfl ⟨_,_,rfl,(h_.w rfl),⟨_,_,rfl,(h_.w rfl),rfl⟩⟩ (List.all_eq_true.1 rfl) ⟨_,_,_,_,rfl,⟨rfl,rfl⟩,⟨_,_,_,_,rfl,⟨rfl,rfl⟩,⟨rfl,rfl⟩,rfl⟩,rfl⟩ (by decide) rfl rfl (h_.fr 14 rfl) (nlr rfl)) rfl,fun _ h_=>ac (Qg 15 (e:=(.sl 3 .int)) Q1 QI Z9 rfl ⟨_,_,rfl,(h_.w rfl),rfl⟩ (List.all_eq_true.1 (by simp only[Zx,Wv,List.all_cons,List.all_nil]; rw[(h_.en 14 rfl)]; rfl)) ⟨_,_,_,_,rfl,(.inl ⟨_,rfl,(h_.en 14 rfl),rfl⟩),⟨rfl,rfl⟩,rfl⟩ (by decide) rfl rfl (h_.fr 15 rfl) (nlr rfl)) rfl,fun _ h_=>ac (Qdp 16 (h_.v rfl) (h_.en 5 rfl) (h_.v rfl) (h_.en 15 rfl) rfl Q1 Y5 (by first | omega | (simp only[List.length_append,List.length_map,List.length_take,List.length_cons,List.length_nil] at*; omega)) rfl (h_.fr 16 rfl) (nlr rfl)) rfl,dxt rfl rfl,⟨⟩⟩ ?_
   refine (?_:AC _ _ _ _ _)
   iterate 3 refine w_ ?_
   refine Qk<|QU ⟨k+1,by omega,rfl,rfl⟩ (by omega) ?_
   exact Wk.of [(0,0),(5,16)] rfl ⟨rfl,rfl,rfl,rfl,rfl,rfl,rfl,trivial⟩ ⟨rfl,(Qo0 (QnU ph hpa hpb)),trivial⟩ rfl rfl
end Go.Proofs.YtnakmhfjafecpaaGreat
namespace Go.Proofs.YtnakmhfjafecpaaGreat
open Go.RowKit
set_option maxRecDepth 100000
set_option maxHeartbeats 4000000
theorem QlB [∀s,Decidable (StgOk s)](s:Q5):(XP s).length≤5000:=by
  unfold XP
  split
  · rename_i h
    have hn:=ZY (Qbz h)
    have h1:=Qcl (s:=s) (P:=Q7 s) hn s.1.2.length
    show (Jt s (Q7 s) s.1.2.length s.1.2.length).length≤_
    omega
  · exact Nat.zero_le _
end Go.Proofs.YtnakmhfjafecpaaGreat
