/- Walks over abstract states: the graph behind an insertion, both sides; pairs of states that violate complete state coding, the reference; what an insertion costs. -/
import Derived.Test.YtnakmhfjafecpaaGreatUf
import Derived.Test.YtnakmhfjafecpaaGreatFs
import Derived.Test.YtnakmhfjafecpaaGreatWy
set_option linter.unusedSimpArgs false
set_option linter.unusedVariables false
set_option linter.unusedSectionVars false
namespace Go.Proofs.YtnakmhfjafecpaaGreat
open Go.RowKit
set_option maxRecDepth 100000
set_option maxHeartbeats 4000000
def Qlr (s:Int):ByteArray:=(⟨#[UInt8.ofNat (48+s).toNat]⟩:ByteArray)++(⟨#[44]⟩:ByteArray)
def Yg (c:DSg)(q:Int)(i:Nat):ByteArray:=((Yk c.1 i).filter fun s=>Vj c q s).foldl (fun b s=>b++Qlr s) (⟨#[]⟩:ByteArray)
section
variable {c:DSg}{as_:List DAr}{a:DAr}{i j k n:Nat}{s q:Int}{z:Zc}
theorem Qnc (hx:c.2.2[k]? =some a)(h1:a.1=q)(h2:a.2.1=s):true=Vj c q s:=(List.any_eq_true.2 ⟨a,List.mem_of_getElem? hx,decide_eq_true ⟨h1,h2⟩⟩).symm
theorem QoK (hn:∀j,j < k→∀a,c.2.2[j]? =some a→¬(a.1=q∧a.2.1=s))(hk:c.2.2.length≤k):false=Vj c q s:=(List.any_eq_false.2 fun a ha=>by
  obtain ⟨j,hj⟩:=List.mem_iff_getElem?.1 ha
  have:=(List.getElem?_eq_some_iff.1 hj).1
  simpa using hn j (by omega) a hj).symm
theorem Qdg (hx:c.1[i]? =some z)(h:¬z.2=1)(he:Vj c q (i:Int)=true):Yg c q i++((⟨#[UInt8.ofNat (48+(i:Int)).toNat]⟩:ByteArray)++(⟨#[44]⟩:ByteArray))=Yg c q (i+1):=by
  unfold Yg
  rw[← KQ hx h,List.filter_append,List.foldl_append]
  simp[he,Qlr]
theorem QbR (hx:c.1[i]? =some z)(h:z.2=1):Yg c q i=Yg c q (i+1):=by
  unfold Yg
  rw[← Qck hx h]
theorem Qdd (hx:c.1[i]? =some z)(h:¬z.2=1)(he:Vj c q (i:Int)=false):Yg c q i=Yg c q (i+1):=by
  unfold Yg
  rw[← KQ hx h,List.filter_append,List.foldl_append]
  simp[he]
theorem HK:∀(l:List Int) (b:ByteArray),(l.foldl (fun b s=>b++Qlr s) b).toList=b.toList++l.flatMap fun s=>[UInt8.ofNat (48+s).toNat,44]
  | [],b=>by simp
  | s :: l,b=>by
    rw[List.foldl_cons,HK l,List.flatMap_cons]
    simp only[Qlr,ByteArray.toList_eq,ByteArray.data_append,Array.toList_append]
    simp
theorem Qmp (l:List Int):(l.flatMap fun s=>[UInt8.ofNat (48+s).toNat,44]).length=2*l.length:=by
  induction l with
  | nil=>rfl
  | cons s l ih=>rw[List.flatMap_cons,List.length_append,ih,List.length_cons,List.length_cons,List.length_cons,List.length_nil]; omega
theorem QlP (l:List Int)(b:ByteArray):(l.foldl (fun b s=>b++Qlr s) b).size=b.size+2*l.length:=by
  have h:=congrArg List.length (HK l b)
  rw[List.length_append,QbN,QbN,Qmp] at h
  exact h
theorem QfY:∀{l m:List Int},(∀x∈l,0≤x∧x≤9)→(∀x∈m,0≤x∧x≤9)→(l.flatMap fun s=>[UInt8.ofNat (48+s).toNat,44])=(m.flatMap fun s=>[UInt8.ofNat (48+s).toNat,44])→l=m
  | [],[],_,_,_=>rfl
  | [],y :: m,_,_,h=>by simp at h
  | x :: l,[],_,_,h=>by simp at h
  | x :: l,y :: m,hl,hm,h=>by
    rw[List.flatMap_cons,List.flatMap_cons] at h
    simp only[List.cons_append,List.nil_append,List.cons.injEq,true_and] at h
    obtain ⟨h1,h2⟩:=h
    have hx:=hl x (List.mem_cons_self ..)
    have hy:=hm y (List.mem_cons_self ..)
    have h3:=congrArg UInt8.toNat h1
    rw[UInt8.toNat_ofNat',UInt8.toNat_ofNat',Nat.mod_eq_of_lt (by omega),Nat.mod_eq_of_lt (by omega)] at h3
    rw[QfY (fun z hz=>hl z (List.mem_cons_of_mem _ hz)) (fun z hz=>hm z (List.mem_cons_of_mem _ hz)) h2,show x=y by omega]
theorem Qgz (h8:c.1.length≤8):Yg c (i:Int) c.1.length=Yg c (j:Int) c.1.length↔Ha c i j=false:=by
  have hr:∀(f:Int→Bool),∀x∈(Yk c.1 c.1.length).filter f,0≤x∧x≤9:=fun f x hx=>by
    obtain ⟨t,rfl,ht,_⟩:=K6.1 (List.mem_filter.1 hx).1; omega
  unfold Ha
  rw[List.any_eq_false]
  constructor
  · intro h s hs
    have h1:=congrArg ByteArray.toList h
    unfold Yg at h1
    rw[HK,HK] at h1
    have h2:=QfY (hr _) (hr _) (List.append_cancel_left h1)
    have h3:(s∈(Yk c.1 c.1.length).filter fun s=>Vj c i s)↔(s∈(Yk c.1 c.1.length).filter fun s=>Vj c j s):=by rw[h2]
    simp only[List.mem_filter,hs,true_and] at h3
    rw[Bool.eq_iff_iff.2 h3]; simp
  · intro h
    unfold Yg
    congr 1
    apply List.filter_congr
    intro s hs
    have:=h s hs
    simpa using this
theorem QlV:(Yg c q i).size≤2*i:=by
  unfold Yg
  rw[QlP]
  have h1:((Yk c.1 i).filter fun s=>Vj c q s).length≤(Yk c.1 i).length:=List.length_filter_le ..
  have h2:=QeD (ss:=c.1) (k:=i)
  show 0+_≤_
  omega
theorem Qfg (h8:c.1.length≤8)(h:(!decide (Yg c (i:Int) c.1.length=Yg c (j:Int) c.1.length))=true):Ha c i j=true:=by
  cases hd:Ha c i j with
  | true=>rfl
  | false=>rw[decide_eq_true ((Qgz h8).2 hd)] at h; cases h
theorem Qir (h8:c.1.length≤8)(h:(!decide (Yg c (i:Int) c.1.length=Yg c (j:Int) c.1.length))=false):Ha c i j=false:=(Qgz h8).1 (by simpa using h)
end
section
variable [∀c,Decidable (SgOk c)][∀s,Decidable (JO s)]{c:DSg}{x:(Int×Bool)×Int×Bool}
abbrev Qpy (c:DSg)(x:(Int×Bool)×Int×Bool):ByteArray:=QoA c (KG c x.1 x.2)
abbrev QoF (c:DSg)(x:(Int×Bool)×Int×Bool):(DSg×List Int)×Bool:=Qp5 c (QpX c) (Qpy c x)
def QpM (c:DSg)(x:(Int×Bool)×Int×Bool):Bool:=okB c x.1 x.2&& !Qp3 c (Qpy c x)
def Qog (c:DSg)(x:(Int×Bool)×Int×Bool):DSg×Bool:=
  if QpM c x=true then ((QoF c x).1.1,(QoF c x).2&&decide (QpB (QoF c x).1.1≤QpB c)) else (Ju,false)
def Qpf (c:DSg)(x:(Int×Bool)×Int×Bool):Prop:=((SgOk c∧(0≤x.1.1∧x.1.1≤(c.1.length:Int) - 1))∧(0≤x.2.1∧x.2.1≤(c.1.length:Int) - 1))∧¬x.1=x.2
instance:Decidable (Qpf c x):=inferInstanceAs (Decidable (_∧_))
def Qn2 (c:DSg)(x:(Int×Bool)×Int×Bool):Bool:=decide (Qpf c x)&&(Qog c x).2
def Qqs (c:DSg)(x:(Int×Bool)×Int×Bool):Int:=if Qn2 c x=true then ((W7 (Qog c x).1).length:Int) else 0
def Qqr (c:DSg)(x:(Int×Bool)×Int×Bool):Int:=if Qn2 c x=true then ((Qog c x).1.2.1.length:Int) else 0
end
theorem HR (c:(List (ByteArray×Int))×List ByteArray×(List (Int×Int×Bool×Int)))(k:Int)(sig:Int):FC Tryz.prog 204 [(true,[.dat (.sl 145 (.pr .str .int)) c.1, .dat (.sl 9 .str) c.2.1, .dat (.sl 179 (.pr .int (.pr .int (.pr .bool .int)))) c.2.2]),(false,[dI k]),(false,[dI sig])] [] 0 (Zq (lB (Vj c k sig))):=by
 refine QN Tryz.func204 rfl rfl Tryz.ntmps204 fun O_ hO w0_ N0_ X_ h0_ f0_=> ?_
 refine AC.fact (QA (x:= .tmp 1) (Qa rfl)) fun hi1=>AC.fact (QA (x:= .tmp 2) (Qa rfl)) fun hi2=> ?_
 refine w_ ?_
 refine lc (Qw 0 (Qb rfl) rfl rfl (Fresh.of rfl) (nlr rfl)) ?_
 iterate 6 refine w_ ?_
 refine AL.fact (Qq (x:= .tmp 10) (Qa rfl)) fun hl3=> ?_
 iterate 4 refine w_ ?_
 refine Qx (fun m_ s_=>∃(i:Nat),i≤c.2.2.length∧m_=c.2.2.length - i∧(∀j,j < i→∀a,c.2.2[j]? =some a→¬(a.1=k∧a.2.1=sig))∧s_=⟨[(1,lI k),(2,lI sig),(10,lf (.dat (.sl 179 (.pr .int (.pr .int (.pr .bool .int)))) c.2.2)),(11,lI (c.2.2.length:Int)),(12,lI (i:Int))],[]⟩) ⟨0,Nat.zero_le _,rfl,(fun j hj=>absurd hj (Nat.not_lt_zero j)),rfl⟩ ?_ ?_
 · exact Wk.of [] rfl ⟨rfl,rfl,rfl,rfl,rfl,trivial⟩ trivial rfl rfl
 rintro m_ s_ ⟨i,hk4,hm5,hno,rfl⟩
 iterate 4 refine w_ ?_
 cases hb6:(decide ((i:Int) < (c.2.2.length:Int)))
 ·have hb6':=of_decide_eq_false hb6
  refine w_ ?_
  refine QB ?_
  refine (?_:AC _ _ _ _ _)
  iterate 3 refine w_ ?_
  refine Qf ?_
  subst hO
  have e7:(false:Bool)=(Vj c k sig):=by
   first | exact QoK hno (by omega)
  exact Ql (Qm rfl (Qd rfl)) ((congrArg (fun z_=>lB z_) e7)) rfl
 ·have hb6':=of_decide_eq_true hb6
  iterate 5 refine w_ ?_
  obtain ⟨x8,hx9⟩:∃z,c.2.2[i]? =some z:=⟨_,List.getElem?_eq_getElem (by omega)⟩
  refine lc (Qh (Qa rfl) (Qa rfl) Ks WF rfl (by omega) hx9) ?_
  refine w_ ?_
  refine lc (Qp 1 (.pr .int (.pr .int (.pr .bool .int))) UE rfl rfl (Fresh.of rfl) (nlr rfl))<|lc (Qe (Qa rfl) rfl (Qb rfl) rfl WF rfl) ?_
  iterate 4 refine w_ ?_
  refine AL.fact (QA (x:= .tmp 17) (Qa rfl)) fun hi10=> ?_
  iterate 3 refine w_ ?_
  cases hb11:(decide (x8.1=k))
  ·have hb11':=of_decide_eq_false hb11
   iterate 7 refine w_ ?_
   refine AC.skip ?_
   refine (?_:AC _ _ _ _ _)
   iterate 3 refine w_ ?_
   refine Qk<|QU ⟨i+1,by omega,rfl,(K8 hno hx9 (by first | (exact fun g=>absurd g.1 (by assumption)) | (exact fun g=>absurd g.2 (by assumption)))),rfl⟩ (by omega) ?_
   exact Wk.of [] rfl ⟨rfl,rfl,rfl,rfl,rfl,trivial⟩ trivial rfl rfl
  ·have hb11':=of_decide_eq_true hb11
   iterate 6 refine w_ ?_
   cases hb12:(decide (x8.2.1=sig))
   ·have hb12':=of_decide_eq_false hb12
    refine w_ ?_
    refine AC.skip ?_
    refine (?_:AC _ _ _ _ _)
    iterate 3 refine w_ ?_
    refine Qk<|QU ⟨i+1,by omega,rfl,(K8 hno hx9 (by first | (exact fun g=>absurd g.1 (by assumption)) | (exact fun g=>absurd g.2 (by assumption)))),rfl⟩ (by omega) ?_
    exact Wk.of [] rfl ⟨rfl,rfl,rfl,rfl,rfl,trivial⟩ trivial rfl rfl
   ·have hb12':=of_decide_eq_true hb12
    iterate 4 refine w_ ?_
    refine Qf ?_
    subst hO
    have e13:(true:Bool)=(Vj c k sig):=by
     exact Qnc hx9 (by assumption) (by assumption)
    exact Ql (Qm rfl (Qd rfl)) ((congrArg (fun z_=>lB z_) e13)) rfl
theorem VC (c:(List (ByteArray×Int))×List ByteArray×(List (Int×Int×Bool×Int)))(k:Int)(h8:c.1.length≤8):FC Tryz.prog 128 [(true,[.dat (.sl 145 (.pr .str .int)) c.1, .dat (.sl 9 .str) c.2.1, .dat (.sl 179 (.pr .int (.pr .int (.pr .bool .int)))) c.2.2]),(false,[dI k])] [] 0 (Zq (lf (dS (Yg c k c.1.length)))):=by
 refine QN Tryz.func128 rfl rfl Tryz.ntmps128 fun O_ hO w0_ N0_ X_ h0_ f0_=> ?_
 refine AC.fact (QA (x:= .tmp 1) (Qa rfl)) fun hi1=> ?_
 refine w_ ?_
 refine lc (Qw 0 (Qb rfl) rfl rfl (Fresh.of rfl) (nlr rfl)) ?_
 iterate 9 refine w_ ?_
 refine AL.fact (Qq (x:= .tmp 9) (Qa rfl)) fun hl2=> ?_
 iterate 4 refine w_ ?_
 refine Qx (fun m_ s_=>∃(i:Nat),i≤c.1.length∧m_=c.1.length - i∧s_=⟨[(1,lI k),(2,lP 0 0),(4,lf (dS (⟨#[]⟩:ByteArray))),(5,lf (dS (Yg c k i))),(9,lf (.dat (.sl 145 (.pr .str .int)) c.1)),(10,lI (c.1.length:Int)),(11,lI (i:Int))],[(0,some (.box 59 [.dat (.sl 145 (.pr .str .int)) c.1, .dat (.sl 9 .str) c.2.1, .dat (.sl 179 (.pr .int (.pr .int (.pr .bool .int)))) c.2.2]))]⟩) ⟨0,Nat.zero_le _,rfl,rfl⟩ ?_ ?_
 · exact Wk.of [(0,0)] rfl ⟨rfl,rfl,rfl,(show some (lf (dS (⟨#[]⟩:ByteArray)))=some (lf (dS (Yg c k 0))) from congrArg (fun z_=>some (lf (dS z_))) (rfl)),rfl,rfl,rfl,trivial⟩ ⟨rfl,trivial⟩ rfl rfl
 rintro m_ s_ ⟨i,hk4,hm5,rfl⟩
 have hal:=QlV (c:=c) (q:=k) (i:=i)
 have hn1:(⟨#[UInt8.ofNat (48+(i:Int)).toNat]⟩:ByteArray).size=1:=rfl
 have hn2:(⟨#[44]⟩:ByteArray).size=1:=rfl
 have hn3:((⟨#[UInt8.ofNat (48+(i:Int)).toNat]⟩:ByteArray)++(⟨#[44]⟩:ByteArray)).size=2:=by rw[ByteArray.size_append]; rfl
 iterate 4 refine w_ ?_
 cases hb6:(decide ((i:Int) < (c.1.length:Int)))
 ·have hb6':=of_decide_eq_false hb6
  refine w_ ?_
  refine QB ?_
  refine (?_:AC _ _ _ _ _)
  iterate 4 refine w_ ?_
  refine Qf ?_
  subst hO
  have e7:(Yg c k i:ByteArray)=(Yg c k c.1.length):=by
   (congr 1; omega)
  exact Ql (Qm rfl (Qd rfl)) ((congrArg (fun z_=>lf (dS z_)) e7)) rfl
 ·have hb6':=of_decide_eq_true hb6
  iterate 6 refine w_ ?_
  obtain ⟨sg,hx9⟩:∃z,c.1[i]? =some z:=⟨_,List.getElem?_eq_getElem (by omega)⟩
  refine lc (Qh (Qa rfl) (Qa rfl) YQ Z4 rfl (by omega) hx9) ?_
  refine w_ ?_
  refine lc (Qp 1 (.pr .str .int) K1 rfl rfl (Fresh.of rfl) (nlr rfl)) ?_
  refine w_ ?_
  refine lc (Qe (Qa rfl) rfl (Qb rfl) rfl Z4 rfl) ?_
  iterate 4 refine w_ ?_
  refine AL.fact (QA (x:= .tmp 17) (Qa rfl)) fun hi10=> ?_
  iterate 2 refine w_ ?_
  cases hb11:(!decide (sg.2=1))
  ·have hb11':(sg.2=1):=Zb hb11
   iterate 7 refine w_ ?_
   refine AC.skip ?_
   refine (?_:AC _ _ _ _ _)
   iterate 3 refine w_ ?_
   refine Qk<|QU ⟨i+1,by omega,rfl,rfl⟩ (by omega) ?_
   exact Wk.of [(0,0)] rfl ⟨rfl,rfl,rfl,(show some (lf (dS (Yg c k i)))=some (lf (dS (Yg c k (i+1)))) from congrArg (fun z_=>some (lf (dS z_))) (by first | exact Qdg hx9 (by assumption) (by assumption) | exact QbR hx9 (by assumption) | exact Qdd hx9 (by assumption) (by assumption))),rfl,rfl,rfl,trivial⟩ ⟨rfl,trivial⟩ rfl rfl
  ·have hb11':¬(sg.2=1):=Zk hb11
   iterate 3 refine w_ ?_
   refine lgy rfl rfl (Qn (HR c k (i:Int)) QiE ⟨_,_,rfl,(Qb rfl),⟨_,_,rfl,(Qb rfl),⟨_,_,rfl,(Qb rfl),rfl⟩⟩⟩ rfl rfl) ?_
   iterate 2 refine w_ ?_
   cases hb13:(Vj c k (i:Int))
   ·refine w_ ?_
    refine AC.skip ?_
    refine (?_:AC _ _ _ _ _)
    iterate 3 refine w_ ?_
    refine Qk<|QU ⟨i+1,by omega,rfl,rfl⟩ (by omega) ?_
    exact Wk.of [(0,0)] rfl ⟨rfl,rfl,rfl,(show some (lf (dS (Yg c k i)))=some (lf (dS (Yg c k (i+1)))) from congrArg (fun z_=>some (lf (dS z_))) (by first | exact Qdg hx9 (by assumption) (by assumption) | exact QbR hx9 (by assumption) | exact Qdd hx9 (by assumption) (by assumption))),rfl,rfl,rfl,trivial⟩ ⟨rfl,trivial⟩ rfl rfl
   ·iterate 4 refine w_ ?_
    refine lc (Qn (Qdk (i:Int) (by omega)) QhD ⟨_,_,rfl,(Qb rfl),rfl⟩ rfl rfl)<|lc (Xs (Qa rfl) (Evl.str rfl) rfl (by omega))<|lc (Xs (Qa rfl) (Qa rfl) rfl (by omega)) ?_
    refine w_ ?_
    refine Qk ?_
    refine (?_:AC _ _ _ _ _)
    iterate 3 refine w_ ?_
    refine Qk<|QU ⟨i+1,by omega,rfl,rfl⟩ (by omega) ?_
    exact Wk.of [(0,0)] rfl ⟨rfl,rfl,rfl,(show some (lf (dS ((Yg c k i)++((⟨#[UInt8.ofNat (48+(i:Int)).toNat]⟩:ByteArray)++(⟨#[44]⟩:ByteArray)))))=some (lf (dS (Yg c k (i+1)))) from congrArg (fun z_=>some (lf (dS z_))) (by first | exact Qdg hx9 (by assumption) (by assumption) | exact QbR hx9 (by assumption) | exact Qdd hx9 (by assumption) (by assumption))),rfl,rfl,rfl,trivial⟩ ⟨rfl,trivial⟩ rfl rfl
theorem Jv (c:(List (ByteArray×Int))×List ByteArray×(List (Int×Int×Bool×Int)))(hs:SgW c):FC Tryz.prog 71 [(true,[.dat (.sl 145 (.pr .str .int)) c.1, .dat (.sl 9 .str) c.2.1, .dat (.sl 179 (.pr .int (.pr .int (.pr .bool .int)))) c.2.2])] [] 0 (UC 106 (.sl 3 .int) (W7 c)):=by
 have hn3:=hs.some_
 have hfw:=hs.few
 have hs8:=hs.sig8
 refine QN Tryz.func71 rfl rfl Tryz.ntmps71 fun O_ hO w0_ N0_ X_ h0_ f0_=> ?_
 refine w_ ?_
 refine lc (Qw 0 (Qb rfl) rfl rfl (Fresh.of rfl) (nlr rfl)) ?_
 iterate 9 refine w_ ?_
 refine AL.fact (Qq (x:= .tmp 7) (Qa rfl)) fun hl1=> ?_
 iterate 4 refine w_ ?_
 refine AC.wk (Wk.nilS 1 3 106 (.sl 3 .int) rfl (Fresh.of rfl) (nlr rfl)) ?_
 refine Qx (fun m_ s_=>∃(i:Nat),i≤c.2.1.length∧m_=c.2.1.length - i∧s_=⟨[(1,lP 0 0),(2,lf (.val (.slice none 0 0))),(3,lR 2),(8,lI (c.2.1.length:Int)),(9,lI (i:Int))],[(0,some (.box 59 [.dat (.sl 145 (.pr .str .int)) c.1, .dat (.sl 9 .str) c.2.1, .dat (.sl 179 (.pr .int (.pr .int (.pr .bool .int)))) c.2.2])),(2,some (.arr 106 (.sl 3 .int) (YP c (Ha c) i)))]⟩) ⟨0,Nat.zero_le _,rfl,rfl⟩ ?_ ?_
 · exact Wk.of [(0,0),(2,1)] rfl ⟨rfl,rfl,rfl,rfl,rfl,trivial⟩ ⟨rfl,(Qy (rfl)),trivial⟩ rfl rfl
 rintro m_ s_ ⟨i,hk2,hm3,rfl⟩
 have hal:=Qb8 (c:=c) (f:=Ha c) (i:=i) hn3.2
 iterate 4 refine w_ ?_
 cases hb4:(decide ((i:Int) < (c.2.1.length:Int)))
 ·have hb4':=of_decide_eq_false hb4
  refine w_ ?_
  refine QB ?_
  refine (?_:AC _ _ _ _ _)
  iterate 4 refine w_ ?_
  refine Qf ?_
  subst hO
  refine ZU (e:=(.sl 3 .int)) (xs:=(YP c (Ha c) i)) (Qm rfl (Qd rfl)) rfl ?_
  (congr 1; omega)
 ·have hb4':=of_decide_eq_true hb4
  iterate 14 refine w_ ?_
  refine Qx (fun m_ s_=>∃(m:Int) (out:List (List Int)),m_=((c.2.1.length:Int) - m).toNat∧((i:Int)+1≤m∧m≤(c.2.1.length:Int))∧(out=YP c (Ha c) i++Xg c (Ha c) i m.toNat)∧s_=⟨[(1,lP 0 0),(2,lf (.val (.slice none 0 0))),(3,lR 3),(4,lI (i:Int)),(5,lI m),(8,lI (c.2.1.length:Int)),(9,lI (i:Int)),(10,lB true),(11,lI (i:Int)),(12,lI (i:Int)),(13,lI ((i:Int)+1))],[(0,some (.box 59 [.dat (.sl 145 (.pr .str .int)) c.1, .dat (.sl 9 .str) c.2.1, .dat (.sl 179 (.pr .int (.pr .int (.pr .bool .int)))) c.2.2])),(3,some (.arr 106 (.sl 3 .int) out))]⟩) ⟨(i:Int)+1,YP c (Ha c) i,rfl,(by omega),(by rw[show ((i:Int)+1).toNat=i+1 by omega,QbW,List.append_nil]),rfl⟩ ?_ ?_
  · exact Wk.of [(0,0),(3,2)] rfl ⟨rfl,rfl,rfl,rfl,rfl,rfl,rfl,rfl,rfl,rfl,rfl,trivial⟩ ⟨rfl,(Qy (by first | rfl | simp)),trivial⟩ rfl rfl
  rintro m_ s_ ⟨m,out,hm6,hm,hO1,rfl⟩
  have hol:out.length≤100000:=by rw[hO1,List.length_append]; have:=Qb7 (c:=c) (f:=Ha c) (i:=i) (k:=m.toNat); have:=hal (by omega); omega
  have hmn:((m.toNat:Nat):Int)=m:=by omega
  iterate 5 refine w_ ?_
  refine AL.fact (Qq (x:= .tmp 16) (Qa rfl)) fun hl7=> ?_
  iterate 3 refine w_ ?_
  cases hb8:(decide (m < (c.2.1.length:Int)))
  ·have hb8':=of_decide_eq_false hb8
   refine w_ ?_
   refine QB ?_
   refine (?_:AC _ _ _ _ _)
   iterate 3 refine w_ ?_
   refine Qk<|QU ⟨i+1,by omega,rfl,rfl⟩ (by omega) ?_
   exact Wk.of [(0,0),(2,3)] rfl ⟨rfl,rfl,rfl,rfl,rfl,trivial⟩ ⟨rfl,(Qy ((by rw[hO1]; exact QnV (by omega) (by omega)))),trivial⟩ rfl rfl
  ·have hb8':=of_decide_eq_true hb8
   iterate 4 refine w_ ?_
   obtain ⟨ci,hx10⟩:∃z,c.2.1[i]? =some z:=⟨_,List.getElem?_eq_getElem (by omega)⟩
   have hci:=hx10
   obtain ⟨cm,hx12⟩:∃z,c.2.1[(m).toNat]? =some z:=⟨_,List.getElem?_eq_getElem (by omega)⟩
   have hcm:=hx12
   cases hb13:(decide (ci=cm))
   ·have hb13':=of_decide_eq_false hb13
    refine dw [io 21 (lP 0 1),io 22 (lf (.dat (.sl 9 .str) c.2.1)),io 23 (lI (i:Int)),io 24 (lf (.elt .str ci 0)),io 25 (lf (dS ci)),io 26 (lP 0 1),io 27 (lf (.dat (.sl 9 .str) c.2.1)),io 28 (lI m),io 29 (lf (.elt .str cm 0)),io 30 (lf (dS cm)),io 31 (lB false),io 32 (lB false),io 33 (lf (.val undef)),io 34 (lf (.val undef)),io 35 (lf (.val undef)),io 36 (lf (.val undef)),io 37 (lf (.val undef)),io 38 (lf (.val undef)),io 39 (lf (.val undef)),io 40 (lB false)] [0,1,0,7,15,0,32,0,224,480,1023,2047,4095,4095,16383,4095,4095,131071,262143,524287] mixed rfl (by kernel_rfl) ⟨dxf W8 rfl rfl rfl,dxl Xe rfl rfl rfl rfl rfl,dxm rfl rfl,fun _ h_=>ac (Qh (h_.v rfl) (h_.v rfl) Zi Ze rfl (by omega) hx10) rfl,fun _ h_=>ac (Q0 (h_.v rfl) Ze rfl rfl) rfl,dxf W8 rfl rfl rfl,dxl Xe rfl rfl rfl rfl rfl,dxm rfl rfl,fun _ h_=>ac (Qh (h_.v rfl) (h_.v rfl) Zi Ze rfl (by omega) hx12) rfl,fun _ h_=>ac (Q0 (h_.v rfl) Ze rfl rfl) rfl,fun _ h_=>ac (Hj (hb13) (Qat (h_.v rfl) (h_.v rfl) rfl)) rfl,dxm rfl rfl,dxo rfl rfl rfl,dxo rfl rfl rfl,dxo rfl rfl rfl,dxo rfl rfl rfl,dxo rfl rfl rfl,dxo rfl rfl rfl,dxo rfl rfl rfl,fun _ h_=>ac (Jw (h_.v rfl) (Evl.ev Yy) rfl) rfl,⟨⟩⟩ ?_
    refine w_ ?_
    refine AC.skip ?_
    refine (?_:AC _ _ _ _ _)
    iterate 4 refine w_ ?_
    refine Qk<|QU ⟨(m+1),out,rfl,(by omega),(by rw[hO1]; first | exact Qjd (by omega) hcm hci (by assumption) (Qfg hs8 (by rw[hmn]; assumption)) | exact QjI (by omega) hcm hci (by assumption) | exact Qlv (by omega) (Qir hs8 (by rw[hmn]; assumption))),rfl⟩ (by omega) ?_
    exact Wk.of [(0,0),(3,3)] rfl ⟨rfl,rfl,rfl,rfl,rfl,rfl,rfl,rfl,rfl,rfl,rfl,trivial⟩ ⟨rfl,rfl,trivial⟩ rfl rfl
   ·have hb13':=of_decide_eq_true hb13
    refine dw [io 21 (lP 0 1),io 22 (lf (.dat (.sl 9 .str) c.2.1)),io 23 (lI (i:Int)),io 24 (lf (.elt .str ci 0)),io 25 (lf (dS ci)),io 26 (lP 0 1),io 27 (lf (.dat (.sl 9 .str) c.2.1)),io 28 (lI m),io 29 (lf (.elt .str cm 0)),io 30 (lf (dS cm)),io 31 (lB true),io 32 (lB true),io 33 (ag [.dat (.sl 145 (.pr .str .int)) c.1, .dat (.sl 9 .str) c.2.1, .dat (.sl 179 (.pr .int (.pr .int (.pr .bool .int)))) c.2.2]),io 34 (lI (i:Int)),io 35 (lf (dS (Yg c (i:Int) c.1.length))),io 36 (ag [.dat (.sl 145 (.pr .str .int)) c.1, .dat (.sl 9 .str) c.2.1, .dat (.sl 179 (.pr .int (.pr .int (.pr .bool .int)))) c.2.2]),io 37 (lI m),io 38 (lf (dS (Yg c m c.1.length))),io 39 (lB (!decide ((Yg c (i:Int) c.1.length)=(Yg c m c.1.length)))),io 40 (lB (!decide ((Yg c (i:Int) c.1.length)=(Yg c m c.1.length))))] [0,1,0,7,15,0,32,0,224,480,1023,2047,4095,4095,16383,4095,4095,131071,262143,524287] mixed rfl (by kernel_rfl) ⟨dxf W8 rfl rfl rfl,dxl Xe rfl rfl rfl rfl rfl,dxm rfl rfl,fun _ h_=>ac (Qh (h_.v rfl) (h_.v rfl) Zi Ze rfl (by omega) hx10) rfl,fun _ h_=>ac (Q0 (h_.v rfl) Ze rfl rfl) rfl,dxf W8 rfl rfl rfl,dxl Xe rfl rfl rfl rfl rfl,dxm rfl rfl,fun _ h_=>ac (Qh (h_.v rfl) (h_.v rfl) Zi Ze rfl (by omega) hx12) rfl,fun _ h_=>ac (Q0 (h_.v rfl) Ze rfl rfl) rfl,fun _ h_=>ac (Hj (hb13) (Qat (h_.v rfl) (h_.v rfl) rfl)) rfl,dxm rfl rfl,fun _ h_=>day rfl (h_.k rfl) (VI (h_.v rfl) (h_.n 0 rfl) ZA rfl rfl) rfl,fun _ h_=>day rfl (h_.k rfl) (X0 (h_.k rfl) rfl) rfl,fun _ h_=>day rfl (h_.k rfl) (Qn (VC c (i:Int) (by omega)) QcX ⟨_,_,rfl,(h_.w rfl),⟨_,_,rfl,(h_.w rfl),rfl⟩⟩ rfl rfl) rfl,fun _ h_=>day rfl (h_.k rfl) (VI (h_.v rfl) (h_.n 0 rfl) ZA rfl rfl) rfl,fun _ h_=>day rfl (h_.k rfl) (X0 (h_.k rfl) rfl) rfl,fun _ h_=>day rfl (h_.k rfl) (Qn (VC c m (by omega)) QcX ⟨_,_,rfl,(h_.w rfl),⟨_,_,rfl,(h_.w rfl),rfl⟩⟩ rfl rfl) rfl,fun _ h_=>day rfl (h_.k rfl) (QeB (h_.v rfl) (h_.v rfl) rfl) rfl,fun _ h_=>ac (JK (h_.v rfl) (h_.w rfl) rfl) rfl,⟨⟩⟩ ?_
    cases hb14:(!decide ((Yg c (i:Int) c.1.length)=(Yg c m c.1.length)))
    ·have hb14':((Yg c (i:Int) c.1.length)=(Yg c m c.1.length)):=Zb hb14
     refine w_ ?_
     refine AC.skip ?_
     refine (?_:AC _ _ _ _ _)
     iterate 4 refine w_ ?_
     refine Qk<|QU ⟨(m+1),out,rfl,(by omega),(by rw[hO1]; first | exact Qjd (by omega) hcm hci (by assumption) (Qfg hs8 (by rw[hmn]; assumption)) | exact QjI (by omega) hcm hci (by assumption) | exact Qlv (by omega) (Qir hs8 (by rw[hmn]; assumption))),rfl⟩ (by omega) ?_
     exact Wk.of [(0,0),(3,3)] rfl ⟨rfl,rfl,rfl,rfl,rfl,rfl,rfl,rfl,rfl,rfl,rfl,trivial⟩ ⟨rfl,rfl,trivial⟩ rfl rfl
    ·have hb14':¬((Yg c (i:Int) c.1.length)=(Yg c m c.1.length)):=Zk hb14
     iterate 5 refine w_ ?_
     refine lc (Qg 4 (e:= .int) QE QO Yf rfl ⟨_,_,rfl,(Qb rfl),⟨_,_,rfl,(Qb rfl),rfl⟩⟩ (List.all_eq_true.1 rfl) ⟨_,_,_,_,rfl,⟨rfl,rfl⟩,⟨_,_,_,_,rfl,⟨rfl,rfl⟩,⟨rfl,rfl⟩,rfl⟩,rfl⟩ (by decide) rfl rfl (Fresh.of rfl) (nlr rfl))<|lc (Qg 5 (e:=(.sl 3 .int)) Q1 QI Z9 rfl ⟨_,_,rfl,(Qb rfl),rfl⟩ (List.all_eq_true.1 rfl) ⟨_,_,_,_,rfl,(.inl ⟨_,rfl,rfl,rfl⟩),⟨rfl,rfl⟩,rfl⟩ (by decide) rfl rfl (Fresh.of rfl) (nlr rfl))<|lc (QQ 6 (Qa rfl) rfl (Qa rfl) rfl rfl Q1 Y5 (by first | omega | (simp only[List.length_append,List.length_map,List.length_take,List.length_cons,List.length_nil]; omega) | (simp only[List.length_append,List.length_drop,List.length_take,List.length_cons,List.length_nil]; omega)) rfl (Fresh.of rfl) (nlr rfl)) ?_
     refine w_ ?_
     refine Qk ?_
     refine (?_:AC _ _ _ _ _)
     iterate 4 refine w_ ?_
     refine Qk<|QU ⟨(m+1),(out++([[(i:Int),m]])),rfl,(by omega),(by rw[hO1]; first | exact Qjd (by omega) hcm hci (by assumption) (Qfg hs8 (by rw[hmn]; assumption)) | exact QjI (by omega) hcm hci (by assumption) | exact Qlv (by omega) (Qir hs8 (by rw[hmn]; assumption))),rfl⟩ (by omega) ?_
     exact Wk.of [(0,0),(3,6)] rfl ⟨rfl,rfl,rfl,rfl,rfl,rfl,rfl,rfl,rfl,rfl,rfl,trivial⟩ ⟨rfl,(Qy (by first | rfl | simp)),trivial⟩ rfl rfl
end Go.Proofs.YtnakmhfjafecpaaGreat
namespace Go.Proofs.YtnakmhfjafecpaaGreat
open Go.RowKit
set_option maxRecDepth 100000
set_option maxHeartbeats 4000000
def YI (f:Hdr→List Int):Option (List Int)→List Hdr→List Hdr
  | _,[]=>[]
  | p,y :: l=>if p=some (f y) then YI f p l else y :: YI f (some (f y)) l
section
variable {f:Hdr→List Int}{vs zs:List Hdr}{m k:Nat}{x y:Hdr}{l:List (List Int)}{i j n:Int}
theorem Qcm:∀(l:List Hdr) (p:Option (List Int)),(YI f p l).Sublist l
  | [],_=>List.Sublist.refl _
  | y :: l,p=>by
    unfold YI
    split
    · exact (Qcm l p).cons y
    · exact (Qcm l _).cons_cons y
theorem Qax:∀(l:List Hdr) (x:List Int),x :: (YI f (some x) l).map f=Ug (x :: l.map f)
  | [],x=>rfl
  | y :: l,x=>by
    unfold YI
    rw[List.map_cons,Ug]
    by_cases h:x=f y
    · rw[if_pos (congrArg some h),if_pos h,← h]; exact Qax l x
    · rw[if_neg (fun e=>h (Option.some.inj e)),if_neg h,List.map_cons,Qax l (f y)]
theorem Qgo:∀l:List Hdr,(YI f none l).map f=Ug (l.map f)
  | []=>rfl
  | y :: l=>by rw[YI,if_neg (by simp),List.map_cons,Qax l (f y),List.map_cons]
theorem Qas (y:Hdr):∀(l:List Hdr) (p:Option (List Int)),YI f p (l++[y])=YI f p l++(if ((l.getLast?).map f).or p=some (f y) then [] else [y])
  | [],p=>by
    by_cases h:p=some (f y)
    · simp[YI,h]
    · simp[YI,h]
  | z :: l,p=>by
    have hl:∀q:Option (List Int),(((z :: l).getLast?).map f).or q=((l.getLast?).map f).or (some (f z)):=fun q=>by
      rw[List.getLast?_cons]
      cases l.getLast? <;> rfl
    rw[hl,List.cons_append,YI,YI]
    by_cases h:p=some (f z)
    · rw[if_pos h,if_pos h,Qas y l p,h]
    · rw[if_neg h,if_neg h,Qas y l (some (f z)),List.cons_append]
theorem Qen (h1:vs[m]? =some x)(h2:vs[m+1]? =some y):YI f none (vs.take (m+1+1))=YI f none (vs.take (m+1))++(if f x=f y then [] else [y]):=by
  rw[QW h2,Qas]
  have:(vs.take (m+1)).getLast? =some x:=by rw[QW h1]; simp
  rw[this]; simp
theorem Qja (hi:1≤i)(hx:vs[(i - 1).toNat]? =some x)(hy:vs[i.toNat]? =some y)(h:f y=f x):YI f none (vs.take (i+1).toNat)=YI f none (vs.take i.toNat):=by
  have:=Qen (f:=f) hx (y:=y) (by rw[show (i - 1).toNat+1=i.toNat by omega]; exact hy)
  rw[show (i - 1).toNat+1=i.toNat by omega,show i.toNat+1=(i+1).toNat by omega,if_pos h.symm,List.append_nil] at this
  exact this
theorem Qjz (hi:1≤i)(hx:vs[(i - 1).toNat]? =some x)(hy:vs[i.toNat]? =some y)(h:¬f y=f x):YI f none (vs.take (i+1).toNat)=YI f none (vs.take i.toNat)++[y]:=by
  have:=Qen (f:=f) hx (y:=y) (by rw[show (i - 1).toNat+1=i.toNat by omega]; exact hy)
  rw[show (i - 1).toNat+1=i.toNat by omega,show i.toNat+1=(i+1).toNat by omega,if_neg (fun e=>h e.symm)] at this
  exact this
theorem QnI (h:2≤(vs.length:Int)):YI f none (vs.take (1:Int).toNat)=vs.take (1:Int).toNat:=by
  match vs,h with
  | a :: b :: vs,_=>simp[YI]
theorem QnS (hi:1≤i)(hP:YI f none (vs.take i.toNat)=vs.take i.toNat)(hx:vs[(i - 1).toNat]? =some x)(hy:vs[i.toNat]? =some y)(h:¬f y=f x):YI f none (vs.take (i+1).toNat)=vs.take (i+1).toNat:=by
  rw[Qjz hi hx hy h,hP,show (i+1).toNat=i.toNat+1 by omega,QW hy]
theorem Qno (hi:1≤i)(hP:YI f none (vs.take i.toNat)=vs.take i.toNat)(hx:vs[(i - 1).toNat]? =some x)(hy:vs[i.toNat]? =some y)(h:f y=f x):vs.take i.toNat=YI f none (vs.take (i+1).toNat):=by
  rw[Qja hi hx hy h,hP]
theorem Qmn (hvf:vs.map f=l)(hP:YI f none (vs.take i.toNat)=vs.take i.toNat)(h:¬i < (vs.length:Int)):vs.map f=Ug l:=by
  rw[List.take_of_length_le (by omega)] at hP
  rw[← hvf,← Qgo,hP]
theorem QnP (hvf:vs.map f=l)(h:(vs.length:Int) < 2):vs.map f=Ug l:=by
  rw[← hvf]
  match vs,h with
  | [],_=>rfl
  | [a],_=>rfl
  | a :: b :: vs,h=>simp at h; omega
theorem Qm6 (hm:1≤n)(hj:1≤j)(hz:zs.take i.toNat=YI f none (vs.take (n+j).toNat))(ht:∀t:Nat,n+j - 1≤(t:Int)→zs[t]? =vs[t]?)
    (hx:zs[n.toNat+(j - 1).toNat]? =some x) (hy:zs[n.toNat+j.toNat]? =some y) (h:f y=f x):zs.take i.toNat=YI f none (vs.take (n+(j+1)).toNat):=by
  rw[hz,show n+(j+1)=(n+j)+1 by omega]
  refine (Qja (by omega) (x:=x) (y:=y) ?_ ?_ h).symm
  · rw[← ht _ (by omega),← hx]; congr 1; omega
  · rw[← ht _ (by omega),← hy]; congr 1; omega
theorem QmW (hm:1≤n)(hj:1≤j)(h0:0≤i)(hl:i < (zs.length:Int))(hz:zs.take i.toNat=YI f none (vs.take (n+j).toNat))(ht:∀t:Nat,n+j - 1≤(t:Int)→zs[t]? =vs[t]?)
    (hx:zs[n.toNat+(j - 1).toNat]? =some x) (hy:zs[n.toNat+j.toNat]? =some y) (h:¬f y=f x):(zs.set i.toNat y).take (i+1).toNat=YI f none (vs.take (n+(j+1)).toNat):=by
  have e1:(zs.set i.toNat y)[i.toNat]? =some y:=List.getElem?_set_self (by omega)
  rw[show (i+1).toNat=i.toNat+1 by omega,QW e1,List.take_set_of_le (Nat.le_refl _),hz,show n+(j+1)=(n+j)+1 by omega]
  refine (Qjz (by omega) (x:=x) (y:=y) ?_ ?_ h).symm
  · rw[← ht _ (by omega),← hx]; congr 1; omega
  · rw[← ht _ (by omega),← hy]; congr 1; omega
theorem QmX (hi:i≤n+j - 1)(h0:0≤i)(ht:∀t:Nat,n+j - 1≤(t:Int)→zs[t]? =vs[t]?):∀t:Nat,n+(j+1) - 1≤(t:Int)→(zs.set i.toNat y)[t]? =vs[t]? :=fun t h=>by
  rw[List.getElem?_set_ne (by omega)]; exact ht t (by omega)
theorem Qjk (h0:0≤i)(hl:i≤(zs.length:Int))(r:List Hdr):(zs.take i.toNat++r).take i.toNat=zs.take i.toNat:=by
  rw[List.take_left' (by rw[List.length_take]; omega)]
theorem Ql4 (h0:0≤i)(hl:i≤(zs.length:Int))(r:List Hdr)(hz:zs.take i.toNat=YI f none (vs.take (n+j).toNat)):∃l:List Hdr,l.Perm ((zs.take i.toNat++r).take i.toNat)∧l.Sublist vs:=by
  rw[Qjk h0 hl,hz]
  exact ⟨_,List.Perm.refl _,(Qcm _ _).trans (List.take_sublist ..)⟩
theorem QlA (hvf:vs.map f=l)(h0:0≤i)(hl:i≤(zs.length:Int))(r:List Hdr)(hz:zs.take i.toNat=YI f none (vs.take (n+j).toNat))(he:(vs.length:Int)≤n+j):((zs.take i.toNat++r).take i.toNat).map f=Ug l:=by
  rw[Qjk h0 hl,hz,List.take_of_length_le (by omega),Qgo,hvf]
end
theorem Wa (l:List (List Int))(hl:l.length≤1000000):FC Tryz.prog 116 [(false,[.ref 0]),(false,[.clo 117 []])] [(0,some (.arr 106 (.sl 3 .int) l))] 0 (UC 106 (.sl 3 .int) (Ug l)):=by
 refine QN Tryz.func116 rfl rfl Tryz.ntmps116 fun O_ hO w0_ N0_ X_ h0_ f0_=> ?_
 refine Wp<|AC.poolO (q:=0) (e:= .int) 1 rfl (Fresh.of rfl) (nlr rfl) fun vs gf hvf=> ?_
 have hvl:vs.length=l.length:=by rw[← hvf,List.length_map]
 iterate 9 refine w_ ?_
 cases hb1:(decide ((vs.length:Int) < 2))
 ·have hb1':=of_decide_eq_false hb1
  iterate 7 refine w_ ?_
  refine Qx (fun m_ s_=>∃(m:Int),m_=((vs.length:Int) - m).toNat∧(1≤m∧m≤(vs.length:Int))∧(YI gf none (vs.take m.toNat)=vs.take m.toNat)∧s_=⟨[(0,lR 0),(1,lf (.clo 117 [])),(5,lI m)],[(0,some (.arr 106 .vl vs)),(1,some (.pl true (.sl 3 .int) vs gf))]⟩) ⟨1,rfl,(by omega),(QnI (by omega)),rfl⟩ ?_ ?_
  · exact Wk.of [(0,0),(1,1)] rfl ⟨rfl,rfl,rfl,trivial⟩ ⟨rfl,rfl,trivial⟩ rfl rfl
  rintro m_ s_ ⟨m,hm3,hm,hP,rfl⟩
  iterate 7 refine w_ ?_
  cases hb4:(decide (m < (vs.length:Int)))
  ·have hb4':=of_decide_eq_false hb4
   refine w_ ?_
   refine QB ?_
   refine (?_:AC _ _ _ _ _)
   iterate 4 refine w_ ?_
   refine AC.wk (WV (q:=0) (p:=1) (zs:=vs) rfl rfl (by exact ⟨_,List.Perm.refl _,List.Sublist.refl _⟩))<|Qf ?_
   subst hO
   refine ZU (e:=(.sl 3 .int)) (xs:=(vs.map gf)) (Qm rfl (Qd rfl)) rfl ?_
   exact Qmn hvf hP (by omega)
  ·have hb4':=of_decide_eq_true hb4
   iterate 4 refine w_ ?_
   obtain ⟨y,hx6⟩:∃z,vs[(m).toNat]? =some z:=⟨_,List.getElem?_eq_getElem (by omega)⟩
   have yh:=hx6
   obtain ⟨x,hx8⟩:∃z,vs[(m - 1).toNat]? =some z:=⟨_,List.getElem?_eq_getElem (by omega)⟩
   have xh:=hx8
   refine dw [io 18 (lf (.clo 117 [])),io 19 (lR 0),io 20 (lI m),io 21 (lf (.ept 0 1 ((m).toNat) 0)),io 22 (lf (.dat .vl y)),io 23 (lR 0),io 24 (lI m),io 25 (lI (m - 1)),io 26 (lf (.ept 0 1 ((m - 1).toNat) 0)),io 27 (lf (.dat .vl x)),io 28 (lB (decide ((gf y)=(gf x))))] [0,0,0,6,14,0,0,64,224,480,1023] mixed rfl (by kernel_rfl) ⟨dxm rfl rfl,dxm rfl rfl,dxm rfl rfl,fun _ h_=>ac (Qu (e:= .vl) (h_.v rfl) (h_.en 0 rfl) (h_.v rfl) Q1 QI rfl (by omega) (by first | omega | (simp only[List.length_set]; omega))) rfl,fun _ h_=>ac (QL (e:= .vl) (h_.v rfl) (h_.n 0 rfl) hx6 rfl QI rfl rfl) rfl,dxm rfl rfl,dxm rfl rfl,fun _ h_=>ac (Qc9 (h_.v rfl) (QM rfl) rfl (by omega)) rfl,fun _ h_=>ac (Qu (e:= .vl) (h_.v rfl) (h_.en 0 rfl) (h_.v rfl) Q1 QI rfl (by omega) (by first | omega | (simp only[List.length_set]; omega))) rfl,fun _ h_=>ac (QL (e:= .vl) (h_.v rfl) (h_.n 0 rfl) hx8 rfl QI rfl rfl) rfl,fun _ h_=>ac (QaK (Yj (gf y) (gf x)) JA (h_.v rfl) ⟨_,_,rfl,(KJ (p:=1) (h_.v rfl) (h_.n 1 rfl) (List.mem_of_getElem? hx6)),⟨_,_,rfl,(KJ (p:=1) (h_.v rfl) (h_.n 1 rfl) (List.mem_of_getElem? hx8)),rfl⟩⟩ rfl rfl rfl) rfl,⟨⟩⟩ ?_
   cases hb9:(decide ((gf y)=(gf x)))
   ·have hb9':=of_decide_eq_false hb9
    refine w_ ?_
    refine AC.skip ?_
    refine (?_:AC _ _ _ _ _)
    iterate 4 refine w_ ?_
    refine Qk<|QU ⟨(m+1),rfl,(by omega),(QnS (by omega) hP xh yh (of_decide_eq_false (by assumption))),rfl⟩ (by omega) ?_
    exact Wk.of [(0,0),(1,1)] rfl ⟨rfl,rfl,rfl,trivial⟩ ⟨rfl,rfl,trivial⟩ rfl rfl
   ·have hb9':=of_decide_eq_true hb9
    iterate 4 refine w_ ?_
    refine lc (Ya (e:= .vl) (a:=(m).toNat) (b:=vs.length - (m).toNat) (l:=(some m)) (h:=none) (Qa rfl) rfl (by exact (Qa rfl)) (by exact trivial) Q1 QI rfl (by first | (simp only[Option.getD_none,Option.getD_some]; omega) | omega | (simp only[Option.getD_none,Option.getD_some,List.length_append,List.length_take,List.length_replicate]; omega)) (by first | (simp only[Option.getD_none,Option.getD_some]; omega) | omega | (simp only[Option.getD_none,Option.getD_some,List.length_append,List.length_take,List.length_replicate]; omega)) (by first | (simp only[Option.getD_none,Option.getD_some]; omega) | omega | (simp only[Option.getD_none,Option.getD_some,List.length_append,List.length_take,List.length_replicate]; omega)) (by first | rfl | simp) (by first | rfl | simp)) ?_
    iterate 7 refine w_ ?_
    refine Qx (fun m_ s_=>∃(zs:List Hdr) (i:Int) (j:Int),m_=((vs.length:Int) - m - j).toNat∧(zs.length=vs.length)∧(m≤i∧1≤j∧i≤m+j - 1∧m+j≤(vs.length:Int))∧(zs.take i.toNat=YI gf none (vs.take (m+j).toNat))∧(∀t:Nat,m+j - 1≤(t:Int)→zs[t]? =vs[t]?)∧s_=⟨[(0,lR 2),(1,lf (.clo 117 [])),(5,lI i),(6,lf (.sub 2 1 ((m).toNat) (vs.length - (m).toNat))),(7,lI j),(12,lI m),(14,lI (vs.length:Int)),(15,lB true),(18,lf (.clo 117 [])),(20,lI m),(22,lf (.dat .vl y)),(24,lI m),(25,lI (m - 1)),(27,lf (.dat .vl x)),(28,lB true),(30,lI m)],[(1,some (.pl true (.sl 3 .int) vs gf)),(2,some (.arr 106 .vl zs))]⟩) ⟨vs,m,1,rfl,rfl,(by omega),(Qno (by omega) hP xh yh (of_decide_eq_true (by assumption))),(fun t _=>rfl),rfl⟩ ?_ ?_
    · exact Wk.of [(1,1),(2,0)] rfl ⟨rfl,rfl,rfl,rfl,rfl,rfl,rfl,rfl,rfl,rfl,rfl,rfl,rfl,rfl,rfl,rfl,trivial⟩ ⟨rfl,rfl,trivial⟩ rfl rfl
    rintro m_ s_ ⟨zs,i,j,hm11,hz0,hij,hzs,htl,rfl⟩
    iterate 4 refine w_ ?_
    refine lc (QfS (e:= .vl) (Qa rfl) rfl (by omega) Q1 rfl) ?_
    iterate 2 refine w_ ?_
    cases hb12:(decide (j < ((vs.length - (m).toNat:Nat):Int)))
    ·have hb12':=of_decide_eq_false hb12
     refine w_ ?_
     refine QB ?_
     refine (?_:AC _ _ _ _ _)
     iterate 3 refine w_ ?_
     refine lc (Ya (e:= .vl) (a:=(i).toNat) (b:=zs.length - (i).toNat) (l:=(some i)) (h:=none) (Qa rfl) rfl (by exact (Qa rfl)) (by exact trivial) Q1 QI rfl (by first | (simp only[Option.getD_none,Option.getD_some]; omega) | omega | (simp only[Option.getD_none,Option.getD_some,List.length_append,List.length_take,List.length_replicate]; omega)) (by first | (simp only[Option.getD_none,Option.getD_some]; omega) | omega | (simp only[Option.getD_none,Option.getD_some,List.length_append,List.length_take,List.length_replicate]; omega)) (by first | (simp only[Option.getD_none,Option.getD_some]; omega) | omega | (simp only[Option.getD_none,Option.getD_some,List.length_append,List.length_take,List.length_replicate]; omega)) (by first | rfl | simp) (by first | rfl | simp))<|lc (QaF (e:= .vl) (Qa rfl) rfl (by omega) Q1 Z9 rfl rfl rfl) ?_
     iterate 4 refine w_ ?_
     refine lc (Ya (e:= .vl) (a:=0) (b:=(i).toNat) (l:=none) (h:=(some i)) (Qa rfl) rfl (by exact trivial) (by exact (Qa rfl)) Q1 QI rfl (by first | (simp only[Option.getD_none,Option.getD_some]; omega) | omega | (simp only[Option.getD_none,Option.getD_some,List.length_append,List.length_take,List.length_replicate]; omega)) (by first | (simp only[Option.getD_none,Option.getD_some]; omega) | omega | (simp only[Option.getD_none,Option.getD_some,List.length_append,List.length_take,List.length_replicate]; omega)) (by first | (simp only[Option.getD_none,Option.getD_some]; omega) | omega | (simp only[Option.getD_none,Option.getD_some,List.length_append,List.length_take,List.length_replicate]; omega)) (by first | rfl | simp) (by first | rfl | simp)) ?_
     iterate 2 refine w_ ?_
     refine AC.wk (QcE 3 4 (e:= .vl) (xs:=zs.take ((i).toNat)++List.replicate (zs.length - (i).toNat) (Ty.zero .vl)) rfl rfl (by first | omega | (simp only[List.length_append,List.length_take,List.length_replicate]; omega)) rfl (Fresh.of rfl) (nlr rfl))<|AC.wk (WV (q:=3) (p:=1) (zs:=(zs.take ((i).toNat)++List.replicate (zs.length - (i).toNat) (Ty.zero .vl)).take ((i).toNat)) rfl rfl (by exact Ql4 (by omega) (by omega) _ hzs))<|Qf ?_
     subst hO
     refine ZU (e:=(.sl 3 .int)) (xs:=(((zs.take ((i).toNat)++List.replicate (zs.length - (i).toNat) (Ty.zero .vl)).take ((i).toNat)).map gf)) (Qm rfl (Qd rfl)) rfl ?_
     exact QlA hvf (by omega) (by omega) _ hzs (by omega)
    ·have hb12':=of_decide_eq_true hb12
     iterate 4 refine w_ ?_
     obtain ⟨y2,hx14⟩:∃z,zs[(((m).toNat)+(j).toNat)]? =some z:=⟨_,List.getElem?_eq_getElem (by omega)⟩
     have y2h:=hx14
     obtain ⟨x2,hx16⟩:∃z,zs[(((m).toNat)+(j - 1).toNat)]? =some z:=⟨_,List.getElem?_eq_getElem (by omega)⟩
     have x2h:=hx16
     refine dw [io 38 (lf (.clo 117 [])),io 39 (lf (.sub 2 1 ((m).toNat) (vs.length - (m).toNat))),io 40 (lI j),io 41 (lf (.ept 2 1 (((m).toNat)+(j).toNat) 0)),io 42 (lf (.dat .vl y2)),io 43 (lf (.sub 2 1 ((m).toNat) (vs.length - (m).toNat))),io 44 (lI j),io 45 (lI (j - 1)),io 46 (lf (.ept 2 1 (((m).toNat)+(j - 1).toNat) 0)),io 47 (lf (.dat .vl x2)),io 48 (lB (decide ((gf y2)=(gf x2)))),io 49 (lB (!(decide ((gf y2)=(gf x2)))))] [0,0,0,6,14,0,0,64,224,480,1023,2047] mixed rfl (by kernel_rfl) ⟨dxm rfl rfl,dxm rfl rfl,dxm rfl rfl,fun _ h_=>ac (VM (e:= .vl) (k:=((m).toNat)+(j).toNat) (h_.v rfl) (h_.en 2 rfl) (by omega) (h_.v rfl) Q1 QI rfl (by omega) (by omega) (by first | rfl | omega)) rfl,fun _ h_=>ac (QL (e:= .vl) (h_.v rfl) (h_.n 2 rfl) hx14 rfl QI rfl rfl) rfl,dxm rfl rfl,dxm rfl rfl,fun _ h_=>ac (Qc9 (h_.v rfl) (QM rfl) rfl (by omega)) rfl,fun _ h_=>ac (VM (e:= .vl) (k:=((m).toNat)+(j - 1).toNat) (h_.v rfl) (h_.en 2 rfl) (by omega) (h_.v rfl) Q1 QI rfl (by omega) (by omega) (by first | rfl | omega)) rfl,fun _ h_=>ac (QL (e:= .vl) (h_.v rfl) (h_.n 2 rfl) hx16 rfl QI rfl rfl) rfl,fun _ h_=>ac (QaK (Yj (gf y2) (gf x2)) JA (h_.v rfl) ⟨_,_,rfl,(KJ (p:=1) (h_.v rfl) (h_.en 1 rfl) (List.mem_of_getElem? ((htl _ (by omega)).symm.trans hx14))),⟨_,_,rfl,(KJ (p:=1) (h_.v rfl) (h_.en 1 rfl) (List.mem_of_getElem? ((htl _ (by omega)).symm.trans hx16))),rfl⟩⟩ rfl rfl rfl) rfl,fun _ h_=>ac (Wn (h_.v rfl) rfl) rfl,⟨⟩⟩ ?_
     cases hb17:(decide ((gf y2)=(gf x2)))
     ·have hb17':=of_decide_eq_false hb17
      iterate 6 refine w_ ?_
      refine lc (VM (e:= .vl) (k:=((m).toNat)+(j).toNat) (Qa rfl) rfl (by omega) (Qa rfl) Q1 QI rfl (by omega) (by omega) (by first | rfl | omega))<|lc (QL (e:= .vl) (Qa rfl) rfl hx14 rfl QI rfl rfl)<|lc (Qu (e:= .vl) (Qa rfl) rfl (Qa rfl) Q1 QI rfl (by omega) (by first | omega | (simp only[List.length_set]; omega))) ?_
      obtain ⟨x18,hx19⟩:∃z,zs[(i).toNat]? =some z:=⟨_,List.getElem?_eq_getElem (by omega)⟩
      have x18h:=hx19
      refine lc (QX (e:= .vl) (z':=y2) (Qa rfl) rfl hx19 rfl (Qb rfl) rfl QI rfl rfl) ?_
      iterate 5 refine w_ ?_
      refine Qk ?_
      refine (?_:AC _ _ _ _ _)
      iterate 4 refine w_ ?_
      refine Qk<|QU ⟨(zs.set ((i).toNat) y2),(i+1),(j+1),rfl,(by (rw[List.length_set]; assumption)),(by omega),(by exact QmW (by omega) (by omega) (by omega) (by omega) hzs htl x2h y2h (of_decide_eq_false (by assumption))),(by exact QmX (by omega) (by omega) htl),rfl⟩ (by omega) ?_
      exact Wk.of [(1,1),(2,2)] rfl ⟨rfl,rfl,rfl,rfl,rfl,rfl,rfl,rfl,rfl,rfl,rfl,rfl,rfl,rfl,rfl,rfl,trivial⟩ ⟨rfl,(Qy (by first | rfl | simp)),trivial⟩ rfl rfl
     ·have hb17':=of_decide_eq_true hb17
      refine w_ ?_
      refine AC.skip ?_
      refine (?_:AC _ _ _ _ _)
      iterate 4 refine w_ ?_
      refine Qk<|QU ⟨zs,i,(j+1),rfl,(by assumption),(by omega),(by exact Qm6 (by omega) (by omega) hzs htl x2h y2h (of_decide_eq_true (by assumption))),(by exact fun t h=>htl t (by omega)),rfl⟩ (by omega) ?_
      exact Wk.of [(1,1),(2,2)] rfl ⟨rfl,rfl,rfl,rfl,rfl,rfl,rfl,rfl,rfl,rfl,rfl,rfl,rfl,rfl,rfl,rfl,trivial⟩ ⟨rfl,rfl,trivial⟩ rfl rfl
 ·have hb1':=of_decide_eq_true hb1
  iterate 5 refine w_ ?_
  refine AC.wk (WV (q:=0) (p:=1) (zs:=vs) rfl rfl (by exact ⟨_,List.Perm.refl _,List.Sublist.refl _⟩))<|Qf ?_
  subst hO
  refine ZU (e:=(.sl 3 .int)) (xs:=(vs.map gf)) (Qm rfl (Qd rfl)) rfl ?_
  exact QnP hvf (by omega)
end Go.Proofs.YtnakmhfjafecpaaGreat
