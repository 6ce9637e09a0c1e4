/- Walks over abstract states: the graph behind an insertion, both sides; pairs of states that violate complete state coding, the reference; what an insertion costs. -/
import Derived.Test.YtnakmhfjafecpaaGreatUf
set_option linter.unusedSimpArgs false
set_option linter.unusedVariables false
set_option linter.unusedSectionVars false
namespace Go.Proofs.YtnakmhfjafecpaaGreat
open Go.RowKit
set_option maxRecDepth 100000
set_option maxHeartbeats 4000000
def Qm4 (s:Int):ByteArray:=(⟨#[UInt8.ofNat (48+s).toNat]⟩:ByteArray)++(⟨#[44]⟩:ByteArray)
def YT (c:DSg)(q:Int)(i:Nat):ByteArray:=((ZW c.1 i).filter fun s=>VG c q s).foldl (fun b s=>b++Qm4 s) (⟨#[]⟩:ByteArray)
section
variable {c:DSg}{as_:List DAr}{a:DAr}{i j k n:Nat}{s q:Int}{z:Q4}
theorem Qn2 (hx:c.2.2[k]? =some a)(h1:a.1=q)(h2:a.2.1=s):true=VG c q s:=(List.any_eq_true.2 ⟨a,List.mem_of_getElem? hx,decide_eq_true ⟨h1,h2⟩⟩).symm
theorem Qpu (hn:∀j,j < k→∀a,c.2.2[j]? =some a→¬(a.1=q∧a.2.1=s))(hk:c.2.2.length≤k):false=VG c q s:=(List.any_eq_false.2 fun a ha=>by
  obtain ⟨j,hj⟩:=List.mem_iff_getElem?.1 ha
  have:=(List.getElem?_eq_some_iff.1 hj).1
  simpa using hn j (by omega) a hj).symm
theorem Qct (hx:c.1[i]? =some z)(h:¬z.2=1)(he:VG c q (i:Int)=true):YT c q i++((⟨#[UInt8.ofNat (48+(i:Int)).toNat]⟩:ByteArray)++(⟨#[44]⟩:ByteArray))=YT c q (i+1):=by
  unfold YT
  rw[← UA hx h,List.filter_append,List.foldl_append]
  simp[he,Qm4]
theorem QcE (hx:c.1[i]? =some z)(h:z.2=1):YT c q i=YT c q (i+1):=by
  unfold YT
  rw[← HJ hx h]
theorem Qdb (hx:c.1[i]? =some z)(h:¬z.2=1)(he:VG c q (i:Int)=false):YT c q i=YT c q (i+1):=by
  unfold YT
  rw[← UA hx h,List.filter_append,List.foldl_append]
  simp[he]
theorem Hj:∀(l:List Int) (b:ByteArray),(l.foldl (fun b s=>b++Qm4 s) b).toList=b.toList++l.flatMap fun s=>[UInt8.ofNat (48+s).toNat,44]
  | [],b=>by simp
  | s :: l,b=>by
    rw[List.foldl_cons,Hj l,List.flatMap_cons]
    simp only[Qm4,ByteArray.toList_eq,ByteArray.data_append,Array.toList_append]
    simp
theorem Qm7 (l:List Int):(l.flatMap fun s=>[UInt8.ofNat (48+s).toNat,44]).length=2*l.length:=by
  induction l with
  | nil=>rfl
  | cons s l ih=>rw[List.flatMap_cons,List.length_append,ih,List.length_cons,List.length_cons,List.length_cons,List.length_nil]; omega
theorem Qmp (l:List Int)(b:ByteArray):(l.foldl (fun b s=>b++Qm4 s) b).size=b.size+2*l.length:=by
  have h:=congrArg List.length (Hj l b)
  rw[List.length_append,WB,WB,Qm7] at h
  exact h
theorem QgJ:∀{l m:List Int},(∀x∈l,0≤x∧x≤9)→(∀x∈m,0≤x∧x≤9)→(l.flatMap fun s=>[UInt8.ofNat (48+s).toNat,44])=(m.flatMap fun s=>[UInt8.ofNat (48+s).toNat,44])→l=m
  | [],[],_,_,_=>rfl
  | [],y :: m,_,_,h=>by simp at h
  | x :: l,[],_,_,h=>by simp at h
  | x :: l,y :: m,hl,hm,h=>by
    rw[List.flatMap_cons,List.flatMap_cons] at h
    simp only[List.cons_append,List.nil_append,List.cons.injEq,true_and] at h
    obtain ⟨h1,h2⟩:=h
    have hx:=hl x (List.mem_cons_self ..)
    have hy:=hm y (List.mem_cons_self ..)
    have h3:=congrArg UInt8.toNat h1
    rw[UInt8.toNat_ofNat',UInt8.toNat_ofNat',Nat.mod_eq_of_lt (by omega),Nat.mod_eq_of_lt (by omega)] at h3
    rw[QgJ (fun z hz=>hl z (List.mem_cons_of_mem _ hz)) (fun z hz=>hm z (List.mem_cons_of_mem _ hz)) h2,show x=y by omega]
theorem QfO (h8:c.1.length≤8):YT c (i:Int) c.1.length=YT c (j:Int) c.1.length↔HV c i j=false:=by
  have hr:∀(f:Int→Bool),∀x∈(ZW c.1 c.1.length).filter f,0≤x∧x≤9:=fun f x hx=>by
    obtain ⟨t,rfl,ht,_⟩:=Ul.1 (List.mem_filter.1 hx).1; omega
  unfold HV
  rw[List.any_eq_false]
  constructor
  · intro h s hs
    have h1:=congrArg ByteArray.toList h
    unfold YT at h1
    rw[Hj,Hj] at h1
    have h2:=QgJ (hr _) (hr _) (List.append_cancel_left h1)
    have h3:(s∈(ZW c.1 c.1.length).filter fun s=>VG c i s)↔(s∈(ZW c.1 c.1.length).filter fun s=>VG c j s):=by rw[h2]
    simp only[List.mem_filter,hs,true_and] at h3
    rw[Bool.eq_iff_iff.2 h3]; simp
  · intro h
    unfold YT
    congr 1
    apply List.filter_congr
    intro s hs
    have:=h s hs
    simpa using this
theorem QlP:(YT c q i).size≤2*i:=by
  unfold YT
  rw[Qmp]
  have h1:((ZW c.1 i).filter fun s=>VG c q s).length≤(ZW c.1 i).length:=List.length_filter_le ..
  have h2:=QaD (ss:=c.1) (k:=i)
  show 0+_≤_
  omega
theorem Qe9 (h8:c.1.length≤8)(h:(!decide (YT c (i:Int) c.1.length=YT c (j:Int) c.1.length))=true):HV c i j=true:=by
  cases hd:HV c i j with
  | true=>rfl
  | false=>rw[decide_eq_true ((QfO h8).2 hd)] at h; cases h
theorem QhZ (h8:c.1.length≤8)(h:(!decide (YT c (i:Int) c.1.length=YT c (j:Int) c.1.length))=false):HV c i j=false:=(QfO h8).1 (by simpa using h)
end
section
variable [∀c,Decidable (SgOk c)][∀s,Decidable (ZZ s)]{c:DSg}{x:(Int×Bool)×Int×Bool}
abbrev QfD (c:DSg)(x:(Int×Bool)×Int×Bool):ByteArray:=Ym c (Ql c x.1 x.2)
abbrev Qcf (c:DSg)(x:(Int×Bool)×Int×Bool):(DSg×List Int)×Bool:=Yx c (Z0 c) (QfD c x)
def Hi (c:DSg)(x:(Int×Bool)×Int×Bool):Bool:=okB c x.1 x.2&& !KN c (QfD c x)
def ZE (c:DSg)(x:(Int×Bool)×Int×Bool):DSg×Bool:=
  if Hi c x=true then ((Qcf c x).1.1,(Qcf c x).2&&decide (XM (Qcf c x).1.1≤XM c)) else (W9,false)
def Qgl (c:DSg)(x:(Int×Bool)×Int×Bool):Prop:=((SgOk c∧(0≤x.1.1∧x.1.1≤(c.1.length:Int) - 1))∧(0≤x.2.1∧x.2.1≤(c.1.length:Int) - 1))∧¬x.1=x.2
instance:Decidable (Qgl c x):=inferInstanceAs (Decidable (_∧_))
def Vf (c:DSg)(x:(Int×Bool)×Int×Bool):Bool:=decide (Qgl c x)&&(ZE c x).2
def YR (c:DSg)(x:(Int×Bool)×Int×Bool):Int:=if Vf c x=true then ((ZQ (ZE c x).1).length:Int) else 0
def Ww (c:DSg)(x:(Int×Bool)×Int×Bool):Int:=if Vf c x=true then ((ZE c x).1.2.1.length:Int) else 0
theorem QnK (h:okB c x.1 x.2=false):Hi c x=false:=by unfold Hi; rw[h]; rfl
theorem Qjc (h:KN c (QfD c x)=true):Hi c x=false:=by unfold Hi; rw[h]; simp
theorem QeT (h1:okB c x.1 x.2=true)(h:KN c (QfD c x)=false):Hi c x=true:=by unfold Hi; rw[h,h1]; rfl
theorem QhT (h:Hi c x=false):ZE c x=(W9,false):=if_neg (by rw[h]; decide)
theorem Qe8 (h:Hi c x=true):ZE c x=((Qcf c x).1.1,(Qcf c x).2&&decide (XM (Qcf c x).1.1≤XM c)):=if_pos h
theorem Qju (h:(Qcf c x).2=true):SgOk (Qcf c x).1.1:=by
  unfold Qcf Yx at h ⊢
  split at h
  · rename_i h1; rw[if_pos h1]; exact h1.2
  · cases h
theorem Qme (h:(ZE c x).2=true):SgOk (ZE c x).1:=by
  unfold ZE at h ⊢
  split at h
  · rename_i h1
    rw[if_pos h1]
    rw[Bool.and_eq_true] at h
    exact Qju h.1
  · cases h
theorem KY (h:okB c x.1 x.2=true):ZV c x.1 x.2=QfD c x:=(QdL h).symm
theorem Qpr (h:(ZX c (Z0 c) (QfD c x)).2=false):Qcf c x=(Qhm,false):=Qo2 h
theorem Qhn (h:(ZX c (Z0 c) (QfD c x)).2=true):Qcf c x=ZX c (Z0 c) (QfD c x):=Qpl h
theorem QfU:(Z0 c).size≤2:=by unfold Z0; split <;> (try split) <;> exact Nat.le_refl _
theorem QjI {nm s:ByteArray}(h:(Yx c nm s).2=true):SgOk (Yx c nm s).1.1:=by
  unfold Yx at h ⊢
  split at h
  · rename_i h1; rw[if_pos h1]; exact h1.2
  · cases h
theorem VM (h:okB c x.1 x.2=false):ZE c x=(W9,false):=QhT (QnK h)
theorem QbE (h1:okB c x.1 x.2=true)(h:(c.2.2.any fun a:DAr=>Zs (ZV c x.1 x.2) a&&XD c a.2.1)=true):ZE c x=(W9,false):=QhT (Qjc (by rw[← KY h1]; exact h))
theorem QfA (h1:okB c x.1 x.2=true)(h:(c.2.2.any fun a:DAr=>Zs (ZV c x.1 x.2) a&&XD c a.2.1)=false):
    ZE c x=((Yx c (Z0 c) (ZV c x.1 x.2)).1.1,(Yx c (Z0 c) (ZV c x.1 x.2)).2&&decide (XM (Yx c (Z0 c) (ZV c x.1 x.2)).1.1≤XM c)):=by
  rw[Qe8 (QeT h1 (by rw[← KY h1]; exact h)),KY h1]
theorem Qew (h1:okB c x.1 x.2=true)(h:(c.2.2.any fun a:DAr=>Zs (ZV c x.1 x.2) a&&XD c a.2.1)=false):(Yx c (Z0 c) (ZV c x.1 x.2)).1.1=(ZE c x).1:=by rw[QfA h1 h]
theorem Qp8 (h1:okB c x.1 x.2=true)(h:(c.2.2.any fun a:DAr=>Zs (ZV c x.1 x.2) a&&XD c a.2.1)=false)(h2:(Yx c (Z0 c) (ZV c x.1 x.2)).2=false):false=(ZE c x).2:=by rw[QfA h1 h,h2]; rfl
theorem Qp2 (h1:okB c x.1 x.2=true)(h:(c.2.2.any fun a:DAr=>Zs (ZV c x.1 x.2) a&&XD c a.2.1)=false)(h2:(Yx c (Z0 c) (ZV c x.1 x.2)).2=true):decide (XM (Yx c (Z0 c) (ZV c x.1 x.2)).1.1≤XM c)=(ZE c x).2:=by rw[QfA h1 h,h2]; rfl
theorem QbC (h:(!KN c (Ym c (Ql c x.1 x.2)))=false):ZE c x=(W9,false):=QhT (Qjc (by simpa using h))
theorem Qjr (h1:okB c x.1 x.2=true)(h:(!KN c (Ym c (Ql c x.1 x.2)))=true)(h2:(ZX c (Z0 c) (Ym c (Ql c x.1 x.2))).2=false):ZE c x=(W9,false):=by
  rw[Qe8 (QeT h1 (by simpa using h)),Qpr h2]; rfl
theorem Qoi (h1:okB c x.1 x.2=true)(h:(!KN c (Ym c (Ql c x.1 x.2)))=true)(h2:(ZX c (Z0 c) (Ym c (Ql c x.1 x.2))).2=true):
    ZE c x=((ZX c (Z0 c) (Ym c (Ql c x.1 x.2))).1.1,decide (XM (ZX c (Z0 c) (Ym c (Ql c x.1 x.2))).1.1≤XM c)):=by
  rw[Qe8 (QeT h1 (by simpa using h)),Qhn h2,h2]; rfl
theorem Ql9 (h1:okB c x.1 x.2=true)(h:(!KN c (Ym c (Ql c x.1 x.2)))=true)(h2:(ZX c (Z0 c) (Ym c (Ql c x.1 x.2))).2=true):(ZX c (Z0 c) (Ym c (Ql c x.1 x.2))).1.1=(ZE c x).1:=by rw[Qoi h1 h h2]
theorem Qp4 (hs:SgOk c)(h1:okB c x.1 x.2=true)(h:(!KN c (Ym c (Ql c x.1 x.2)))=true)(h2:(ZX c (Z0 c) (Ym c (Ql c x.1 x.2))).2=true):
    decide ((if SgOk (ZX c (Z0 c) (Ym c (Ql c x.1 x.2))).1.1 then XM (ZX c (Z0 c) (Ym c (Ql c x.1 x.2))).1.1 else 0)≤(if SgOk c then XM c else 0))=(ZE c x).2:=by
  have h3:SgOk (ZX c (Z0 c) (Ym c (Ql c x.1 x.2))).1.1:=by
    have:=Qju (c:=c) (x:=x) (by rw[Qhn h2]; exact h2)
    rw[Qhn h2] at this; exact this
  rw[Qoi h1 h h2,if_pos h3,if_pos hs]
theorem Qcw (h:¬Qgl c x):Vf c x=false:=by unfold Vf; rw[decide_eq_false h]; rfl
theorem Qcg (h:(ZE c x).2=false):Vf c x=false:=by unfold Vf; rw[h]; simp
theorem He (h1:Qgl c x)(h:(ZE c x).2=true):Vf c x=true:=by unfold Vf; rw[h,decide_eq_true h1]; rfl
theorem Qpc (h:¬Qgl c x):YR c x=0∧Ww c x=0∧Vf c x=false:=⟨if_neg (by rw[Qcw h]; decide),if_neg (by rw[Qcw h]; decide),Qcw h⟩
theorem QoV (h:(ZE c x).2=false):YR c x=0∧Ww c x=0∧Vf c x=false:=⟨if_neg (by rw[Qcg h]; decide),if_neg (by rw[Qcg h]; decide),Qcg h⟩
theorem Qo9 (h1:Qgl c x)(h:(ZE c x).2=true):YR c x=((ZQ (ZE c x).1).length:Int)∧Ww c x=((ZE c x).1.2.1.length:Int)∧Vf c x=true:=⟨if_pos (He h1 h),if_pos (He h1 h),He h1 h⟩
end
theorem HQ (c:(List (ByteArray×Int))×List ByteArray×(List (Int×Int×Bool×Int)))(k:Int)(sig:Int):FC Tryz.prog 204 [(true,[.dat (.sl 145 (.pr .str .int)) c.1, .dat (.sl 9 .str) c.2.1, .dat (.sl 179 (.pr .int (.pr .int (.pr .bool .int)))) c.2.2]),(false,[dI k]),(false,[dI sig])] [] 0 (Zy (lB (VG c k sig))):=by
 refine QQ Tryz.func204 rfl rfl Tryz.ntmps204 fun O_ hO w0_ N0_ X_ h0_ f0_=> ?_
 refine AC.fact (Qs (x:= .tmp 1) (Qa rfl)) fun hi1=>AC.fact (Qs (x:= .tmp 2) (Qa rfl)) fun hi2=> ?_
 refine w_ ?_
 refine lc (Qr 0 (Qb rfl) rfl rfl (Fresh.of rfl) (nlr rfl)) ?_
 iterate 6 refine w_ ?_
 refine AL.fact (QB (x:= .tmp 10) (Qa rfl)) fun hl3=> ?_
 iterate 4 refine w_ ?_
 refine Qy (fun m_ s_=>∃(i:Nat),i≤c.2.2.length∧m_=c.2.2.length - i∧(∀j,j < i→∀a,c.2.2[j]? =some a→¬(a.1=k∧a.2.1=sig))∧s_=⟨[(1,lI k),(2,lI sig),(10,lf (.dat (.sl 179 (.pr .int (.pr .int (.pr .bool .int)))) c.2.2)),(11,lI (c.2.2.length:Int)),(12,lI (i:Int))],[]⟩) ⟨0,Nat.zero_le _,rfl,(fun j hj=>absurd hj (Nat.not_lt_zero j)),rfl⟩ ?_ ?_
 · exact Wk.of [] rfl ⟨rfl,rfl,rfl,rfl,rfl,trivial⟩ trivial rfl rfl
 rintro m_ s_ ⟨i,hk4,hm5,hno,rfl⟩
 iterate 4 refine w_ ?_
 cases hb6:(decide ((i:Int) < (c.2.2.length:Int)))
 ·have hb6':=of_decide_eq_false hb6
  refine w_ ?_
  refine QA ?_
  refine (?_:AC _ _ _ _ _)
  iterate 3 refine w_ ?_
  refine Qe ?_
  subst hO
  have e7:(false:Bool)=(VG c k sig):=by
   first | exact Qpu hno (by omega)
  exact Qg (Qd rfl (Qc rfl)) ((congrArg (fun z_=>lB z_) e7)) rfl
 ·have hb6':=of_decide_eq_true hb6
  iterate 5 refine w_ ?_
  obtain ⟨x8,hx9⟩:∃z,c.2.2[i]? =some z:=⟨_,List.getElem?_eq_getElem (by omega)⟩
  refine lc (Qm (Qa rfl) (Qa rfl) Q9 QJ rfl (by omega) hx9) ?_
  refine w_ ?_
  refine lc (Qw 1 (.pr .int (.pr .int (.pr .bool .int))) Zq rfl rfl (Fresh.of rfl) (nlr rfl))<|lc (Qf (Qa rfl) rfl (Qb rfl) rfl QJ rfl) ?_
  iterate 4 refine w_ ?_
  refine AL.fact (Qs (x:= .tmp 17) (Qa rfl)) fun hi10=> ?_
  iterate 3 refine w_ ?_
  cases hb11:(decide (x8.1=k))
  ·have hb11':=of_decide_eq_false hb11
   iterate 7 refine w_ ?_
   refine AC.skip ?_
   refine (?_:AC _ _ _ _ _)
   iterate 3 refine w_ ?_
   refine Qj<|QS ⟨i+1,by omega,rfl,(YW hno hx9 (by first | (exact fun g=>absurd g.1 (by assumption)) | (exact fun g=>absurd g.2 (by assumption)))),rfl⟩ (by omega) ?_
   exact Wk.of [] rfl ⟨rfl,rfl,rfl,rfl,rfl,trivial⟩ trivial rfl rfl
  ·have hb11':=of_decide_eq_true hb11
   iterate 6 refine w_ ?_
   cases hb12:(decide (x8.2.1=sig))
   ·have hb12':=of_decide_eq_false hb12
    refine w_ ?_
    refine AC.skip ?_
    refine (?_:AC _ _ _ _ _)
    iterate 3 refine w_ ?_
    refine Qj<|QS ⟨i+1,by omega,rfl,(YW hno hx9 (by first | (exact fun g=>absurd g.1 (by assumption)) | (exact fun g=>absurd g.2 (by assumption)))),rfl⟩ (by omega) ?_
    exact Wk.of [] rfl ⟨rfl,rfl,rfl,rfl,rfl,trivial⟩ trivial rfl rfl
   ·have hb12':=of_decide_eq_true hb12
    iterate 4 refine w_ ?_
    refine Qe ?_
    subst hO
    have e13:(true:Bool)=(VG c k sig):=by
     exact Qn2 hx9 (by assumption) (by assumption)
    exact Qg (Qd rfl (Qc rfl)) ((congrArg (fun z_=>lB z_) e13)) rfl
theorem VJ (c:(List (ByteArray×Int))×List ByteArray×(List (Int×Int×Bool×Int)))(k:Int)(h8:c.1.length≤8):FC Tryz.prog 128 [(true,[.dat (.sl 145 (.pr .str .int)) c.1, .dat (.sl 9 .str) c.2.1, .dat (.sl 179 (.pr .int (.pr .int (.pr .bool .int)))) c.2.2]),(false,[dI k])] [] 0 (Zy (lf (dS (YT c k c.1.length)))):=by
 refine QQ Tryz.func128 rfl rfl Tryz.ntmps128 fun O_ hO w0_ N0_ X_ h0_ f0_=> ?_
 refine AC.fact (Qs (x:= .tmp 1) (Qa rfl)) fun hi1=> ?_
 refine w_ ?_
 refine lc (Qr 0 (Qb rfl) rfl rfl (Fresh.of rfl) (nlr rfl)) ?_
 iterate 9 refine w_ ?_
 refine AL.fact (QB (x:= .tmp 9) (Qa rfl)) fun hl2=> ?_
 iterate 4 refine w_ ?_
 refine Qy (fun m_ s_=>∃(i:Nat),i≤c.1.length∧m_=c.1.length - i∧s_=⟨[(1,lI k),(2,lP 0 0),(4,lf (dS (⟨#[]⟩:ByteArray))),(5,lf (dS (YT c k i))),(9,lf (.dat (.sl 145 (.pr .str .int)) c.1)),(10,lI (c.1.length:Int)),(11,lI (i:Int))],[(0,some (.box 59 [.dat (.sl 145 (.pr .str .int)) c.1, .dat (.sl 9 .str) c.2.1, .dat (.sl 179 (.pr .int (.pr .int (.pr .bool .int)))) c.2.2]))]⟩) ⟨0,Nat.zero_le _,rfl,rfl⟩ ?_ ?_
 · exact Wk.of [(0,0)] rfl ⟨rfl,rfl,rfl,(show some (lf (dS (⟨#[]⟩:ByteArray)))=some (lf (dS (YT c k 0))) from congrArg (fun z_=>some (lf (dS z_))) (rfl)),rfl,rfl,rfl,trivial⟩ ⟨rfl,trivial⟩ rfl rfl
 rintro m_ s_ ⟨i,hk4,hm5,rfl⟩
 have hal:=QlP (c:=c) (q:=k) (i:=i)
 have hn1:(⟨#[UInt8.ofNat (48+(i:Int)).toNat]⟩:ByteArray).size=1:=rfl
 have hn2:(⟨#[44]⟩:ByteArray).size=1:=rfl
 have hn3:((⟨#[UInt8.ofNat (48+(i:Int)).toNat]⟩:ByteArray)++(⟨#[44]⟩:ByteArray)).size=2:=by rw[ByteArray.size_append]; rfl
 iterate 4 refine w_ ?_
 cases hb6:(decide ((i:Int) < (c.1.length:Int)))
 ·have hb6':=of_decide_eq_false hb6
  refine w_ ?_
  refine QA ?_
  refine (?_:AC _ _ _ _ _)
  iterate 4 refine w_ ?_
  refine Qe ?_
  subst hO
  have e7:(YT c k i:ByteArray)=(YT c k c.1.length):=by
   (congr 1; omega)
  exact Qg (Qd rfl (Qc rfl)) ((congrArg (fun z_=>lf (dS z_)) e7)) rfl
 ·have hb6':=of_decide_eq_true hb6
  iterate 6 refine w_ ?_
  obtain ⟨sg,hx9⟩:∃z,c.1[i]? =some z:=⟨_,List.getElem?_eq_getElem (by omega)⟩
  refine lc (Qm (Qa rfl) (Qa rfl) Yh Yj rfl (by omega) hx9) ?_
  refine w_ ?_
  refine lc (Qw 1 (.pr .str .int) Wq rfl rfl (Fresh.of rfl) (nlr rfl)) ?_
  refine w_ ?_
  refine lc (Qf (Qa rfl) rfl (Qb rfl) rfl Yj rfl) ?_
  iterate 4 refine w_ ?_
  refine AL.fact (Qs (x:= .tmp 17) (Qa rfl)) fun hi10=> ?_
  iterate 2 refine w_ ?_
  cases hb11:(!decide (sg.2=1))
  ·have hb11':(sg.2=1):=Ze hb11
   iterate 7 refine w_ ?_
   refine AC.skip ?_
   refine (?_:AC _ _ _ _ _)
   iterate 3 refine w_ ?_
   refine Qj<|QS ⟨i+1,by omega,rfl,rfl⟩ (by omega) ?_
   exact Wk.of [(0,0)] rfl ⟨rfl,rfl,rfl,(show some (lf (dS (YT c k i)))=some (lf (dS (YT c k (i+1)))) from congrArg (fun z_=>some (lf (dS z_))) (by first | exact Qct hx9 (by assumption) (by assumption) | exact QcE hx9 (by assumption) | exact Qdb hx9 (by assumption) (by assumption))),rfl,rfl,rfl,trivial⟩ ⟨rfl,trivial⟩ rfl rfl
  ·have hb11':¬(sg.2=1):=Zp hb11
   iterate 3 refine w_ ?_
   refine lgy rfl rfl (Qh (HQ c k (i:Int)) Qhj ⟨_,_,rfl,(Qb rfl),⟨_,_,rfl,(Qb rfl),⟨_,_,rfl,(Qb rfl),rfl⟩⟩⟩ rfl rfl) ?_
   iterate 2 refine w_ ?_
   cases hb13:(VG c k (i:Int))
   ·refine w_ ?_
    refine AC.skip ?_
    refine (?_:AC _ _ _ _ _)
    iterate 3 refine w_ ?_
    refine Qj<|QS ⟨i+1,by omega,rfl,rfl⟩ (by omega) ?_
    exact Wk.of [(0,0)] rfl ⟨rfl,rfl,rfl,(show some (lf (dS (YT c k i)))=some (lf (dS (YT c k (i+1)))) from congrArg (fun z_=>some (lf (dS z_))) (by first | exact Qct hx9 (by assumption) (by assumption) | exact QcE hx9 (by assumption) | exact Qdb hx9 (by assumption) (by assumption))),rfl,rfl,rfl,trivial⟩ ⟨rfl,trivial⟩ rfl rfl
   ·iterate 4 refine w_ ?_
    refine lc (Qh (Ju (i:Int) (by omega)) Qcr ⟨_,_,rfl,(Qb rfl),rfl⟩ rfl rfl)<|lc (X9 (Qa rfl) (Evl.str rfl) rfl (by omega))<|lc (X9 (Qa rfl) (Qa rfl) rfl (by omega)) ?_
    refine w_ ?_
    refine Qj ?_
    refine (?_:AC _ _ _ _ _)
    iterate 3 refine w_ ?_
    refine Qj<|QS ⟨i+1,by omega,rfl,rfl⟩ (by omega) ?_
    exact Wk.of [(0,0)] rfl ⟨rfl,rfl,rfl,(show some (lf (dS ((YT c k i)++((⟨#[UInt8.ofNat (48+(i:Int)).toNat]⟩:ByteArray)++(⟨#[44]⟩:ByteArray)))))=some (lf (dS (YT c k (i+1)))) from congrArg (fun z_=>some (lf (dS z_))) (by first | exact Qct hx9 (by assumption) (by assumption) | exact QcE hx9 (by assumption) | exact Qdb hx9 (by assumption) (by assumption))),rfl,rfl,rfl,trivial⟩ ⟨rfl,trivial⟩ rfl rfl
theorem Z2 (c:(List (ByteArray×Int))×List ByteArray×(List (Int×Int×Bool×Int)))(hs:SgW c):FC Tryz.prog 71 [(true,[.dat (.sl 145 (.pr .str .int)) c.1, .dat (.sl 9 .str) c.2.1, .dat (.sl 179 (.pr .int (.pr .int (.pr .bool .int)))) c.2.2])] [] 0 (XZ 106 (.sl 3 .int) (ZQ c)):=by
 have hn3:=hs.some_
 have hfw:=hs.few
 have hs8:=hs.sig8
 refine QQ Tryz.func71 rfl rfl Tryz.ntmps71 fun O_ hO w0_ N0_ X_ h0_ f0_=> ?_
 refine w_ ?_
 refine lc (Qr 0 (Qb rfl) rfl rfl (Fresh.of rfl) (nlr rfl)) ?_
 iterate 9 refine w_ ?_
 refine AL.fact (QB (x:= .tmp 7) (Qa rfl)) fun hl1=> ?_
 iterate 4 refine w_ ?_
 refine AC.wk (Wk.nilS 1 3 106 (.sl 3 .int) rfl (Fresh.of rfl) (nlr rfl)) ?_
 refine Qy (fun m_ s_=>∃(i:Nat),i≤c.2.1.length∧m_=c.2.1.length - i∧s_=⟨[(1,lP 0 0),(2,lf (.val (.slice none 0 0))),(3,lR 2),(8,lI (c.2.1.length:Int)),(9,lI (i:Int))],[(0,some (.box 59 [.dat (.sl 145 (.pr .str .int)) c.1, .dat (.sl 9 .str) c.2.1, .dat (.sl 179 (.pr .int (.pr .int (.pr .bool .int)))) c.2.2])),(2,some (.arr 106 (.sl 3 .int) (XA c (HV c) i)))]⟩) ⟨0,Nat.zero_le _,rfl,rfl⟩ ?_ ?_
 · exact Wk.of [(0,0),(2,1)] rfl ⟨rfl,rfl,rfl,rfl,rfl,trivial⟩ ⟨rfl,(Qv (rfl)),trivial⟩ rfl rfl
 rintro m_ s_ ⟨i,hk2,hm3,rfl⟩
 have hal:=Qcj (c:=c) (f:=HV c) (i:=i) hn3.2
 iterate 4 refine w_ ?_
 cases hb4:(decide ((i:Int) < (c.2.1.length:Int)))
 ·have hb4':=of_decide_eq_false hb4
  refine w_ ?_
  refine QA ?_
  refine (?_:AC _ _ _ _ _)
  iterate 4 refine w_ ?_
  refine Qe ?_
  subst hO
  refine ZC (e:=(.sl 3 .int)) (xs:=(XA c (HV c) i)) (Qd rfl (Qc rfl)) rfl ?_
  (congr 1; omega)
 ·have hb4':=of_decide_eq_true hb4
  iterate 14 refine w_ ?_
  refine Qy (fun m_ s_=>∃(m:Int) (out:List (List Int)),m_=((c.2.1.length:Int) - m).toNat∧((i:Int)+1≤m∧m≤(c.2.1.length:Int))∧(out=XA c (HV c) i++X5 c (HV c) i m.toNat)∧s_=⟨[(1,lP 0 0),(2,lf (.val (.slice none 0 0))),(3,lR 3),(4,lI (i:Int)),(5,lI m),(8,lI (c.2.1.length:Int)),(9,lI (i:Int)),(10,lB true),(11,lI (i:Int)),(12,lI (i:Int)),(13,lI ((i:Int)+1))],[(0,some (.box 59 [.dat (.sl 145 (.pr .str .int)) c.1, .dat (.sl 9 .str) c.2.1, .dat (.sl 179 (.pr .int (.pr .int (.pr .bool .int)))) c.2.2])),(3,some (.arr 106 (.sl 3 .int) out))]⟩) ⟨(i:Int)+1,XA c (HV c) i,rfl,(by omega),(by rw[show ((i:Int)+1).toNat=i+1 by omega,Qcd,List.append_nil]),rfl⟩ ?_ ?_
  · exact Wk.of [(0,0),(3,2)] rfl ⟨rfl,rfl,rfl,rfl,rfl,rfl,rfl,rfl,rfl,rfl,rfl,trivial⟩ ⟨rfl,(Qv (by first | rfl | simp)),trivial⟩ rfl rfl
  rintro m_ s_ ⟨m,out,hm6,hm,hO1,rfl⟩
  have hol:out.length≤100000:=by rw[hO1,List.length_append]; have:=Qc4 (c:=c) (f:=HV c) (i:=i) (k:=m.toNat); have:=hal (by omega); omega
  have hmn:((m.toNat:Nat):Int)=m:=by omega
  iterate 5 refine w_ ?_
  refine AL.fact (QB (x:= .tmp 16) (Qa rfl)) fun hl7=> ?_
  iterate 3 refine w_ ?_
  cases hb8:(decide (m < (c.2.1.length:Int)))
  ·have hb8':=of_decide_eq_false hb8
   refine w_ ?_
   refine QA ?_
   refine (?_:AC _ _ _ _ _)
   iterate 3 refine w_ ?_
   refine Qj<|QS ⟨i+1,by omega,rfl,rfl⟩ (by omega) ?_
   exact Wk.of [(0,0),(2,3)] rfl ⟨rfl,rfl,rfl,rfl,rfl,trivial⟩ ⟨rfl,(Qv ((by rw[hO1]; exact Qoz (by omega) (by omega)))),trivial⟩ rfl rfl
  ·have hb8':=of_decide_eq_true hb8
   iterate 4 refine w_ ?_
   obtain ⟨ci,hx10⟩:∃z,c.2.1[i]? =some z:=⟨_,List.getElem?_eq_getElem (by omega)⟩
   have hci:=hx10
   obtain ⟨cm,hx12⟩:∃z,c.2.1[(m).toNat]? =some z:=⟨_,List.getElem?_eq_getElem (by omega)⟩
   have hcm:=hx12
   cases hb13:(decide (ci=cm))
   ·have hb13':=of_decide_eq_false hb13
    refine dw [io 21 (lP 0 1),io 22 (lf (.dat (.sl 9 .str) c.2.1)),io 23 (lI (i:Int)),io 24 (lf (.elt .str ci 0)),io 25 (lf (dS ci)),io 26 (lP 0 1),io 27 (lf (.dat (.sl 9 .str) c.2.1)),io 28 (lI m),io 29 (lf (.elt .str cm 0)),io 30 (lf (dS cm)),io 31 (lB false),io 32 (lB false),io 33 (lf (.val undef)),io 34 (lf (.val undef)),io 35 (lf (.val undef)),io 36 (lf (.val undef)),io 37 (lf (.val undef)),io 38 (lf (.val undef)),io 39 (lf (.val undef)),io 40 (lB false)] [0,1,0,7,15,0,32,0,224,480,1023,2047,4095,4095,16383,4095,4095,131071,262143,524287] mixed rfl (by kernel_rfl) ⟨dxf Z9 rfl rfl rfl,dxl Xc rfl rfl rfl rfl rfl,dxm rfl rfl,fun _ h_=>ac (Qm (h_.v rfl) (h_.v rfl) ZL Zx rfl (by omega) hx10) rfl,fun _ h_=>ac (Zv (h_.v rfl) Zx rfl rfl) rfl,dxf Z9 rfl rfl rfl,dxl Xc rfl rfl rfl rfl rfl,dxm rfl rfl,fun _ h_=>ac (Qm (h_.v rfl) (h_.v rfl) ZL Zx rfl (by omega) hx12) rfl,fun _ h_=>ac (Zv (h_.v rfl) Zx rfl rfl) rfl,fun _ h_=>ac (QZ (hb13) (Vq (h_.v rfl) (h_.v rfl) rfl)) rfl,dxm rfl rfl,dxo rfl rfl rfl,dxo rfl rfl rfl,dxo rfl rfl rfl,dxo rfl rfl rfl,dxo rfl rfl rfl,dxo rfl rfl rfl,dxo rfl rfl rfl,fun _ h_=>ac (QM (h_.v rfl) (Evl.ev QU) rfl) rfl,⟨⟩⟩ ?_
    refine w_ ?_
    refine AC.skip ?_
    refine (?_:AC _ _ _ _ _)
    iterate 4 refine w_ ?_
    refine Qj<|QS ⟨(m+1),out,rfl,(by omega),(by rw[hO1]; first | exact Qjx (by omega) hcm hci (by assumption) (Qe9 hs8 (by rw[hmn]; assumption)) | exact Qjd (by omega) hcm hci (by assumption) | exact Qlo (by omega) (QhZ hs8 (by rw[hmn]; assumption))),rfl⟩ (by omega) ?_
    exact Wk.of [(0,0),(3,3)] rfl ⟨rfl,rfl,rfl,rfl,rfl,rfl,rfl,rfl,rfl,rfl,rfl,trivial⟩ ⟨rfl,rfl,trivial⟩ rfl rfl
   ·have hb13':=of_decide_eq_true hb13
    refine dw [io 21 (lP 0 1),io 22 (lf (.dat (.sl 9 .str) c.2.1)),io 23 (lI (i:Int)),io 24 (lf (.elt .str ci 0)),io 25 (lf (dS ci)),io 26 (lP 0 1),io 27 (lf (.dat (.sl 9 .str) c.2.1)),io 28 (lI m),io 29 (lf (.elt .str cm 0)),io 30 (lf (dS cm)),io 31 (lB true),io 32 (lB true),io 33 (ag [.dat (.sl 145 (.pr .str .int)) c.1, .dat (.sl 9 .str) c.2.1, .dat (.sl 179 (.pr .int (.pr .int (.pr .bool .int)))) c.2.2]),io 34 (lI (i:Int)),io 35 (lf (dS (YT c (i:Int) c.1.length))),io 36 (ag [.dat (.sl 145 (.pr .str .int)) c.1, .dat (.sl 9 .str) c.2.1, .dat (.sl 179 (.pr .int (.pr .int (.pr .bool .int)))) c.2.2]),io 37 (lI m),io 38 (lf (dS (YT c m c.1.length))),io 39 (lB (!decide ((YT c (i:Int) c.1.length)=(YT c m c.1.length)))),io 40 (lB (!decide ((YT c (i:Int) c.1.length)=(YT c m c.1.length))))] [0,1,0,7,15,0,32,0,224,480,1023,2047,4095,4095,16383,4095,4095,131071,262143,524287] mixed rfl (by kernel_rfl) ⟨dxf Z9 rfl rfl rfl,dxl Xc rfl rfl rfl rfl rfl,dxm rfl rfl,fun _ h_=>ac (Qm (h_.v rfl) (h_.v rfl) ZL Zx rfl (by omega) hx10) rfl,fun _ h_=>ac (Zv (h_.v rfl) Zx rfl rfl) rfl,dxf Z9 rfl rfl rfl,dxl Xc rfl rfl rfl rfl rfl,dxm rfl rfl,fun _ h_=>ac (Qm (h_.v rfl) (h_.v rfl) ZL Zx rfl (by omega) hx12) rfl,fun _ h_=>ac (Zv (h_.v rfl) Zx rfl rfl) rfl,fun _ h_=>ac (QZ (hb13) (Vq (h_.v rfl) (h_.v rfl) rfl)) rfl,dxm rfl rfl,fun _ h_=>day rfl (h_.k rfl) (Z5 (h_.v rfl) (h_.n 0 rfl) QK rfl rfl) rfl,fun _ h_=>day rfl (h_.k rfl) (QF (h_.k rfl) rfl) rfl,fun _ h_=>day rfl (h_.k rfl) (Qh (VJ c (i:Int) (by omega)) Qc9 ⟨_,_,rfl,(h_.w rfl),⟨_,_,rfl,(h_.w rfl),rfl⟩⟩ rfl rfl) rfl,fun _ h_=>day rfl (h_.k rfl) (Z5 (h_.v rfl) (h_.n 0 rfl) QK rfl rfl) rfl,fun _ h_=>day rfl (h_.k rfl) (QF (h_.k rfl) rfl) rfl,fun _ h_=>day rfl (h_.k rfl) (Qh (VJ c m (by omega)) Qc9 ⟨_,_,rfl,(h_.w rfl),⟨_,_,rfl,(h_.w rfl),rfl⟩⟩ rfl rfl) rfl,fun _ h_=>day rfl (h_.k rfl) (Jc (h_.v rfl) (h_.v rfl) rfl) rfl,fun _ h_=>ac (QV (h_.v rfl) (h_.w rfl) rfl) rfl,⟨⟩⟩ ?_
    cases hb14:(!decide ((YT c (i:Int) c.1.length)=(YT c m c.1.length)))
    ·have hb14':((YT c (i:Int) c.1.length)=(YT c m c.1.length)):=Ze hb14
     refine w_ ?_
     refine AC.skip ?_
     refine (?_:AC _ _ _ _ _)
     iterate 4 refine w_ ?_
     refine Qj<|QS ⟨(m+1),out,rfl,(by omega),(by rw[hO1]; first | exact Qjx (by omega) hcm hci (by assumption) (Qe9 hs8 (by rw[hmn]; assumption)) | exact Qjd (by omega) hcm hci (by assumption) | exact Qlo (by omega) (QhZ hs8 (by rw[hmn]; assumption))),rfl⟩ (by omega) ?_
     exact Wk.of [(0,0),(3,3)] rfl ⟨rfl,rfl,rfl,rfl,rfl,rfl,rfl,rfl,rfl,rfl,rfl,trivial⟩ ⟨rfl,rfl,trivial⟩ rfl rfl
    ·have hb14':¬((YT c (i:Int) c.1.length)=(YT c m c.1.length)):=Zp hb14
     iterate 5 refine w_ ?_
     refine lc (Qk 4 (e:= .int) QO QD Xl rfl ⟨_,_,rfl,(Qb rfl),⟨_,_,rfl,(Qb rfl),rfl⟩⟩ (List.all_eq_true.1 rfl) ⟨_,_,_,_,rfl,⟨rfl,rfl⟩,⟨_,_,_,_,rfl,⟨rfl,rfl⟩,⟨rfl,rfl⟩,rfl⟩,rfl⟩ (by decide) rfl rfl (Fresh.of rfl) (nlr rfl))<|lc (Qk 5 (e:=(.sl 3 .int)) YK ZB KZ rfl ⟨_,_,rfl,(Qb rfl),rfl⟩ (List.all_eq_true.1 rfl) ⟨_,_,_,_,rfl,(.inl ⟨_,rfl,rfl,rfl⟩),⟨rfl,rfl⟩,rfl⟩ (by decide) rfl rfl (Fresh.of rfl) (nlr rfl))<|lc (Q0 6 (Qa rfl) rfl (Qa rfl) rfl rfl YK Qja (by first | omega | (simp only[List.length_append,List.length_map,List.length_take,List.length_cons,List.length_nil]; omega) | (simp only[List.length_append,List.length_drop,List.length_take,List.length_cons,List.length_nil]; omega)) rfl (Fresh.of rfl) (nlr rfl)) ?_
     refine w_ ?_
     refine Qj ?_
     refine (?_:AC _ _ _ _ _)
     iterate 4 refine w_ ?_
     refine Qj<|QS ⟨(m+1),(out++([[(i:Int),m]])),rfl,(by omega),(by rw[hO1]; first | exact Qjx (by omega) hcm hci (by assumption) (Qe9 hs8 (by rw[hmn]; assumption)) | exact Qjd (by omega) hcm hci (by assumption) | exact Qlo (by omega) (QhZ hs8 (by rw[hmn]; assumption))),rfl⟩ (by omega) ?_
     exact Wk.of [(0,0),(3,6)] rfl ⟨rfl,rfl,rfl,rfl,rfl,rfl,rfl,rfl,rfl,rfl,rfl,trivial⟩ ⟨rfl,(Qv (by first | rfl | simp)),trivial⟩ rfl rfl
theorem Qdx (c:(List (ByteArray×Int))×List ByteArray×(List (Int×Int×Bool×Int)))(x:(Int×Bool)×(Int×Bool))[∀c,Decidable (SgOk c)][∀s,Decidable (ZZ s)](hs:SgOk c):FC Tryz.prog 76 [(true,[.dat (.sl 145 (.pr .str .int)) c.1, .dat (.sl 9 .str) c.2.1, .dat (.sl 179 (.pr .int (.pr .int (.pr .bool .int)))) c.2.2]),(true,[dI x.1.1,dB x.1.2,dI x.2.1,dB x.2.2])] [] 0 (Is (PV.tup [(true,[.ref 0, .ref 1, .ref 2]),(false,[dB ((ZE c x).2)])]) [(0,some (.arr 145 (.pr .str .int) (((ZE c x).1).1))),(1,some (.arr 9 .str (((ZE c x).1).2.1))),(2,some (.arr 179 (.pr .int (.pr .int (.pr .bool .int))) (((ZE c x).1).2.2)))]):=by
 have hr:∀a∈c.2.2,InR c.2.1.length a:=fun a ha=>XG (hs.arcs a ha)
 have hn3:=hs.some_
 have hfw:=hs.few
 have hs8:=hs.sigs.2.2
 have hnl:=QfU (c:=c)
 refine QQ Tryz.func76 rfl rfl Tryz.ntmps76 fun O_ hO w0_ N0_ X_ h0_ f0_=> ?_
 refine AC.fact (Q3 (x:= .tmp 1) (i:=0) (Qb rfl) rfl) fun hi1=>AC.fact (Q3 (x:= .tmp 1) (i:=2) (Qb rfl) rfl) fun hi2=> ?_
 refine w_ ?_
 refine lc (Qr 0 (Qb rfl) rfl rfl (Fresh.of rfl) (nlr rfl))<|lc (Qr 1 (Qb rfl) rfl rfl (Fresh.of rfl) (nlr rfl))<|lc (Qw 2 (.pr (.sl 145 (.pr .str .int)) (.pr (.sl 9 .str) (.sl 179 (.pr .int (.pr .int (.pr .bool .int)))))) YB rfl rfl (Fresh.of rfl) (nlr rfl)) ?_
 iterate 8 refine w_ ?_
 refine lc (Qh (KG c x.1 x.2 hs) Qhy ⟨_,_,rfl,(Qb rfl),⟨_,_,rfl,(Qb rfl),⟨_,_,rfl,(Qb rfl),rfl⟩⟩⟩ rfl rfl) ?_
 iterate 3 refine w_ ?_
 refine lc (Qw 3 .str Qcu rfl rfl (Fresh.of rfl) (nlr rfl))<|lc (Qf (Qa rfl) rfl (Qb rfl) rfl Zx rfl) ?_
 iterate 7 refine w_ ?_
 cases hb3:(okB c x.1 x.2)
 ·iterate 8 refine w_ ?_
  refine lc (QC Yw rfl (List.all_eq_true.1 rfl) rfl rfl)<|lc (Qf (Qa rfl) rfl (Qb rfl) rfl QK rfl) ?_
  iterate 2 refine w_ ?_
  refine AC.wk (QR 4 (p:=2) (off:=0) 145 (.pr .str .int) rfl rfl (Fresh.of rfl) (nlr rfl))<|AC.wk (QR 5 (p:=2) (off:=1) 9 .str rfl rfl (Fresh.of rfl) (nlr rfl))<|AC.wk (QR 6 (p:=2) (off:=2) 179 (.pr .int (.pr .int (.pr .bool .int))) rfl rfl (Fresh.of rfl) (nlr rfl))<|Qe ?_
  subst hO
  have e4:(false:Bool)=((ZE c x).2):=by
   (rw[VM (by assumption)]; done)
  exact Q2 _ _ [(0,4),(1,5),(2,6)] (Z8 rfl (Zk rfl rfl QK rfl) (Qc rfl)) ((congrArg (fun z_=>PV.tup [(true,[.ref 4, .ref 5, .ref 6]),(false,[dB z_])]) e4)) ⟨(Qv (by (rw[VM (by assumption)]; rfl))),(Qv (by (rw[VM (by assumption)]; rfl))),(Qv (by (rw[VM (by assumption)]; rfl))),trivial⟩ rfl rfl
 ·iterate 2 refine w_ ?_
  refine lgy rfl rfl (Xe ⟨_,_,rfl,(Qa rfl),rfl,⟨_,_,rfl,(Qa rfl),rfl,rfl⟩⟩ rfl)<|lgy rfl rfl (QP 7 [(0,3),(1,0)] (VH c.2.2 (ZV c x.1 x.2) c (fun a ha=>by rw[KY (by assumption)]; exact ⟨(QaN hs).at_ ha,VK (hs.arcs a ha).2.2.1⟩)) Qcs ⟨_,_,rfl,(Qb rfl),⟨_,_,rfl,(Qb rfl),rfl⟩⟩ ⟨rfl,rfl,trivial⟩ rfl ⟨trivial,trivial,trivial⟩ (nlr rfl)) ?_
  iterate 2 refine w_ ?_
  cases hb5:(c.2.2.any (fun a:DAr=>Zs (ZV c x.1 x.2) a&&XD c a.2.1))
  ·iterate 2 refine w_ ?_
   refine dw [io 29 (ag [.dat (.sl 145 (.pr .str .int)) c.1, .dat (.sl 9 .str) c.2.1, .dat (.sl 179 (.pr .int (.pr .int (.pr .bool .int)))) c.2.2]),io 30 (ag [.dat (.sl 145 (.pr .str .int)) c.1, .dat (.sl 9 .str) c.2.1, .dat (.sl 179 (.pr .int (.pr .int (.pr .bool .int)))) c.2.2]),io 31 (lf (dS (Z0 c))),io 32 (lf (dS (ZV c x.1 x.2))),⟨some 33,PV.tup [(true,[.ref 9, .ref 10, .ref 11]),(false,[dB ((Yx c (Z0 c) (ZV c x.1 x.2)).2)])],[(9,some (.arr 145 (.pr .str .int) (((Yx c (Z0 c) (ZV c x.1 x.2)).1.1).1))),(10,some (.arr 9 .str (((Yx c (Z0 c) (ZV c x.1 x.2)).1.1).2.1))),(11,some (.arr 179 (.pr .int (.pr .int (.pr .bool .int))) (((Yx c (Z0 c) (ZV c x.1 x.2)).1.1).2.2)))]⟩,io 28 (PV.tup [(true,[.ref 9, .ref 10, .ref 11]),(false,[dB ((Yx c (Z0 c) (ZV c x.1 x.2)).2)])]),io 34 (ag [.ref 9, .ref 10, .ref 11]),io 35 (lB ((Yx c (Z0 c) (ZV c x.1 x.2)).2)),⟨some 8,lP 12 0,[(12,some (.box 59 [.val (.slice none 0 0), .val (.slice none 0 0), .val (.slice none 0 0)]))]⟩,⟨none,lf (.val undef),[(12,some (.box 59 [.ref 9, .ref 10, .ref 11]))]⟩,io 9 (lB ((Yx c (Z0 c) (ZV c x.1 x.2)).2))] [0,0,2,0,15,31,63,63,0,383,1023] mixed rfl (by kernel_rfl) ⟨dxa QK rfl rfl rfl rfl,dxa QK rfl rfl rfl rfl,fun _ h_=>ac (Qh (Qad c) Qh4 ⟨_,_,rfl,(h_.w rfl),rfl⟩ rfl rfl) rfl,dxl Zx rfl rfl rfl rfl rfl,fun _ h_=>ac (Ya 9 (Kx c (Z0 c) (ZV c x.1 x.2) (by omega)) QhL ⟨_,_,rfl,(h_.w rfl),⟨_,_,rfl,(h_.w rfl),⟨_,_,rfl,(h_.w rfl),rfl⟩⟩⟩ rfl rfl ⟨(h_.fr 9 rfl),(h_.fr 10 rfl),(h_.fr 11 rfl),trivial⟩ (nlr rfl)) rfl,dxm rfl rfl,fun _ h_=>ac (YN (h_.k rfl) rfl rfl) rfl,fun _ h_=>ac (YN (h_.k rfl) rfl rfl) rfl,fun _ h_=>ac (Qw 12 (.pr (.sl 145 (.pr .str .int)) (.pr (.sl 9 .str) (.sl 179 (.pr .int (.pr .int (.pr .bool .int)))))) YB rfl rfl (h_.fr 12 rfl) (nlr rfl)) rfl,fun _ h_=>ac (Qf (h_.v rfl) (h_.en 12 rfl) (h_.w rfl) (by simp only[Yf,Up,List.all_cons,List.all_nil]; rw[(h_.en 9 rfl),(h_.en 10 rfl),(h_.en 11 rfl)]; rfl) QK rfl) rfl,dxt rfl rfl,⟨⟩⟩ ?_
   cases hb6:((Yx c (Z0 c) (ZV c x.1 x.2)).2)
   ·refine dw [io 36 (ag [.ref 9, .ref 10, .ref 11]),io 37 (lB false),io 38 (lB false),io 39 (lf (.val undef)),io 40 (lf (.val undef)),io 41 (lf (.val undef)),io 42 (lf (.val undef)),io 43 (lf (.val undef)),io 44 (lB false),⟨none,lf (.val undef),[(2,some (.box 59 [.ref 9, .ref 10, .ref 11]))]⟩,io 5 (lB false)] [0,0,2,6,14,6,62,126,254,127,1023] mixed rfl (by kernel_rfl) ⟨dxa QK rfl rfl rfl rfl,dxm rfl rfl,dxm rfl rfl,dxo rfl rfl rfl,dxo rfl rfl rfl,dxo rfl rfl rfl,dxo rfl rfl rfl,dxo rfl rfl rfl,fun _ h_=>ac (QM (h_.v rfl) (Evl.ev QU) rfl) rfl,fun _ h_=>ac (Qf (h_.v rfl) (h_.en 2 rfl) (h_.w rfl) (by simp only[Yf,Up,List.all_cons,List.all_nil]; rw[(h_.en 9 rfl),(h_.en 10 rfl),(h_.en 11 rfl)]; rfl) QK rfl) rfl,dxt rfl rfl,⟨⟩⟩<|Qe ?_
    subst hO
    have e7:(false:Bool)=((ZE c x).2):=by
     exact Qp8 (by assumption) (by assumption) (by assumption)
    exact Q2 _ _ [(0,9),(1,10),(2,11)] (Z8 rfl (Zk rfl rfl QK rfl) (Qc rfl)) ((congrArg (fun z_=>PV.tup [(true,[.ref 9, .ref 10, .ref 11]),(false,[dB z_])]) e7)) ⟨(Qv (by (rw[Qew (by assumption) (by assumption)]; done))),(Qv (by (rw[Qew (by assumption) (by assumption)]; done))),(Qv (by (rw[Qew (by assumption) (by assumption)]; done))),trivial⟩ rfl rfl
   ·refine dw [io 36 (ag [.ref 9, .ref 10, .ref 11]),io 37 (lB true),io 38 (lB true),io 39 (ag [.ref 9, .ref 10, .ref 11]),io 40 (lI (XM ((Yx c (Z0 c) (ZV c x.1 x.2)).1.1))),io 41 (ag [.dat (.sl 145 (.pr .str .int)) c.1, .dat (.sl 9 .str) c.2.1, .dat (.sl 179 (.pr .int (.pr .int (.pr .bool .int)))) c.2.2]),io 42 (lI (XM c)),io 43 (lB (decide ((XM ((Yx c (Z0 c) (ZV c x.1 x.2)).1.1))≤(XM c)))),io 44 (lB (decide ((XM ((Yx c (Z0 c) (ZV c x.1 x.2)).1.1))≤(XM c)))),⟨none,lf (.val undef),[(2,some (.box 59 [.ref 9, .ref 10, .ref 11]))]⟩,io 5 (lB (decide ((XM ((Yx c (Z0 c) (ZV c x.1 x.2)).1.1))≤(XM c))))] [0,0,2,6,14,6,62,126,254,127,1023] mixed rfl (by kernel_rfl) ⟨dxa QK rfl rfl rfl rfl,dxm rfl rfl,dxm rfl rfl,fun _ h_=>day rfl (h_.k rfl) (Z5 (h_.v rfl) (h_.n 12 rfl) QK rfl rfl) rfl,fun _ h_=>day rfl (h_.k rfl) (Zl (VB ((Yx c (Z0 c) (ZV c x.1 x.2)).1.1) (by first | exact hs | exact QjI (by assumption))) Qdj ⟨_,_,rfl,(YL (h_.w rfl) ⟨_,_,rfl, .inr ⟨_,_,_,_,rfl,(h_.en 9 rfl),rfl⟩,⟨_,_,rfl, .inr ⟨_,_,_,_,rfl,(h_.en 10 rfl),rfl⟩,⟨_,_,rfl, .inr ⟨_,_,_,_,rfl,(h_.en 11 rfl),rfl⟩,rfl⟩⟩⟩),rfl⟩ rfl rfl rfl) rfl,fun _ h_=>day rfl (h_.k rfl) (Z5 (h_.v rfl) (h_.n 0 rfl) QK rfl rfl) rfl,fun _ h_=>day rfl (h_.k rfl) (Qh (VB c (by first | exact hs | exact QjI (by assumption))) Qdj ⟨_,_,rfl,(h_.w rfl),rfl⟩ rfl rfl) rfl,fun _ h_=>day rfl (h_.k rfl) (QfY (h_.v rfl) (h_.v rfl) rfl) rfl,fun _ h_=>ac (QV (h_.v rfl) (h_.w rfl) rfl) rfl,fun _ h_=>ac (Qf (h_.v rfl) (h_.en 2 rfl) (h_.w rfl) (by simp only[Yf,Up,List.all_cons,List.all_nil]; rw[(h_.en 9 rfl),(h_.en 10 rfl),(h_.en 11 rfl)]; rfl) QK rfl) rfl,dxt rfl rfl,⟨⟩⟩<|Qe ?_
    subst hO
    have e8:(decide ((XM ((Yx c (Z0 c) (ZV c x.1 x.2)).1.1))≤(XM c)):Bool)=((ZE c x).2):=by
     exact Qp2 (by assumption) (by assumption) (by assumption)
    exact Q2 _ _ [(0,9),(1,10),(2,11)] (Z8 rfl (Zk rfl rfl QK rfl) (Qc rfl)) ((congrArg (fun z_=>PV.tup [(true,[.ref 9, .ref 10, .ref 11]),(false,[dB z_])]) e8)) ⟨(Qv (by (rw[Qew (by assumption) (by assumption)]; done))),(Qv (by (rw[Qew (by assumption) (by assumption)]; done))),(Qv (by (rw[Qew (by assumption) (by assumption)]; done))),trivial⟩ rfl rfl
  ·iterate 2 refine w_ ?_
   refine lc (QC Yw rfl (List.all_eq_true.1 rfl) rfl rfl)<|lc (Qf (Qa rfl) rfl (Qb rfl) rfl QK rfl) ?_
   iterate 2 refine w_ ?_
   refine AC.wk (QR 13 (p:=2) (off:=0) 145 (.pr .str .int) rfl rfl (Fresh.of rfl) (nlr rfl))<|AC.wk (QR 14 (p:=2) (off:=1) 9 .str rfl rfl (Fresh.of rfl) (nlr rfl))<|AC.wk (QR 15 (p:=2) (off:=2) 179 (.pr .int (.pr .int (.pr .bool .int))) rfl rfl (Fresh.of rfl) (nlr rfl))<|Qe ?_
   subst hO
   have e9:(false:Bool)=((ZE c x).2):=by
    (rw[QbE (by assumption) (by assumption)]; done)
   exact Q2 _ _ [(0,13),(1,14),(2,15)] (Z8 rfl (Zk rfl rfl QK rfl) (Qc rfl)) ((congrArg (fun z_=>PV.tup [(true,[.ref 13, .ref 14, .ref 15]),(false,[dB z_])]) e9)) ⟨(Qv (by (rw[QbE (by assumption) (by assumption)]; rfl))),(Qv (by (rw[QbE (by assumption) (by assumption)]; rfl))),(Qv (by (rw[QbE (by assumption) (by assumption)]; rfl))),trivial⟩ rfl rfl
theorem W7 (c:(List (ByteArray×Int))×List ByteArray×(List (Int×Int×Bool×Int)))(x:(Int×Bool)×(Int×Bool))[∀c,Decidable (SgOk c)][∀s,Decidable (ZZ s)](hs:SgOk c):FC Tryz.prog 70 [(true,[.dat (.sl 145 (.pr .str .int)) c.1, .dat (.sl 9 .str) c.2.1, .dat (.sl 179 (.pr .int (.pr .int (.pr .bool .int)))) c.2.2]),(true,[dI x.1.1,dB x.1.2,dI x.2.1,dB x.2.2])] [] 0 (Is (PV.tup [(true,[.ref 0, .ref 1, .ref 2]),(false,[dB ((ZE c x).2)])]) [(0,some (.arr 145 (.pr .str .int) (((ZE c x).1).1))),(1,some (.arr 9 .str (((ZE c x).1).2.1))),(2,some (.arr 179 (.pr .int (.pr .int (.pr .bool .int))) (((ZE c x).1).2.2)))]):=by
 have hr:∀a∈c.2.2,InR c.2.1.length a:=fun a ha=>XG (hs.arcs a ha)
 have hn3:=hs.some_
 have hfw:=hs.few
 have hs8:=hs.sigs.2.2
 have hnl:=QfU (c:=c)
 refine QQ Tryz.func70 rfl rfl Tryz.ntmps70 fun O_ hO w0_ N0_ X_ h0_ f0_=> ?_
 refine AC.fact (Q3 (x:= .tmp 1) (i:=0) (Qb rfl) rfl) fun hi1=>AC.fact (Q3 (x:= .tmp 1) (i:=2) (Qb rfl) rfl) fun hi2=> ?_
 refine w_ ?_
 refine lc (Qr 0 (Qb rfl) rfl rfl (Fresh.of rfl) (nlr rfl))<|lc (Qr 1 (Qb rfl) rfl rfl (Fresh.of rfl) (nlr rfl))<|lc (Qw 2 (.pr (.sl 145 (.pr .str .int)) (.pr (.sl 9 .str) (.sl 179 (.pr .int (.pr .int (.pr .bool .int)))))) YB rfl rfl (Fresh.of rfl) (nlr rfl)) ?_
 iterate 8 refine w_ ?_
 refine lc (Qh (Jp c x.1 x.2 hs) QhF ⟨_,_,rfl,(Qb rfl),⟨_,_,rfl,(Qb rfl),⟨_,_,rfl,(Qb rfl),rfl⟩⟩⟩ rfl rfl) ?_
 iterate 11 refine w_ ?_
 cases hb3:(okB c x.1 x.2)
 ·iterate 8 refine w_ ?_
  refine lc (QC Yw rfl (List.all_eq_true.1 rfl) rfl rfl)<|lc (Qf (Qa rfl) rfl (Qb rfl) rfl QK rfl) ?_
  iterate 2 refine w_ ?_
  refine AC.wk (QR 3 (p:=2) (off:=0) 145 (.pr .str .int) rfl rfl (Fresh.of rfl) (nlr rfl))<|AC.wk (QR 4 (p:=2) (off:=1) 9 .str rfl rfl (Fresh.of rfl) (nlr rfl))<|AC.wk (QR 5 (p:=2) (off:=2) 179 (.pr .int (.pr .int (.pr .bool .int))) rfl rfl (Fresh.of rfl) (nlr rfl))<|Qe ?_
  subst hO
  have e4:(false:Bool)=((ZE c x).2):=by
   (rw[VM (by assumption)]; done)
  exact Q2 _ _ [(0,3),(1,4),(2,5)] (Z8 rfl (Zk rfl rfl QK rfl) (Qc rfl)) ((congrArg (fun z_=>PV.tup [(true,[.ref 3, .ref 4, .ref 5]),(false,[dB z_])]) e4)) ⟨(Qv (by (rw[VM (by assumption)]; rfl))),(Qv (by (rw[VM (by assumption)]; rfl))),(Qv (by (rw[VM (by assumption)]; rfl))),trivial⟩ rfl rfl
 ·iterate 2 refine w_ ?_
  refine lgy rfl rfl (Qh (Qbk c (Ym c (Ql c x.1 x.2)) (QaN (block:=Ql c x.1 x.2) hs)) QiO ⟨_,_,rfl,(Qb rfl),⟨_,_,rfl,(Qb rfl),rfl⟩⟩ rfl rfl) ?_
  iterate 3 refine w_ ?_
  cases hb5:(!KN c (Ym c (Ql c x.1 x.2)))
  ·iterate 2 refine w_ ?_
   refine lc (QC Yw rfl (List.all_eq_true.1 rfl) rfl rfl)<|lc (Qf (Qa rfl) rfl (Qb rfl) rfl QK rfl) ?_
   iterate 2 refine w_ ?_
   refine AC.wk (QR 6 (p:=2) (off:=0) 145 (.pr .str .int) rfl rfl (Fresh.of rfl) (nlr rfl))<|AC.wk (QR 7 (p:=2) (off:=1) 9 .str rfl rfl (Fresh.of rfl) (nlr rfl))<|AC.wk (QR 8 (p:=2) (off:=2) 179 (.pr .int (.pr .int (.pr .bool .int))) rfl rfl (Fresh.of rfl) (nlr rfl))<|Qe ?_
   subst hO
   have e6:(false:Bool)=((ZE c x).2):=by
    (rw[QbC (by assumption)]; done)
   exact Q2 _ _ [(0,6),(1,7),(2,8)] (Z8 rfl (Zk rfl rfl QK rfl) (Qc rfl)) ((congrArg (fun z_=>PV.tup [(true,[.ref 6, .ref 7, .ref 8]),(false,[dB z_])]) e6)) ⟨(Qv (by (rw[QbC (by assumption)]; rfl))),(Qv (by (rw[QbC (by assumption)]; rfl))),(Qv (by (rw[QbC (by assumption)]; rfl))),trivial⟩ rfl rfl
  ·iterate 2 refine w_ ?_
   refine dw [io 34 (ag [.dat (.sl 145 (.pr .str .int)) c.1, .dat (.sl 9 .str) c.2.1, .dat (.sl 179 (.pr .int (.pr .int (.pr .bool .int)))) c.2.2]),io 35 (ag [.dat (.sl 145 (.pr .str .int)) c.1, .dat (.sl 9 .str) c.2.1, .dat (.sl 179 (.pr .int (.pr .int (.pr .bool .int)))) c.2.2]),io 36 (lf (dS (Z0 c))),io 37 (lf (dS (Ym c (Ql c x.1 x.2)))),⟨some 38,PV.tup [(true,[.ref 9, .ref 10, .ref 11]),(false,[.ref 12]),(false,[dB ((ZX c (Z0 c) (Ym c (Ql c x.1 x.2))).2)])],[(9,some (.arr 145 (.pr .str .int) (((ZX c (Z0 c) (Ym c (Ql c x.1 x.2))).1.1).1))),(10,some (.arr 9 .str (((ZX c (Z0 c) (Ym c (Ql c x.1 x.2))).1.1).2.1))),(11,some (.arr 179 (.pr .int (.pr .int (.pr .bool .int))) (((ZX c (Z0 c) (Ym c (Ql c x.1 x.2))).1.1).2.2))),(12,some (.arr 3 .int ((ZX c (Z0 c) (Ym c (Ql c x.1 x.2))).1.2)))]⟩,io 33 (PV.tup [(true,[.ref 9, .ref 10, .ref 11]),(false,[.ref 12]),(false,[dB ((ZX c (Z0 c) (Ym c (Ql c x.1 x.2))).2)])]),io 39 (ag [.ref 9, .ref 10, .ref 11]),io 40 (lR 12),io 41 (lB ((ZX c (Z0 c) (Ym c (Ql c x.1 x.2))).2)),⟨some 8,lP 13 0,[(13,some (.box 59 [.val (.slice none 0 0), .val (.slice none 0 0), .val (.slice none 0 0)]))]⟩,⟨none,lf (.val undef),[(13,some (.box 59 [.ref 9, .ref 10, .ref 11]))]⟩,io 9 (lR 12),io 10 (lB ((ZX c (Z0 c) (Ym c (Ql c x.1 x.2))).2))] [0,0,2,0,15,31,63,63,63,0,639,1791,4095] mixed rfl (by kernel_rfl) ⟨dxa QK rfl rfl rfl rfl,dxa QK rfl rfl rfl rfl,fun _ h_=>ac (Qh (Qbj c) Qil ⟨_,_,rfl,(h_.w rfl),rfl⟩ rfl rfl) rfl,dxm rfl rfl,fun _ h_=>ac (Ya 9 (Ho c (Z0 c) (Ym c (Ql c x.1 x.2)) (by omega)) Qiz ⟨_,_,rfl,(h_.w rfl),⟨_,_,rfl,(h_.w rfl),⟨_,_,rfl,(h_.w rfl),rfl⟩⟩⟩ rfl rfl ⟨(h_.fr 9 rfl),(h_.fr 10 rfl),(h_.fr 11 rfl),(h_.fr 12 rfl),trivial⟩ (nlr rfl)) rfl,dxm rfl rfl,fun _ h_=>ac (YN (h_.k rfl) rfl rfl) rfl,fun _ h_=>ac (YN (h_.k rfl) rfl rfl) rfl,fun _ h_=>ac (YN (h_.k rfl) rfl rfl) rfl,fun _ h_=>ac (Qw 13 (.pr (.sl 145 (.pr .str .int)) (.pr (.sl 9 .str) (.sl 179 (.pr .int (.pr .int (.pr .bool .int)))))) YB rfl rfl (h_.fr 13 rfl) (nlr rfl)) rfl,fun _ h_=>ac (Qf (h_.v rfl) (h_.en 13 rfl) (h_.w rfl) (by simp only[Yf,Up,List.all_cons,List.all_nil]; rw[(h_.en 9 rfl),(h_.en 10 rfl),(h_.en 11 rfl)]; rfl) QK rfl) rfl,dxt rfl rfl,dxt rfl rfl,⟨⟩⟩ ?_
   iterate 5 refine w_ ?_
   cases hb7:((ZX c (Z0 c) (Ym c (Ql c x.1 x.2))).2)
   ·iterate 2 refine w_ ?_
    refine lc (QC Yw rfl (List.all_eq_true.1 rfl) rfl rfl)<|lc (Qf (Qa rfl) rfl (Qb rfl) rfl QK rfl) ?_
    iterate 2 refine w_ ?_
    refine AC.wk (QR 14 (p:=2) (off:=0) 145 (.pr .str .int) rfl rfl (Fresh.of rfl) (nlr rfl))<|AC.wk (QR 15 (p:=2) (off:=1) 9 .str rfl rfl (Fresh.of rfl) (nlr rfl))<|AC.wk (QR 16 (p:=2) (off:=2) 179 (.pr .int (.pr .int (.pr .bool .int))) rfl rfl (Fresh.of rfl) (nlr rfl))<|Qe ?_
    subst hO
    have e8:(false:Bool)=((ZE c x).2):=by
     (rw[Qjr (by assumption) (by assumption) (by assumption)]; done)
    exact Q2 _ _ [(0,14),(1,15),(2,16)] (Z8 rfl (Zk rfl rfl QK rfl) (Qc rfl)) ((congrArg (fun z_=>PV.tup [(true,[.ref 14, .ref 15, .ref 16]),(false,[dB z_])]) e8)) ⟨(Qv (by (rw[Qjr (by assumption) (by assumption) (by assumption)]; rfl))),(Qv (by (rw[Qjr (by assumption) (by assumption) (by assumption)]; rfl))),(Qv (by (rw[Qjr (by assumption) (by assumption) (by assumption)]; rfl))),trivial⟩ rfl rfl
   ·iterate 4 refine w_ ?_
    refine lc (Qh (X7 c) QcU ⟨_,_,rfl,(Qb rfl),rfl⟩ rfl rfl) ?_
    iterate 8 refine w_ ?_
    refine lc (Zl (X7 ((ZX c (Z0 c) (Ym c (Ql c x.1 x.2))).1.1)) QcU ⟨_,_,rfl,(YL (Qb rfl) ⟨_,_,rfl, .inr ⟨_,_,_,_,rfl,rfl,rfl⟩,⟨_,_,rfl, .inr ⟨_,_,_,_,rfl,rfl,rfl⟩,⟨_,_,rfl, .inr ⟨_,_,_,_,rfl,rfl,rfl⟩,rfl⟩⟩⟩),rfl⟩ rfl rfl rfl) ?_
    iterate 11 refine w_ ?_
    refine lc (Qf (Qa rfl) rfl (Qb rfl) rfl QK rfl) ?_
    iterate 2 refine w_ ?_
    refine Qe ?_
    subst hO
    have e9:(decide ((if SgOk ((ZX c (Z0 c) (Ym c (Ql c x.1 x.2))).1.1) then XM ((ZX c (Z0 c) (Ym c (Ql c x.1 x.2))).1.1) else 0)≤(if SgOk c then XM c else 0)):Bool)=((ZE c x).2):=by
     exact Qp4 hs (by assumption) (by assumption) (by assumption)
    exact Q2 _ _ [(0,9),(1,10),(2,11)] (Z8 rfl (Zk rfl rfl QK rfl) (Qc rfl)) ((congrArg (fun z_=>PV.tup [(true,[.ref 9, .ref 10, .ref 11]),(false,[dB z_])]) e9)) ⟨(Qv (by (rw[Ql9 (by assumption) (by assumption) (by assumption)]; done))),(Qv (by (rw[Ql9 (by assumption) (by assumption) (by assumption)]; done))),(Qv (by (rw[Ql9 (by assumption) (by assumption) (by assumption)]; done))),trivial⟩ rfl rfl
theorem Wu (c:(List (ByteArray×Int))×List ByteArray×(List (Int×Int×Bool×Int)))(x:(Int×Bool)×(Int×Bool))[∀c,Decidable (SgOk c)][∀s,Decidable (ZZ s)]:FC Tryz.prog 21 [(true,[.dat (.sl 145 (.pr .str .int)) c.1, .dat (.sl 9 .str) c.2.1, .dat (.sl 179 (.pr .int (.pr .int (.pr .bool .int)))) c.2.2]),(true,[dI x.1.1,dB x.1.2,dI x.2.1,dB x.2.2])] [] 0 (Zy (PV.tup [(false,[dI (YR c x)]),(false,[dI (Ww c x)]),(false,[dB (Vf c x)])])):=by
 refine QQ Tryz.func21 rfl rfl Tryz.ntmps21 fun O_ hO w0_ N0_ X_ h0_ f0_=> ?_
 refine AC.fact (Q3 (x:= .tmp 1) (i:=0) (Qb rfl) rfl) fun hi1=>AC.fact (Q3 (x:= .tmp 1) (i:=2) (Qb rfl) rfl) fun hi2=> ?_
 refine w_ ?_
 refine lc (Qr 0 (Qb rfl) rfl rfl (Fresh.of rfl) (nlr rfl))<|lc (Qr 1 (Qb rfl) rfl rfl (Fresh.of rfl) (nlr rfl)) ?_
 iterate 11 refine w_ ?_
 refine lc (Qh (QaA c x.1 x.2) Qko ⟨_,_,rfl,(Qb rfl),⟨_,_,rfl,(Qb rfl),⟨_,_,rfl,(Qb rfl),rfl⟩⟩⟩ rfl rfl) ?_
 iterate 2 refine w_ ?_
 cases hb3:(decide (((SgOk c∧0≤x.1.1∧x.1.1≤(c.1.length:Int) - 1)∧(0≤x.2.1∧x.2.1≤(c.1.length:Int) - 1))∧¬x.1=x.2))
 ·have hb3':=of_decide_eq_false hb3
  iterate 6 refine w_ ?_
  refine Qe ?_
  subst hO
  have e4:(0:Int)=(YR c x):=by
   exact Eq.symm (Qpc (by assumption)).1
  have e5:(0:Int)=(Ww c x):=by
   exact Eq.symm (Qpc (by assumption)).2.1
  have e6:(false:Bool)=(Vf c x):=by
   exact Eq.symm (Qpc (by assumption)).2.2
  exact Qg (Zj rfl (Qc rfl) (Qc rfl) (Qc rfl)) ((((congrArg (fun z_=>PV.tup [(false,[dI z_]),(false,[dI 0]),(false,[dB false])]) e4)).trans (congrArg (fun z_=>PV.tup [(false,[dI (YR c x)]),(false,[dI z_]),(false,[dB false])]) e5)).trans (congrArg (fun z_=>PV.tup [(false,[dI (YR c x)]),(false,[dI (Ww c x)]),(false,[dB z_])]) e6)) rfl
 ·have hb3':=of_decide_eq_true hb3
  iterate 5 refine w_ ?_
  refine lc (Ya 2 (W7 c x (by have h9:Qgl c x:=(by assumption); exact h9.1.1.1)) Qak ⟨_,_,rfl,(Qb rfl),⟨_,_,rfl,(Qb rfl),rfl⟩⟩ rfl rfl ⟨Fresh.of rfl,Fresh.of rfl,Fresh.of rfl,trivial⟩ (nlr rfl)) ?_
  iterate 3 refine w_ ?_
  refine lc (Qw 5 (.pr (.sl 145 (.pr .str .int)) (.pr (.sl 9 .str) (.sl 179 (.pr .int (.pr .int (.pr .bool .int)))))) YB rfl rfl (Fresh.of rfl) (nlr rfl))<|lc (Qf (Qa rfl) rfl (Qb rfl) rfl QK rfl) ?_
  iterate 7 refine w_ ?_
  cases hb7:((ZE c x).2)
  ·iterate 6 refine w_ ?_
   refine Qe ?_
   subst hO
   have e8:(0:Int)=(YR c x):=by
    exact Eq.symm (QoV (by assumption)).1
   have e9:(0:Int)=(Ww c x):=by
    exact Eq.symm (QoV (by assumption)).2.1
   have e10:(false:Bool)=(Vf c x):=by
    exact Eq.symm (QoV (by assumption)).2.2
   exact Qg (Zj rfl (Qc rfl) (Qc rfl) (Qc rfl)) ((((congrArg (fun z_=>PV.tup [(false,[dI z_]),(false,[dI 0]),(false,[dB false])]) e8)).trans (congrArg (fun z_=>PV.tup [(false,[dI (YR c x)]),(false,[dI z_]),(false,[dB false])]) e9)).trans (congrArg (fun z_=>PV.tup [(false,[dI (YR c x)]),(false,[dI (Ww c x)]),(false,[dB z_])]) e10)) rfl
  ·iterate 2 refine w_ ?_
   refine dw [io 24 (ag [.ref 2, .ref 3, .ref 4]),⟨some 25,lR 6,[(6,some (.arr 106 (.sl 3 .int) (ZQ ((ZE c x).1))))]⟩,io 26 (lI ((ZQ ((ZE c x).1)).length:Int)),io 27 (lP 5 1),io 28 (lR 3),io 29 (lI ((((ZE c x).1).2.1).length:Int)),io 4 (lI ((ZQ ((ZE c x).1)).length:Int)),io 5 (lI ((((ZE c x).1).2.1).length:Int)),io 6 (lB true)] [0,1,3,0,8,24,7,127,255] mixed rfl (by kernel_rfl) ⟨dxa QK rfl rfl rfl rfl,fun _ h_=>ac (Y4 6 (Z2 ((ZE c x).1) (Qme (by assumption)).w) WG ⟨_,_,rfl,(YL (h_.w rfl) ⟨_,_,rfl, .inr ⟨_,_,_,_,rfl,(h_.en 2 rfl),rfl⟩,⟨_,_,rfl, .inr ⟨_,_,_,_,rfl,(h_.en 3 rfl),rfl⟩,⟨_,_,rfl, .inr ⟨_,_,_,_,rfl,(h_.en 4 rfl),rfl⟩,rfl⟩⟩⟩),rfl⟩ rfl (h_.fr 6 rfl) (nlr rfl)) rfl,fun _ h_=>ac (WC (h_.v rfl) (h_.n 6 rfl) rfl YK) rfl,dxf Z9 rfl rfl rfl,dxl Xc rfl rfl rfl rfl rfl,fun _ h_=>ac (WC (h_.v rfl) (h_.n 3 rfl) rfl ZL) rfl,dxt rfl rfl,dxt rfl rfl,fun _ h_=>ac (Y6 QU rfl) rfl,⟨⟩⟩<|Qe ?_
   subst hO
   have e11:(((ZQ ((ZE c x).1)).length:Int):Int)=(YR c x):=by
    exact Eq.symm (Qo9 (by assumption) (by assumption)).1
   have e12:(((((ZE c x).1).2.1).length:Int):Int)=(Ww c x):=by
    exact Eq.symm (Qo9 (by assumption) (by assumption)).2.1
   have e13:(true:Bool)=(Vf c x):=by
    exact Eq.symm (Qo9 (by assumption) (by assumption)).2.2
   exact Qg (Zj rfl (Qc rfl) (Qc rfl) (Qc rfl)) ((((congrArg (fun z_=>PV.tup [(false,[dI z_]),(false,[dI ((((ZE c x).1).2.1).length:Int)]),(false,[dB true])]) e11)).trans (congrArg (fun z_=>PV.tup [(false,[dI (YR c x)]),(false,[dI z_]),(false,[dB true])]) e12)).trans (congrArg (fun z_=>PV.tup [(false,[dI (YR c x)]),(false,[dI (Ww c x)]),(false,[dB z_])]) e13)) rfl
end Go.Proofs.YtnakmhfjafecpaaGreat
