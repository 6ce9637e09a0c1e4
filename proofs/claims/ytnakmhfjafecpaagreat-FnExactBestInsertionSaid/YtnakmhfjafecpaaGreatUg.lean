/- Walks over abstract states: the graph behind an insertion, both sides; pairs of states that violate complete state coding, the reference; what an insertion costs. -/
import Derived.Test.YtnakmhfjafecpaaGreatUf
set_option linter.unusedSimpArgs false
set_option linter.unusedVariables false
set_option linter.unusedSectionVars false
namespace Go.Proofs.YtnakmhfjafecpaaGreat
open Go.RowKit
set_option maxRecDepth 100000
set_option maxHeartbeats 4000000
def Qml (s:Int):ByteArray:=(⟨#[UInt8.ofNat (48+s).toNat]⟩:ByteArray)++(⟨#[44]⟩:ByteArray)
def YN (c:DSg)(q:Int)(i:Nat):ByteArray:=((ZV c.1 i).filter fun s=>VC c q s).foldl (fun b s=>b++Qml s) (⟨#[]⟩:ByteArray)
section
variable {c:DSg}{as_:List DAr}{a:DAr}{i j k n:Nat}{s q:Int}{z:Q1}
theorem QnC (hx:c.2.2[k]? =some a)(h1:a.1=q)(h2:a.2.1=s):true=VC c q s:=(List.any_eq_true.2 ⟨a,List.mem_of_getElem? hx,decide_eq_true ⟨h1,h2⟩⟩).symm
theorem Qot (hn:∀j,j < k→∀a,c.2.2[j]? =some a→¬(a.1=q∧a.2.1=s))(hk:c.2.2.length≤k):false=VC c q s:=(List.any_eq_false.2 fun a ha=>by
  obtain ⟨j,hj⟩:=List.mem_iff_getElem?.1 ha
  have:=(List.getElem?_eq_some_iff.1 hj).1
  simpa using hn j (by omega) a hj).symm
theorem Qcs (hx:c.1[i]? =some z)(h:¬z.2=1)(he:VC c q (i:Int)=true):YN c q i++((⟨#[UInt8.ofNat (48+(i:Int)).toNat]⟩:ByteArray)++(⟨#[44]⟩:ByteArray))=YN c q (i+1):=by
  unfold YN
  rw[← Ut hx h,List.filter_append,List.foldl_append]
  simp[he,Qml]
theorem QcB (hx:c.1[i]? =some z)(h:z.2=1):YN c q i=YN c q (i+1):=by
  unfold YN
  rw[← J3 hx h]
theorem QcW (hx:c.1[i]? =some z)(h:¬z.2=1)(he:VC c q (i:Int)=false):YN c q i=YN c q (i+1):=by
  unfold YN
  rw[← Ut hx h,List.filter_append,List.foldl_append]
  simp[he]
theorem Hd:∀(l:List Int) (b:ByteArray),(l.foldl (fun b s=>b++Qml s) b).toList=b.toList++l.flatMap fun s=>[UInt8.ofNat (48+s).toNat,44]
  | [],b=>by simp
  | s :: l,b=>by
    rw[List.foldl_cons,Hd l,List.flatMap_cons]
    simp only[Qml,ByteArray.toList_eq,ByteArray.data_append,Array.toList_append]
    simp
theorem QlB (l:List Int):(l.flatMap fun s=>[UInt8.ofNat (48+s).toNat,44]).length=2*l.length:=by
  induction l with
  | nil=>rfl
  | cons s l ih=>rw[List.flatMap_cons,List.length_append,ih,List.length_cons,List.length_cons,List.length_cons,List.length_nil]; omega
theorem QmU (l:List Int)(b:ByteArray):(l.foldl (fun b s=>b++Qml s) b).size=b.size+2*l.length:=by
  have h:=congrArg List.length (Hd l b)
  rw[List.length_append,Wt,Wt,QlB] at h
  exact h
theorem Qf6:∀{l m:List Int},(∀x∈l,0≤x∧x≤9)→(∀x∈m,0≤x∧x≤9)→(l.flatMap fun s=>[UInt8.ofNat (48+s).toNat,44])=(m.flatMap fun s=>[UInt8.ofNat (48+s).toNat,44])→l=m
  | [],[],_,_,_=>rfl
  | [],y :: m,_,_,h=>by simp at h
  | x :: l,[],_,_,h=>by simp at h
  | x :: l,y :: m,hl,hm,h=>by
    rw[List.flatMap_cons,List.flatMap_cons] at h
    simp only[List.cons_append,List.nil_append,List.cons.injEq,true_and] at h
    obtain ⟨h1,h2⟩:=h
    have hx:=hl x (List.mem_cons_self ..)
    have hy:=hm y (List.mem_cons_self ..)
    have h3:=congrArg UInt8.toNat h1
    rw[UInt8.toNat_ofNat',UInt8.toNat_ofNat',Nat.mod_eq_of_lt (by omega),Nat.mod_eq_of_lt (by omega)] at h3
    rw[Qf6 (fun z hz=>hl z (List.mem_cons_of_mem _ hz)) (fun z hz=>hm z (List.mem_cons_of_mem _ hz)) h2,show x=y by omega]
theorem QfU (h8:c.1.length≤8):YN c (i:Int) c.1.length=YN c (j:Int) c.1.length↔Hg c i j=false:=by
  have hr:∀(f:Int→Bool),∀x∈(ZV c.1 c.1.length).filter f,0≤x∧x≤9:=fun f x hx=>by
    obtain ⟨t,rfl,ht,_⟩:=Ug.1 (List.mem_filter.1 hx).1; omega
  unfold Hg
  rw[List.any_eq_false]
  constructor
  · intro h s hs
    have h1:=congrArg ByteArray.toList h
    unfold YN at h1
    rw[Hd,Hd] at h1
    have h2:=Qf6 (hr _) (hr _) (List.append_cancel_left h1)
    have h3:(s∈(ZV c.1 c.1.length).filter fun s=>VC c i s)↔(s∈(ZV c.1 c.1.length).filter fun s=>VC c j s):=by rw[h2]
    simp only[List.mem_filter,hs,true_and] at h3
    rw[Bool.eq_iff_iff.2 h3]; simp
  · intro h
    unfold YN
    congr 1
    apply List.filter_congr
    intro s hs
    have:=h s hs
    simpa using this
theorem Qlg:(YN c q i).size≤2*i:=by
  unfold YN
  rw[QmU]
  have h1:((ZV c.1 i).filter fun s=>VC c q s).length≤(ZV c.1 i).length:=List.length_filter_le ..
  have h2:=QaH (ss:=c.1) (k:=i)
  show 0+_≤_
  omega
theorem QeQ (h8:c.1.length≤8)(h:(!decide (YN c (i:Int) c.1.length=YN c (j:Int) c.1.length))=true):Hg c i j=true:=by
  cases hd:Hg c i j with
  | true=>rfl
  | false=>rw[decide_eq_true ((QfU h8).2 hd)] at h; cases h
theorem Qhw (h8:c.1.length≤8)(h:(!decide (YN c (i:Int) c.1.length=YN c (j:Int) c.1.length))=false):Hg c i j=false:=(QfU h8).1 (by simpa using h)
end
section
variable [∀c,Decidable (SgOk c)][∀s,Decidable (ZL s)]{c:DSg}{x:(Int×Bool)×Int×Bool}
abbrev QfA (c:DSg)(x:(Int×Bool)×Int×Bool):ByteArray:=Yi c (Qk c x.1 x.2)
abbrev Qch (c:DSg)(x:(Int×Bool)×Int×Bool):(DSg×List Int)×Bool:=Yp c (ZZ c) (QfA c x)
def HR (c:DSg)(x:(Int×Bool)×Int×Bool):Bool:=okB c x.1 x.2&& !Ky c (QfA c x)
def Zp (c:DSg)(x:(Int×Bool)×Int×Bool):DSg×Bool:=
  if HR c x=true then ((Qch c x).1.1,(Qch c x).2&&decide (XG (Qch c x).1.1≤XG c)) else (UR,false)
def V3 (c:DSg)(x:(Int×Bool)×Int×Bool):Prop:=((SgOk c∧(0≤x.1.1∧x.1.1≤(c.1.length:Int) - 1))∧(0≤x.2.1∧x.2.1≤(c.1.length:Int) - 1))∧¬x.1=x.2
instance:Decidable (V3 c x):=inferInstanceAs (Decidable (_∧_))
def YB (c:DSg)(x:(Int×Bool)×Int×Bool):Bool:=decide (V3 c x)&&(Zp c x).2
def ZB (c:DSg)(x:(Int×Bool)×Int×Bool):Int:=if YB c x=true then ((YW (Zp c x).1).length:Int) else 0
def Z4 (c:DSg)(x:(Int×Bool)×Int×Bool):Int:=if YB c x=true then ((Zp c x).1.2.1.length:Int) else 0
theorem QnI (h:okB c x.1 x.2=false):HR c x=false:=by unfold HR; rw[h]; rfl
theorem Qi6 (h:Ky c (QfA c x)=true):HR c x=false:=by unfold HR; rw[h]; simp
theorem Qe9 (h1:okB c x.1 x.2=true)(h:Ky c (QfA c x)=false):HR c x=true:=by unfold HR; rw[h,h1]; rfl
theorem Qhp (h:HR c x=false):Zp c x=(UR,false):=if_neg (by rw[h]; decide)
theorem Qfh (h:HR c x=true):Zp c x=((Qch c x).1.1,(Qch c x).2&&decide (XG (Qch c x).1.1≤XG c)):=if_pos h
theorem QjJ (h:(Qch c x).2=true):SgOk (Qch c x).1.1:=by
  unfold Qch Yp at h ⊢
  split at h
  · rename_i h1; rw[if_pos h1]; exact h1.2
  · cases h
theorem Qg4 (h:(Zp c x).2=true):SgOk (Zp c x).1:=by
  unfold Zp at h ⊢
  split at h
  · rename_i h1
    rw[if_pos h1]
    rw[Bool.and_eq_true] at h
    exact QjJ h.1
  · cases h
theorem K9 (h:okB c x.1 x.2=true):ZX c x.1 x.2=QfA c x:=(Qdw h).symm
theorem Qo0 (h:(ZW c (ZZ c) (QfA c x)).2=false):Qch c x=(Qhn,false):=QoS h
theorem QiL (h:(ZW c (ZZ c) (QfA c x)).2=true):Qch c x=ZW c (ZZ c) (QfA c x):=QoG h
theorem QgA:(ZZ c).size≤2:=by unfold ZZ; split <;> (try split) <;> exact Nat.le_refl _
theorem Qka {nm s:ByteArray}(h:(Yp c nm s).2=true):SgOk (Yp c nm s).1.1:=by
  unfold Yp at h ⊢
  split at h
  · rename_i h1; rw[if_pos h1]; exact h1.2
  · cases h
theorem VK (h:okB c x.1 x.2=false):Zp c x=(UR,false):=Qhp (QnI h)
theorem QbB (h1:okB c x.1 x.2=true)(h:(c.2.2.any fun a:DAr=>Zs (ZX c x.1 x.2) a&&Xx c a.2.1)=true):Zp c x=(UR,false):=Qhp (Qi6 (by rw[← K9 h1]; exact h))
theorem QeV (h1:okB c x.1 x.2=true)(h:(c.2.2.any fun a:DAr=>Zs (ZX c x.1 x.2) a&&Xx c a.2.1)=false):
    Zp c x=((Yp c (ZZ c) (ZX c x.1 x.2)).1.1,(Yp c (ZZ c) (ZX c x.1 x.2)).2&&decide (XG (Yp c (ZZ c) (ZX c x.1 x.2)).1.1≤XG c)):=by
  rw[Qfh (Qe9 h1 (by rw[← K9 h1]; exact h)),K9 h1]
theorem Qeo (h1:okB c x.1 x.2=true)(h:(c.2.2.any fun a:DAr=>Zs (ZX c x.1 x.2) a&&Xx c a.2.1)=false):(Yp c (ZZ c) (ZX c x.1 x.2)).1.1=(Zp c x).1:=by rw[QeV h1 h]
theorem QpC (h1:okB c x.1 x.2=true)(h:(c.2.2.any fun a:DAr=>Zs (ZX c x.1 x.2) a&&Xx c a.2.1)=false)(h2:(Yp c (ZZ c) (ZX c x.1 x.2)).2=false):false=(Zp c x).2:=by rw[QeV h1 h,h2]; rfl
theorem QpZ (h1:okB c x.1 x.2=true)(h:(c.2.2.any fun a:DAr=>Zs (ZX c x.1 x.2) a&&Xx c a.2.1)=false)(h2:(Yp c (ZZ c) (ZX c x.1 x.2)).2=true):decide (XG (Yp c (ZZ c) (ZX c x.1 x.2)).1.1≤XG c)=(Zp c x).2:=by rw[QeV h1 h,h2]; rfl
theorem Qbn (h:(!Ky c (Yi c (Qk c x.1 x.2)))=false):Zp c x=(UR,false):=Qhp (Qi6 (by simpa using h))
theorem Qjp (h1:okB c x.1 x.2=true)(h:(!Ky c (Yi c (Qk c x.1 x.2)))=true)(h2:(ZW c (ZZ c) (Yi c (Qk c x.1 x.2))).2=false):Zp c x=(UR,false):=by
  rw[Qfh (Qe9 h1 (by simpa using h)),Qo0 h2]; rfl
theorem Qoh (h1:okB c x.1 x.2=true)(h:(!Ky c (Yi c (Qk c x.1 x.2)))=true)(h2:(ZW c (ZZ c) (Yi c (Qk c x.1 x.2))).2=true):
    Zp c x=((ZW c (ZZ c) (Yi c (Qk c x.1 x.2))).1.1,decide (XG (ZW c (ZZ c) (Yi c (Qk c x.1 x.2))).1.1≤XG c)):=by
  rw[Qfh (Qe9 h1 (by simpa using h)),QiL h2,h2]; rfl
theorem QlO (h1:okB c x.1 x.2=true)(h:(!Ky c (Yi c (Qk c x.1 x.2)))=true)(h2:(ZW c (ZZ c) (Yi c (Qk c x.1 x.2))).2=true):(ZW c (ZZ c) (Yi c (Qk c x.1 x.2))).1.1=(Zp c x).1:=by rw[Qoh h1 h h2]
theorem QpH (hs:SgOk c)(h1:okB c x.1 x.2=true)(h:(!Ky c (Yi c (Qk c x.1 x.2)))=true)(h2:(ZW c (ZZ c) (Yi c (Qk c x.1 x.2))).2=true):
    decide ((if SgOk (ZW c (ZZ c) (Yi c (Qk c x.1 x.2))).1.1 then XG (ZW c (ZZ c) (Yi c (Qk c x.1 x.2))).1.1 else 0)≤(if SgOk c then XG c else 0))=(Zp c x).2:=by
  have h3:SgOk (ZW c (ZZ c) (Yi c (Qk c x.1 x.2))).1.1:=by
    have:=QjJ (c:=c) (x:=x) (by rw[QiL h2]; exact h2)
    rw[QiL h2] at this; exact this
  rw[Qoh h1 h h2,if_pos h3,if_pos hs]
theorem Qdg (h:¬V3 c x):YB c x=false:=by unfold YB; rw[decide_eq_false h]; rfl
theorem Qc6 (h:(Zp c x).2=false):YB c x=false:=by unfold YB; rw[h]; simp
theorem J7 (h1:V3 c x)(h:(Zp c x).2=true):YB c x=true:=by unfold YB; rw[h,decide_eq_true h1]; rfl
theorem QkK (h:¬V3 c x):ZB c x=0∧Z4 c x=0∧YB c x=false:=⟨if_neg (by rw[Qdg h]; decide),if_neg (by rw[Qdg h]; decide),Qdg h⟩
theorem Qk2 (h:(Zp c x).2=false):ZB c x=0∧Z4 c x=0∧YB c x=false:=⟨if_neg (by rw[Qc6 h]; decide),if_neg (by rw[Qc6 h]; decide),Qc6 h⟩
theorem Qkv (h1:V3 c x)(h:(Zp c x).2=true):ZB c x=((YW (Zp c x).1).length:Int)∧Z4 c x=((Zp c x).1.2.1.length:Int)∧YB c x=true:=⟨if_pos (J7 h1 h),if_pos (J7 h1 h),J7 h1 h⟩
end
theorem Qpc {c:DSg}{p r:Int×Bool}(h1:SgOk c∧(0≤p.1∧p.1≤(c.1.length:Int) - 1))(h2:SgOk c∧(0≤r.1∧r.1≤(c.1.length:Int) - 1))(h3:Ty.beq (.pr .int .bool) p r=false):V3 c (p,r):=⟨⟨h1,h2.2⟩,fun e=>by rw[Ql8,decide_eq_true e] at h3; cases h3⟩
theorem QjV {c:DSg}{p r:Int×Bool}(h:¬(SgOk c∧(0≤p.1∧p.1≤(c.1.length:Int) - 1))):¬V3 c (p,r):=fun g=>h g.1.1
theorem Qjz {c:DSg}{p r:Int×Bool}(h:¬(SgOk c∧(0≤r.1∧r.1≤(c.1.length:Int) - 1))):¬V3 c (p,r):=fun g=>h ⟨g.1.1.1,g.1.2⟩
theorem QjI {c:DSg}{p r:Int×Bool}(h:Ty.beq (.pr .int .bool) p r=true):¬V3 c (p,r):=fun g=>g.2 (by rw[Ql8] at h; exact of_decide_eq_true h)
theorem Hb (c:(List (ByteArray×Int))×List ByteArray×(List (Int×Int×Bool×Int)))(k:Int)(sig:Int):FC Tryz.prog 204 [(true,[.dat (.sl 145 (.pr .str .int)) c.1, .dat (.sl 9 .str) c.2.1, .dat (.sl 179 (.pr .int (.pr .int (.pr .bool .int)))) c.2.2]),(false,[dI k]),(false,[dI sig])] [] 0 (Zo (lB (VC c k sig))):=by
 refine QM Tryz.func204 rfl rfl Tryz.ntmps204 fun O_ hO w0_ N0_ X_ h0_ f0_=> ?_
 refine AC.fact (Qu (x:= .tmp 1) (Qa rfl)) fun hi1=>AC.fact (Qu (x:= .tmp 2) (Qa rfl)) fun hi2=> ?_
 refine w_ ?_
 refine lc (Qo 0 (Qb rfl) rfl rfl (Fresh.of rfl) (nlr rfl)) ?_
 iterate 6 refine w_ ?_
 refine AL.fact (Qy (x:= .tmp 10) (Qa rfl)) fun hl3=> ?_
 iterate 4 refine w_ ?_
 refine Qx (fun m_ s_=>∃(i:Nat),i≤c.2.2.length∧m_=c.2.2.length - i∧(∀j,j < i→∀a,c.2.2[j]? =some a→¬(a.1=k∧a.2.1=sig))∧s_=⟨[(1,lI k),(2,lI sig),(10,lf (.dat (.sl 179 (.pr .int (.pr .int (.pr .bool .int)))) c.2.2)),(11,lI (c.2.2.length:Int)),(12,lI (i:Int))],[]⟩) ⟨0,Nat.zero_le _,rfl,(fun j hj=>absurd hj (Nat.not_lt_zero j)),rfl⟩ ?_ ?_
 · exact Wk.of [] rfl ⟨rfl,rfl,rfl,rfl,rfl,trivial⟩ trivial rfl rfl
 rintro m_ s_ ⟨i,hk4,hm5,hno,rfl⟩
 iterate 4 refine w_ ?_
 cases hb6:(decide ((i:Int) < (c.2.2.length:Int)))
 ·have hb6':=of_decide_eq_false hb6
  refine w_ ?_
  refine QC ?_
  refine (?_:AC _ _ _ _ _)
  iterate 3 refine w_ ?_
  refine Qd ?_
  subst hO
  have e7:(false:Bool)=(VC c k sig):=by
   first | exact Qot hno (by omega)
  exact Qg (Qe rfl (Qc rfl)) ((congrArg (fun z_=>lB z_) e7)) rfl
 ·have hb6':=of_decide_eq_true hb6
  iterate 5 refine w_ ?_
  obtain ⟨x8,hx9⟩:∃z,c.2.2[i]? =some z:=⟨_,List.getElem?_eq_getElem (by omega)⟩
  refine lc (Qn (Qa rfl) (Qa rfl) Zg QJ rfl (by omega) hx9) ?_
  refine w_ ?_
  refine lc (Qt 1 (.pr .int (.pr .int (.pr .bool .int))) Zn rfl rfl (Fresh.of rfl) (nlr rfl))<|lc (Qh (Qa rfl) rfl (Qb rfl) rfl QJ rfl) ?_
  iterate 4 refine w_ ?_
  refine AL.fact (Qu (x:= .tmp 17) (Qa rfl)) fun hi10=> ?_
  iterate 3 refine w_ ?_
  cases hb11:(decide (x8.1=k))
  ·have hb11':=of_decide_eq_false hb11
   iterate 7 refine w_ ?_
   refine AC.skip ?_
   refine (?_:AC _ _ _ _ _)
   iterate 3 refine w_ ?_
   refine Qj<|QR ⟨i+1,by omega,rfl,(YP hno hx9 (by first | (exact fun g=>absurd g.1 (by assumption)) | (exact fun g=>absurd g.2 (by assumption)))),rfl⟩ (by omega) ?_
   exact Wk.of [] rfl ⟨rfl,rfl,rfl,rfl,rfl,trivial⟩ trivial rfl rfl
  ·have hb11':=of_decide_eq_true hb11
   iterate 6 refine w_ ?_
   cases hb12:(decide (x8.2.1=sig))
   ·have hb12':=of_decide_eq_false hb12
    refine w_ ?_
    refine AC.skip ?_
    refine (?_:AC _ _ _ _ _)
    iterate 3 refine w_ ?_
    refine Qj<|QR ⟨i+1,by omega,rfl,(YP hno hx9 (by first | (exact fun g=>absurd g.1 (by assumption)) | (exact fun g=>absurd g.2 (by assumption)))),rfl⟩ (by omega) ?_
    exact Wk.of [] rfl ⟨rfl,rfl,rfl,rfl,rfl,trivial⟩ trivial rfl rfl
   ·have hb12':=of_decide_eq_true hb12
    iterate 4 refine w_ ?_
    refine Qd ?_
    subst hO
    have e13:(true:Bool)=(VC c k sig):=by
     exact QnC hx9 (by assumption) (by assumption)
    exact Qg (Qe rfl (Qc rfl)) ((congrArg (fun z_=>lB z_) e13)) rfl
theorem VQ (c:(List (ByteArray×Int))×List ByteArray×(List (Int×Int×Bool×Int)))(k:Int)(h8:c.1.length≤8):FC Tryz.prog 128 [(true,[.dat (.sl 145 (.pr .str .int)) c.1, .dat (.sl 9 .str) c.2.1, .dat (.sl 179 (.pr .int (.pr .int (.pr .bool .int)))) c.2.2]),(false,[dI k])] [] 0 (Zo (lf (dS (YN c k c.1.length)))):=by
 refine QM Tryz.func128 rfl rfl Tryz.ntmps128 fun O_ hO w0_ N0_ X_ h0_ f0_=> ?_
 refine AC.fact (Qu (x:= .tmp 1) (Qa rfl)) fun hi1=> ?_
 refine w_ ?_
 refine lc (Qo 0 (Qb rfl) rfl rfl (Fresh.of rfl) (nlr rfl)) ?_
 iterate 9 refine w_ ?_
 refine AL.fact (Qy (x:= .tmp 9) (Qa rfl)) fun hl2=> ?_
 iterate 4 refine w_ ?_
 refine Qx (fun m_ s_=>∃(i:Nat),i≤c.1.length∧m_=c.1.length - i∧s_=⟨[(1,lI k),(2,lP 0 0),(4,lf (dS (⟨#[]⟩:ByteArray))),(5,lf (dS (YN c k i))),(9,lf (.dat (.sl 145 (.pr .str .int)) c.1)),(10,lI (c.1.length:Int)),(11,lI (i:Int))],[(0,some (.box 59 [.dat (.sl 145 (.pr .str .int)) c.1, .dat (.sl 9 .str) c.2.1, .dat (.sl 179 (.pr .int (.pr .int (.pr .bool .int)))) c.2.2]))]⟩) ⟨0,Nat.zero_le _,rfl,rfl⟩ ?_ ?_
 · exact Wk.of [(0,0)] rfl ⟨rfl,rfl,rfl,(show some (lf (dS (⟨#[]⟩:ByteArray)))=some (lf (dS (YN c k 0))) from congrArg (fun z_=>some (lf (dS z_))) (rfl)),rfl,rfl,rfl,trivial⟩ ⟨rfl,trivial⟩ rfl rfl
 rintro m_ s_ ⟨i,hk4,hm5,rfl⟩
 have hal:=Qlg (c:=c) (q:=k) (i:=i)
 have hn1:(⟨#[UInt8.ofNat (48+(i:Int)).toNat]⟩:ByteArray).size=1:=rfl
 have hn2:(⟨#[44]⟩:ByteArray).size=1:=rfl
 have hn3:((⟨#[UInt8.ofNat (48+(i:Int)).toNat]⟩:ByteArray)++(⟨#[44]⟩:ByteArray)).size=2:=by rw[ByteArray.size_append]; rfl
 iterate 4 refine w_ ?_
 cases hb6:(decide ((i:Int) < (c.1.length:Int)))
 ·have hb6':=of_decide_eq_false hb6
  refine w_ ?_
  refine QC ?_
  refine (?_:AC _ _ _ _ _)
  iterate 4 refine w_ ?_
  refine Qd ?_
  subst hO
  have e7:(YN c k i:ByteArray)=(YN c k c.1.length):=by
   (congr 1; omega)
  exact Qg (Qe rfl (Qc rfl)) ((congrArg (fun z_=>lf (dS z_)) e7)) rfl
 ·have hb6':=of_decide_eq_true hb6
  iterate 6 refine w_ ?_
  obtain ⟨sg,hx9⟩:∃z,c.1[i]? =some z:=⟨_,List.getElem?_eq_getElem (by omega)⟩
  refine lc (Qn (Qa rfl) (Qa rfl) YD YA rfl (by omega) hx9) ?_
  refine w_ ?_
  refine lc (Qt 1 (.pr .str .int) W7 rfl rfl (Fresh.of rfl) (nlr rfl)) ?_
  refine w_ ?_
  refine lc (Qh (Qa rfl) rfl (Qb rfl) rfl YA rfl) ?_
  iterate 4 refine w_ ?_
  refine AL.fact (Qu (x:= .tmp 17) (Qa rfl)) fun hi10=> ?_
  iterate 2 refine w_ ?_
  cases hb11:(!decide (sg.2=1))
  ·have hb11':(sg.2=1):=Zi hb11
   iterate 7 refine w_ ?_
   refine AC.skip ?_
   refine (?_:AC _ _ _ _ _)
   iterate 3 refine w_ ?_
   refine Qj<|QR ⟨i+1,by omega,rfl,rfl⟩ (by omega) ?_
   exact Wk.of [(0,0)] rfl ⟨rfl,rfl,rfl,(show some (lf (dS (YN c k i)))=some (lf (dS (YN c k (i+1)))) from congrArg (fun z_=>some (lf (dS z_))) (by first | exact Qcs hx9 (by assumption) (by assumption) | exact QcB hx9 (by assumption) | exact QcW hx9 (by assumption) (by assumption))),rfl,rfl,rfl,trivial⟩ ⟨rfl,trivial⟩ rfl rfl
  ·have hb11':¬(sg.2=1):=Zq hb11
   iterate 3 refine w_ ?_
   refine lgy rfl rfl (Qf (Hb c k (i:Int)) Qhu ⟨_,_,rfl,(Qb rfl),⟨_,_,rfl,(Qb rfl),⟨_,_,rfl,(Qb rfl),rfl⟩⟩⟩ rfl rfl) ?_
   iterate 2 refine w_ ?_
   cases hb13:(VC c k (i:Int))
   ·refine w_ ?_
    refine AC.skip ?_
    refine (?_:AC _ _ _ _ _)
    iterate 3 refine w_ ?_
    refine Qj<|QR ⟨i+1,by omega,rfl,rfl⟩ (by omega) ?_
    exact Wk.of [(0,0)] rfl ⟨rfl,rfl,rfl,(show some (lf (dS (YN c k i)))=some (lf (dS (YN c k (i+1)))) from congrArg (fun z_=>some (lf (dS z_))) (by first | exact Qcs hx9 (by assumption) (by assumption) | exact QcB hx9 (by assumption) | exact QcW hx9 (by assumption) (by assumption))),rfl,rfl,rfl,trivial⟩ ⟨rfl,trivial⟩ rfl rfl
   ·iterate 4 refine w_ ?_
    refine lc (Qf (Jo (i:Int) (by omega)) QbS ⟨_,_,rfl,(Qb rfl),rfl⟩ rfl rfl)<|lc (XY (Qa rfl) (Evl.str rfl) rfl (by omega))<|lc (XY (Qa rfl) (Qa rfl) rfl (by omega)) ?_
    refine w_ ?_
    refine Qj ?_
    refine (?_:AC _ _ _ _ _)
    iterate 3 refine w_ ?_
    refine Qj<|QR ⟨i+1,by omega,rfl,rfl⟩ (by omega) ?_
    exact Wk.of [(0,0)] rfl ⟨rfl,rfl,rfl,(show some (lf (dS ((YN c k i)++((⟨#[UInt8.ofNat (48+(i:Int)).toNat]⟩:ByteArray)++(⟨#[44]⟩:ByteArray)))))=some (lf (dS (YN c k (i+1)))) from congrArg (fun z_=>some (lf (dS z_))) (by first | exact Qcs hx9 (by assumption) (by assumption) | exact QcB hx9 (by assumption) | exact QcW hx9 (by assumption) (by assumption))),rfl,rfl,rfl,trivial⟩ ⟨rfl,trivial⟩ rfl rfl
theorem JD (c:(List (ByteArray×Int))×List ByteArray×(List (Int×Int×Bool×Int)))(hs:SgOk c):FC Tryz.prog 71 [(true,[.dat (.sl 145 (.pr .str .int)) c.1, .dat (.sl 9 .str) c.2.1, .dat (.sl 179 (.pr .int (.pr .int (.pr .bool .int)))) c.2.2])] [] 0 (X8 106 (.sl 3 .int) (YW c)):=by
 have hr:∀a∈c.2.2,InR c.2.1.length a:=fun a ha=>YO (hs.arcs a ha)
 have hn3:=hs.some_
 have hfw:=hs.few
 have hs8:=hs.sigs.2.2
 refine QM Tryz.func71 rfl rfl Tryz.ntmps71 fun O_ hO w0_ N0_ X_ h0_ f0_=> ?_
 refine w_ ?_
 refine lc (Qo 0 (Qb rfl) rfl rfl (Fresh.of rfl) (nlr rfl)) ?_
 iterate 9 refine w_ ?_
 refine AL.fact (Qy (x:= .tmp 7) (Qa rfl)) fun hl1=> ?_
 iterate 4 refine w_ ?_
 refine AC.wk (Wk.nilS 1 3 106 (.sl 3 .int) rfl (Fresh.of rfl) (nlr rfl)) ?_
 refine Qx (fun m_ s_=>∃(i:Nat),i≤c.2.1.length∧m_=c.2.1.length - i∧s_=⟨[(1,lP 0 0),(2,lf (.val (.slice none 0 0))),(3,lR 2),(8,lI (c.2.1.length:Int)),(9,lI (i:Int))],[(0,some (.box 59 [.dat (.sl 145 (.pr .str .int)) c.1, .dat (.sl 9 .str) c.2.1, .dat (.sl 179 (.pr .int (.pr .int (.pr .bool .int)))) c.2.2])),(2,some (.arr 106 (.sl 3 .int) (Xm c (Hg c) i)))]⟩) ⟨0,Nat.zero_le _,rfl,rfl⟩ ?_ ?_
 · exact Wk.of [(0,0),(2,1)] rfl ⟨rfl,rfl,rfl,rfl,rfl,trivial⟩ ⟨rfl,(QA (rfl)),trivial⟩ rfl rfl
 rintro m_ s_ ⟨i,hk2,hm3,rfl⟩
 have hal:=QcA (c:=c) (f:=Hg c) (i:=i) hn3.2
 iterate 4 refine w_ ?_
 cases hb4:(decide ((i:Int) < (c.2.1.length:Int)))
 ·have hb4':=of_decide_eq_false hb4
  refine w_ ?_
  refine QC ?_
  refine (?_:AC _ _ _ _ _)
  iterate 4 refine w_ ?_
  refine Qd ?_
  subst hO
  refine ZC (e:=(.sl 3 .int)) (xs:=(Xm c (Hg c) i)) (Qe rfl (Qc rfl)) rfl ?_
  (congr 1; omega)
 ·have hb4':=of_decide_eq_true hb4
  iterate 14 refine w_ ?_
  refine Qx (fun m_ s_=>∃(m:Int) (out:List (List Int)),m_=((c.2.1.length:Int) - m).toNat∧((i:Int)+1≤m∧m≤(c.2.1.length:Int))∧(out=Xm c (Hg c) i++XV c (Hg c) i m.toNat)∧s_=⟨[(1,lP 0 0),(2,lf (.val (.slice none 0 0))),(3,lR 3),(4,lI (i:Int)),(5,lI m),(8,lI (c.2.1.length:Int)),(9,lI (i:Int)),(10,lB true),(11,lI (i:Int)),(12,lI (i:Int)),(13,lI ((i:Int)+1))],[(0,some (.box 59 [.dat (.sl 145 (.pr .str .int)) c.1, .dat (.sl 9 .str) c.2.1, .dat (.sl 179 (.pr .int (.pr .int (.pr .bool .int)))) c.2.2])),(3,some (.arr 106 (.sl 3 .int) out))]⟩) ⟨(i:Int)+1,Xm c (Hg c) i,rfl,(by omega),(by rw[show ((i:Int)+1).toNat=i+1 by omega,Qcm,List.append_nil]),rfl⟩ ?_ ?_
  · exact Wk.of [(0,0),(3,2)] rfl ⟨rfl,rfl,rfl,rfl,rfl,rfl,rfl,rfl,rfl,rfl,rfl,trivial⟩ ⟨rfl,(QA (by first | rfl | simp)),trivial⟩ rfl rfl
  rintro m_ s_ ⟨m,out,hm6,hm,hO1,rfl⟩
  have hol:out.length≤100000:=by rw[hO1,List.length_append]; have:=QbZ (c:=c) (f:=Hg c) (i:=i) (k:=m.toNat); have:=hal (by omega); omega
  have hmn:((m.toNat:Nat):Int)=m:=by omega
  iterate 5 refine w_ ?_
  refine AL.fact (Qy (x:= .tmp 16) (Qa rfl)) fun hl7=> ?_
  iterate 3 refine w_ ?_
  cases hb8:(decide (m < (c.2.1.length:Int)))
  ·have hb8':=of_decide_eq_false hb8
   refine w_ ?_
   refine QC ?_
   refine (?_:AC _ _ _ _ _)
   iterate 3 refine w_ ?_
   refine Qj<|QR ⟨i+1,by omega,rfl,rfl⟩ (by omega) ?_
   exact Wk.of [(0,0),(2,3)] rfl ⟨rfl,rfl,rfl,rfl,rfl,trivial⟩ ⟨rfl,(QA ((by rw[hO1]; exact Qoa (by omega) (by omega)))),trivial⟩ rfl rfl
  ·have hb8':=of_decide_eq_true hb8
   iterate 4 refine w_ ?_
   obtain ⟨ci,hx10⟩:∃z,c.2.1[i]? =some z:=⟨_,List.getElem?_eq_getElem (by omega)⟩
   have hci:=hx10
   obtain ⟨cm,hx12⟩:∃z,c.2.1[(m).toNat]? =some z:=⟨_,List.getElem?_eq_getElem (by omega)⟩
   have hcm:=hx12
   cases hb13:(decide (ci=cm))
   ·have hb13':=of_decide_eq_false hb13
    refine dw [io 21 (lP 0 1),io 22 (lf (.dat (.sl 9 .str) c.2.1)),io 23 (lI (i:Int)),io 24 (lf (.elt .str ci 0)),io 25 (lf (dS ci)),io 26 (lP 0 1),io 27 (lf (.dat (.sl 9 .str) c.2.1)),io 28 (lI m),io 29 (lf (.elt .str cm 0)),io 30 (lf (dS cm)),io 31 (lB false),io 32 (lB false),io 33 (lf (.val undef)),io 34 (lf (.val undef)),io 35 (lf (.val undef)),io 36 (lf (.val undef)),io 37 (lf (.val undef)),io 38 (lf (.val undef)),io 39 (lf (.val undef)),io 40 (lB false)] [0,1,0,7,15,0,32,0,224,480,1023,2047,4095,4095,16383,4095,4095,131071,262143,524287] mixed rfl (by kernel_rfl) ⟨dxf Yd rfl rfl rfl,dxl Xe rfl rfl rfl rfl rfl,dxm rfl rfl,fun _ h_=>ac (Qn (h_.v rfl) (h_.v rfl) Yg ZF rfl (by omega) hx10) rfl,fun _ h_=>ac (ZG (h_.v rfl) ZF rfl rfl) rfl,dxf Yd rfl rfl rfl,dxl Xe rfl rfl rfl rfl rfl,dxm rfl rfl,fun _ h_=>ac (Qn (h_.v rfl) (h_.v rfl) Yg ZF rfl (by omega) hx12) rfl,fun _ h_=>ac (ZG (h_.v rfl) ZF rfl rfl) rfl,fun _ h_=>ac (QW (hb13) (Vb (h_.v rfl) (h_.v rfl) rfl)) rfl,dxm rfl rfl,dxo rfl rfl rfl,dxo rfl rfl rfl,dxo rfl rfl rfl,dxo rfl rfl rfl,dxo rfl rfl rfl,dxo rfl rfl rfl,dxo rfl rfl rfl,fun _ h_=>ac (QK (h_.v rfl) (Evl.ev QP) rfl) rfl,⟨⟩⟩ ?_
    refine w_ ?_
    refine AC.skip ?_
    refine (?_:AC _ _ _ _ _)
    iterate 4 refine w_ ?_
    refine Qj<|QR ⟨(m+1),out,rfl,(by omega),(by rw[hO1]; first | exact QjK (by omega) hcm hci (by assumption) (QeQ hs8 (by rw[hmn]; assumption)) | exact QiX (by omega) hcm hci (by assumption) | exact Qll (by omega) (Qhw hs8 (by rw[hmn]; assumption))),rfl⟩ (by omega) ?_
    exact Wk.of [(0,0),(3,3)] rfl ⟨rfl,rfl,rfl,rfl,rfl,rfl,rfl,rfl,rfl,rfl,rfl,trivial⟩ ⟨rfl,rfl,trivial⟩ rfl rfl
   ·have hb13':=of_decide_eq_true hb13
    refine dw [io 21 (lP 0 1),io 22 (lf (.dat (.sl 9 .str) c.2.1)),io 23 (lI (i:Int)),io 24 (lf (.elt .str ci 0)),io 25 (lf (dS ci)),io 26 (lP 0 1),io 27 (lf (.dat (.sl 9 .str) c.2.1)),io 28 (lI m),io 29 (lf (.elt .str cm 0)),io 30 (lf (dS cm)),io 31 (lB true),io 32 (lB true),io 33 (ag [.dat (.sl 145 (.pr .str .int)) c.1, .dat (.sl 9 .str) c.2.1, .dat (.sl 179 (.pr .int (.pr .int (.pr .bool .int)))) c.2.2]),io 34 (lI (i:Int)),io 35 (lf (dS (YN c (i:Int) c.1.length))),io 36 (ag [.dat (.sl 145 (.pr .str .int)) c.1, .dat (.sl 9 .str) c.2.1, .dat (.sl 179 (.pr .int (.pr .int (.pr .bool .int)))) c.2.2]),io 37 (lI m),io 38 (lf (dS (YN c m c.1.length))),io 39 (lB (!decide ((YN c (i:Int) c.1.length)=(YN c m c.1.length)))),io 40 (lB (!decide ((YN c (i:Int) c.1.length)=(YN c m c.1.length))))] [0,1,0,7,15,0,32,0,224,480,1023,2047,4095,4095,16383,4095,4095,131071,262143,524287] mixed rfl (by kernel_rfl) ⟨dxf Yd rfl rfl rfl,dxl Xe rfl rfl rfl rfl rfl,dxm rfl rfl,fun _ h_=>ac (Qn (h_.v rfl) (h_.v rfl) Yg ZF rfl (by omega) hx10) rfl,fun _ h_=>ac (ZG (h_.v rfl) ZF rfl rfl) rfl,dxf Yd rfl rfl rfl,dxl Xe rfl rfl rfl rfl rfl,dxm rfl rfl,fun _ h_=>ac (Qn (h_.v rfl) (h_.v rfl) Yg ZF rfl (by omega) hx12) rfl,fun _ h_=>ac (ZG (h_.v rfl) ZF rfl rfl) rfl,fun _ h_=>ac (QW (hb13) (Vb (h_.v rfl) (h_.v rfl) rfl)) rfl,dxm rfl rfl,fun _ h_=>day rfl (h_.k rfl) (Z0 (h_.v rfl) (h_.n 0 rfl) QU rfl rfl) rfl,fun _ h_=>day rfl (h_.k rfl) (QD (h_.k rfl) rfl) rfl,fun _ h_=>day rfl (h_.k rfl) (Qf (VQ c (i:Int) (by omega)) Qdd ⟨_,_,rfl,(h_.w rfl),⟨_,_,rfl,(h_.w rfl),rfl⟩⟩ rfl rfl) rfl,fun _ h_=>day rfl (h_.k rfl) (Z0 (h_.v rfl) (h_.n 0 rfl) QU rfl rfl) rfl,fun _ h_=>day rfl (h_.k rfl) (QD (h_.k rfl) rfl) rfl,fun _ h_=>day rfl (h_.k rfl) (Qf (VQ c m (by omega)) Qdd ⟨_,_,rfl,(h_.w rfl),⟨_,_,rfl,(h_.w rfl),rfl⟩⟩ rfl rfl) rfl,fun _ h_=>day rfl (h_.k rfl) (QdQ (h_.v rfl) (h_.v rfl) rfl) rfl,fun _ h_=>ac (QT (h_.v rfl) (h_.w rfl) rfl) rfl,⟨⟩⟩ ?_
    cases hb14:(!decide ((YN c (i:Int) c.1.length)=(YN c m c.1.length)))
    ·have hb14':((YN c (i:Int) c.1.length)=(YN c m c.1.length)):=Zi hb14
     refine w_ ?_
     refine AC.skip ?_
     refine (?_:AC _ _ _ _ _)
     iterate 4 refine w_ ?_
     refine Qj<|QR ⟨(m+1),out,rfl,(by omega),(by rw[hO1]; first | exact QjK (by omega) hcm hci (by assumption) (QeQ hs8 (by rw[hmn]; assumption)) | exact QiX (by omega) hcm hci (by assumption) | exact Qll (by omega) (Qhw hs8 (by rw[hmn]; assumption))),rfl⟩ (by omega) ?_
     exact Wk.of [(0,0),(3,3)] rfl ⟨rfl,rfl,rfl,rfl,rfl,rfl,rfl,rfl,rfl,rfl,rfl,trivial⟩ ⟨rfl,rfl,trivial⟩ rfl rfl
    ·have hb14':¬((YN c (i:Int) c.1.length)=(YN c m c.1.length)):=Zq hb14
     iterate 5 refine w_ ?_
     refine lc (Ql 4 (e:= .int) QL Qz Xg rfl ⟨_,_,rfl,(Qb rfl),⟨_,_,rfl,(Qb rfl),rfl⟩⟩ (List.all_eq_true.1 rfl) ⟨_,_,_,_,rfl,⟨rfl,rfl⟩,⟨_,_,_,_,rfl,⟨rfl,rfl⟩,⟨rfl,rfl⟩,rfl⟩,rfl⟩ (by decide) rfl rfl (Fresh.of rfl) (nlr rfl))<|lc (Ql 5 (e:=(.sl 3 .int)) YH Zx K6 rfl ⟨_,_,rfl,(Qb rfl),rfl⟩ (List.all_eq_true.1 rfl) ⟨_,_,_,_,rfl,(.inl ⟨_,rfl,rfl,rfl⟩),⟨rfl,rfl⟩,rfl⟩ (by decide) rfl rfl (Fresh.of rfl) (nlr rfl))<|lc (QY 6 (Qa rfl) rfl (Qa rfl) rfl rfl YH Qjs (by first | omega | (simp only[List.length_append,List.length_map,List.length_take,List.length_cons,List.length_nil]; omega) | (simp only[List.length_append,List.length_drop,List.length_take,List.length_cons,List.length_nil]; omega)) rfl (Fresh.of rfl) (nlr rfl)) ?_
     refine w_ ?_
     refine Qj ?_
     refine (?_:AC _ _ _ _ _)
     iterate 4 refine w_ ?_
     refine Qj<|QR ⟨(m+1),(out++([[(i:Int),m]])),rfl,(by omega),(by rw[hO1]; first | exact QjK (by omega) hcm hci (by assumption) (QeQ hs8 (by rw[hmn]; assumption)) | exact QiX (by omega) hcm hci (by assumption) | exact Qll (by omega) (Qhw hs8 (by rw[hmn]; assumption))),rfl⟩ (by omega) ?_
     exact Wk.of [(0,0),(3,6)] rfl ⟨rfl,rfl,rfl,rfl,rfl,rfl,rfl,rfl,rfl,rfl,rfl,trivial⟩ ⟨rfl,(QA (by first | rfl | simp)),trivial⟩ rfl rfl
theorem Qax (c:(List (ByteArray×Int))×List ByteArray×(List (Int×Int×Bool×Int)))(p:Int×Bool)(r:Int×Bool)[∀c,Decidable (SgOk c)][∀s,Decidable (ZL s)]:FC Tryz.prog 75 [(true,[.dat (.sl 145 (.pr .str .int)) c.1, .dat (.sl 9 .str) c.2.1, .dat (.sl 179 (.pr .int (.pr .int (.pr .bool .int)))) c.2.2]),(true,[dI p.1,dB p.2]),(true,[dI r.1,dB r.2])] [] 0 (Is (PV.tup [(false,[.ref 0]),(false,[dB (decide (V3 c (p,r)))])]) [(0,some (.arr 3 .int (if V3 c (p,r) then Qk c p r else [])))]):=by
 refine QM Tryz.func75 rfl rfl Tryz.ntmps75 fun O_ hO w0_ N0_ X_ h0_ f0_=> ?_
 refine AC.fact (QO (x:= .tmp 1) (i:=0) (Qb rfl) rfl) fun hi1=>AC.fact (QO (x:= .tmp 2) (i:=0) (Qb rfl) rfl) fun hi2=> ?_
 refine w_ ?_
 refine lc (Qo 0 (Qb rfl) rfl rfl (Fresh.of rfl) (nlr rfl))<|lc (Qo 1 (Qb rfl) rfl rfl (Fresh.of rfl) (nlr rfl))<|lc (Qo 2 (Qb rfl) rfl rfl (Fresh.of rfl) (nlr rfl)) ?_
 iterate 8 refine w_ ?_
 refine lc (Qf (VP c p.1) QbN ⟨_,_,rfl,(Qb rfl),⟨_,_,rfl,(Qb rfl),rfl⟩⟩ rfl rfl) ?_
 iterate 2 refine w_ ?_
 cases hb3:(decide (SgOk c∧0≤p.1∧p.1≤(c.1.length:Int) - 1))
 ·have hb3':=of_decide_eq_false hb3
  iterate 17 refine w_ ?_
  refine AC.wk (Wk.nilS 3 6 3 .int rfl (Fresh.of rfl) (nlr rfl))<|Qd ?_
  subst hO
  have e4:(false:Bool)=(decide (V3 c (p,r))):=by
   exact (decide_eq_false (QjV (by assumption))).symm
  exact Q0 _ _ [(0,3)] (Zk rfl (Qc rfl) (Qc rfl)) ((congrArg (fun z_=>PV.tup [(false,[.ref 3]),(false,[dB z_])]) e4)) ⟨(QA (by (rw[if_neg (QjV (by assumption))]; done))),trivial⟩ rfl rfl
 ·have hb3':=of_decide_eq_true hb3
  iterate 3 refine w_ ?_
  refine lgy rfl rfl (Qf (VP c r.1) QbN ⟨_,_,rfl,(Qb rfl),⟨_,_,rfl,(Qb rfl),rfl⟩⟩ rfl rfl) ?_
  iterate 3 refine w_ ?_
  cases hb5:(decide (SgOk c∧0≤r.1∧r.1≤(c.1.length:Int) - 1))
  ·have hb5':=of_decide_eq_false hb5
   iterate 10 refine w_ ?_
   refine AC.wk (Wk.nilS 4 6 3 .int rfl (Fresh.of rfl) (nlr rfl))<|Qd ?_
   subst hO
   have e6:(false:Bool)=(decide (V3 c (p,r))):=by
    exact (decide_eq_false (Qjz (by assumption))).symm
   exact Q0 _ _ [(0,4)] (Zk rfl (Qc rfl) (Qc rfl)) ((congrArg (fun z_=>PV.tup [(false,[.ref 4]),(false,[dB z_])]) e6)) ⟨(QA (by (rw[if_neg (Qjz (by assumption))]; done))),trivial⟩ rfl rfl
  ·have hb5':=of_decide_eq_true hb5
   iterate 2 refine w_ ?_
   refine lgy rfl rfl (Uj KN KB (Qb rfl) (Qb rfl) (p:=p) (q:=r) rfl rfl rfl) ?_
   iterate 2 refine w_ ?_
   cases hb7:(Ty.beq (.pr .int .bool) p r)
   ·iterate 2 refine w_ ?_
    refine XQ ?_
    have hask:V3 c (p,r):=Qpc (by assumption) (by assumption) (by assumption)
    have hs:=hask.1.1.1
    have hr:∀a∈c.2.2,InR c.2.1.length a:=fun a ha=>YO (hs.arcs a ha)
    have hfw:=hs.few
    have hn3:=hs.some_
    iterate 4 refine w_ ?_
    refine lc (Y3 5 (Uc c p r hr (by omega)) Qc5 ⟨_,_,rfl,(Qb rfl),⟨_,_,rfl,(Qb rfl),⟨_,_,rfl,(Qb rfl),rfl⟩⟩⟩ rfl (Fresh.of rfl) (nlr rfl)) ?_
    iterate 3 refine w_ ?_
    refine Qd ?_
    subst hO
    have e8:(true:Bool)=(decide (V3 c (p,r))):=by
     exact (decide_eq_true hask).symm
    exact Q0 _ _ [(0,5)] (Zk rfl (Qc rfl) (Qc rfl)) ((congrArg (fun z_=>PV.tup [(false,[.ref 5]),(false,[dB z_])]) e8)) ⟨(QA (by (rw[if_pos hask]; done))),trivial⟩ rfl rfl
   ·iterate 5 refine w_ ?_
    refine AC.wk (Wk.nilS 6 6 3 .int rfl (Fresh.of rfl) (nlr rfl))<|Qd ?_
    subst hO
    have e9:(false:Bool)=(decide (V3 c (p,r))):=by
     exact (decide_eq_false (QjI (by assumption))).symm
    exact Q0 _ _ [(0,6)] (Zk rfl (Qc rfl) (Qc rfl)) ((congrArg (fun z_=>PV.tup [(false,[.ref 6]),(false,[dB z_])]) e9)) ⟨(QA (by (rw[if_neg (QjI (by assumption))]; done))),trivial⟩ rfl rfl
theorem Jp (c:(List (ByteArray×Int))×List ByteArray×(List (Int×Int×Bool×Int)))(x:(Int×Bool)×(Int×Bool))[∀c,Decidable (SgOk c)][∀s,Decidable (ZL s)](hs:SgOk c):FC Tryz.prog 76 [(true,[.dat (.sl 145 (.pr .str .int)) c.1, .dat (.sl 9 .str) c.2.1, .dat (.sl 179 (.pr .int (.pr .int (.pr .bool .int)))) c.2.2]),(true,[dI x.1.1,dB x.1.2,dI x.2.1,dB x.2.2])] [] 0 (Is (PV.tup [(true,[.ref 0, .ref 1, .ref 2]),(false,[dB ((Zp c x).2)])]) [(0,some (.arr 145 (.pr .str .int) (((Zp c x).1).1))),(1,some (.arr 9 .str (((Zp c x).1).2.1))),(2,some (.arr 179 (.pr .int (.pr .int (.pr .bool .int))) (((Zp c x).1).2.2)))]):=by
 have hr:∀a∈c.2.2,InR c.2.1.length a:=fun a ha=>YO (hs.arcs a ha)
 have hn3:=hs.some_
 have hfw:=hs.few
 have hs8:=hs.sigs.2.2
 have hnl:=QgA (c:=c)
 refine QM Tryz.func76 rfl rfl Tryz.ntmps76 fun O_ hO w0_ N0_ X_ h0_ f0_=> ?_
 refine AC.fact (QO (x:= .tmp 1) (i:=0) (Qb rfl) rfl) fun hi1=>AC.fact (QO (x:= .tmp 1) (i:=2) (Qb rfl) rfl) fun hi2=> ?_
 refine w_ ?_
 refine lc (Qo 0 (Qb rfl) rfl rfl (Fresh.of rfl) (nlr rfl))<|lc (Qo 1 (Qb rfl) rfl rfl (Fresh.of rfl) (nlr rfl))<|lc (Qt 2 (.pr (.sl 145 (.pr .str .int)) (.pr (.sl 9 .str) (.sl 179 (.pr .int (.pr .int (.pr .bool .int)))))) Xd rfl rfl (Fresh.of rfl) (nlr rfl)) ?_
 iterate 8 refine w_ ?_
 refine lc (Qf (KH c x.1 x.2 hs) Qh4 ⟨_,_,rfl,(Qb rfl),⟨_,_,rfl,(Qb rfl),⟨_,_,rfl,(Qb rfl),rfl⟩⟩⟩ rfl rfl) ?_
 iterate 3 refine w_ ?_
 refine lc (Qt 3 .str Qgk rfl rfl (Fresh.of rfl) (nlr rfl))<|lc (Qh (Qa rfl) rfl (Qb rfl) rfl ZF rfl) ?_
 iterate 7 refine w_ ?_
 cases hb3:(okB c x.1 x.2)
 ·iterate 8 refine w_ ?_
  refine lc (QH XR rfl (List.all_eq_true.1 rfl) rfl rfl)<|lc (Qh (Qa rfl) rfl (Qb rfl) rfl QU rfl) ?_
  iterate 2 refine w_ ?_
  refine AC.wk (Q5 4 (p:=2) (off:=0) 145 (.pr .str .int) rfl rfl (Fresh.of rfl) (nlr rfl))<|AC.wk (Q5 5 (p:=2) (off:=1) 9 .str rfl rfl (Fresh.of rfl) (nlr rfl))<|AC.wk (Q5 6 (p:=2) (off:=2) 179 (.pr .int (.pr .int (.pr .bool .int))) rfl rfl (Fresh.of rfl) (nlr rfl))<|Qd ?_
  subst hO
  have e4:(false:Bool)=((Zp c x).2):=by
   (rw[VK (by assumption)]; done)
  exact Q0 _ _ [(0,4),(1,5),(2,6)] (Zk rfl (Zv rfl rfl QU rfl) (Qc rfl)) ((congrArg (fun z_=>PV.tup [(true,[.ref 4, .ref 5, .ref 6]),(false,[dB z_])]) e4)) ⟨(QA (by (rw[VK (by assumption)]; rfl))),(QA (by (rw[VK (by assumption)]; rfl))),(QA (by (rw[VK (by assumption)]; rfl))),trivial⟩ rfl rfl
 ·iterate 2 refine w_ ?_
  refine lgy rfl rfl (Y9 ⟨_,_,rfl,(Qa rfl),rfl,⟨_,_,rfl,(Qa rfl),rfl,rfl⟩⟩ rfl)<|lgy rfl rfl (QN 7 [(0,3),(1,0)] (VA c.2.2 (ZX c x.1 x.2) c (fun a ha=>by rw[K9 (by assumption)]; exact ⟨(QaU hs).at_ ha,VN (hs.arcs a ha).2.2.1⟩)) QcE ⟨_,_,rfl,(Qb rfl),⟨_,_,rfl,(Qb rfl),rfl⟩⟩ ⟨rfl,rfl,trivial⟩ rfl ⟨trivial,trivial,trivial⟩ (nlr rfl)) ?_
  iterate 2 refine w_ ?_
  cases hb5:(c.2.2.any (fun a:DAr=>Zs (ZX c x.1 x.2) a&&Xx c a.2.1))
  ·iterate 2 refine w_ ?_
   refine dw [io 29 (ag [.dat (.sl 145 (.pr .str .int)) c.1, .dat (.sl 9 .str) c.2.1, .dat (.sl 179 (.pr .int (.pr .int (.pr .bool .int)))) c.2.2]),io 30 (ag [.dat (.sl 145 (.pr .str .int)) c.1, .dat (.sl 9 .str) c.2.1, .dat (.sl 179 (.pr .int (.pr .int (.pr .bool .int)))) c.2.2]),io 31 (lf (dS (ZZ c))),io 32 (lf (dS (ZX c x.1 x.2))),⟨some 33,PV.tup [(true,[.ref 9, .ref 10, .ref 11]),(false,[dB ((Yp c (ZZ c) (ZX c x.1 x.2)).2)])],[(9,some (.arr 145 (.pr .str .int) (((Yp c (ZZ c) (ZX c x.1 x.2)).1.1).1))),(10,some (.arr 9 .str (((Yp c (ZZ c) (ZX c x.1 x.2)).1.1).2.1))),(11,some (.arr 179 (.pr .int (.pr .int (.pr .bool .int))) (((Yp c (ZZ c) (ZX c x.1 x.2)).1.1).2.2)))]⟩,io 28 (PV.tup [(true,[.ref 9, .ref 10, .ref 11]),(false,[dB ((Yp c (ZZ c) (ZX c x.1 x.2)).2)])]),io 34 (ag [.ref 9, .ref 10, .ref 11]),io 35 (lB ((Yp c (ZZ c) (ZX c x.1 x.2)).2)),⟨some 8,lP 12 0,[(12,some (.box 59 [.val (.slice none 0 0), .val (.slice none 0 0), .val (.slice none 0 0)]))]⟩,⟨none,lf (.val undef),[(12,some (.box 59 [.ref 9, .ref 10, .ref 11]))]⟩,io 9 (lB ((Yp c (ZZ c) (ZX c x.1 x.2)).2))] [0,0,2,0,15,31,63,63,0,383,1023] mixed rfl (by kernel_rfl) ⟨dxa QU rfl rfl rfl rfl,dxa QU rfl rfl rfl rfl,fun _ h_=>ac (Qf (Hx c) Qiz ⟨_,_,rfl,(h_.w rfl),rfl⟩ rfl rfl) rfl,dxl ZF rfl rfl rfl rfl rfl,fun _ h_=>ac (Zu 9 (KQ c (ZZ c) (ZX c x.1 x.2) (by omega)) Qhh ⟨_,_,rfl,(h_.w rfl),⟨_,_,rfl,(h_.w rfl),⟨_,_,rfl,(h_.w rfl),rfl⟩⟩⟩ rfl rfl ⟨(h_.fr 9 rfl),(h_.fr 10 rfl),(h_.fr 11 rfl),trivial⟩ (nlr rfl)) rfl,dxm rfl rfl,fun _ h_=>ac (Zz (h_.k rfl) rfl rfl) rfl,fun _ h_=>ac (Zz (h_.k rfl) rfl rfl) rfl,fun _ h_=>ac (Qt 12 (.pr (.sl 145 (.pr .str .int)) (.pr (.sl 9 .str) (.sl 179 (.pr .int (.pr .int (.pr .bool .int)))))) Xd rfl rfl (h_.fr 12 rfl) (nlr rfl)) rfl,fun _ h_=>ac (Qh (h_.v rfl) (h_.en 12 rfl) (h_.w rfl) (by simp only[Yq,JP,List.all_cons,List.all_nil]; rw[(h_.en 9 rfl),(h_.en 10 rfl),(h_.en 11 rfl)]; rfl) QU rfl) rfl,dxt rfl rfl,⟨⟩⟩ ?_
   cases hb6:((Yp c (ZZ c) (ZX c x.1 x.2)).2)
   ·refine dw [io 36 (ag [.ref 9, .ref 10, .ref 11]),io 37 (lB false),io 38 (lB false),io 39 (lf (.val undef)),io 40 (lf (.val undef)),io 41 (lf (.val undef)),io 42 (lf (.val undef)),io 43 (lf (.val undef)),io 44 (lB false),⟨none,lf (.val undef),[(2,some (.box 59 [.ref 9, .ref 10, .ref 11]))]⟩,io 5 (lB false)] [0,0,2,6,14,6,62,126,254,127,1023] mixed rfl (by kernel_rfl) ⟨dxa QU rfl rfl rfl rfl,dxm rfl rfl,dxm rfl rfl,dxo rfl rfl rfl,dxo rfl rfl rfl,dxo rfl rfl rfl,dxo rfl rfl rfl,dxo rfl rfl rfl,fun _ h_=>ac (QK (h_.v rfl) (Evl.ev QP) rfl) rfl,fun _ h_=>ac (Qh (h_.v rfl) (h_.en 2 rfl) (h_.w rfl) (by simp only[Yq,JP,List.all_cons,List.all_nil]; rw[(h_.en 9 rfl),(h_.en 10 rfl),(h_.en 11 rfl)]; rfl) QU rfl) rfl,dxt rfl rfl,⟨⟩⟩<|Qd ?_
    subst hO
    have e7:(false:Bool)=((Zp c x).2):=by
     exact QpC (by assumption) (by assumption) (by assumption)
    exact Q0 _ _ [(0,9),(1,10),(2,11)] (Zk rfl (Zv rfl rfl QU rfl) (Qc rfl)) ((congrArg (fun z_=>PV.tup [(true,[.ref 9, .ref 10, .ref 11]),(false,[dB z_])]) e7)) ⟨(QA (by (rw[Qeo (by assumption) (by assumption)]; done))),(QA (by (rw[Qeo (by assumption) (by assumption)]; done))),(QA (by (rw[Qeo (by assumption) (by assumption)]; done))),trivial⟩ rfl rfl
   ·refine dw [io 36 (ag [.ref 9, .ref 10, .ref 11]),io 37 (lB true),io 38 (lB true),io 39 (ag [.ref 9, .ref 10, .ref 11]),io 40 (lI (XG ((Yp c (ZZ c) (ZX c x.1 x.2)).1.1))),io 41 (ag [.dat (.sl 145 (.pr .str .int)) c.1, .dat (.sl 9 .str) c.2.1, .dat (.sl 179 (.pr .int (.pr .int (.pr .bool .int)))) c.2.2]),io 42 (lI (XG c)),io 43 (lB (decide ((XG ((Yp c (ZZ c) (ZX c x.1 x.2)).1.1))≤(XG c)))),io 44 (lB (decide ((XG ((Yp c (ZZ c) (ZX c x.1 x.2)).1.1))≤(XG c)))),⟨none,lf (.val undef),[(2,some (.box 59 [.ref 9, .ref 10, .ref 11]))]⟩,io 5 (lB (decide ((XG ((Yp c (ZZ c) (ZX c x.1 x.2)).1.1))≤(XG c))))] [0,0,2,6,14,6,62,126,254,127,1023] mixed rfl (by kernel_rfl) ⟨dxa QU rfl rfl rfl rfl,dxm rfl rfl,dxm rfl rfl,fun _ h_=>day rfl (h_.k rfl) (Z0 (h_.v rfl) (h_.n 12 rfl) QU rfl rfl) rfl,fun _ h_=>day rfl (h_.k rfl) (Zj (Vp ((Yp c (ZZ c) (ZX c x.1 x.2)).1.1) (by first | exact hs | exact Qka (by assumption))) Qcl ⟨_,_,rfl,(Wl (h_.w rfl) ⟨_,_,rfl, .inr ⟨_,_,_,_,rfl,(h_.en 9 rfl),rfl⟩,⟨_,_,rfl, .inr ⟨_,_,_,_,rfl,(h_.en 10 rfl),rfl⟩,⟨_,_,rfl, .inr ⟨_,_,_,_,rfl,(h_.en 11 rfl),rfl⟩,rfl⟩⟩⟩),rfl⟩ rfl rfl rfl) rfl,fun _ h_=>day rfl (h_.k rfl) (Z0 (h_.v rfl) (h_.n 0 rfl) QU rfl rfl) rfl,fun _ h_=>day rfl (h_.k rfl) (Qf (Vp c (by first | exact hs | exact Qka (by assumption))) Qcl ⟨_,_,rfl,(h_.w rfl),rfl⟩ rfl rfl) rfl,fun _ h_=>day rfl (h_.k rfl) (QfK (h_.v rfl) (h_.v rfl) rfl) rfl,fun _ h_=>ac (QT (h_.v rfl) (h_.w rfl) rfl) rfl,fun _ h_=>ac (Qh (h_.v rfl) (h_.en 2 rfl) (h_.w rfl) (by simp only[Yq,JP,List.all_cons,List.all_nil]; rw[(h_.en 9 rfl),(h_.en 10 rfl),(h_.en 11 rfl)]; rfl) QU rfl) rfl,dxt rfl rfl,⟨⟩⟩<|Qd ?_
    subst hO
    have e8:(decide ((XG ((Yp c (ZZ c) (ZX c x.1 x.2)).1.1))≤(XG c)):Bool)=((Zp c x).2):=by
     exact QpZ (by assumption) (by assumption) (by assumption)
    exact Q0 _ _ [(0,9),(1,10),(2,11)] (Zk rfl (Zv rfl rfl QU rfl) (Qc rfl)) ((congrArg (fun z_=>PV.tup [(true,[.ref 9, .ref 10, .ref 11]),(false,[dB z_])]) e8)) ⟨(QA (by (rw[Qeo (by assumption) (by assumption)]; done))),(QA (by (rw[Qeo (by assumption) (by assumption)]; done))),(QA (by (rw[Qeo (by assumption) (by assumption)]; done))),trivial⟩ rfl rfl
  ·iterate 2 refine w_ ?_
   refine lc (QH XR rfl (List.all_eq_true.1 rfl) rfl rfl)<|lc (Qh (Qa rfl) rfl (Qb rfl) rfl QU rfl) ?_
   iterate 2 refine w_ ?_
   refine AC.wk (Q5 13 (p:=2) (off:=0) 145 (.pr .str .int) rfl rfl (Fresh.of rfl) (nlr rfl))<|AC.wk (Q5 14 (p:=2) (off:=1) 9 .str rfl rfl (Fresh.of rfl) (nlr rfl))<|AC.wk (Q5 15 (p:=2) (off:=2) 179 (.pr .int (.pr .int (.pr .bool .int))) rfl rfl (Fresh.of rfl) (nlr rfl))<|Qd ?_
   subst hO
   have e9:(false:Bool)=((Zp c x).2):=by
    (rw[QbB (by assumption) (by assumption)]; done)
   exact Q0 _ _ [(0,13),(1,14),(2,15)] (Zk rfl (Zv rfl rfl QU rfl) (Qc rfl)) ((congrArg (fun z_=>PV.tup [(true,[.ref 13, .ref 14, .ref 15]),(false,[dB z_])]) e9)) ⟨(QA (by (rw[QbB (by assumption) (by assumption)]; rfl))),(QA (by (rw[QbB (by assumption) (by assumption)]; rfl))),(QA (by (rw[QbB (by assumption) (by assumption)]; rfl))),trivial⟩ rfl rfl
theorem U7 (c:(List (ByteArray×Int))×List ByteArray×(List (Int×Int×Bool×Int)))(x:(Int×Bool)×(Int×Bool))[∀c,Decidable (SgOk c)][∀s,Decidable (ZL s)](hs:SgOk c):FC Tryz.prog 70 [(true,[.dat (.sl 145 (.pr .str .int)) c.1, .dat (.sl 9 .str) c.2.1, .dat (.sl 179 (.pr .int (.pr .int (.pr .bool .int)))) c.2.2]),(true,[dI x.1.1,dB x.1.2,dI x.2.1,dB x.2.2])] [] 0 (Is (PV.tup [(true,[.ref 0, .ref 1, .ref 2]),(false,[dB ((Zp c x).2)])]) [(0,some (.arr 145 (.pr .str .int) (((Zp c x).1).1))),(1,some (.arr 9 .str (((Zp c x).1).2.1))),(2,some (.arr 179 (.pr .int (.pr .int (.pr .bool .int))) (((Zp c x).1).2.2)))]):=by
 have hr:∀a∈c.2.2,InR c.2.1.length a:=fun a ha=>YO (hs.arcs a ha)
 have hn3:=hs.some_
 have hfw:=hs.few
 have hs8:=hs.sigs.2.2
 have hnl:=QgA (c:=c)
 refine QM Tryz.func70 rfl rfl Tryz.ntmps70 fun O_ hO w0_ N0_ X_ h0_ f0_=> ?_
 refine AC.fact (QO (x:= .tmp 1) (i:=0) (Qb rfl) rfl) fun hi1=>AC.fact (QO (x:= .tmp 1) (i:=2) (Qb rfl) rfl) fun hi2=> ?_
 refine w_ ?_
 refine lc (Qo 0 (Qb rfl) rfl rfl (Fresh.of rfl) (nlr rfl))<|lc (Qo 1 (Qb rfl) rfl rfl (Fresh.of rfl) (nlr rfl))<|lc (Qt 2 (.pr (.sl 145 (.pr .str .int)) (.pr (.sl 9 .str) (.sl 179 (.pr .int (.pr .int (.pr .bool .int)))))) Xd rfl rfl (Fresh.of rfl) (nlr rfl)) ?_
 iterate 8 refine w_ ?_
 refine lc (Qf (Jk c x.1 x.2 hs) QiB ⟨_,_,rfl,(Qb rfl),⟨_,_,rfl,(Qb rfl),⟨_,_,rfl,(Qb rfl),rfl⟩⟩⟩ rfl rfl) ?_
 iterate 11 refine w_ ?_
 cases hb3:(okB c x.1 x.2)
 ·iterate 8 refine w_ ?_
  refine lc (QH XR rfl (List.all_eq_true.1 rfl) rfl rfl)<|lc (Qh (Qa rfl) rfl (Qb rfl) rfl QU rfl) ?_
  iterate 2 refine w_ ?_
  refine AC.wk (Q5 3 (p:=2) (off:=0) 145 (.pr .str .int) rfl rfl (Fresh.of rfl) (nlr rfl))<|AC.wk (Q5 4 (p:=2) (off:=1) 9 .str rfl rfl (Fresh.of rfl) (nlr rfl))<|AC.wk (Q5 5 (p:=2) (off:=2) 179 (.pr .int (.pr .int (.pr .bool .int))) rfl rfl (Fresh.of rfl) (nlr rfl))<|Qd ?_
  subst hO
  have e4:(false:Bool)=((Zp c x).2):=by
   (rw[VK (by assumption)]; done)
  exact Q0 _ _ [(0,3),(1,4),(2,5)] (Zk rfl (Zv rfl rfl QU rfl) (Qc rfl)) ((congrArg (fun z_=>PV.tup [(true,[.ref 3, .ref 4, .ref 5]),(false,[dB z_])]) e4)) ⟨(QA (by (rw[VK (by assumption)]; rfl))),(QA (by (rw[VK (by assumption)]; rfl))),(QA (by (rw[VK (by assumption)]; rfl))),trivial⟩ rfl rfl
 ·iterate 2 refine w_ ?_
  refine lgy rfl rfl (Qf (Qbb c (Yi c (Qk c x.1 x.2)) (QaU (block:=Qk c x.1 x.2) hs)) QhK ⟨_,_,rfl,(Qb rfl),⟨_,_,rfl,(Qb rfl),rfl⟩⟩ rfl rfl) ?_
  iterate 3 refine w_ ?_
  cases hb5:(!Ky c (Yi c (Qk c x.1 x.2)))
  ·iterate 2 refine w_ ?_
   refine lc (QH XR rfl (List.all_eq_true.1 rfl) rfl rfl)<|lc (Qh (Qa rfl) rfl (Qb rfl) rfl QU rfl) ?_
   iterate 2 refine w_ ?_
   refine AC.wk (Q5 6 (p:=2) (off:=0) 145 (.pr .str .int) rfl rfl (Fresh.of rfl) (nlr rfl))<|AC.wk (Q5 7 (p:=2) (off:=1) 9 .str rfl rfl (Fresh.of rfl) (nlr rfl))<|AC.wk (Q5 8 (p:=2) (off:=2) 179 (.pr .int (.pr .int (.pr .bool .int))) rfl rfl (Fresh.of rfl) (nlr rfl))<|Qd ?_
   subst hO
   have e6:(false:Bool)=((Zp c x).2):=by
    (rw[Qbn (by assumption)]; done)
   exact Q0 _ _ [(0,6),(1,7),(2,8)] (Zk rfl (Zv rfl rfl QU rfl) (Qc rfl)) ((congrArg (fun z_=>PV.tup [(true,[.ref 6, .ref 7, .ref 8]),(false,[dB z_])]) e6)) ⟨(QA (by (rw[Qbn (by assumption)]; rfl))),(QA (by (rw[Qbn (by assumption)]; rfl))),(QA (by (rw[Qbn (by assumption)]; rfl))),trivial⟩ rfl rfl
  ·iterate 2 refine w_ ?_
   refine dw [io 34 (ag [.dat (.sl 145 (.pr .str .int)) c.1, .dat (.sl 9 .str) c.2.1, .dat (.sl 179 (.pr .int (.pr .int (.pr .bool .int)))) c.2.2]),io 35 (ag [.dat (.sl 145 (.pr .str .int)) c.1, .dat (.sl 9 .str) c.2.1, .dat (.sl 179 (.pr .int (.pr .int (.pr .bool .int)))) c.2.2]),io 36 (lf (dS (ZZ c))),io 37 (lf (dS (Yi c (Qk c x.1 x.2)))),⟨some 38,PV.tup [(true,[.ref 9, .ref 10, .ref 11]),(false,[.ref 12]),(false,[dB ((ZW c (ZZ c) (Yi c (Qk c x.1 x.2))).2)])],[(9,some (.arr 145 (.pr .str .int) (((ZW c (ZZ c) (Yi c (Qk c x.1 x.2))).1.1).1))),(10,some (.arr 9 .str (((ZW c (ZZ c) (Yi c (Qk c x.1 x.2))).1.1).2.1))),(11,some (.arr 179 (.pr .int (.pr .int (.pr .bool .int))) (((ZW c (ZZ c) (Yi c (Qk c x.1 x.2))).1.1).2.2))),(12,some (.arr 3 .int ((ZW c (ZZ c) (Yi c (Qk c x.1 x.2))).1.2)))]⟩,io 33 (PV.tup [(true,[.ref 9, .ref 10, .ref 11]),(false,[.ref 12]),(false,[dB ((ZW c (ZZ c) (Yi c (Qk c x.1 x.2))).2)])]),io 39 (ag [.ref 9, .ref 10, .ref 11]),io 40 (lR 12),io 41 (lB ((ZW c (ZZ c) (Yi c (Qk c x.1 x.2))).2)),⟨some 8,lP 13 0,[(13,some (.box 59 [.val (.slice none 0 0), .val (.slice none 0 0), .val (.slice none 0 0)]))]⟩,⟨none,lf (.val undef),[(13,some (.box 59 [.ref 9, .ref 10, .ref 11]))]⟩,io 9 (lR 12),io 10 (lB ((ZW c (ZZ c) (Yi c (Qk c x.1 x.2))).2))] [0,0,2,0,15,31,63,63,63,0,639,1791,4095] mixed rfl (by kernel_rfl) ⟨dxa QU rfl rfl rfl rfl,dxa QU rfl rfl rfl rfl,fun _ h_=>ac (Qf (Qbg c) QhR ⟨_,_,rfl,(h_.w rfl),rfl⟩ rfl rfl) rfl,dxm rfl rfl,fun _ h_=>ac (Zu 9 (JY c (ZZ c) (Yi c (Qk c x.1 x.2)) (by omega)) QhL ⟨_,_,rfl,(h_.w rfl),⟨_,_,rfl,(h_.w rfl),⟨_,_,rfl,(h_.w rfl),rfl⟩⟩⟩ rfl rfl ⟨(h_.fr 9 rfl),(h_.fr 10 rfl),(h_.fr 11 rfl),(h_.fr 12 rfl),trivial⟩ (nlr rfl)) rfl,dxm rfl rfl,fun _ h_=>ac (Zz (h_.k rfl) rfl rfl) rfl,fun _ h_=>ac (Zz (h_.k rfl) rfl rfl) rfl,fun _ h_=>ac (Zz (h_.k rfl) rfl rfl) rfl,fun _ h_=>ac (Qt 13 (.pr (.sl 145 (.pr .str .int)) (.pr (.sl 9 .str) (.sl 179 (.pr .int (.pr .int (.pr .bool .int)))))) Xd rfl rfl (h_.fr 13 rfl) (nlr rfl)) rfl,fun _ h_=>ac (Qh (h_.v rfl) (h_.en 13 rfl) (h_.w rfl) (by simp only[Yq,JP,List.all_cons,List.all_nil]; rw[(h_.en 9 rfl),(h_.en 10 rfl),(h_.en 11 rfl)]; rfl) QU rfl) rfl,dxt rfl rfl,dxt rfl rfl,⟨⟩⟩ ?_
   iterate 5 refine w_ ?_
   cases hb7:((ZW c (ZZ c) (Yi c (Qk c x.1 x.2))).2)
   ·iterate 2 refine w_ ?_
    refine lc (QH XR rfl (List.all_eq_true.1 rfl) rfl rfl)<|lc (Qh (Qa rfl) rfl (Qb rfl) rfl QU rfl) ?_
    iterate 2 refine w_ ?_
    refine AC.wk (Q5 14 (p:=2) (off:=0) 145 (.pr .str .int) rfl rfl (Fresh.of rfl) (nlr rfl))<|AC.wk (Q5 15 (p:=2) (off:=1) 9 .str rfl rfl (Fresh.of rfl) (nlr rfl))<|AC.wk (Q5 16 (p:=2) (off:=2) 179 (.pr .int (.pr .int (.pr .bool .int))) rfl rfl (Fresh.of rfl) (nlr rfl))<|Qd ?_
    subst hO
    have e8:(false:Bool)=((Zp c x).2):=by
     (rw[Qjp (by assumption) (by assumption) (by assumption)]; done)
    exact Q0 _ _ [(0,14),(1,15),(2,16)] (Zk rfl (Zv rfl rfl QU rfl) (Qc rfl)) ((congrArg (fun z_=>PV.tup [(true,[.ref 14, .ref 15, .ref 16]),(false,[dB z_])]) e8)) ⟨(QA (by (rw[Qjp (by assumption) (by assumption) (by assumption)]; rfl))),(QA (by (rw[Qjp (by assumption) (by assumption) (by assumption)]; rfl))),(QA (by (rw[Qjp (by assumption) (by assumption) (by assumption)]; rfl))),trivial⟩ rfl rfl
   ·iterate 4 refine w_ ?_
    refine lc (Qf (X4 c) QcI ⟨_,_,rfl,(Qb rfl),rfl⟩ rfl rfl) ?_
    iterate 8 refine w_ ?_
    refine lc (Zj (X4 ((ZW c (ZZ c) (Yi c (Qk c x.1 x.2))).1.1)) QcI ⟨_,_,rfl,(Wl (Qb rfl) ⟨_,_,rfl, .inr ⟨_,_,_,_,rfl,rfl,rfl⟩,⟨_,_,rfl, .inr ⟨_,_,_,_,rfl,rfl,rfl⟩,⟨_,_,rfl, .inr ⟨_,_,_,_,rfl,rfl,rfl⟩,rfl⟩⟩⟩),rfl⟩ rfl rfl rfl) ?_
    iterate 11 refine w_ ?_
    refine lc (Qh (Qa rfl) rfl (Qb rfl) rfl QU rfl) ?_
    iterate 2 refine w_ ?_
    refine Qd ?_
    subst hO
    have e9:(decide ((if SgOk ((ZW c (ZZ c) (Yi c (Qk c x.1 x.2))).1.1) then XG ((ZW c (ZZ c) (Yi c (Qk c x.1 x.2))).1.1) else 0)≤(if SgOk c then XG c else 0)):Bool)=((Zp c x).2):=by
     exact QpH hs (by assumption) (by assumption) (by assumption)
    exact Q0 _ _ [(0,9),(1,10),(2,11)] (Zk rfl (Zv rfl rfl QU rfl) (Qc rfl)) ((congrArg (fun z_=>PV.tup [(true,[.ref 9, .ref 10, .ref 11]),(false,[dB z_])]) e9)) ⟨(QA (by (rw[QlO (by assumption) (by assumption) (by assumption)]; done))),(QA (by (rw[QlO (by assumption) (by assumption) (by assumption)]; done))),(QA (by (rw[QlO (by assumption) (by assumption) (by assumption)]; done))),trivial⟩ rfl rfl
theorem Wn (c:(List (ByteArray×Int))×List ByteArray×(List (Int×Int×Bool×Int)))(x:(Int×Bool)×(Int×Bool))[∀c,Decidable (SgOk c)][∀s,Decidable (ZL s)]:FC Tryz.prog 21 [(true,[.dat (.sl 145 (.pr .str .int)) c.1, .dat (.sl 9 .str) c.2.1, .dat (.sl 179 (.pr .int (.pr .int (.pr .bool .int)))) c.2.2]),(true,[dI x.1.1,dB x.1.2,dI x.2.1,dB x.2.2])] [] 0 (Zo (PV.tup [(false,[dI (ZB c x)]),(false,[dI (Z4 c x)]),(false,[dB (YB c x)])])):=by
 refine QM Tryz.func21 rfl rfl Tryz.ntmps21 fun O_ hO w0_ N0_ X_ h0_ f0_=> ?_
 refine AC.fact (QO (x:= .tmp 1) (i:=0) (Qb rfl) rfl) fun hi1=>AC.fact (QO (x:= .tmp 1) (i:=2) (Qb rfl) rfl) fun hi2=> ?_
 refine w_ ?_
 refine lc (Qo 0 (Qb rfl) rfl rfl (Fresh.of rfl) (nlr rfl))<|lc (Qo 1 (Qb rfl) rfl rfl (Fresh.of rfl) (nlr rfl)) ?_
 iterate 11 refine w_ ?_
 refine lc (Qf (QaY c x.1 x.2) QkJ ⟨_,_,rfl,(Qb rfl),⟨_,_,rfl,(Qb rfl),⟨_,_,rfl,(Qb rfl),rfl⟩⟩⟩ rfl rfl) ?_
 iterate 2 refine w_ ?_
 cases hb3:(decide (((SgOk c∧0≤x.1.1∧x.1.1≤(c.1.length:Int) - 1)∧(0≤x.2.1∧x.2.1≤(c.1.length:Int) - 1))∧¬x.1=x.2))
 ·have hb3':=of_decide_eq_false hb3
  iterate 6 refine w_ ?_
  refine Qd ?_
  subst hO
  have e4:(0:Int)=(ZB c x):=by
   exact Eq.symm (QkK (by assumption)).1
  have e5:(0:Int)=(Z4 c x):=by
   exact Eq.symm (QkK (by assumption)).2.1
  have e6:(false:Bool)=(YB c x):=by
   exact Eq.symm (QkK (by assumption)).2.2
  exact Qg (ZJ rfl (Qc rfl) (Qc rfl) (Qc rfl)) ((((congrArg (fun z_=>PV.tup [(false,[dI z_]),(false,[dI 0]),(false,[dB false])]) e4)).trans (congrArg (fun z_=>PV.tup [(false,[dI (ZB c x)]),(false,[dI z_]),(false,[dB false])]) e5)).trans (congrArg (fun z_=>PV.tup [(false,[dI (ZB c x)]),(false,[dI (Z4 c x)]),(false,[dB z_])]) e6)) rfl
 ·have hb3':=of_decide_eq_true hb3
  iterate 5 refine w_ ?_
  refine lc (Zu 2 (U7 c x (by have h9:V3 c x:=(by assumption); exact h9.1.1.1)) Qes ⟨_,_,rfl,(Qb rfl),⟨_,_,rfl,(Qb rfl),rfl⟩⟩ rfl rfl ⟨Fresh.of rfl,Fresh.of rfl,Fresh.of rfl,trivial⟩ (nlr rfl)) ?_
  iterate 3 refine w_ ?_
  refine lc (Qt 5 (.pr (.sl 145 (.pr .str .int)) (.pr (.sl 9 .str) (.sl 179 (.pr .int (.pr .int (.pr .bool .int)))))) Xd rfl rfl (Fresh.of rfl) (nlr rfl))<|lc (Qh (Qa rfl) rfl (Qb rfl) rfl QU rfl) ?_
  iterate 7 refine w_ ?_
  cases hb7:((Zp c x).2)
  ·iterate 6 refine w_ ?_
   refine Qd ?_
   subst hO
   have e8:(0:Int)=(ZB c x):=by
    exact Eq.symm (Qk2 (by assumption)).1
   have e9:(0:Int)=(Z4 c x):=by
    exact Eq.symm (Qk2 (by assumption)).2.1
   have e10:(false:Bool)=(YB c x):=by
    exact Eq.symm (Qk2 (by assumption)).2.2
   exact Qg (ZJ rfl (Qc rfl) (Qc rfl) (Qc rfl)) ((((congrArg (fun z_=>PV.tup [(false,[dI z_]),(false,[dI 0]),(false,[dB false])]) e8)).trans (congrArg (fun z_=>PV.tup [(false,[dI (ZB c x)]),(false,[dI z_]),(false,[dB false])]) e9)).trans (congrArg (fun z_=>PV.tup [(false,[dI (ZB c x)]),(false,[dI (Z4 c x)]),(false,[dB z_])]) e10)) rfl
  ·iterate 2 refine w_ ?_
   refine dw [io 24 (ag [.ref 2, .ref 3, .ref 4]),⟨some 25,lR 6,[(6,some (.arr 106 (.sl 3 .int) (YW ((Zp c x).1))))]⟩,io 26 (lI ((YW ((Zp c x).1)).length:Int)),io 27 (lP 5 1),io 28 (lR 3),io 29 (lI ((((Zp c x).1).2.1).length:Int)),io 4 (lI ((YW ((Zp c x).1)).length:Int)),io 5 (lI ((((Zp c x).1).2.1).length:Int)),io 6 (lB true)] [0,1,3,0,8,24,7,127,255] mixed rfl (by kernel_rfl) ⟨dxa QU rfl rfl rfl rfl,fun _ h_=>ac (Qa5 6 (JD ((Zp c x).1) (Qg4 (by assumption))) Qki ⟨_,_,rfl,(Wl (h_.w rfl) ⟨_,_,rfl, .inr ⟨_,_,_,_,rfl,(h_.en 2 rfl),rfl⟩,⟨_,_,rfl, .inr ⟨_,_,_,_,rfl,(h_.en 3 rfl),rfl⟩,⟨_,_,rfl, .inr ⟨_,_,_,_,rfl,(h_.en 4 rfl),rfl⟩,rfl⟩⟩⟩),rfl⟩ rfl (h_.fr 6 rfl) (nlr rfl)) rfl,fun _ h_=>ac (Wq (h_.v rfl) (h_.n 6 rfl) rfl YH) rfl,dxf Yd rfl rfl rfl,dxl Xe rfl rfl rfl rfl rfl,fun _ h_=>ac (Wq (h_.v rfl) (h_.n 3 rfl) rfl Yg) rfl,dxt rfl rfl,dxt rfl rfl,fun _ h_=>ac (YE QP rfl) rfl,⟨⟩⟩<|Qd ?_
   subst hO
   have e11:(((YW ((Zp c x).1)).length:Int):Int)=(ZB c x):=by
    exact Eq.symm (Qkv (by assumption) (by assumption)).1
   have e12:(((((Zp c x).1).2.1).length:Int):Int)=(Z4 c x):=by
    exact Eq.symm (Qkv (by assumption) (by assumption)).2.1
   have e13:(true:Bool)=(YB c x):=by
    exact Eq.symm (Qkv (by assumption) (by assumption)).2.2
   exact Qg (ZJ rfl (Qc rfl) (Qc rfl) (Qc rfl)) ((((congrArg (fun z_=>PV.tup [(false,[dI z_]),(false,[dI ((((Zp c x).1).2.1).length:Int)]),(false,[dB true])]) e11)).trans (congrArg (fun z_=>PV.tup [(false,[dI (ZB c x)]),(false,[dI z_]),(false,[dB true])]) e12)).trans (congrArg (fun z_=>PV.tup [(false,[dI (ZB c x)]),(false,[dI (Z4 c x)]),(false,[dB z_])]) e13)) rfl
theorem Kk (c:(List (ByteArray×Int))×List ByteArray×(List (Int×Int×Bool×Int)))(x:(Int×Bool)×(Int×Bool))[∀c,Decidable (SgOk c)][∀s,Decidable (ZL s)]:FC Tryz.prog 24 [(true,[.dat (.sl 145 (.pr .str .int)) c.1, .dat (.sl 9 .str) c.2.1, .dat (.sl 179 (.pr .int (.pr .int (.pr .bool .int)))) c.2.2]),(true,[dI x.1.1,dB x.1.2,dI x.2.1,dB x.2.2])] [] 0 (Zo (PV.tup [(false,[dI (ZB c x)]),(false,[dI (Z4 c x)]),(false,[dB (YB c x)])])):=by
 refine QM Tryz.func24 rfl rfl Tryz.ntmps24 fun O_ hO w0_ N0_ X_ h0_ f0_=> ?_
 refine AC.fact (QO (x:= .tmp 1) (i:=0) (Qb rfl) rfl) fun hi1=>AC.fact (QO (x:= .tmp 1) (i:=2) (Qb rfl) rfl) fun hi2=> ?_
 refine w_ ?_
 refine lc (Qo 0 (Qb rfl) rfl rfl (Fresh.of rfl) (nlr rfl))<|lc (Qo 1 (Qb rfl) rfl rfl (Fresh.of rfl) (nlr rfl)) ?_
 iterate 11 refine w_ ?_
 refine lc (Zu 2 (Qax c x.1 x.2) QkZ ⟨_,_,rfl,(Qb rfl),⟨_,_,rfl,(Qb rfl),⟨_,_,rfl,(Qb rfl),rfl⟩⟩⟩ rfl rfl ⟨Fresh.of rfl,trivial⟩ (nlr rfl)) ?_
 iterate 10 refine w_ ?_
 cases hb3:(decide (V3 c (x.1,x.2)))
 ·have hb3':=of_decide_eq_false hb3
  iterate 6 refine w_ ?_
  refine Qd ?_
  subst hO
  have e4:(0:Int)=(ZB c x):=by
   exact Eq.symm (QkK (by assumption)).1
  have e5:(0:Int)=(Z4 c x):=by
   exact Eq.symm (QkK (by assumption)).2.1
  have e6:(false:Bool)=(YB c x):=by
   exact Eq.symm (QkK (by assumption)).2.2
  exact Qg (ZJ rfl (Qc rfl) (Qc rfl) (Qc rfl)) ((((congrArg (fun z_=>PV.tup [(false,[dI z_]),(false,[dI 0]),(false,[dB false])]) e4)).trans (congrArg (fun z_=>PV.tup [(false,[dI (ZB c x)]),(false,[dI z_]),(false,[dB false])]) e5)).trans (congrArg (fun z_=>PV.tup [(false,[dI (ZB c x)]),(false,[dI (Z4 c x)]),(false,[dB z_])]) e6)) rfl
 ·have hb3':=of_decide_eq_true hb3
  iterate 5 refine w_ ?_
  refine lc (Qf (Jp c x (by have h9:V3 c x:=(by assumption); exact h9.1.1.1)).frozenG Qd1 ⟨_,_,rfl,(Qb rfl),⟨_,_,rfl,(Qb rfl),rfl⟩⟩ rfl rfl) ?_
  iterate 3 refine w_ ?_
  refine lc (Qt 3 (.pr (.sl 145 (.pr .str .int)) (.pr (.sl 9 .str) (.sl 179 (.pr .int (.pr .int (.pr .bool .int)))))) Xd rfl rfl (Fresh.of rfl) (nlr rfl))<|lc (Qh (Qa rfl) rfl (Qb rfl) rfl QU rfl) ?_
  iterate 7 refine w_ ?_
  cases hb7:((Zp c x).2)
  ·iterate 6 refine w_ ?_
   refine Qd ?_
   subst hO
   have e8:(0:Int)=(ZB c x):=by
    exact Eq.symm (Qk2 (by assumption)).1
   have e9:(0:Int)=(Z4 c x):=by
    exact Eq.symm (Qk2 (by assumption)).2.1
   have e10:(false:Bool)=(YB c x):=by
    exact Eq.symm (Qk2 (by assumption)).2.2
   exact Qg (ZJ rfl (Qc rfl) (Qc rfl) (Qc rfl)) ((((congrArg (fun z_=>PV.tup [(false,[dI z_]),(false,[dI 0]),(false,[dB false])]) e8)).trans (congrArg (fun z_=>PV.tup [(false,[dI (ZB c x)]),(false,[dI z_]),(false,[dB false])]) e9)).trans (congrArg (fun z_=>PV.tup [(false,[dI (ZB c x)]),(false,[dI (Z4 c x)]),(false,[dB z_])]) e10)) rfl
  ·iterate 2 refine w_ ?_
   refine dw [io 30 (ag [.dat (.sl 145 (.pr .str .int)) (((Zp c x).1).1), .dat (.sl 9 .str) (((Zp c x).1).2.1), .dat (.sl 179 (.pr .int (.pr .int (.pr .bool .int)))) (((Zp c x).1).2.2)]),io 31 (lf (.dat (.sl 106 (.sl 3 .int)) (YW ((Zp c x).1)))),io 32 (lI ((YW ((Zp c x).1)).length:Int)),io 33 (lP 3 1),io 34 (lf (.dat (.sl 9 .str) (((Zp c x).1).2.1))),io 35 (lI ((((Zp c x).1).2.1).length:Int)),io 4 (lI ((YW ((Zp c x).1)).length:Int)),io 5 (lI ((((Zp c x).1).2.1).length:Int)),io 6 (lB true)] [0,1,3,0,8,24,7,127,255] mixed rfl (by kernel_rfl) ⟨dxa QU rfl rfl rfl rfl,fun _ h_=>ac (Qf (VJ ((Zp c x).1) (Qg4 (by assumption))) QdU ⟨_,_,rfl,(h_.w rfl),rfl⟩ rfl rfl) rfl,fun _ h_=>ac (Wf (h_.v rfl) rfl YH) rfl,dxf Yd rfl rfl rfl,dxl Xe rfl rfl rfl rfl rfl,fun _ h_=>ac (Wf (h_.v rfl) rfl Yg) rfl,dxt rfl rfl,dxt rfl rfl,fun _ h_=>ac (YE QP rfl) rfl,⟨⟩⟩<|Qd ?_
   subst hO
   have e11:(((YW ((Zp c x).1)).length:Int):Int)=(ZB c x):=by
    exact Eq.symm (Qkv (by assumption) (by assumption)).1
   have e12:(((((Zp c x).1).2.1).length:Int):Int)=(Z4 c x):=by
    exact Eq.symm (Qkv (by assumption) (by assumption)).2.1
   have e13:(true:Bool)=(YB c x):=by
    exact Eq.symm (Qkv (by assumption) (by assumption)).2.2
   exact Qg (ZJ rfl (Qc rfl) (Qc rfl) (Qc rfl)) ((((congrArg (fun z_=>PV.tup [(false,[dI z_]),(false,[dI ((((Zp c x).1).2.1).length:Int)]),(false,[dB true])]) e11)).trans (congrArg (fun z_=>PV.tup [(false,[dI (ZB c x)]),(false,[dI z_]),(false,[dB true])]) e12)).trans (congrArg (fun z_=>PV.tup [(false,[dI (ZB c x)]),(false,[dI (Z4 c x)]),(false,[dB z_])]) e13)) rfl
end Go.Proofs.YtnakmhfjafecpaaGreat
