/- Walks over abstract states: the graph behind an insertion, both sides; pairs of states that violate complete state coding, the reference; what an insertion costs. -/
import Derived.Test.YtjaadeknhofhpaaGreatUf
import Derived.Test.YtjaadeknhofhpaaGreatBc
import Derived.Test.YtjaadeknhofhpaaGreatAg
import Derived.Test.YtjaadeknhofhpaaGreatIdx
import Derived.Test.YtjaadeknhofhpaaGreatProg
import Derived.KernelRfl
import Derived.Test.YtjaadeknhofhpaaGreatVc
set_option linter.unusedSimpArgs false
set_option linter.unusedVariables false
set_option linter.unusedSectionVars false
namespace Go.Proofs.YtjaadeknhofhpaaGreat
open Go.RowKit
set_option maxRecDepth 100000
set_option maxHeartbeats 4000000
def QpB (s:Int):ByteArray:=(⟨#[UInt8.ofNat (48+s).toNat]⟩:ByteArray)++(⟨#[44]⟩:ByteArray)
def Y2 (c:DSg)(q:Int)(i:Nat):ByteArray:=((Xd c.1 i).filter fun s=>UB c q s).foldl (fun b s=>b++QpB s) (⟨#[]⟩:ByteArray)
section
variable {c:DSg}{as_:List DAr}{a:DAr}{i j k n:Nat}{s q:Int}{z:Q9}
theorem Qqm (hx:c.2.2[k]? =some a)(h1:a.1=q)(h2:a.2.1=s):true=UB c q s:=(bm.2 ⟨a,ai hx,aK ⟨h1,h2⟩⟩).symm
theorem Qre (hn:∀j,j < k→∀a,c.2.2[j]? =some a→¬(a.1=q∧a.2.1=s))(hk:c.2.2.length≤k):false=UB c q s:=(cr.2 fun a ha=>by
  obtain ⟨j,hj⟩:=aS.1 ha
  have:=(au.1 hj).1
  simpa using hn j (by omega) a hj).symm
theorem Qew (hx:c.1[i]? =some z)(h:¬z.2=1)(he:UB c q (i:Int)=true):Y2 c q i++((⟨#[UInt8.ofNat (48+(i:Int)).toNat]⟩:ByteArray)++(⟨#[44]⟩:ByteArray))=Y2 c q (i+1):=by
  unfold Y2
  rw[← Hy hx h,bc,cp]
  simp[he,QpB]
theorem Qe1 (hx:c.1[i]? =some z)(h:z.2=1):Y2 c q i=Y2 c q (i+1):=by
  unfold Y2
  rw[← QeE hx h]
theorem QdM (hx:c.1[i]? =some z)(h:¬z.2=1)(he:UB c q (i:Int)=false):Y2 c q i=Y2 c q (i+1):=by
  unfold Y2
  rw[← Hy hx h,bc,cp]
  simp[he]
theorem Qbj:∀(l:List Int) (b:ByteArray),(l.foldl (fun b s=>b++QpB s) b).toList=b.toList++l.flatMap fun s=>[UInt8.ofNat (48+s).toNat,44]
  | [],b=>by simp
  | s :: l,b=>by
    rw[bC,Qbj l,c7]
    simp only[QpB,bW,ByteArray.data_append,Array.toList_append]
    simp
theorem Qnp (l:List Int):(l.flatMap fun s=>[UInt8.ofNat (48+s).toNat,44]).length=2*l.length:=by
  induction l with
  | nil=>rfl
  | cons s l ih=>rw[c7,aa,ih,ah,ah,ah,aj]; omega
theorem Qod (l:List Int)(b:ByteArray):(l.foldl (fun b s=>b++QpB s) b).size=b.size+2*l.length:=by
  have h:=congrArg List.length (Qbj l b)
  rw[aa,Qe5,Qe5,Qnp] at h
  exact h
theorem QiQ:∀{l m:List Int},(∀x∈l,0≤x∧x≤9)→(∀x∈m,0≤x∧x≤9)→(l.flatMap fun s=>[UInt8.ofNat (48+s).toNat,44])=(m.flatMap fun s=>[UInt8.ofNat (48+s).toNat,44])→l=m
  | [],[],_,_,_=>rfl
  | [],y :: m,_,_,h=>by simp at h
  | x :: l,[],_,_,h=>by simp at h
  | x :: l,y :: m,hl,hm,h=>by
    rw[c7,c7] at h
    simp only[bl,bF,aB,true_and] at h
    obtain ⟨h1,h2⟩:=h
    have hx:=hl x (aA ..)
    have hy:=hm y (aA ..)
    have h3:=congrArg UInt8.toNat h1
    rw[UInt8.toNat_ofNat',UInt8.toNat_ofNat',cA (by omega),cA (by omega)] at h3
    rw[QiQ (fun z hz=>hl z (aD _ hz)) (fun z hz=>hm z (aD _ hz)) h2,show x=y by omega]
theorem QhR (h8:c.1.length≤8):Y2 c (i:Int) c.1.length=Y2 c (j:Int) c.1.length↔Qa2 c i j=false:=by
  have hr:∀(f:Int→Bool),∀x∈(Xd c.1 c.1.length).filter f,0≤x∧x≤9:=fun f x hx=>by
    obtain ⟨t,rfl,ht,_⟩:=Ho.1 (bX.1 hx).1; omega
  unfold Qa2
  rw[cr]
  constructor
  · intro h s hs
    have h1:=congrArg ByteArray.toList h
    unfold Y2 at h1
    rw[Qbj,Qbj] at h1
    have h2:=QiQ (hr _) (hr _) (List.append_cancel_left h1)
    have h3:(s∈(Xd c.1 c.1.length).filter fun s=>UB c i s)↔(s∈(Xd c.1 c.1.length).filter fun s=>UB c j s):=by rw[h2]
    simp only[bX,hs,true_and] at h3
    rw[bY.2 h3]; simp
  · intro h
    unfold Y2
    congr 1
    apply cI
    intro s hs
    have:=h s hs
    simpa using this
theorem QpD:(Y2 c q i).size≤2*i:=by
  unfold Y2
  rw[Qod]
  have h1:((Xd c.1 i).filter fun s=>UB c q s).length≤(Xd c.1 i).length:=bQ ..
  have h2:=Qgp (ss:=c.1) (k:=i)
  show 0+_≤_
  omega
theorem Qhv (h8:c.1.length≤8)(h:(!decide (Y2 c (i:Int) c.1.length=Y2 c (j:Int) c.1.length))=true):Qa2 c i j=true:=by
  cases hd:Qa2 c i j with
  | true=>rfl
  | false=>rw[aK ((QhR h8).2 hd)] at h; cases h
theorem QjS (h8:c.1.length≤8)(h:(!decide (Y2 c (i:Int) c.1.length=Y2 c (j:Int) c.1.length))=false):Qa2 c i j=false:=(QhR h8).1 (by simpa using h)
end
section
variable [∀c,Decidable (SgOk c)][∀s,Decidable (Ja s)]{c:DSg}{x:(Int×Bool)×Int×Bool}
abbrev QsI (c:DSg)(x:(Int×Bool)×Int×Bool):ByteArray:=Qrq c (JM c x.1 x.2)
abbrev QrS (c:DSg)(x:(Int×Bool)×Int×Bool):(DSg×List Int)×Bool:=Qtq c (QtG c) (QsI c x)
def QsW (c:DSg)(x:(Int×Bool)×Int×Bool):Bool:=okB c x.1 x.2&& !QtP c (QsI c x)
def QhU (c:DSg)(x:(Int×Bool)×Int×Bool):DSg×Bool:=
  if QsW c x=true then ((QrS c x).1.1,(QrS c x).2&&decide (Qtc (QrS c x).1.1≤Qtc c)) else (Qaw,false)
def QsF (c:DSg)(x:(Int×Bool)×Int×Bool):Prop:=((SgOk c∧(0≤x.1.1∧x.1.1≤(c.1.length:Int) - 1))∧(0≤x.2.1∧x.2.1≤(c.1.length:Int) - 1))∧¬x.1=x.2
instance:Decidable (QsF c x):=inferInstanceAs (Decidable (_∧_))
def QqT (c:DSg)(x:(Int×Bool)×Int×Bool):Bool:=decide (QsF c x)&&(QhU c x).2
def QtQ (c:DSg)(x:(Int×Bool)×Int×Bool):Int:=if QqT c x=true then ((VM (QhU c x).1).length:Int) else 0
def QtY (c:DSg)(x:(Int×Bool)×Int×Bool):Int:=if QqT c x=true then ((QhU c x).1.2.1.length:Int) else 0
end
theorem Qby (c:(List (ByteArray×Int))×List ByteArray×(List (Int×Int×Bool×Int)))(k:Int)(sig:Int):FC Tryz.prog 284 [(true,[.dat QJ c.1, .dat Zr c.2.1, .dat VR c.2.2]),(false,[dI k]),(false,[dI sig])] [] 0 (Yj (lB (UB c k sig))):=by
 refine QO Tryz.func284 rfl rfl Tryz.ntmps284 fun O_ hO w0_ N0_ X_ h0_ f0_=> ?_
 refine AC.fact (QC (x:= .tmp 1) (Qa rfl)) fun hi1=>AC.fact (QC (x:= .tmp 2) (Qa rfl)) fun hi2=> ?_
 refine w_ ?_
 refine lc (Qy 0 (Qb rfl) rfl rfl (Fresh.of rfl) (nlr rfl)) ?_
 iterate 6 refine w_ ?_
 refine AL.fact (Qo (x:= .tmp 10) (Qa rfl)) fun hl3=> ?_
 iterate 4 refine w_ ?_
 refine Qu (fun m_ s_=>∃(i:Nat),i≤c.2.2.length∧m_=c.2.2.length - i∧(∀j,j < i→∀a,c.2.2[j]? =some a→¬(a.1=k∧a.2.1=sig))∧s_=⟨[(1,lI k),(2,lI sig),(10,lf (.dat VR c.2.2)),(11,lI (c.2.2.length:Int)),(12,lI (i:Int))],[]⟩) ⟨0,aw _,rfl,(fun j hj=>absurd hj (bK j)),rfl⟩ ?_ ?_
 exact wo []
 rintro m_ s_ ⟨i,hk4,hm5,hno,rfl⟩
 iterate 4 refine w_ ?_
 cases hb6:(decide ((i:Int) < (c.2.2.length:Int)))
 have hb6':=a7 hb6
 iterate 7 refine w_ ?_
 subst hO
 have e7:(false:Bool)=(UB c k sig):=by
  first | exact Qre hno (by omega)
 exact Qi (Qg rfl (Qd rfl)) (by rw[← e7] <;> rfl) rfl
 have hb6':=a8 hb6
 iterate 5 refine w_ ?_
 obtain ⟨x8,hx9⟩:=gx c.2.2 i
 refine lc (Qh (Qa rfl) (Qa rfl) JG VU rfl (by omega) hx9) ?_
 refine w_ ?_
 refine lc (Qj 1 UC K0 rfl rfl (Fresh.of rfl) (nlr rfl))<|lc (Qc (Qa rfl) rfl (Qb rfl) rfl VU rfl) ?_
 iterate 4 refine w_ ?_
 refine AL.fact (QC (x:= .tmp 17) (Qa rfl)) fun hi10=> ?_
 iterate 3 refine w_ ?_
 cases hb11:(decide (x8.1=k))
 have hb11':=a7 hb11
 iterate 12 refine w_ ?_
 refine Qm<|QV ⟨i+1,by omega,rfl,(Hj hno hx9 (by first | (exact fun g=>absurd g.1 ‹_›) | (exact fun g=>absurd g.2 ‹_›))),rfl⟩ (by omega) ?_
 exact wo []
 have hb11':=a8 hb11
 iterate 6 refine w_ ?_
 cases hb12:(decide (x8.2.1=sig))
 have hb12':=a7 hb12
 iterate 6 refine w_ ?_
 refine Qm<|QV ⟨i+1,by omega,rfl,(Hj hno hx9 (by first | (exact fun g=>absurd g.1 ‹_›) | (exact fun g=>absurd g.2 ‹_›))),rfl⟩ (by omega) ?_
 exact wo []
 have hb12':=a8 hb12
 iterate 5 refine w_ ?_
 subst hO
 have e13:(true:Bool)=(UB c k sig):=by
  exact Qqm hx9 ‹_› ‹_›
 exact Qi (Qg rfl (Qd rfl)) (by rw[← e13] <;> rfl) rfl
theorem UV (c:(List (ByteArray×Int))×List ByteArray×(List (Int×Int×Bool×Int)))(k:Int)(h8:c.1.length≤8):FC Tryz.prog 204 [(true,[.dat QJ c.1, .dat Zr c.2.1, .dat VR c.2.2]),(false,[dI k])] [] 0 (Yj (lf (dS (Y2 c k c.1.length)))):=by
 refine QO Tryz.func204 rfl rfl Tryz.ntmps204 fun O_ hO w0_ N0_ X_ h0_ f0_=> ?_
 refine AC.fact (QC (x:= .tmp 1) (Qa rfl)) fun hi1=> ?_
 refine w_ ?_
 refine lc (Qy 0 (Qb rfl) rfl rfl (Fresh.of rfl) (nlr rfl)) ?_
 iterate 9 refine w_ ?_
 refine AL.fact (Qo (x:= .tmp 9) (Qa rfl)) fun hl2=> ?_
 iterate 4 refine w_ ?_
 refine Qu (fun m_ s_=>∃(i:Nat),i≤c.1.length∧m_=c.1.length - i∧s_=⟨[(1,lI k),(2,lP 0 0),(4,lf (dS (⟨#[]⟩:ByteArray))),(5,lf (dS (Y2 c k i))),(9,lf (.dat QJ c.1)),(10,lI (c.1.length:Int)),(11,lI (i:Int))],[(0,some (.box 52 [.dat QJ c.1, .dat Zr c.2.1, .dat VR c.2.2]))]⟩) ⟨0,aw _,rfl,rfl⟩ ?_ ?_
 exact Wk.of [(0,0)] rfl ⟨rfl,rfl,rfl,(show some (lf (dS (⟨#[]⟩:ByteArray)))=some (lf (dS (Y2 c k 0))) from congrArg (fun z_=>some (lf (dS z_))) (rfl)),rfl,rfl,rfl,trivial⟩ ⟨rfl,trivial⟩ rfl rfl
 rintro m_ s_ ⟨i,hk4,hm5,rfl⟩
 have hal:=QpD (c:=c) (q:=k) (i:=i)
 have hn1:(⟨#[UInt8.ofNat (48+(i:Int)).toNat]⟩:ByteArray).size=1:=rfl
 have hn2:(⟨#[44]⟩:ByteArray).size=1:=rfl
 have hn3:((⟨#[UInt8.ofNat (48+(i:Int)).toNat]⟩:ByteArray)++(⟨#[44]⟩:ByteArray)).size=2:=by rw[aV]; rfl
 iterate 4 refine w_ ?_
 cases hb6:(decide ((i:Int) < (c.1.length:Int)))
 have hb6':=a7 hb6
 iterate 8 refine w_ ?_
 subst hO
 have e7:(Y2 c k i:ByteArray)=(Y2 c k c.1.length):=by
  (congr 1; omega)
 exact Qi (Qg rfl (Qd rfl)) (by rw[e7] <;> rfl) rfl
 have hb6':=a8 hb6
 iterate 6 refine w_ ?_
 obtain ⟨sg,hx9⟩:=gx c.1 i
 refine lc (Qh (Qa rfl) (Qa rfl) YE YJ rfl (by omega) hx9) ?_
 refine w_ ?_
 refine lc (Qj 1 QY UZ rfl rfl (Fresh.of rfl) (nlr rfl)) ?_
 refine w_ ?_
 refine lc (Qc (Qa rfl) rfl (Qb rfl) rfl YJ rfl) ?_
 iterate 4 refine w_ ?_
 refine AL.fact (QC (x:= .tmp 17) (Qa rfl)) fun hi10=> ?_
 iterate 2 refine w_ ?_
 cases hb11:(!decide (sg.2=1))
 have hb11':(sg.2=1):=Zm hb11
 iterate 12 refine w_ ?_
 refine Qm<|QV ⟨i+1,by omega,rfl,rfl⟩ (by omega) ?_
 exact Wk.of [(0,0)] rfl ⟨rfl,rfl,rfl,(show some (lf (dS (Y2 c k i)))=some (lf (dS (Y2 c k (i+1)))) from congrArg (fun z_=>some (lf (dS z_))) (by first | exact Qew hx9 ‹_› ‹_› | exact Qe1 hx9 ‹_› | exact QdM hx9 ‹_› ‹_›)),rfl,rfl,rfl,trivial⟩ ⟨rfl,trivial⟩ rfl rfl
 have hb11':¬(sg.2=1):=Zx hb11
 iterate 3 refine w_ ?_
 refine lgy rfl rfl (Ql (Qby c k (i:Int)) QjG ⟨_,_,rfl,(Qb rfl),⟨_,_,rfl,(Qb rfl),⟨_,_,rfl,(Qb rfl),rfl⟩⟩⟩ rfl rfl) ?_
 iterate 2 refine w_ ?_
 cases hb13:(UB c k (i:Int))
 iterate 6 refine w_ ?_
 refine Qm<|QV ⟨i+1,by omega,rfl,rfl⟩ (by omega) ?_
 exact Wk.of [(0,0)] rfl ⟨rfl,rfl,rfl,(show some (lf (dS (Y2 c k i)))=some (lf (dS (Y2 c k (i+1)))) from congrArg (fun z_=>some (lf (dS z_))) (by first | exact Qew hx9 ‹_› ‹_› | exact Qe1 hx9 ‹_› | exact QdM hx9 ‹_› ‹_›)),rfl,rfl,rfl,trivial⟩ ⟨rfl,trivial⟩ rfl rfl
 iterate 4 refine w_ ?_
 refine lc (Ql (Qfe (i:Int) (by omega)) QjA ⟨_,_,rfl,(Qb rfl),rfl⟩ rfl rfl)<|lc (Z9 (Qa rfl) (Evl.str rfl) rfl (by omega))<|lc (Z9 (Qa rfl) (Qa rfl) rfl (by omega)) ?_
 refine w_ ?_
 refine Qm ?_
 iterate 4 refine w_ ?_
 refine Qm<|QV ⟨i+1,by omega,rfl,rfl⟩ (by omega) ?_
 exact Wk.of [(0,0)] rfl ⟨rfl,rfl,rfl,(show some (lf (dS ((Y2 c k i)++((⟨#[UInt8.ofNat (48+(i:Int)).toNat]⟩:ByteArray)++(⟨#[44]⟩:ByteArray)))))=some (lf (dS (Y2 c k (i+1)))) from congrArg (fun z_=>some (lf (dS z_))) (by first | exact Qew hx9 ‹_› ‹_› | exact Qe1 hx9 ‹_› | exact QdM hx9 ‹_› ‹_›)),rfl,rfl,rfl,trivial⟩ ⟨rfl,trivial⟩ rfl rfl
theorem QaC (c:(List (ByteArray×Int))×List ByteArray×(List (Int×Int×Bool×Int)))(hs:SgW c):FC Tryz.prog 102 [(true,[.dat QJ c.1, .dat Zr c.2.1, .dat VR c.2.2])] [] 0 (Uz 95 Qs (VM c)):=by
 have hn3:=hs.some_
 have hfw:=hs.few
 have hs8:=hs.sig8
 refine QO Tryz.func102 rfl rfl Tryz.ntmps102 fun O_ hO w0_ N0_ X_ h0_ f0_=> ?_
 refine w_ ?_
 refine lc (Qy 0 (Qb rfl) rfl rfl (Fresh.of rfl) (nlr rfl)) ?_
 iterate 9 refine w_ ?_
 refine AL.fact (Qo (x:= .tmp 7) (Qa rfl)) fun hl1=> ?_
 iterate 4 refine w_ ?_
 refine AC.wk (Wk.nilS 1 3 95 Qs rfl (Fresh.of rfl) (nlr rfl)) ?_
 refine Qu (fun m_ s_=>∃(i:Nat),i≤c.2.1.length∧m_=c.2.1.length - i∧s_=⟨[(1,lP 0 0),(2,lf (.val (.slice none 0 0))),(3,lR 2),(8,lI (c.2.1.length:Int)),(9,lI (i:Int))],[(0,some (.box 52 [.dat QJ c.1, .dat Zr c.2.1, .dat VR c.2.2])),(2,some (.arr 95 Qs (XW c (Qa2 c) i)))]⟩) ⟨0,aw _,rfl,rfl⟩ ?_ ?_
 exact wp [(0,0),(2,1)] ⟨rfl,(Qp (rfl)),trivial⟩
 rintro m_ s_ ⟨i,hk2,hm3,rfl⟩
 have hal:=Qe0 (c:=c) (f:=Qa2 c) (i:=i) hn3.2
 iterate 4 refine w_ ?_
 cases hb4:(decide ((i:Int) < (c.2.1.length:Int)))
 have hb4':=a7 hb4
 iterate 8 refine w_ ?_
 subst hO
 refine Z3 (e:=Qs) (xs:=(XW c (Qa2 c) i)) (Qg rfl (Qd rfl)) rfl ?_
 (congr 1; omega)
 have hb4':=a8 hb4
 iterate 14 refine w_ ?_
 refine Qu (fun m_ s_=>∃(m:Int) (out:List (List Int)),m_=((c.2.1.length:Int) - m).toNat∧((i:Int)+1≤m∧m≤(c.2.1.length:Int))∧(out=XW c (Qa2 c) i++Wn c (Qa2 c) i m.toNat)∧s_=⟨[(1,lP 0 0),(2,lf (.val (.slice none 0 0))),(3,lR 3),(4,lI (i:Int)),(5,lI m),(8,lI (c.2.1.length:Int)),(9,lI (i:Int)),(10,lB true),(11,lI (i:Int)),(12,lI (i:Int)),(13,lI ((i:Int)+1))],[(0,some (.box 52 [.dat QJ c.1, .dat Zr c.2.1, .dat VR c.2.2])),(3,some (.arr 95 Qs out))]⟩) ⟨(i:Int)+1,XW c (Qa2 c) i,rfl,(by omega),(by rw[show ((i:Int)+1).toNat=i+1 by omega,QeA,bt]),rfl⟩ ?_ ?_
 exact wp [(0,0),(3,2)] ⟨rfl,(Qp (by first | rfl | simp)),trivial⟩
 rintro m_ s_ ⟨m,out,hm6,hm,hO1,rfl⟩
 have hol:out.length≤100000:=by rw[hO1,aa]; have:=QeI (c:=c) (f:=Qa2 c) (i:=i) (k:=m.toNat); have:=hal (by omega); omega
 have hmn:((m.toNat:Nat):Int)=m:=by omega
 iterate 5 refine w_ ?_
 refine AL.fact (Qo (x:= .tmp 16) (Qa rfl)) fun hl7=> ?_
 iterate 3 refine w_ ?_
 cases hb8:(decide (m < (c.2.1.length:Int)))
 have hb8':=a7 hb8
 iterate 6 refine w_ ?_
 refine Qm<|QV ⟨i+1,by omega,rfl,rfl⟩ (by omega) ?_
 exact wp [(0,0),(2,3)] ⟨rfl,(Qp ((by rw[hO1]; exact Qq2 (by omega) (by omega)))),trivial⟩
 have hb8':=a8 hb8
 iterate 4 refine w_ ?_
 obtain ⟨ci,hx10⟩:=gx c.2.1 i
 have hci:=hx10
 obtain ⟨cm,hx12⟩:=gx c.2.1 ((m).toNat)
 have hcm:=hx12
 cases hb13:(decide (ci=cm))
 have hb13':=a7 hb13
 refine dw [io 21 (lP 0 1),io 22 (lf (.dat Zr c.2.1)),io 23 (lI (i:Int)),io 24 (lf (.elt .str ci 0)),io 25 (lf (dS ci)),io 26 (lP 0 1),io 27 (lf (.dat Zr c.2.1)),io 28 (lI m),io 29 (lf (.elt .str cm 0)),io 30 (lf (dS cm)),io 31 (lB false),io 32 (lB false),iu 33,iu 34,iu 35,iu 36,iu 37,iu 38,iu 39,io 40 (lB false)] [0,1,0,7,15,0,32,0,224,480,1023,2047,4095,4095,16383,4095,4095,131071,262143,524287] mixed rfl (by kernel_rfl) ⟨dxf Uf rfl rfl rfl,dxl XS rfl rfl rfl rfl rfl,dxm rfl rfl,fun _ h_=>ac (Qh (h_.v rfl) (h_.v rfl) Zo Zg rfl (by omega) hx10) rfl,fun _ h_=>ac (Q3 (h_.v rfl) Zg rfl rfl) rfl,dxf Uf rfl rfl rfl,dxl XS rfl rfl rfl rfl rfl,dxm rfl rfl,fun _ h_=>ac (Qh (h_.v rfl) (h_.v rfl) Zo Zg rfl (by omega) hx12) rfl,fun _ h_=>ac (Q3 (h_.v rfl) Zg rfl rfl) rfl,fun _ h_=>ac (KK (hb13) (QbX (h_.v rfl) (h_.v rfl) rfl)) rfl,dxm rfl rfl,dxo rfl rfl rfl,dxo rfl rfl rfl,dxo rfl rfl rfl,dxo rfl rfl rfl,dxo rfl rfl rfl,dxo rfl rfl rfl,dxo rfl rfl rfl,fun _ h_=>ac (K9 (h_.v rfl) (Evl.ev Xh) rfl) rfl,⟨⟩⟩ ?_
 iterate 7 refine w_ ?_
 refine Qm<|QV ⟨(m+1),out,rfl,(by omega),(by rw[hO1]; first | exact Qlb (by omega) hcm hci ‹_› (Qhv hs8 (by rw[hmn]; assumption)) | exact QlI (by omega) hcm hci ‹_› | exact QoH (by omega) (QjS hs8 (by rw[hmn]; assumption))),rfl⟩ (by omega) ?_
 exact wo [(0,0),(3,3)]
 have hb13':=a8 hb13
 refine dw [io 21 (lP 0 1),io 22 (lf (.dat Zr c.2.1)),io 23 (lI (i:Int)),io 24 (lf (.elt .str ci 0)),io 25 (lf (dS ci)),io 26 (lP 0 1),io 27 (lf (.dat Zr c.2.1)),io 28 (lI m),io 29 (lf (.elt .str cm 0)),io 30 (lf (dS cm)),io 31 (lB true),io 32 (lB true),io 33 (ag [.dat QJ c.1, .dat Zr c.2.1, .dat VR c.2.2]),io 34 (lI (i:Int)),io 35 (lf (dS (Y2 c (i:Int) c.1.length))),io 36 (ag [.dat QJ c.1, .dat Zr c.2.1, .dat VR c.2.2]),io 37 (lI m),io 38 (lf (dS (Y2 c m c.1.length))),io 39 (lB (!decide ((Y2 c (i:Int) c.1.length)=(Y2 c m c.1.length)))),io 40 (lB (!decide ((Y2 c (i:Int) c.1.length)=(Y2 c m c.1.length))))] [0,1,0,7,15,0,32,0,224,480,1023,2047,4095,4095,16383,4095,4095,131071,262143,524287] mixed rfl (by kernel_rfl) ⟨dxf Uf rfl rfl rfl,dxl XS rfl rfl rfl rfl rfl,dxm rfl rfl,fun _ h_=>ac (Qh (h_.v rfl) (h_.v rfl) Zo Zg rfl (by omega) hx10) rfl,fun _ h_=>ac (Q3 (h_.v rfl) Zg rfl rfl) rfl,dxf Uf rfl rfl rfl,dxl XS rfl rfl rfl rfl rfl,dxm rfl rfl,fun _ h_=>ac (Qh (h_.v rfl) (h_.v rfl) Zo Zg rfl (by omega) hx12) rfl,fun _ h_=>ac (Q3 (h_.v rfl) Zg rfl rfl) rfl,fun _ h_=>ac (KK (hb13) (QbX (h_.v rfl) (h_.v rfl) rfl)) rfl,dxm rfl rfl,fun _ h_=>day rfl (h_.k rfl) (US (h_.v rfl) (h_.n 0 rfl) Yh rfl rfl) rfl,fun _ h_=>day rfl (h_.k rfl) (X4 (h_.k rfl) rfl) rfl,fun _ h_=>day rfl (h_.k rfl) (Ql (UV c (i:Int) (by omega)) Qeg ⟨_,_,rfl,(h_.w rfl),⟨_,_,rfl,(h_.w rfl),rfl⟩⟩ rfl rfl) rfl,fun _ h_=>day rfl (h_.k rfl) (US (h_.v rfl) (h_.n 0 rfl) Yh rfl rfl) rfl,fun _ h_=>day rfl (h_.k rfl) (X4 (h_.k rfl) rfl) rfl,fun _ h_=>day rfl (h_.k rfl) (Ql (UV c m (by omega)) Qeg ⟨_,_,rfl,(h_.w rfl),⟨_,_,rfl,(h_.w rfl),rfl⟩⟩ rfl rfl) rfl,fun _ h_=>day rfl (h_.k rfl) (Qgq (h_.v rfl) (h_.v rfl) rfl) rfl,fun _ h_=>ac (KR (h_.v rfl) (h_.w rfl) rfl) rfl,⟨⟩⟩ ?_
 cases hb14:(!decide ((Y2 c (i:Int) c.1.length)=(Y2 c m c.1.length)))
 have hb14':((Y2 c (i:Int) c.1.length)=(Y2 c m c.1.length)):=Zm hb14
 iterate 7 refine w_ ?_
 refine Qm<|QV ⟨(m+1),out,rfl,(by omega),(by rw[hO1]; first | exact Qlb (by omega) hcm hci ‹_› (Qhv hs8 (by rw[hmn]; assumption)) | exact QlI (by omega) hcm hci ‹_› | exact QoH (by omega) (QjS hs8 (by rw[hmn]; assumption))),rfl⟩ (by omega) ?_
 exact wo [(0,0),(3,3)]
 have hb14':¬((Y2 c (i:Int) c.1.length)=(Y2 c m c.1.length)):=Zx hb14
 iterate 5 refine w_ ?_
 refine lc (Qf 4 (e:= .int) QN QL Yu rfl ⟨_,_,rfl,(Qb rfl),⟨_,_,rfl,(Qb rfl),rfl⟩⟩ (ae.1 rfl) ⟨_,_,_,_,rfl,⟨rfl,rfl⟩,⟨_,_,_,_,rfl,⟨rfl,rfl⟩,⟨rfl,rfl⟩,rfl⟩,rfl⟩ (by decide) rfl rfl (Fresh.of rfl) (nlr rfl))<|lc (Qf 5 (e:=Qs) Zi QU XX rfl ⟨_,_,rfl,(Qb rfl),rfl⟩ (ae.1 rfl) ⟨_,_,_,_,rfl,(.inl ⟨_,rfl,rfl,rfl⟩),⟨rfl,rfl⟩,rfl⟩ (by decide) rfl rfl (Fresh.of rfl) (nlr rfl))<|lc (QH 6 (Qa rfl) rfl (Qa rfl) rfl rfl Zi Va (by first | omega | (simp only[aa,av,ab,ah,aj]; omega) | (simp only[aa,ay,ab,ah,aj]; omega)) rfl (Fresh.of rfl) (nlr rfl)) ?_
 refine w_ ?_
 refine Qm ?_
 iterate 5 refine w_ ?_
 refine Qm<|QV ⟨(m+1),(out++([[(i:Int),m]])),rfl,(by omega),(by rw[hO1]; first | exact Qlb (by omega) hcm hci ‹_› (Qhv hs8 (by rw[hmn]; assumption)) | exact QlI (by omega) hcm hci ‹_› | exact QoH (by omega) (QjS hs8 (by rw[hmn]; assumption))),rfl⟩ (by omega) ?_
 exact wp [(0,0),(3,6)] ⟨rfl,(Qp (by first | rfl | simp)),trivial⟩
end Go.Proofs.YtjaadeknhofhpaaGreat
namespace Go.Proofs.YtjaadeknhofhpaaGreat
open Go.RowKit
set_option maxRecDepth 100000
set_option maxHeartbeats 4000000
abbrev WS:=(Int×Bool)×Int×Bool
def Qq0 (k:Nat):List (Int×Bool):=(List.range k).flatMap fun i=>[(((i:Nat):Int),false),(((i:Nat):Int),true)]
section
variable {k:Nat}
end
section
variable [∀c,Decidable (SgOk c)][∀s,Decidable (Ja s)]{c:DSg}{a b:Int×Bool}{i j k n:Nat}{x:WS}{L:List (Int×Bool)}
def isX (c:DSg)(a b:Int×Bool):Bool:= !decide (a=b)&&(QhU c (a,b)).2
def QtL (c:DSg)(a:Int×Bool)(l:List (Int×Bool)):List WS:=(l.filter fun b=>isX c a b).map fun b=>(a,b)
def Qtx (c:DSg)(L l:List (Int×Bool)):List WS:=l.flatMap fun a=>QtL c a L
abbrev Qte (c:DSg):List WS:=Qtx c (Qq0 c.1.length) (Qq0 c.1.length)
abbrev QtU (c:DSg)(l:List WS):List (WS×DSg):=l.map fun x=>(x,(QhU c x).1)
def Qn6 (c:DSg)(x:WS):Int:=((VM (QhU c x).1).length:Int)
def QrR (c:DSg)(x:WS):Int:=((QhU c x).1.2.1.length:Int)
def QtD (c:DSg)(m:Option WS)(x:WS):Option WS:=match m with
  | none=>some x
  | some y=>if Qn6 c x < Qn6 c y∨(Qn6 c x=Qn6 c y∧QrR c x < QrR c y) then some x else some y
def oC (c:DSg):Option WS→WS×DSg
  | some x=>(x,(QhU c x).1)
  | none=>(((0,false),0,false),([],[],[]))
def oF (c:DSg)(d:Int):Option WS→Int
  | some x=>Qn6 c x
  | none=>d
def oS (c:DSg):Option WS→Int
  | some x=>QrR c x
  | none=>0
def QfN (c:DSg)(l:List WS):Option WS:=l.foldl (QtD c) none
def QsM (c:DSg)(l:List WS):WS:=(QfN c l).getD ((0,false),0,false)
def QtS (c:DSg)(l:List WS):WS×DSg:=oC c (QfN c l)
def QtX (c:DSg)(l:List WS):Int:=oF c 0 (QfN c l)
def Qt1 (c:DSg)(l:List WS):Int:=oF c (-1) (QfN c l)
def Qt0 (c:DSg)(l:List WS):Int:=oS c (QfN c l)
def Qt3 (c:DSg):WS:=if SgOk c then QsM c (Qte c) else ((0,false),0,false)
def Qt5 (c:DSg):Bool:=decide (SgOk c)&&(QfN c (Qte c)).isSome
section
variable {l:List WS}{y cand:WS×DSg}{few st:Int}{fnd:Bool}{bx:WS}
end
end
end Go.Proofs.YtjaadeknhofhpaaGreat
namespace Go.Proofs.YtjaadeknhofhpaaGreat
open Go.RowKit
attribute [local irreducible] TF
abbrev Qep:Type:=ZD×ZD
abbrev Qrg:Ty:= .pr Wj Wj
end Go.Proofs.YtjaadeknhofhpaaGreat
namespace Go.Proofs.YtjaadeknhofhpaaGreat
open Go.RowKit
set_option maxRecDepth 100000
set_option maxHeartbeats 4000000
@[reducible] def QqZ:(Qep)→Int→(Qep)×Int:=fun _ k=>(((k,decide ((k+1) % 3=0)),(k+1+1,decide ((k+1+1+1) % 3=0))),k+1+1+1+1)
end Go.Proofs.YtjaadeknhofhpaaGreat
namespace Go.Proofs.YtjaadeknhofhpaaGreat
open Go.RowKit
set_option maxRecDepth 100000
set_option maxHeartbeats 4000000
def XG (f:Hdr→List Int):Option (List Int)→List Hdr→List Hdr
  | _,[]=>[]
  | p,y :: l=>if p=some (f y) then XG f p l else y :: XG f (some (f y)) l
section
variable {f:Hdr→List Int}{vs zs:List Hdr}{m k:Nat}{x y:Hdr}{l:List (List Int)}{i j n:Int}
theorem Qfb:∀(l:List Hdr) (p:Option (List Int)),(XG f p l).Sublist l
  | [],_=>cJ _
  | y :: l,p=>by
    unfold XG
    split
    · exact (Qfb l p).cons y
    · exact (Qfb l _).cons_cons y
theorem Qcl:∀(l:List Hdr) (x:List Int),x :: (XG f (some x) l).map f=KJ (x :: l.map f)
  | [],x=>rfl
  | y :: l,x=>by
    unfold XG
    rw[aW,KJ]
    by_cases h:x=f y
    · rw[if_pos (congrArg some h),if_pos h,← h]; exact Qcl l x
    · rw[if_neg (fun e=>h (Option.some.inj e)),if_neg h,aW,Qcl l (f y)]
theorem QiH:∀l:List Hdr,(XG f none l).map f=KJ (l.map f)
  | []=>rfl
  | y :: l=>by rw[XG,if_neg (by simp),aW,Qcl l (f y),aW]
theorem Qb8 (y:Hdr):∀(l:List Hdr) (p:Option (List Int)),XG f p (l++[y])=XG f p l++(if ((l.getLast?).map f).or p=some (f y) then [] else [y])
  | [],p=>by
    by_cases h:p=some (f y)
    · simp[XG,h]
    · simp[XG,h]
  | z :: l,p=>by
    have hl:∀q:Option (List Int),(((z :: l).getLast?).map f).or q=((l.getLast?).map f).or (some (f z)):=fun q=>by
      rw[List.getLast?_cons]
      cases l.getLast? <;> rfl
    rw[hl,bl,XG,XG]
    by_cases h:p=some (f z)
    · rw[if_pos h,if_pos h,Qb8 y l p,h]
    · rw[if_neg h,if_neg h,Qb8 y l (some (f z)),bl]
theorem Qft (h1:vs[m]? =some x)(h2:vs[m+1]? =some y):XG f none (vs.take (m+1+1))=XG f none (vs.take (m+1))++(if f x=f y then [] else [y]):=by
  rw[Q0 h2,Qb8]
  have:(vs.take (m+1)).getLast? =some x:=by rw[Q0 h1]; simp
  rw[this]; simp
theorem Ql2 (hi:1≤i)(hx:vs[(i - 1).toNat]? =some x)(hy:vs[i.toNat]? =some y)(h:f y=f x):XG f none (vs.take (i+1).toNat)=XG f none (vs.take i.toNat):=by
  have:=Qft (f:=f) hx (y:=y) (by rw[show (i - 1).toNat+1=i.toNat by omega]; exact hy)
  rw[show (i - 1).toNat+1=i.toNat by omega,show i.toNat+1=(i+1).toNat by omega,if_pos h.symm,bt] at this
  exact this
theorem Qk9 (hi:1≤i)(hx:vs[(i - 1).toNat]? =some x)(hy:vs[i.toNat]? =some y)(h:¬f y=f x):XG f none (vs.take (i+1).toNat)=XG f none (vs.take i.toNat)++[y]:=by
  have:=Qft (f:=f) hx (y:=y) (by rw[show (i - 1).toNat+1=i.toNat by omega]; exact hy)
  rw[show (i - 1).toNat+1=i.toNat by omega,show i.toNat+1=(i+1).toNat by omega,if_neg (fun e=>h e.symm)] at this
  exact this
theorem Qqx (h:2≤(vs.length:Int)):XG f none (vs.take (1:Int).toNat)=vs.take (1:Int).toNat:=by
  match vs,h with
  | a :: b :: vs,_=>simp[XG]
theorem QqD (hi:1≤i)(hP:XG f none (vs.take i.toNat)=vs.take i.toNat)(hx:vs[(i - 1).toNat]? =some x)(hy:vs[i.toNat]? =some y)(h:¬f y=f x):XG f none (vs.take (i+1).toNat)=vs.take (i+1).toNat:=by
  rw[Qk9 hi hx hy h,hP,show (i+1).toNat=i.toNat+1 by omega,Q0 hy]
theorem Qqt (hi:1≤i)(hP:XG f none (vs.take i.toNat)=vs.take i.toNat)(hx:vs[(i - 1).toNat]? =some x)(hy:vs[i.toNat]? =some y)(h:f y=f x):vs.take i.toNat=XG f none (vs.take (i+1).toNat):=by
  rw[Ql2 hi hx hy h,hP]
theorem Qoi (hvf:vs.map f=l)(hP:XG f none (vs.take i.toNat)=vs.take i.toNat)(h:¬i < (vs.length:Int)):vs.map f=KJ l:=by
  rw[aH (by omega)] at hP
  rw[← hvf,← QiH,hP]
theorem Qqq (hvf:vs.map f=l)(h:(vs.length:Int) < 2):vs.map f=KJ l:=by
  rw[← hvf]
  match vs,h with
  | [],_=>rfl
  | [a],_=>rfl
  | a :: b :: vs,h=>simp at h; omega
theorem QpK (hm:1≤n)(hj:1≤j)(hz:zs.take i.toNat=XG f none (vs.take (n+j).toNat))(ht:∀t:Nat,n+j - 1≤(t:Int)→zs[t]? =vs[t]?)
    (hx:zs[n.toNat+(j - 1).toNat]? =some x) (hy:zs[n.toNat+j.toNat]? =some y) (h:f y=f x):zs.take i.toNat=XG f none (vs.take (n+(j+1)).toNat):=by
  rw[hz,show n+(j+1)=(n+j)+1 by omega]
  refine (Ql2 (by omega) (x:=x) (y:=y) ?_ ?_ h).symm
  · rw[← ht _ (by omega),← hx]; congr 1; omega
  · rw[← ht _ (by omega),← hy]; congr 1; omega
theorem Qp9 (hm:1≤n)(hj:1≤j)(h0:0≤i)(hl:i < (zs.length:Int))(hz:zs.take i.toNat=XG f none (vs.take (n+j).toNat))(ht:∀t:Nat,n+j - 1≤(t:Int)→zs[t]? =vs[t]?)
    (hx:zs[n.toNat+(j - 1).toNat]? =some x) (hy:zs[n.toNat+j.toNat]? =some y) (h:¬f y=f x):(zs.set i.toNat y).take (i+1).toNat=XG f none (vs.take (n+(j+1)).toNat):=by
  have e1:(zs.set i.toNat y)[i.toNat]? =some y:=aU (by omega)
  rw[show (i+1).toNat=i.toNat+1 by omega,Q0 e1,List.take_set_of_le (aL _),hz,show n+(j+1)=(n+j)+1 by omega]
  refine (Qk9 (by omega) (x:=x) (y:=y) ?_ ?_ h).symm
  · rw[← ht _ (by omega),← hx]; congr 1; omega
  · rw[← ht _ (by omega),← hy]; congr 1; omega
theorem Qqa (hi:i≤n+j - 1)(h0:0≤i)(ht:∀t:Nat,n+j - 1≤(t:Int)→zs[t]? =vs[t]?):∀t:Nat,n+(j+1) - 1≤(t:Int)→(zs.set i.toNat y)[t]? =vs[t]? :=fun t h=>by
  rw[aX (by omega)]; exact ht t (by omega)
theorem QlL (h0:0≤i)(hl:i≤(zs.length:Int))(r:List Hdr):(zs.take i.toNat++r).take i.toNat=zs.take i.toNat:=by
  rw[List.take_left' (by rw[ab]; omega)]
theorem Qnz (h0:0≤i)(hl:i≤(zs.length:Int))(r:List Hdr)(hz:zs.take i.toNat=XG f none (vs.take (n+j).toNat)):∃l:List Hdr,l.Perm ((zs.take i.toNat++r).take i.toNat)∧l.Sublist vs:=by
  rw[QlL h0 hl,hz]
  exact ⟨_,dd _,(Qfb _ _).trans (List.take_sublist ..)⟩
theorem QnS (hvf:vs.map f=l)(h0:0≤i)(hl:i≤(zs.length:Int))(r:List Hdr)(hz:zs.take i.toNat=XG f none (vs.take (n+j).toNat))(he:(vs.length:Int)≤n+j):((zs.take i.toNat++r).take i.toNat).map f=KJ l:=by
  rw[QlL h0 hl,hz,aH (by omega),QiH,hvf]
end
theorem Vy (l:List (List Int))(hl:l.length≤1000000):FC Tryz.prog 226 [(false,[.ref 0]),(false,[.clo 129 []])] [(0,some (.arr 95 Qs l))] 0 (Uz 95 Qs (KJ l)):=by
 refine QO Tryz.func226 rfl rfl Tryz.ntmps226 fun O_ hO w0_ N0_ X_ h0_ f0_=> ?_
 refine YY<|AC.poolO (q:=0) (e:= .int) 1 rfl (Fresh.of rfl) (nlr rfl) fun vs gf hvf=> ?_
 have hvl:vs.length=l.length:=by rw[← hvf,av]
 iterate 9 refine w_ ?_
 cases hb1:(decide ((vs.length:Int) < 2))
 have hb1':=a7 hb1
 iterate 7 refine w_ ?_
 refine Qu (fun m_ s_=>∃(m:Int),m_=((vs.length:Int) - m).toNat∧(1≤m∧m≤(vs.length:Int))∧(XG gf none (vs.take m.toNat)=vs.take m.toNat)∧s_=⟨[(0,lR 0),(1,lf (.clo 129 [])),(5,lI m)],[(0,some (.arr 95 .vl vs)),(1,some (.pl true Qs vs gf))]⟩) ⟨1,rfl,(by omega),(Qqx (by omega)),rfl⟩ ?_ ?_
 exact wo [(0,0),(1,1)]
 rintro m_ s_ ⟨m,hm3,hm,hP,rfl⟩
 iterate 7 refine w_ ?_
 cases hb4:(decide (m < (vs.length:Int)))
 have hb4':=a7 hb4
 iterate 7 refine w_ ?_
 refine AC.wk (V3 (q:=0) (p:=1) (zs:=vs) rfl rfl (by exact ⟨_,dd _,cJ _⟩))<|Q4 ?_
 subst hO
 refine Z3 (e:=Qs) (xs:=(vs.map gf)) (Qg rfl (Qd rfl)) rfl ?_
 exact Qoi hvf hP (by omega)
 have hb4':=a8 hb4
 iterate 4 refine w_ ?_
 obtain ⟨y,hx6⟩:=gx vs ((m).toNat)
 have yh:=hx6
 obtain ⟨x,hx8⟩:=gx vs ((m - 1).toNat)
 have xh:=hx8
 refine dw [io 18 (lf (.clo 129 [])),io 19 (lR 0),io 20 (lI m),io 21 (lf (.ept 0 1 ((m).toNat) 0)),io 22 (lf (.dat .vl y)),io 23 (lR 0),io 24 (lI m),io 25 (lI (m - 1)),io 26 (lf (.ept 0 1 ((m - 1).toNat) 0)),io 27 (lf (.dat .vl x)),io 28 (lB (decide ((gf y)=(gf x))))] [0,0,0,6,14,0,0,64,224,480,1023] mixed rfl (by kernel_rfl) ⟨dxm rfl rfl,dxm rfl rfl,dxm rfl rfl,fun _ h_=>ac (Qw (e:= .vl) (h_.v rfl) (h_.en 0 rfl) (h_.v rfl) Zi QU rfl (by omega) (by first | omega | (simp only[aq]; omega))) rfl,fun _ h_=>ac (QP (e:= .vl) (h_.v rfl) (h_.n 0 rfl) hx6 rfl QU rfl rfl) rfl,dxm rfl rfl,dxm rfl rfl,fun _ h_=>ac (Vu (h_.v rfl) (Qv rfl) rfl (by omega)) rfl,fun _ h_=>ac (Qw (e:= .vl) (h_.v rfl) (h_.en 0 rfl) (h_.v rfl) Zi QU rfl (by omega) (by first | omega | (simp only[aq]; omega))) rfl,fun _ h_=>ac (QP (e:= .vl) (h_.v rfl) (h_.n 0 rfl) hx8 rfl QU rfl rfl) rfl,fun _ h_=>ac (Qcz (Xf (gf y) (gf x)) Qau (h_.v rfl) ⟨_,_,rfl,(Hf (p:=1) (h_.v rfl) (h_.n 1 rfl) (ai hx6)),⟨_,_,rfl,(Hf (p:=1) (h_.v rfl) (h_.n 1 rfl) (ai hx8)),rfl⟩⟩ rfl rfl rfl) rfl,⟨⟩⟩ ?_
 cases hb9:(decide ((gf y)=(gf x)))
 have hb9':=a7 hb9
 iterate 7 refine w_ ?_
 refine Qm<|QV ⟨(m+1),rfl,(by omega),(QqD (by omega) hP xh yh (a7 ‹_›)),rfl⟩ (by omega) ?_
 exact wo [(0,0),(1,1)]
 have hb9':=a8 hb9
 iterate 4 refine w_ ?_
 refine lc (Z8 (e:= .vl) (a:=(m).toNat) (b:=vs.length - (m).toNat) (l:=(some m)) (h:=none) (Qa rfl) rfl (by exact (Qa rfl)) (by exact trivial) Zi QU rfl (by first | (simp only[ao,ak]; omega) | omega | (simp only[ao,ak,aa,ab,az]; omega)) (by first | (simp only[ao,ak]; omega) | omega | (simp only[ao,ak,aa,ab,az]; omega)) (by first | (simp only[ao,ak]; omega) | omega | (simp only[ao,ak,aa,ab,az]; omega)) (by first | rfl | simp) (by first | rfl | simp)) ?_
 iterate 7 refine w_ ?_
 refine Qu (fun m_ s_=>∃(zs:List Hdr) (i:Int) (j:Int),m_=((vs.length:Int) - m - j).toNat∧(zs.length=vs.length)∧(m≤i∧1≤j∧i≤m+j - 1∧m+j≤(vs.length:Int))∧(zs.take i.toNat=XG gf none (vs.take (m+j).toNat))∧(∀t:Nat,m+j - 1≤(t:Int)→zs[t]? =vs[t]?)∧s_=⟨[(0,lR 2),(1,lf (.clo 129 [])),(5,lI i),(6,lf (.sub 2 1 ((m).toNat) (vs.length - (m).toNat))),(7,lI j),(12,lI m),(14,lI (vs.length:Int)),(15,lB true),(18,lf (.clo 129 [])),(20,lI m),(22,lf (.dat .vl y)),(24,lI m),(25,lI (m - 1)),(27,lf (.dat .vl x)),(28,lB true),(30,lI m)],[(1,some (.pl true Qs vs gf)),(2,some (.arr 95 .vl zs))]⟩) ⟨vs,m,1,rfl,rfl,(by omega),(Qqt (by omega) hP xh yh (a8 ‹_›)),(fun t _=>rfl),rfl⟩ ?_ ?_
 exact wo [(1,1),(2,0)]
 rintro m_ s_ ⟨zs,i,j,hm11,hz0,hij,hzs,htl,rfl⟩
 iterate 4 refine w_ ?_
 refine lc (Qis (e:= .vl) (Qa rfl) rfl (by omega) Zi rfl) ?_
 iterate 2 refine w_ ?_
 cases hb12:(decide (j < ((vs.length - (m).toNat:Nat):Int)))
 have hb12':=a7 hb12
 iterate 6 refine w_ ?_
 refine lc (Z8 (e:= .vl) (a:=(i).toNat) (b:=zs.length - (i).toNat) (l:=(some i)) (h:=none) (Qa rfl) rfl (by exact (Qa rfl)) (by exact trivial) Zi QU rfl (by first | (simp only[ao,ak]; omega) | omega | (simp only[ao,ak,aa,ab,az]; omega)) (by first | (simp only[ao,ak]; omega) | omega | (simp only[ao,ak,aa,ab,az]; omega)) (by first | (simp only[ao,ak]; omega) | omega | (simp only[ao,ak,aa,ab,az]; omega)) (by first | rfl | simp) (by first | rfl | simp))<|lc (Qct (e:= .vl) (Qa rfl) rfl (by omega) Zi XX rfl rfl rfl) ?_
 iterate 4 refine w_ ?_
 refine lc (Z8 (e:= .vl) (a:=0) (b:=(i).toNat) (l:=none) (h:=(some i)) (Qa rfl) rfl (by exact trivial) (by exact (Qa rfl)) Zi QU rfl (by first | (simp only[ao,ak]; omega) | omega | (simp only[ao,ak,aa,ab,az]; omega)) (by first | (simp only[ao,ak]; omega) | omega | (simp only[ao,ak,aa,ab,az]; omega)) (by first | (simp only[ao,ak]; omega) | omega | (simp only[ao,ak,aa,ab,az]; omega)) (by first | rfl | simp) (by first | rfl | simp)) ?_
 iterate 2 refine w_ ?_
 refine AC.wk (Qd1 3 4 (e:= .vl) (xs:=zs.take ((i).toNat)++List.replicate (zs.length - (i).toNat) (Ty.zero .vl)) rfl rfl (by first | omega | (simp only[aa,ab,az]; omega)) rfl (Fresh.of rfl) (nlr rfl))<|AC.wk (V3 (q:=3) (p:=1) (zs:=(zs.take ((i).toNat)++List.replicate (zs.length - (i).toNat) (Ty.zero .vl)).take ((i).toNat)) rfl rfl (by exact Qnz (by omega) (by omega) _ hzs))<|Q4 ?_
 subst hO
 refine Z3 (e:=Qs) (xs:=(((zs.take ((i).toNat)++List.replicate (zs.length - (i).toNat) (Ty.zero .vl)).take ((i).toNat)).map gf)) (Qg rfl (Qd rfl)) rfl ?_
 exact QnS hvf (by omega) (by omega) _ hzs (by omega)
 have hb12':=a8 hb12
 iterate 4 refine w_ ?_
 obtain ⟨y2,hx14⟩:=gx zs (((m).toNat)+(j).toNat)
 have y2h:=hx14
 obtain ⟨x2,hx16⟩:=gx zs (((m).toNat)+(j - 1).toNat)
 have x2h:=hx16
 refine dw [io 38 (lf (.clo 129 [])),io 39 (lf (.sub 2 1 ((m).toNat) (vs.length - (m).toNat))),io 40 (lI j),io 41 (lf (.ept 2 1 (((m).toNat)+(j).toNat) 0)),io 42 (lf (.dat .vl y2)),io 43 (lf (.sub 2 1 ((m).toNat) (vs.length - (m).toNat))),io 44 (lI j),io 45 (lI (j - 1)),io 46 (lf (.ept 2 1 (((m).toNat)+(j - 1).toNat) 0)),io 47 (lf (.dat .vl x2)),io 48 (lB (decide ((gf y2)=(gf x2)))),io 49 (lB (!(decide ((gf y2)=(gf x2)))))] [0,0,0,6,14,0,0,64,224,480,1023,2047] mixed rfl (by kernel_rfl) ⟨dxm rfl rfl,dxm rfl rfl,dxm rfl rfl,fun _ h_=>ac (U1 (e:= .vl) (k:=((m).toNat)+(j).toNat) (h_.v rfl) (h_.en 2 rfl) (by omega) (h_.v rfl) Zi QU rfl (by omega) (by omega) (by first | rfl | omega)) rfl,fun _ h_=>ac (QP (e:= .vl) (h_.v rfl) (h_.n 2 rfl) hx14 rfl QU rfl rfl) rfl,dxm rfl rfl,dxm rfl rfl,fun _ h_=>ac (Vu (h_.v rfl) (Qv rfl) rfl (by omega)) rfl,fun _ h_=>ac (U1 (e:= .vl) (k:=((m).toNat)+(j - 1).toNat) (h_.v rfl) (h_.en 2 rfl) (by omega) (h_.v rfl) Zi QU rfl (by omega) (by omega) (by first | rfl | omega)) rfl,fun _ h_=>ac (QP (e:= .vl) (h_.v rfl) (h_.n 2 rfl) hx16 rfl QU rfl rfl) rfl,fun _ h_=>ac (Qcz (Xf (gf y2) (gf x2)) Qau (h_.v rfl) ⟨_,_,rfl,(Hf (p:=1) (h_.v rfl) (h_.en 1 rfl) (ai ((htl _ (by omega)).symm.trans hx14))),⟨_,_,rfl,(Hf (p:=1) (h_.v rfl) (h_.en 1 rfl) (ai ((htl _ (by omega)).symm.trans hx16))),rfl⟩⟩ rfl rfl rfl) rfl,fun _ h_=>ac (WD (h_.v rfl) rfl) rfl,⟨⟩⟩ ?_
 cases hb17:(decide ((gf y2)=(gf x2)))
 have hb17':=a7 hb17
 iterate 6 refine w_ ?_
 refine lc (U1 (e:= .vl) (k:=((m).toNat)+(j).toNat) (Qa rfl) rfl (by omega) (Qa rfl) Zi QU rfl (by omega) (by omega) (by first | rfl | omega))<|lc (QP (e:= .vl) (Qa rfl) rfl hx14 rfl QU rfl rfl)<|lc (Qw (e:= .vl) (Qa rfl) rfl (Qa rfl) Zi QU rfl (by omega) (by first | omega | (simp only[aq]; omega))) ?_
 obtain ⟨x18,hx19⟩:=gx zs ((i).toNat)
 have x18h:=hx19
 refine lc (Q6 (e:= .vl) (z':=y2) (Qa rfl) rfl hx19 rfl (Qb rfl) rfl QU rfl rfl) ?_
 iterate 5 refine w_ ?_
 refine Qm ?_
 iterate 5 refine w_ ?_
 refine Qm<|QV ⟨(zs.set ((i).toNat) y2),(i+1),(j+1),rfl,(by (rw[aq]; assumption)),(by omega),(by exact Qp9 (by omega) (by omega) (by omega) (by omega) hzs htl x2h y2h (a7 ‹_›)),(by exact Qqa (by omega) (by omega) htl),rfl⟩ (by omega) ?_
 exact wp [(1,1),(2,2)] ⟨rfl,(Qp (by first | rfl | simp)),trivial⟩
 have hb17':=a8 hb17
 iterate 7 refine w_ ?_
 refine Qm<|QV ⟨zs,i,(j+1),rfl,‹_›,(by omega),(by exact QpK (by omega) (by omega) hzs htl x2h y2h (a8 ‹_›)),(by exact fun t h=>htl t (by omega)),rfl⟩ (by omega) ?_
 exact wo [(1,1),(2,2)]
 have hb1':=a8 hb1
 iterate 5 refine w_ ?_
 refine AC.wk (V3 (q:=0) (p:=1) (zs:=vs) rfl rfl (by exact ⟨_,dd _,cJ _⟩))<|Q4 ?_
 subst hO
 refine Z3 (e:=Qs) (xs:=(vs.map gf)) (Qg rfl (Qd rfl)) rfl ?_
 exact Qqq hvf (by omega)
end Go.Proofs.YtjaadeknhofhpaaGreat
