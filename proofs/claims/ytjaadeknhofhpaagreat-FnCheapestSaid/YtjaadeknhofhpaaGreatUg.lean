/- Walks over abstract states: the graph behind an insertion, both sides; pairs of states that violate complete state coding, the reference; what an insertion costs. -/
import Derived.Test.YtjaadeknhofhpaaGreatUf
set_option linter.unusedSimpArgs false
set_option linter.unusedVariables false
set_option linter.unusedSectionVars false
namespace Go.Proofs.YtjaadeknhofhpaaGreat
open Go.RowKit
set_option maxRecDepth 100000
set_option maxHeartbeats 4000000
def QqD (s:Int):ByteArray:=(⟨#[UInt8.ofNat (48+s).toNat]⟩:ByteArray)++(⟨#[44]⟩:ByteArray)
def Xa (c:DSg)(q:Int)(i:Nat):ByteArray:=((ZI c.1 i).filter fun s=>V8 c q s).foldl (fun b s=>b++QqD s) (⟨#[]⟩:ByteArray)
section
variable {c:DSg}{as_:List DAr}{a:DAr}{i j k n:Nat}{s q:Int}{z:QJ}
theorem Qrv (hx:c.2.2[k]? =some a)(h1:a.1=q)(h2:a.2.1=s):true=V8 c q s:=(bS.2 ⟨a,a8 hx,aI ⟨h1,h2⟩⟩).symm
theorem QtG (hn:∀j,j < k→∀a,c.2.2[j]? =some a→¬(a.1=q∧a.2.1=s))(hk:c.2.2.length≤k):false=V8 c q s:=(cr.2 fun a ha=>by
  obtain ⟨j,hj⟩:=aJ.1 ha
  have:=(ab.1 hj).1
  simpa using hn j (by omega) a hj).symm
theorem Qe8 (hx:c.1[i]? =some z)(h:¬z.2=1)(he:V8 c q (i:Int)=true):Xa c q i++((⟨#[UInt8.ofNat (48+(i:Int)).toNat]⟩:ByteArray)++(⟨#[44]⟩:ByteArray))=Xa c q (i+1):=by
  unfold Xa
  rw[← Ka hx h,b5,b9]
  simp[he,QqD]
theorem Qe6 (hx:c.1[i]? =some z)(h:z.2=1):Xa c q i=Xa c q (i+1):=by
  unfold Xa
  rw[← Qbm hx h]
theorem QeO (hx:c.1[i]? =some z)(h:¬z.2=1)(he:V8 c q (i:Int)=false):Xa c q i=Xa c q (i+1):=by
  unfold Xa
  rw[← Ka hx h,b5,b9]
  simp[he]
theorem QaI:∀(l:List Int) (b:ByteArray),(l.foldl (fun b s=>b++QqD s) b).toList=b.toList++l.flatMap fun s=>[UInt8.ofNat (48+s).toNat,44]
  | [],b=>by simp
  | s :: l,b=>by
    rw[aS,QaI l,cV]
    simp only[QqD,bj,ByteArray.data_append,Array.toList_append]
    simp
theorem QoP (l:List Int):(l.flatMap fun s=>[UInt8.ofNat (48+s).toNat,44]).length=2*l.length:=by
  induction l with
  | nil=>rfl
  | cons s l ih=>rw[cV,aa,ih,ao,ao,ao,aD]; omega
theorem Qpr (l:List Int)(b:ByteArray):(l.foldl (fun b s=>b++QqD s) b).size=b.size+2*l.length:=by
  have h:=congrArg List.length (QaI l b)
  rw[aa,X7,X7,QoP] at h
  exact h
theorem Qh8:∀{l m:List Int},(∀x∈l,0≤x∧x≤9)→(∀x∈m,0≤x∧x≤9)→(l.flatMap fun s=>[UInt8.ofNat (48+s).toNat,44])=(m.flatMap fun s=>[UInt8.ofNat (48+s).toNat,44])→l=m
  | [],[],_,_,_=>rfl
  | [],y :: m,_,_,h=>by simp at h
  | x :: l,[],_,_,h=>by simp at h
  | x :: l,y :: m,hl,hm,h=>by
    rw[cV,cV] at h
    simp only[bR,cn,aB,true_and] at h
    obtain ⟨h1,h2⟩:=h
    have hx:=hl x (aA ..)
    have hy:=hm y (aA ..)
    have h3:=congrArg UInt8.toNat h1
    rw[UInt8.toNat_ofNat',UInt8.toNat_ofNat',cd (by omega),cd (by omega)] at h3
    rw[Qh8 (fun z hz=>hl z (ax _ hz)) (fun z hz=>hm z (ax _ hz)) h2,show x=y by omega]
theorem Qih (h8:c.1.length≤8):Xa c (i:Int) c.1.length=Xa c (j:Int) c.1.length↔QaH c i j=false:=by
  have hr:∀(f:Int→Bool),∀x∈(ZI c.1 c.1.length).filter f,0≤x∧x≤9:=fun f x hx=>by
    obtain ⟨t,rfl,ht,_⟩:=UX.1 (bY.1 hx).1; omega
  unfold QaH
  rw[cr]
  constructor
  · intro h s hs
    have h1:=congrArg ByteArray.toList h
    unfold Xa at h1
    rw[QaI,QaI] at h1
    have h2:=Qh8 (hr _) (hr _) (List.append_cancel_left h1)
    have h3:(s∈(ZI c.1 c.1.length).filter fun s=>V8 c i s)↔(s∈(ZI c.1 c.1.length).filter fun s=>V8 c j s):=by rw[h2]
    simp only[bY,hs,true_and] at h3
    rw[bC.2 h3]; simp
  · intro h
    unfold Xa
    congr 1
    apply cW
    intro s hs
    have:=h s hs
    simpa using this
theorem Qqf:(Xa c q i).size≤2*i:=by
  unfold Xa
  rw[Qpr]
  have h1:((ZI c.1 i).filter fun s=>V8 c q s).length≤(ZI c.1 i).length:=bG ..
  have h2:=QbB (ss:=c.1) (k:=i)
  show 0+_≤_
  omega
theorem Qhl (h8:c.1.length≤8)(h:(!decide (Xa c (i:Int) c.1.length=Xa c (j:Int) c.1.length))=true):QaH c i j=true:=by
  cases hd:QaH c i j with
  | true=>rfl
  | false=>rw[aI ((Qih h8).2 hd)] at h; cases h
theorem QjD (h8:c.1.length≤8)(h:(!decide (Xa c (i:Int) c.1.length=Xa c (j:Int) c.1.length))=false):QaH c i j=false:=(Qih h8).1 (by simpa using h)
end
section
variable [∀c,Decidable (SgOk c)][∀s,Decidable (Zq s)]{c:DSg}{x:(Int×Bool)×Int×Bool}
abbrev Qja (c:DSg)(x:(Int×Bool)×Int×Bool):ByteArray:=Ym c (Qj c x.1 x.2)
abbrev Qe0 (c:DSg)(x:(Int×Bool)×Int×Bool):(DSg×List Int)×Bool:=Yt c (Z5 c) (Qja c x)
def Qbq (c:DSg)(x:(Int×Bool)×Int×Bool):Bool:=okB c x.1 x.2&& !Jd c (Qja c x)
def Zz (c:DSg)(x:(Int×Bool)×Int×Bool):DSg×Bool:=
  if Qbq c x=true then ((Qe0 c x).1.1,(Qe0 c x).2&&decide (Vx (Qe0 c x).1.1≤Vx c)) else (WS,false)
def Uv (c:DSg)(x:(Int×Bool)×Int×Bool):Prop:=((SgOk c∧(0≤x.1.1∧x.1.1≤(c.1.length:Int) - 1))∧(0≤x.2.1∧x.2.1≤(c.1.length:Int) - 1))∧¬x.1=x.2
instance:Decidable (Uv c x):=inferInstanceAs (Decidable (_∧_))
def YP (c:DSg)(x:(Int×Bool)×Int×Bool):Bool:=decide (Uv c x)&&(Zz c x).2
def Z3 (c:DSg)(x:(Int×Bool)×Int×Bool):Int:=if YP c x=true then ((YT (Zz c x).1).length:Int) else 0
def Yp (c:DSg)(x:(Int×Bool)×Int×Bool):Int:=if YP c x=true then ((Zz c x).1.2.1.length:Int) else 0
theorem QrB (h:okB c x.1 x.2=false):Qbq c x=false:=by unfold Qbq; rw[h]; rfl
theorem Qmx (h:Jd c (Qja c x)=true):Qbq c x=false:=by unfold Qbq; rw[h]; simp
theorem Qhq (h1:okB c x.1 x.2=true)(h:Jd c (Qja c x)=false):Qbq c x=true:=by unfold Qbq; rw[h,h1]; rfl
theorem QjJ (h:Qbq c x=false):Zz c x=(WS,false):=if_neg (by rw[h]; decide)
theorem Qhg (h:Qbq c x=true):Zz c x=((Qe0 c x).1.1,(Qe0 c x).2&&decide (Vx (Qe0 c x).1.1≤Vx c)):=if_pos h
theorem Qmk (h:(Qe0 c x).2=true):SgOk (Qe0 c x).1.1:=by
  unfold Qe0 Yt at h ⊢
  split at h
  · rename_i h1; rw[if_pos h1]; exact h1.2
  · cases h
theorem QjB (h:(Zz c x).2=true):SgOk (Zz c x).1:=by
  unfold Zz at h ⊢
  split at h
  · rename_i h1
    rw[if_pos h1]
    rw[aG] at h
    exact Qmk h.1
  · cases h
theorem JS (h:okB c x.1 x.2=true):Yj c x.1 x.2=Qja c x:=(Qf1 h).symm
theorem Qs8 (h:(ZV c (Z5 c) (Qja c x)).2=false):Qe0 c x=(Qkr,false):=Qtl h
theorem Qj4 (h:(ZV c (Z5 c) (Qja c x)).2=true):Qe0 c x=ZV c (Z5 c) (Qja c x):=Qta h
theorem Qil:(Z5 c).size≤2:=by unfold Z5; split <;> (try split) <;> exact aO _
theorem QlH {nm s:ByteArray}(h:(Yt c nm s).2=true):SgOk (Yt c nm s).1.1:=by
  unfold Yt at h ⊢
  split at h
  · rename_i h1; rw[if_pos h1]; exact h1.2
  · cases h
theorem Ub (h:okB c x.1 x.2=false):Zz c x=(WS,false):=QjJ (QrB h)
theorem Qc0 (h1:okB c x.1 x.2=true)(h:(c.2.2.any fun a:DAr=>Zs (Yj c x.1 x.2) a&&XE c a.2.1)=true):Zz c x=(WS,false):=QjJ (Qmx (by rw[← JS h1]; exact h))
theorem QhD (h1:okB c x.1 x.2=true)(h:(c.2.2.any fun a:DAr=>Zs (Yj c x.1 x.2) a&&XE c a.2.1)=false):
    Zz c x=((Yt c (Z5 c) (Yj c x.1 x.2)).1.1,(Yt c (Z5 c) (Yj c x.1 x.2)).2&&decide (Vx (Yt c (Z5 c) (Yj c x.1 x.2)).1.1≤Vx c)):=by
  rw[Qhg (Qhq h1 (by rw[← JS h1]; exact h)),JS h1]
theorem Qfu (h1:okB c x.1 x.2=true)(h:(c.2.2.any fun a:DAr=>Zs (Yj c x.1 x.2) a&&XE c a.2.1)=false):(Yt c (Z5 c) (Yj c x.1 x.2)).1.1=(Zz c x).1:=by rw[QhD h1 h]
theorem QuV (h1:okB c x.1 x.2=true)(h:(c.2.2.any fun a:DAr=>Zs (Yj c x.1 x.2) a&&XE c a.2.1)=false)(h2:(Yt c (Z5 c) (Yj c x.1 x.2)).2=false):false=(Zz c x).2:=by rw[QhD h1 h,h2]; rfl
theorem QuW (h1:okB c x.1 x.2=true)(h:(c.2.2.any fun a:DAr=>Zs (Yj c x.1 x.2) a&&XE c a.2.1)=false)(h2:(Yt c (Z5 c) (Yj c x.1 x.2)).2=true):decide (Vx (Yt c (Z5 c) (Yj c x.1 x.2)).1.1≤Vx c)=(Zz c x).2:=by rw[QhD h1 h,h2]; rfl
theorem QcL (h:(!Jd c (Ym c (Qj c x.1 x.2)))=false):Zz c x=(WS,false):=QjJ (Qmx (by simpa using h))
theorem Qm6 (h1:okB c x.1 x.2=true)(h:(!Jd c (Ym c (Qj c x.1 x.2)))=true)(h2:(ZV c (Z5 c) (Ym c (Qj c x.1 x.2))).2=false):Zz c x=(WS,false):=by
  rw[Qhg (Qhq h1 (by simpa using h)),Qs8 h2]; rfl
theorem QsB (h1:okB c x.1 x.2=true)(h:(!Jd c (Ym c (Qj c x.1 x.2)))=true)(h2:(ZV c (Z5 c) (Ym c (Qj c x.1 x.2))).2=true):
    Zz c x=((ZV c (Z5 c) (Ym c (Qj c x.1 x.2))).1.1,decide (Vx (ZV c (Z5 c) (Ym c (Qj c x.1 x.2))).1.1≤Vx c)):=by
  rw[Qhg (Qhq h1 (by simpa using h)),Qj4 h2,h2]; rfl
theorem QoY (h1:okB c x.1 x.2=true)(h:(!Jd c (Ym c (Qj c x.1 x.2)))=true)(h2:(ZV c (Z5 c) (Ym c (Qj c x.1 x.2))).2=true):(ZV c (Z5 c) (Ym c (Qj c x.1 x.2))).1.1=(Zz c x).1:=by rw[QsB h1 h h2]
theorem Que (hs:SgOk c)(h1:okB c x.1 x.2=true)(h:(!Jd c (Ym c (Qj c x.1 x.2)))=true)(h2:(ZV c (Z5 c) (Ym c (Qj c x.1 x.2))).2=true):
    decide ((if SgOk (ZV c (Z5 c) (Ym c (Qj c x.1 x.2))).1.1 then Vx (ZV c (Z5 c) (Ym c (Qj c x.1 x.2))).1.1 else 0)≤(if SgOk c then Vx c else 0))=(Zz c x).2:=by
  have h3:SgOk (ZV c (Z5 c) (Ym c (Qj c x.1 x.2))).1.1:=by
    have:=Qmk (c:=c) (x:=x) (by rw[Qj4 h2]; exact h2)
    rw[Qj4 h2] at this; exact this
  rw[QsB h1 h h2,if_pos h3,if_pos hs]
theorem Qeb (h:¬Uv c x):YP c x=false:=by unfold YP; rw[az h]; rfl
theorem QeF (h:(Zz c x).2=false):YP c x=false:=by unfold YP; rw[h]; simp
theorem Qbi (h1:Uv c x)(h:(Zz c x).2=true):YP c x=true:=by unfold YP; rw[h,aI h1]; rfl
theorem QnJ (h:¬Uv c x):Z3 c x=0∧Yp c x=0∧YP c x=false:=⟨if_neg (by rw[Qeb h]; decide),if_neg (by rw[Qeb h]; decide),Qeb h⟩
theorem QnU (h:(Zz c x).2=false):Z3 c x=0∧Yp c x=0∧YP c x=false:=⟨if_neg (by rw[QeF h]; decide),if_neg (by rw[QeF h]; decide),QeF h⟩
theorem QoK (h1:Uv c x)(h:(Zz c x).2=true):Z3 c x=((YT (Zz c x).1).length:Int)∧Yp c x=((Zz c x).1.2.1.length:Int)∧YP c x=true:=⟨if_pos (Qbi h1 h),if_pos (Qbi h1 h),Qbi h1 h⟩
end
theorem Qs9 {c:DSg}{p r:Int×Bool}(h1:SgOk c∧(0≤p.1∧p.1≤(c.1.length:Int) - 1))(h2:SgOk c∧(0≤r.1∧r.1≤(c.1.length:Int) - 1))(h3:Ty.beq Qw p r=false):Uv c (p,r):=⟨⟨h1,h2.2⟩,fun e=>by rw[QpA,aI e] at h3; cases h3⟩
theorem QmZ {c:DSg}{p r:Int×Bool}(h:¬(SgOk c∧(0≤p.1∧p.1≤(c.1.length:Int) - 1))):¬Uv c (p,r):=fun g=>h g.1.1
theorem QlK {c:DSg}{p r:Int×Bool}(h:¬(SgOk c∧(0≤r.1∧r.1≤(c.1.length:Int) - 1))):¬Uv c (p,r):=fun g=>h ⟨g.1.1.1,g.1.2⟩
theorem QlF {c:DSg}{p r:Int×Bool}(h:Ty.beq Qw p r=true):¬Uv c (p,r):=fun g=>g.2 (by rw[QpA] at h; exact a7 h)
theorem QaW (c:(List (ByteArray×Int))×List ByteArray×(List (Int×Int×Bool×Int)))(k:Int)(sig:Int):FC Tryz.prog 284 [(true,[.dat Qo c.1, .dat Qr c.2.1, .dat QD c.2.2]),(false,[dI k]),(false,[dI sig])] [] 0 (Zk (lB (V8 c k sig))):=by
 refine Qy Tryz.func284 rfl rfl Tryz.ntmps284 fun O_ hO w0_ N0_ X_ h0_ f0_=> ?_
 refine AC.fact (Ql (x:= .tmp 1) (Qa rfl)) fun hi1=>AC.fact (Ql (x:= .tmp 2) (Qa rfl)) fun hi2=> ?_
 refine w_ ?_
 refine xbx 0 ?_
 iterate 6 refine w_ ?_
 refine AL.fact (Qp (x:= .tmp 10) (Qa rfl)) fun hl3=> ?_
 iterate 4 refine w_ ?_
 refine Qm (fun m_ s_=>∃(i:Nat),i≤c.2.2.length∧m_=c.2.2.length - i∧(∀j,j < i→∀a,c.2.2[j]? =some a→¬(a.1=k∧a.2.1=sig))∧s_=⟨[(1,lI k),(2,lI sig),(10,lf (.dat QD c.2.2)),(11,lI (c.2.2.length:Int)),(12,lI (i:Int))],[]⟩) ⟨0,ap _,rfl,(fun j hj=>absurd hj (b7 j)),rfl⟩ ?_ ?_
 exact wo []
 rintro m_ s_ ⟨i,hk4,hm5,hno,rfl⟩
 iterate 4 refine w_ ?_
 cases hb6:(decide ((i:Int) < (c.2.2.length:Int)))
 have hb6':=a6 hb6
 iterate 7 refine w_ ?_
 subst hO
 have e7:(false:Bool)=(V8 c k sig):=by
  first | exact QtG hno (by omega)
 exact Qe (Res.one rfl (Qb rfl)) (by rw[← e7] <;> rfl) rfl
 have hb6':=a7 hb6
 iterate 5 refine w_ ?_
 obtain ⟨x8,hx9⟩:=gx c.2.2 i
 iterate 2 refine w_ ?_
 refine lc (xal 1 QA Za) ?_
 iterate 5 refine w_ ?_
 refine AL.fact (Ql (x:= .tmp 17) (Qa rfl)) fun hi10=> ?_
 iterate 3 refine w_ ?_
 cases hb11:(decide (x8.1=k))
 have hb11':=a6 hb11
 iterate 12 refine w_ ?_
 refine Qc<|QE ⟨i+1,by omega,rfl,(YM hno hx9 (by first | (exact fun g=>absurd g.1 ‹_›) | (exact fun g=>absurd g.2 ‹_›))),rfl⟩ (by omega) ?_
 exact wo []
 have hb11':=a7 hb11
 iterate 6 refine w_ ?_
 cases hb12:(decide (x8.2.1=sig))
 have hb12':=a6 hb12
 iterate 6 refine w_ ?_
 refine Qc<|QE ⟨i+1,by omega,rfl,(YM hno hx9 (by first | (exact fun g=>absurd g.1 ‹_›) | (exact fun g=>absurd g.2 ‹_›))),rfl⟩ (by omega) ?_
 exact wo []
 have hb12':=a7 hb12
 iterate 5 refine w_ ?_
 subst hO
 have e13:(true:Bool)=(V8 c k sig):=by
  exact Qrv hx9 ‹_› ‹_›
 exact Qe (Res.one rfl (Qb rfl)) (by rw[← e13] <;> rfl) rfl
theorem Um (c:(List (ByteArray×Int))×List ByteArray×(List (Int×Int×Bool×Int)))(k:Int)(h8:c.1.length≤8):FC Tryz.prog 204 [(true,[.dat Qo c.1, .dat Qr c.2.1, .dat QD c.2.2]),(false,[dI k])] [] 0 (Zk (lf (dS (Xa c k c.1.length)))):=by
 refine Qy Tryz.func204 rfl rfl Tryz.ntmps204 fun O_ hO w0_ N0_ X_ h0_ f0_=> ?_
 refine AC.fact (Ql (x:= .tmp 1) (Qa rfl)) fun hi1=> ?_
 refine w_ ?_
 refine xbx 0 ?_
 iterate 9 refine w_ ?_
 refine AL.fact (Qp (x:= .tmp 9) (Qa rfl)) fun hl2=> ?_
 iterate 4 refine w_ ?_
 refine Qm (fun m_ s_=>∃(i:Nat),i≤c.1.length∧m_=c.1.length - i∧s_=⟨[(1,lI k),(2,lP 0 0),(4,lf (dS (⟨#[]⟩:ByteArray))),(5,lf (dS (Xa c k i))),(9,lf (.dat Qo c.1)),(10,lI (c.1.length:Int)),(11,lI (i:Int))],[(0,some (.box 52 [.dat Qo c.1, .dat Qr c.2.1, .dat QD c.2.2]))]⟩) ⟨0,ap _,rfl,rfl⟩ ?_ ?_
 exact Wk.of [] rfl ⟨rfl,rfl,rfl,(show some (lf (dS (⟨#[]⟩:ByteArray)))=some (lf (dS (Xa c k 0))) from congrArg (fun z_=>some (lf (dS z_))) (rfl)),rfl,rfl,rfl,trivial⟩ ⟨rfl,trivial⟩ rfl rfl
 rintro m_ s_ ⟨i,hk4,hm5,rfl⟩
 have hal:=Qqf (c:=c) (q:=k) (i:=i)
 have hn1:(⟨#[UInt8.ofNat (48+(i:Int)).toNat]⟩:ByteArray).size=1:=rfl
 have hn2:(⟨#[44]⟩:ByteArray).size=1:=rfl
 have hn3:((⟨#[UInt8.ofNat (48+(i:Int)).toNat]⟩:ByteArray)++(⟨#[44]⟩:ByteArray)).size=2:=by rw[aU]; rfl
 iterate 4 refine w_ ?_
 cases hb6:(decide ((i:Int) < (c.1.length:Int)))
 have hb6':=a6 hb6
 iterate 8 refine w_ ?_
 subst hO
 have e7:(Xa c k i:ByteArray)=(Xa c k c.1.length):=by
  (congr 1; omega)
 exact Qe (Res.one rfl (Qb rfl)) (by rw[e7] <;> rfl) rfl
 have hb6':=a7 hb6
 iterate 6 refine w_ ?_
 obtain ⟨sg,hx9⟩:=gx c.1 i
 iterate 2 refine w_ ?_
 refine lc (xal 1 QK Vp) ?_
 iterate 6 refine w_ ?_
 refine AL.fact (Ql (x:= .tmp 17) (Qa rfl)) fun hi10=> ?_
 iterate 2 refine w_ ?_
 cases hb11:(!decide (sg.2=1))
 have hb11':(sg.2=1):=QT hb11
 iterate 12 refine w_ ?_
 refine Qc<|QE ⟨i+1,by omega,rfl,rfl⟩ (by omega) ?_
 exact Wk.of [] rfl ⟨rfl,rfl,rfl,(show some (lf (dS (Xa c k i)))=some (lf (dS (Xa c k (i+1)))) from congrArg (fun z_=>some (lf (dS z_))) (by first | exact Qe8 hx9 ‹_› ‹_› | exact Qe6 hx9 ‹_› | exact QeO hx9 ‹_› ‹_›)),rfl,rfl,rfl,trivial⟩ ⟨rfl,trivial⟩ rfl rfl
 have hb11':¬(sg.2=1):=Q0 hb11
 iterate 3 refine w_ ?_
 refine lgy rfl rfl (dK (QaW c k (i:Int)) Qk1) ?_
 iterate 2 refine w_ ?_
 cases hb13:(V8 c k (i:Int))
 iterate 6 refine w_ ?_
 refine Qc<|QE ⟨i+1,by omega,rfl,rfl⟩ (by omega) ?_
 exact Wk.of [] rfl ⟨rfl,rfl,rfl,(show some (lf (dS (Xa c k i)))=some (lf (dS (Xa c k (i+1)))) from congrArg (fun z_=>some (lf (dS z_))) (by first | exact Qe8 hx9 ‹_› ‹_› | exact Qe6 hx9 ‹_› | exact QeO hx9 ‹_› ‹_›)),rfl,rfl,rfl,trivial⟩ ⟨rfl,trivial⟩ rfl rfl
 iterate 4 refine w_ ?_
 refine lc (dK (Hq (i:Int) (by omega)) QdU) ?_
 refine lc (ZR (Qa rfl) (Evl.str rfl) rfl (by omega))<|lc (ZR (Qa rfl) (Qa rfl) rfl (by omega)) ?_
 refine w_ ?_
 refine Qc ?_
 iterate 4 refine w_ ?_
 refine Qc<|QE ⟨i+1,by omega,rfl,rfl⟩ (by omega) ?_
 exact Wk.of [] rfl ⟨rfl,rfl,rfl,(show some (lf (dS ((Xa c k i)++((⟨#[UInt8.ofNat (48+(i:Int)).toNat]⟩:ByteArray)++(⟨#[44]⟩:ByteArray)))))=some (lf (dS (Xa c k (i+1)))) from congrArg (fun z_=>some (lf (dS z_))) (by first | exact Qe8 hx9 ‹_› ‹_› | exact Qe6 hx9 ‹_› | exact QeO hx9 ‹_› ‹_›)),rfl,rfl,rfl,trivial⟩ ⟨rfl,trivial⟩ rfl rfl
theorem Qac (c:(List (ByteArray×Int))×List ByteArray×(List (Int×Int×Bool×Int)))(hs:SgW c):FC Tryz.prog 102 [(true,[.dat Qo c.1, .dat Qr c.2.1, .dat QD c.2.2])] [] 0 (Xe 95 QI (YT c)):=by
 have hn3:=hs.some_
 have hfw:=hs.few
 have hs8:=hs.sig8
 refine Qy Tryz.func102 rfl rfl Tryz.ntmps102 fun O_ hO w0_ N0_ X_ h0_ f0_=> ?_
 refine w_ ?_
 refine xbx 0 ?_
 iterate 9 refine w_ ?_
 refine AL.fact (Qp (x:= .tmp 7) (Qa rfl)) fun hl1=> ?_
 iterate 4 refine w_ ?_
 refine AC.wk (Wk.nilS 1 3 95 QI rfl (Fresh.of rfl) (nlr rfl)) ?_
 refine Qm (fun m_ s_=>∃(i:Nat),i≤c.2.1.length∧m_=c.2.1.length - i∧s_=⟨[(1,lP 0 0),(2,lf (.val (.slice none 0 0))),(3,lR 2),(8,lI (c.2.1.length:Int)),(9,lI (i:Int))],[(0,some (.box 52 [.dat Qo c.1, .dat Qr c.2.1, .dat QD c.2.2])),(2,some (.arr 95 QI (Xu c (QaH c) i)))]⟩) ⟨0,ap _,rfl,rfl⟩ ?_ ?_
 exact wp [(2,1)] ⟨rfl,(Qh (rfl)),trivial⟩
 rintro m_ s_ ⟨i,hk2,hm3,rfl⟩
 have hal:=Qea (c:=c) (f:=QaH c) (i:=i) hn3.2
 iterate 4 refine w_ ?_
 cases hb4:(decide ((i:Int) < (c.2.1.length:Int)))
 have hb4':=a6 hb4
 iterate 8 refine w_ ?_
 subst hO
 refine Zc (e:=QI) (xs:=(Xu c (QaH c) i)) (Res.one rfl (Qb rfl)) rfl ?_
 (congr 1; omega)
 have hb4':=a7 hb4
 iterate 14 refine w_ ?_
 refine Qm (fun m_ s_=>∃(m:Int) (out:List (List Int)),m_=((c.2.1.length:Int) - m).toNat∧((i:Int)+1≤m∧m≤(c.2.1.length:Int))∧(out=Xu c (QaH c) i++X2 c (QaH c) i m.toNat)∧s_=⟨[(1,lP 0 0),(2,lf (.val (.slice none 0 0))),(3,lR 3),(4,lI (i:Int)),(5,lI m),(8,lI (c.2.1.length:Int)),(9,lI (i:Int)),(10,lB true),(11,lI (i:Int)),(12,lI (i:Int)),(13,lI ((i:Int)+1))],[(0,some (.box 52 [.dat Qo c.1, .dat Qr c.2.1, .dat QD c.2.2])),(3,some (.arr 95 QI out))]⟩) ⟨(i:Int)+1,Xu c (QaH c) i,rfl,(by omega),(by rw[show ((i:Int)+1).toNat=i+1 by omega,Qff,bo]),rfl⟩ ?_ ?_
 exact wp [(3,2)] ⟨rfl,(Qh (by first | rfl | simp)),trivial⟩
 rintro m_ s_ ⟨m,out,hm6,hm,hO1,rfl⟩
 have hol:out.length≤100000:=by rw[hO1,aa]; have:=QdK (c:=c) (f:=QaH c) (i:=i) (k:=m.toNat); have:=hal (by omega); omega
 have hmn:((m.toNat:Nat):Int)=m:=by omega
 iterate 5 refine w_ ?_
 refine AL.fact (Qp (x:= .tmp 16) (Qa rfl)) fun hl7=> ?_
 iterate 3 refine w_ ?_
 cases hb8:(decide (m < (c.2.1.length:Int)))
 have hb8':=a6 hb8
 iterate 6 refine w_ ?_
 refine Qc<|QE ⟨i+1,by omega,rfl,rfl⟩ (by omega) ?_
 exact wp [(2,3)] ⟨rfl,(Qh ((by rw[hO1]; exact QsC (by omega) (by omega)))),trivial⟩
 have hb8':=a7 hb8
 iterate 4 refine w_ ?_
 obtain ⟨ci,hx10⟩:=gx c.2.1 i
 have hci:=hx10
 obtain ⟨cm,hx12⟩:=gx c.2.1 ((m).toNat)
 have hcm:=hx12
 cases hb13:(decide (ci=cm))
 have hb13':=a6 hb13
 apply dW [io 21 _,io 22 _,io 23 _,io 24 _,io 25 _,io 26 _,io 27 _,io 28 _,io 29 _,io 30 _,io 31 (lB false),io 32 _,io 33 _,io 34 _,io 35 _,io 36 _,io 37 _,io 38 _,io 39 _,io 40 _] [0,0,3,0,0,31,31,127,31,31,0,0,0,4096,0,28672,61440,0,0,0]
 iterate 10 refine z_ ?_
 refine zz (fun _ h_=>ac (QL (hb13) (VG (h_.v rfl) (h_.v rfl) rfl)) rfl) ?_
 iterate 9 refine z_ ?_
 exact zN
 iterate 7 refine w_ ?_
 refine Qc<|QE ⟨(m+1),out,rfl,(by omega),(by rw[hO1]; first | exact QlM (by omega) hcm hci ‹_› (Qhl hs8 (by rw[hmn]; assumption)) | exact QlJ (by omega) hcm hci ‹_› | exact Qo2 (by omega) (QjD hs8 (by rw[hmn]; assumption))),rfl⟩ (by omega) ?_
 exact wo []
 have hb13':=a7 hb13
 apply dW [io 21 _,io 22 _,io 23 _,io 24 _,io 25 _,io 26 _,io 27 _,io 28 _,io 29 _,io 30 _,io 31 (lB true),io 32 _,io 33 _,io 34 _,io 35 (lf (dS (Xa c (i:Int) c.1.length))),io 36 _,io 37 _,io 38 (lf (dS (Xa c m c.1.length))),io 39 _,io 40 _] [0,0,3,0,0,31,31,127,31,31,0,0,0,4096,0,28672,61440,0,0,0]
 iterate 10 refine z_ ?_
 refine zz (fun _ h_=>ac (QL (hb13) (VG (h_.v rfl) (h_.v rfl) rfl)) rfl) ?_
 iterate 3 refine z_ ?_
 refine zz (fun _ h_=>day rfl (h_.k rfl) (dK (Um c (i:Int) (by omega)) Qe2) rfl) ?_
 iterate 2 refine z_ ?_
 refine zz (fun _ h_=>day rfl (h_.k rfl) (dK (Um c m (by omega)) Qe2) rfl) ?_
 iterate 2 refine z_ ?_
 exact zN
 cases hb14:(!decide ((Xa c (i:Int) c.1.length)=(Xa c m c.1.length)))
 have hb14':((Xa c (i:Int) c.1.length)=(Xa c m c.1.length)):=QT hb14
 iterate 7 refine w_ ?_
 refine Qc<|QE ⟨(m+1),out,rfl,(by omega),(by rw[hO1]; first | exact QlM (by omega) hcm hci ‹_› (Qhl hs8 (by rw[hmn]; assumption)) | exact QlJ (by omega) hcm hci ‹_› | exact Qo2 (by omega) (QjD hs8 (by rw[hmn]; assumption))),rfl⟩ (by omega) ?_
 exact wo []
 have hb14':¬((Xa c (i:Int) c.1.length)=(Xa c m c.1.length)):=Q0 hb14
 iterate 5 refine w_ ?_
 refine lc (dBs 4 (e:= .int) YD) ?_
 refine lc (dBs 5 (e:=QI) Qbx (hab:=by exact ⟨_,_,_,_,rfl,(.inl ⟨_,rfl,rfl,rfl⟩),⟨rfl,rfl⟩,rfl⟩)) ?_
 refine lc (dA 6 Qpw) ?_
 refine w_ ?_
 refine Qc ?_
 iterate 5 refine w_ ?_
 refine Qc<|QE ⟨(m+1),(out++([[(i:Int),m]])),rfl,(by omega),(by rw[hO1]; first | exact QlM (by omega) hcm hci ‹_› (Qhl hs8 (by rw[hmn]; assumption)) | exact QlJ (by omega) hcm hci ‹_› | exact Qo2 (by omega) (QjD hs8 (by rw[hmn]; assumption))),rfl⟩ (by omega) ?_
 exact wp [(3,6)] ⟨rfl,(Qh (by first | rfl | simp)),trivial⟩
theorem Qbv (c:(List (ByteArray×Int))×List ByteArray×(List (Int×Int×Bool×Int)))(p:Int×Bool)(r:Int×Bool)[∀c,Decidable (SgOk c)][∀s,Decidable (Zq s)]:FC Tryz.prog 97 [(true,[.dat Qo c.1, .dat Qr c.2.1, .dat QD c.2.2]),(true,[dI p.1,dB p.2]),(true,[dI r.1,dB r.2])] [] 0 (Is (PV.tup [(false,[.ref 0]),(false,[dB (decide (Uv c (p,r)))])]) [(0,some (.arr 3 .int (if Uv c (p,r) then Qj c p r else [])))]):=by
 refine Qy Tryz.func97 rfl rfl Tryz.ntmps97 fun O_ hO w0_ N0_ X_ h0_ f0_=> ?_
 refine AC.fact (QH (x:= .tmp 1) (i:=0) (Qf rfl) rfl) fun hi1=>AC.fact (QH (x:= .tmp 2) (i:=0) (Qf rfl) rfl) fun hi2=> ?_
 refine w_ ?_
 refine xbx 0 ?_
 refine xbx 1 ?_
 refine xbx 2 ?_
 iterate 8 refine w_ ?_
 refine lc (dK (Up c p.1) Qe4) ?_
 iterate 2 refine w_ ?_
 cases hb3:(decide (SgOk c∧0≤p.1∧p.1≤(c.1.length:Int) - 1))
 have hb3':=a6 hb3
 iterate 17 refine w_ ?_
 refine AC.wk (Wk.nilS 3 6 3 .int rfl (Fresh.of rfl) (nlr rfl))<|Zf ?_
 subst hO
 have e4:(false:Bool)=(decide (Uv c (p,r))):=by
  exact (az (QmZ ‹_›)).symm
 exact QF _ _ [(0,3)] (QM rfl (Qb rfl) (Qb rfl)) (by rw[← e4] <;> rfl) ⟨(Qh (by (rw[if_neg (QmZ ‹_›)]; done))),trivial⟩ rfl rfl
 have hb3':=a7 hb3
 iterate 3 refine w_ ?_
 refine lgy rfl rfl (dK (Up c r.1) Qe4) ?_
 iterate 3 refine w_ ?_
 cases hb5:(decide (SgOk c∧0≤r.1∧r.1≤(c.1.length:Int) - 1))
 have hb5':=a6 hb5
 iterate 10 refine w_ ?_
 refine AC.wk (Wk.nilS 4 6 3 .int rfl (Fresh.of rfl) (nlr rfl))<|Zf ?_
 subst hO
 have e6:(false:Bool)=(decide (Uv c (p,r))):=by
  exact (az (QlK ‹_›)).symm
 exact QF _ _ [(0,4)] (QM rfl (Qb rfl) (Qb rfl)) (by rw[← e6] <;> rfl) ⟨(Qh (by (rw[if_neg (QlK ‹_›)]; done))),trivial⟩ rfl rfl
 have hb5':=a7 hb5
 iterate 2 refine w_ ?_
 refine lgy rfl rfl (U4 Ux Jw (Qf rfl) (Qf rfl) (p:=p) (q:=r) rfl rfl rfl) ?_
 iterate 2 refine w_ ?_
 cases hb7:(Ty.beq Qw p r)
 iterate 2 refine w_ ?_
 refine Yd ?_
 have hask:Uv c (p,r):=Qs9 ‹_› ‹_› ‹_›
 have hs:=hask.1.1.1
 have hr:∀a∈c.2.2,InR c.2.1.length a:=fun a ha=>Xi (hs.arcs a ha)
 have hfw:=hs.few
 have hn3:=hs.some_
 iterate 4 refine w_ ?_
 refine lc (dO 5 (UL c p r hr (by omega)) Qdv) ?_
 iterate 4 refine w_ ?_
 subst hO
 have e8:(true:Bool)=(decide (Uv c (p,r))):=by
  exact (aI hask).symm
 exact QF _ _ [(0,5)] (QM rfl (Qb rfl) (Qb rfl)) (by rw[← e8] <;> rfl) ⟨(Qh (by (rw[if_pos hask]; done))),trivial⟩ rfl rfl
 iterate 5 refine w_ ?_
 refine AC.wk (Wk.nilS 6 6 3 .int rfl (Fresh.of rfl) (nlr rfl))<|Zf ?_
 subst hO
 have e9:(false:Bool)=(decide (Uv c (p,r))):=by
  exact (az (QlF ‹_›)).symm
 exact QF _ _ [(0,6)] (QM rfl (Qb rfl) (Qb rfl)) (by rw[← e9] <;> rfl) ⟨(Qh (by (rw[if_neg (QlF ‹_›)]; done))),trivial⟩ rfl rfl
theorem Hw (c:(List (ByteArray×Int))×List ByteArray×(List (Int×Int×Bool×Int)))(x:(Int×Bool)×(Int×Bool))[∀c,Decidable (SgOk c)][∀s,Decidable (Zq s)](hs:SgOk c):FC Tryz.prog 98 [(true,[.dat Qo c.1, .dat Qr c.2.1, .dat QD c.2.2]),(true,[dI x.1.1,dB x.1.2,dI x.2.1,dB x.2.2])] [] 0 (Is (PV.tup [(true,[.ref 0, .ref 1, .ref 2]),(false,[dB ((Zz c x).2)])]) [(0,some (.arr 90 QK (((Zz c x).1).1))),(1,some (.arr 9 .str (((Zz c x).1).2.1))),(2,some (.arr 106 QA (((Zz c x).1).2.2)))]):=by
 have hr:∀a∈c.2.2,InR c.2.1.length a:=fun a ha=>Xi (hs.arcs a ha)
 have hn3:=hs.some_
 have hfw:=hs.few
 have hs8:=hs.sigs.2.2
 have hnl:=Qil (c:=c)
 refine Qy Tryz.func98 rfl rfl Tryz.ntmps98 fun O_ hO w0_ N0_ X_ h0_ f0_=> ?_
 refine AC.fact (QH (x:= .tmp 1) (i:=0) (Qf rfl) rfl) fun hi1=>AC.fact (QH (x:= .tmp 1) (i:=2) (Qf rfl) rfl) fun hi2=> ?_
 refine w_ ?_
 refine xbx 0 ?_
 refine xbx 1 ?_
 refine lc (xal 2 Wu ZS) ?_
 iterate 8 refine w_ ?_
 refine lc (dK (Jv c x.1 x.2 hs) Qkx) ?_
 iterate 3 refine w_ ?_
 refine lc (xal 3 .str U2) ?_
 iterate 8 refine w_ ?_
 cases hb3:(okB c x.1 x.2)
 iterate 8 refine w_ ?_
 refine lc (Qi Y4 rfl (ah.1 rfl) rfl rfl) ?_
 iterate 3 refine w_ ?_
 refine AC.wk (Qv 4 (p:=2) (off:=0) 90 QK rfl rfl (Fresh.of rfl) (nlr rfl))<|AC.wk (Qv 5 (p:=2) (off:=1) 9 .str rfl rfl (Fresh.of rfl) (nlr rfl))<|AC.wk (Qv 6 (p:=2) (off:=2) 106 QA rfl rfl (Fresh.of rfl) (nlr rfl))<|Zf ?_
 subst hO
 have e4:(false:Bool)=((Zz c x).2):=by
  (rw[Ub ‹_›]; done)
 exact QF _ _ [(0,4),(1,5),(2,6)] (QM rfl (Qz rfl rfl Q3 rfl) (Qb rfl)) (by rw[← e4] <;> rfl) ⟨(Qh (by (rw[Ub ‹_›]; rfl))),(Qh (by (rw[Ub ‹_›]; rfl))),(Qh (by (rw[Ub ‹_›]; rfl))),trivial⟩ rfl rfl
 iterate 2 refine w_ ?_
 refine lgy rfl rfl (Xb ⟨_,_,rfl,(Qa rfl),rfl,⟨_,_,rfl,(Qa rfl),rfl,rfl⟩⟩ rfl) ?_
 refine lgy rfl rfl (dP 7 [(0,3),(1,0)] (V6 c.2.2 (Yj c x.1 x.2) c (fun a ha=>by rw[JS ‹_›]; exact ⟨(QbD hs).at_ ha,Ud (hs.arcs a ha).2.2.1⟩)) Qdy) ?_
 iterate 2 refine w_ ?_
 cases hb5:(c.2.2.any (fun a:DAr=>Zs (Yj c x.1 x.2) a&&XE c a.2.1))
 iterate 2 refine w_ ?_
 apply dW [io 29 _,io 30 _,io 31 (lf (dS (Z5 c))),io 32 _,⟨some 33,PV.tup [(true,[.ref 9, .ref 10, .ref 11]),(false,[dB ((Yt c (Z5 c) (Yj c x.1 x.2)).2)])],[(9,some (.arr 90 QK (((Yt c (Z5 c) (Yj c x.1 x.2)).1.1).1))),(10,some (.arr 9 .str (((Yt c (Z5 c) (Yj c x.1 x.2)).1.1).2.1))),(11,some (.arr 106 QA (((Yt c (Z5 c) (Yj c x.1 x.2)).1.1).2.2)))]⟩,io 28 _,io 34 _,io 35 _,⟨some 8,lP 12 0,[(12,some (.box 52 [.val (.slice none 0 0), .val (.slice none 0 0), .val (.slice none 0 0)]))]⟩,⟨none,lf (.val undef),[(12,some (.box 52 [.ref 9, .ref 10, .ref 11]))]⟩,io 9 _] [0,1,1,7,0,0,0,64,255,128,0]
 iterate 2 refine z_ ?_
 refine zz (fun _ h_=>ac (dK (QaS c) Qk7) rfl) ?_
 refine z_ ?_
 refine zz (fun _ h_=>ac (dG 9 (Jx c (Z5 c) (Yj c x.1 x.2) (by omega)) Qm7) rfl) ?_
 iterate 3 refine z_ ?_
 refine zz (fun _ h_=>ac (Xp 12 Wu ZS rfl rfl (h_.fr 12 rfl) (nlr rfl)) rfl)<|zz (fun _ h_=>ac (QZ (h_.v rfl) (h_.en 12 rfl) (h_.w rfl) (by show Q6 _ [.ref 9, .ref 10, .ref 11]=true; simp only[Q6,Wx,aW,bc]; rw[(h_.en 9 rfl),(h_.en 10 rfl),(h_.en 11 rfl)]; rfl) Q3 rfl) rfl) ?_
 refine z_ ?_
 exact zN
 cases hb6:((Yt c (Z5 c) (Yj c x.1 x.2)).2)
 apply dW [io 36 _,io 37 _,io 38 _,io 39 _,io 40 _,io 41 _,io 42 _,io 43 _,io 44 _,⟨none,lf (.val undef),[(2,some (.box 52 [.ref 9, .ref 10, .ref 11]))]⟩,io 5 _] [0,1,1,1,1,25,1,1,1,384,0]
 iterate 9 refine z_ ?_
 refine zz (fun _ h_=>ac (QZ (h_.v rfl) (h_.en 2 rfl) (h_.w rfl) (by show Q6 _ [.ref 9, .ref 10, .ref 11]=true; simp only[Q6,Wx,aW,bc]; rw[(h_.en 9 rfl),(h_.en 10 rfl),(h_.en 11 rfl)]; rfl) Q3 rfl) rfl) ?_
 refine z_ ?_
 exact zN
 refine w_ ?_
 subst hO
 have e7:(false:Bool)=((Zz c x).2):=by
  exact QuV ‹_› ‹_› ‹_›
 exact QF _ _ [(0,9),(1,10),(2,11)] (QM rfl (Qz rfl rfl Q3 rfl) (Qb rfl)) (by rw[← e7] <;> rfl) ⟨(Qh (by (rw[Qfu ‹_› ‹_›]; done))),(Qh (by (rw[Qfu ‹_› ‹_›]; done))),(Qh (by (rw[Qfu ‹_› ‹_›]; done))),trivial⟩ rfl rfl
 apply dW [io 36 _,io 37 _,io 38 _,io 39 _,io 40 (lI (Vx ((Yt c (Z5 c) (Yj c x.1 x.2)).1.1))),io 41 _,io 42 (lI (Vx c)),io 43 _,io 44 _,⟨none,lf (.val undef),[(2,some (.box 52 [.ref 9, .ref 10, .ref 11]))]⟩,io 5 _] [0,1,1,1,1,25,1,1,1,384,0]
 iterate 4 refine z_ ?_
 refine zz (fun _ h_=>day rfl (h_.k rfl) (XA (VJ ((Yt c (Z5 c) (Yj c x.1 x.2)).1.1) (by first | exact hs | exact QlH ‹_›)) Qeg ⟨_,_,rfl,(K6 (h_.w rfl) ⟨_,_,rfl, .inr ⟨_,_,_,_,rfl,(h_.en 9 rfl),rfl⟩,⟨_,_,rfl, .inr ⟨_,_,_,_,rfl,(h_.en 10 rfl),rfl⟩,⟨_,_,rfl, .inr ⟨_,_,_,_,rfl,(h_.en 11 rfl),rfl⟩,rfl⟩⟩⟩),rfl⟩ rfl rfl rfl) rfl) ?_
 refine z_ ?_
 refine zz (fun _ h_=>day rfl (h_.k rfl) (dK (VJ c (by first | exact hs | exact QlH ‹_›)) Qeg) rfl) ?_
 iterate 2 refine z_ ?_
 refine zz (fun _ h_=>ac (QZ (h_.v rfl) (h_.en 2 rfl) (h_.w rfl) (by show Q6 _ [.ref 9, .ref 10, .ref 11]=true; simp only[Q6,Wx,aW,bc]; rw[(h_.en 9 rfl),(h_.en 10 rfl),(h_.en 11 rfl)]; rfl) Q3 rfl) rfl) ?_
 refine z_ ?_
 exact zN
 refine w_ ?_
 subst hO
 have e8:(decide ((Vx ((Yt c (Z5 c) (Yj c x.1 x.2)).1.1))≤(Vx c)):Bool)=((Zz c x).2):=by
  exact QuW ‹_› ‹_› ‹_›
 exact QF _ _ [(0,9),(1,10),(2,11)] (QM rfl (Qz rfl rfl Q3 rfl) (Qb rfl)) (by rw[e8] <;> rfl) ⟨(Qh (by (rw[Qfu ‹_› ‹_›]; done))),(Qh (by (rw[Qfu ‹_› ‹_›]; done))),(Qh (by (rw[Qfu ‹_› ‹_›]; done))),trivial⟩ rfl rfl
 iterate 2 refine w_ ?_
 refine lc (Qi Y4 rfl (ah.1 rfl) rfl rfl) ?_
 iterate 3 refine w_ ?_
 refine AC.wk (Qv 13 (p:=2) (off:=0) 90 QK rfl rfl (Fresh.of rfl) (nlr rfl))<|AC.wk (Qv 14 (p:=2) (off:=1) 9 .str rfl rfl (Fresh.of rfl) (nlr rfl))<|AC.wk (Qv 15 (p:=2) (off:=2) 106 QA rfl rfl (Fresh.of rfl) (nlr rfl))<|Zf ?_
 subst hO
 have e9:(false:Bool)=((Zz c x).2):=by
  (rw[Qc0 ‹_› ‹_›]; done)
 exact QF _ _ [(0,13),(1,14),(2,15)] (QM rfl (Qz rfl rfl Q3 rfl) (Qb rfl)) (by rw[← e9] <;> rfl) ⟨(Qh (by (rw[Qc0 ‹_› ‹_›]; rfl))),(Qh (by (rw[Qc0 ‹_› ‹_›]; rfl))),(Qh (by (rw[Qc0 ‹_› ‹_›]; rfl))),trivial⟩ rfl rfl
theorem KN (c:(List (ByteArray×Int))×List ByteArray×(List (Int×Int×Bool×Int)))(x:(Int×Bool)×(Int×Bool))[∀c,Decidable (SgOk c)][∀s,Decidable (Zq s)](hs:SgOk c):FC Tryz.prog 101 [(true,[.dat Qo c.1, .dat Qr c.2.1, .dat QD c.2.2]),(true,[dI x.1.1,dB x.1.2,dI x.2.1,dB x.2.2])] [] 0 (Is (PV.tup [(true,[.ref 0, .ref 1, .ref 2]),(false,[dB ((Zz c x).2)])]) [(0,some (.arr 90 QK (((Zz c x).1).1))),(1,some (.arr 9 .str (((Zz c x).1).2.1))),(2,some (.arr 106 QA (((Zz c x).1).2.2)))]):=by
 have hr:∀a∈c.2.2,InR c.2.1.length a:=fun a ha=>Xi (hs.arcs a ha)
 have hn3:=hs.some_
 have hfw:=hs.few
 have hs8:=hs.sigs.2.2
 have hnl:=Qil (c:=c)
 refine Qy Tryz.func101 rfl rfl Tryz.ntmps101 fun O_ hO w0_ N0_ X_ h0_ f0_=> ?_
 refine AC.fact (QH (x:= .tmp 1) (i:=0) (Qf rfl) rfl) fun hi1=>AC.fact (QH (x:= .tmp 1) (i:=2) (Qf rfl) rfl) fun hi2=> ?_
 refine w_ ?_
 refine xbx 0 ?_
 refine xbx 1 ?_
 refine lc (xal 2 Wu ZS) ?_
 iterate 8 refine w_ ?_
 refine lc (dK (Hm c x.1 x.2 hs) QjY) ?_
 iterate 11 refine w_ ?_
 cases hb3:(okB c x.1 x.2)
 iterate 8 refine w_ ?_
 refine lc (Qi Y4 rfl (ah.1 rfl) rfl rfl) ?_
 iterate 3 refine w_ ?_
 refine AC.wk (Qv 3 (p:=2) (off:=0) 90 QK rfl rfl (Fresh.of rfl) (nlr rfl))<|AC.wk (Qv 4 (p:=2) (off:=1) 9 .str rfl rfl (Fresh.of rfl) (nlr rfl))<|AC.wk (Qv 5 (p:=2) (off:=2) 106 QA rfl rfl (Fresh.of rfl) (nlr rfl))<|Zf ?_
 subst hO
 have e4:(false:Bool)=((Zz c x).2):=by
  (rw[Ub ‹_›]; done)
 exact QF _ _ [(0,3),(1,4),(2,5)] (QM rfl (Qz rfl rfl Q3 rfl) (Qb rfl)) (by rw[← e4] <;> rfl) ⟨(Qh (by (rw[Ub ‹_›]; rfl))),(Qh (by (rw[Ub ‹_›]; rfl))),(Qh (by (rw[Ub ‹_›]; rfl))),trivial⟩ rfl rfl
 iterate 2 refine w_ ?_
 refine lgy rfl rfl (dK (QcF c (Ym c (Qj c x.1 x.2)) (QbD (block:=Qj c x.1 x.2) hs)) Qjq) ?_
 iterate 3 refine w_ ?_
 cases hb5:(!Jd c (Ym c (Qj c x.1 x.2)))
 iterate 2 refine w_ ?_
 refine lc (Qi Y4 rfl (ah.1 rfl) rfl rfl) ?_
 iterate 3 refine w_ ?_
 refine AC.wk (Qv 6 (p:=2) (off:=0) 90 QK rfl rfl (Fresh.of rfl) (nlr rfl))<|AC.wk (Qv 7 (p:=2) (off:=1) 9 .str rfl rfl (Fresh.of rfl) (nlr rfl))<|AC.wk (Qv 8 (p:=2) (off:=2) 106 QA rfl rfl (Fresh.of rfl) (nlr rfl))<|Zf ?_
 subst hO
 have e6:(false:Bool)=((Zz c x).2):=by
  (rw[QcL ‹_›]; done)
 exact QF _ _ [(0,6),(1,7),(2,8)] (QM rfl (Qz rfl rfl Q3 rfl) (Qb rfl)) (by rw[← e6] <;> rfl) ⟨(Qh (by (rw[QcL ‹_›]; rfl))),(Qh (by (rw[QcL ‹_›]; rfl))),(Qh (by (rw[QcL ‹_›]; rfl))),trivial⟩ rfl rfl
 iterate 2 refine w_ ?_
 apply dW [io 34 _,io 35 _,io 36 (lf (dS (Z5 c))),io 37 _,⟨some 38,PV.tup [(true,[.ref 9, .ref 10, .ref 11]),(false,[.ref 12]),(false,[dB ((ZV c (Z5 c) (Ym c (Qj c x.1 x.2))).2)])],[(9,some (.arr 90 QK (((ZV c (Z5 c) (Ym c (Qj c x.1 x.2))).1.1).1))),(10,some (.arr 9 .str (((ZV c (Z5 c) (Ym c (Qj c x.1 x.2))).1.1).2.1))),(11,some (.arr 106 QA (((ZV c (Z5 c) (Ym c (Qj c x.1 x.2))).1.1).2.2))),(12,some (.arr 3 .int ((ZV c (Z5 c) (Ym c (Qj c x.1 x.2))).1.2)))]⟩,io 33 _,io 39 _,io 40 _,io 41 _,⟨some 8,lP 13 0,[(13,some (.box 52 [.val (.slice none 0 0), .val (.slice none 0 0), .val (.slice none 0 0)]))]⟩,⟨none,lf (.val undef),[(13,some (.box 52 [.ref 9, .ref 10, .ref 11]))]⟩,io 9 _,io 10 _] [0,1,1,7,0,0,0,64,192,511,384,256,0]
 iterate 2 refine z_ ?_
 refine zz (fun _ h_=>ac (dK (QcE c) Qkb) rfl) ?_
 refine z_ ?_
 refine zz (fun _ h_=>ac (dG 9 (QaA c (Z5 c) (Ym c (Qj c x.1 x.2)) (by omega)) QkS) rfl) ?_
 iterate 4 refine z_ ?_
 refine zz (fun _ h_=>ac (Xp 13 Wu ZS rfl rfl (h_.fr 13 rfl) (nlr rfl)) rfl)<|zz (fun _ h_=>ac (QZ (h_.v rfl) (h_.en 13 rfl) (h_.w rfl) (by simp only[Q6,Wx,aW,bc]; rw[(h_.en 9 rfl),(h_.en 10 rfl),(h_.en 11 rfl)]; rfl) Q3 rfl) rfl) ?_
 iterate 2 refine z_ ?_
 exact zN
 iterate 5 refine w_ ?_
 cases hb7:((ZV c (Z5 c) (Ym c (Qj c x.1 x.2))).2)
 iterate 2 refine w_ ?_
 refine lc (Qi Y4 rfl (ah.1 rfl) rfl rfl) ?_
 iterate 3 refine w_ ?_
 refine AC.wk (Qv 14 (p:=2) (off:=0) 90 QK rfl rfl (Fresh.of rfl) (nlr rfl))<|AC.wk (Qv 15 (p:=2) (off:=1) 9 .str rfl rfl (Fresh.of rfl) (nlr rfl))<|AC.wk (Qv 16 (p:=2) (off:=2) 106 QA rfl rfl (Fresh.of rfl) (nlr rfl))<|Zf ?_
 subst hO
 have e8:(false:Bool)=((Zz c x).2):=by
  (rw[Qm6 ‹_› ‹_› ‹_›]; done)
 exact QF _ _ [(0,14),(1,15),(2,16)] (QM rfl (Qz rfl rfl Q3 rfl) (Qb rfl)) (by rw[← e8] <;> rfl) ⟨(Qh (by (rw[Qm6 ‹_› ‹_› ‹_›]; rfl))),(Qh (by (rw[Qm6 ‹_› ‹_› ‹_›]; rfl))),(Qh (by (rw[Qm6 ‹_› ‹_› ‹_›]; rfl))),trivial⟩ rfl rfl
 iterate 4 refine w_ ?_
 refine lc (dK (We c) QdC) ?_
 iterate 8 refine w_ ?_
 refine lc (XA (We ((ZV c (Z5 c) (Ym c (Qj c x.1 x.2))).1.1)) QdC ⟨_,_,rfl,(K6 (Qf rfl) ⟨_,_,rfl, .inr ⟨_,_,_,_,rfl,rfl,rfl⟩,⟨_,_,rfl, .inr ⟨_,_,_,_,rfl,rfl,rfl⟩,⟨_,_,rfl, .inr ⟨_,_,_,_,rfl,rfl,rfl⟩,rfl⟩⟩⟩),rfl⟩ rfl rfl rfl) ?_
 iterate 15 refine w_ ?_
 subst hO
 have e9:(decide ((if SgOk ((ZV c (Z5 c) (Ym c (Qj c x.1 x.2))).1.1) then Vx ((ZV c (Z5 c) (Ym c (Qj c x.1 x.2))).1.1) else 0)≤(if SgOk c then Vx c else 0)):Bool)=((Zz c x).2):=by
  exact Que hs ‹_› ‹_› ‹_›
 exact QF _ _ [(0,9),(1,10),(2,11)] (QM rfl (Qz rfl rfl Q3 rfl) (Qb rfl)) (by rw[e9] <;> rfl) ⟨(Qh (by (rw[QoY ‹_› ‹_› ‹_›]; done))),(Qh (by (rw[QoY ‹_› ‹_› ‹_›]; done))),(Qh (by (rw[QoY ‹_› ‹_› ‹_›]; done))),trivial⟩ rfl rfl
theorem WG (c:(List (ByteArray×Int))×List ByteArray×(List (Int×Int×Bool×Int)))(x:(Int×Bool)×(Int×Bool))[∀c,Decidable (SgOk c)][∀s,Decidable (Zq s)]:FC Tryz.prog 28 [(true,[.dat Qo c.1, .dat Qr c.2.1, .dat QD c.2.2]),(true,[dI x.1.1,dB x.1.2,dI x.2.1,dB x.2.2])] [] 0 (Zk (PV.tup [(false,[dI (Z3 c x)]),(false,[dI (Yp c x)]),(false,[dB (YP c x)])])):=by
 refine Qy Tryz.func28 rfl rfl Tryz.ntmps28 fun O_ hO w0_ N0_ X_ h0_ f0_=> ?_
 refine AC.fact (QH (x:= .tmp 1) (i:=0) (Qf rfl) rfl) fun hi1=>AC.fact (QH (x:= .tmp 1) (i:=2) (Qf rfl) rfl) fun hi2=> ?_
 refine w_ ?_
 refine xbx 0 ?_
 refine xbx 1 ?_
 iterate 11 refine w_ ?_
 refine lc (dK (QbS c x.1 x.2) QjO) ?_
 iterate 2 refine w_ ?_
 cases hb3:(decide (((SgOk c∧0≤x.1.1∧x.1.1≤(c.1.length:Int) - 1)∧(0≤x.2.1∧x.2.1≤(c.1.length:Int) - 1))∧¬x.1=x.2))
 have hb3':=a6 hb3
 iterate 7 refine w_ ?_
 subst hO
 have e4:(0:Int)=(Z3 c x):=by
  exact Eq.symm (QnJ ‹_›).1
 have e5:(0:Int)=(Yp c x):=by
  exact Eq.symm (QnJ ‹_›).2.1
 have e6:(false:Bool)=(YP c x):=by
  exact Eq.symm (QnJ ‹_›).2.2
 exact Qe (Zu rfl (Qb rfl) (Qb rfl) (Qb rfl)) (by rw[← e4,← e5,← e6] <;> rfl) rfl
 have hb3':=a7 hb3
 iterate 5 refine w_ ?_
 refine lc (dG 2 (KN c x (by have h9:Uv c x:=‹_›; exact h9.1.1.1)) QeD) ?_
 iterate 3 refine w_ ?_
 refine lc (xal 5 Wu ZS) ?_
 iterate 8 refine w_ ?_
 cases hb7:((Zz c x).2)
 iterate 7 refine w_ ?_
 subst hO
 have e8:(0:Int)=(Z3 c x):=by
  exact Eq.symm (QnU ‹_›).1
 have e9:(0:Int)=(Yp c x):=by
  exact Eq.symm (QnU ‹_›).2.1
 have e10:(false:Bool)=(YP c x):=by
  exact Eq.symm (QnU ‹_›).2.2
 exact Qe (Zu rfl (Qb rfl) (Qb rfl) (Qb rfl)) (by rw[← e8,← e9,← e10] <;> rfl) rfl
 iterate 2 refine w_ ?_
 apply dW [io 24 _,⟨some 25,lR 6,[(6,some (.arr 95 QI (YT ((Zz c x).1))))]⟩,io 26 _,io 27 (lP 5 1),io 28 (lR 3),io 29 (lI ((((Zz c x).1).2.1).length:Int)),io 4 _,io 5 _,io 6 _] [0,0,0,7,7,7,56,0,0]
 refine z_ ?_
 refine zz (fun _ h_=>ac (Jk 6 (Qac ((Zz c x).1) (QjB ‹_›).w) Qks ⟨_,_,rfl,(K6 (h_.w rfl) ⟨_,_,rfl, .inr ⟨_,_,_,_,rfl,(h_.en 2 rfl),rfl⟩,⟨_,_,rfl, .inr ⟨_,_,_,_,rfl,(h_.en 3 rfl),rfl⟩,⟨_,_,rfl, .inr ⟨_,_,_,_,rfl,(h_.en 4 rfl),rfl⟩,rfl⟩⟩⟩),rfl⟩ rfl (h_.fr 6 rfl) (nlr rfl)) rfl) ?_
 iterate 7 refine z_ ?_
 exact zN
 refine w_ ?_
 subst hO
 have e11:(((YT ((Zz c x).1)).length:Int):Int)=(Z3 c x):=by
  exact Eq.symm (QoK ‹_› ‹_›).1
 have e12:(((((Zz c x).1).2.1).length:Int):Int)=(Yp c x):=by
  exact Eq.symm (QoK ‹_› ‹_›).2.1
 have e13:(true:Bool)=(YP c x):=by
  exact Eq.symm (QoK ‹_› ‹_›).2.2
 exact Qe (Zu rfl (Qb rfl) (Qb rfl) (Qb rfl)) (by rw[e11,e12,← e13] <;> rfl) rfl
theorem Xf (c:(List (ByteArray×Int))×List ByteArray×(List (Int×Int×Bool×Int)))(x:(Int×Bool)×(Int×Bool))[∀c,Decidable (SgOk c)][∀s,Decidable (Zq s)]:FC Tryz.prog 27 [(true,[.dat Qo c.1, .dat Qr c.2.1, .dat QD c.2.2]),(true,[dI x.1.1,dB x.1.2,dI x.2.1,dB x.2.2])] [] 0 (Zk (PV.tup [(false,[dI (Z3 c x)]),(false,[dI (Yp c x)]),(false,[dB (YP c x)])])):=by
 refine Qy Tryz.func27 rfl rfl Tryz.ntmps27 fun O_ hO w0_ N0_ X_ h0_ f0_=> ?_
 refine AC.fact (QH (x:= .tmp 1) (i:=0) (Qf rfl) rfl) fun hi1=>AC.fact (QH (x:= .tmp 1) (i:=2) (Qf rfl) rfl) fun hi2=> ?_
 refine w_ ?_
 refine xbx 0 ?_
 refine xbx 1 ?_
 iterate 11 refine w_ ?_
 refine lc (dG 2 (Qbv c x.1 x.2) QnQ) ?_
 iterate 10 refine w_ ?_
 cases hb3:(decide (Uv c (x.1,x.2)))
 have hb3':=a6 hb3
 iterate 7 refine w_ ?_
 subst hO
 have e4:(0:Int)=(Z3 c x):=by
  exact Eq.symm (QnJ ‹_›).1
 have e5:(0:Int)=(Yp c x):=by
  exact Eq.symm (QnJ ‹_›).2.1
 have e6:(false:Bool)=(YP c x):=by
  exact Eq.symm (QnJ ‹_›).2.2
 exact Qe (Zu rfl (Qb rfl) (Qb rfl) (Qb rfl)) (by rw[← e4,← e5,← e6] <;> rfl) rfl
 have hb3':=a7 hb3
 iterate 5 refine w_ ?_
 refine lc (dK (Hw c x (by have h9:Uv c x:=‹_›; exact h9.1.1.1)).frozenG Qf7) ?_
 iterate 3 refine w_ ?_
 refine lc (xal 3 Wu ZS) ?_
 iterate 8 refine w_ ?_
 cases hb7:((Zz c x).2)
 iterate 7 refine w_ ?_
 subst hO
 have e8:(0:Int)=(Z3 c x):=by
  exact Eq.symm (QnU ‹_›).1
 have e9:(0:Int)=(Yp c x):=by
  exact Eq.symm (QnU ‹_›).2.1
 have e10:(false:Bool)=(YP c x):=by
  exact Eq.symm (QnU ‹_›).2.2
 exact Qe (Zu rfl (Qb rfl) (Qb rfl) (Qb rfl)) (by rw[← e8,← e9,← e10] <;> rfl) rfl
 iterate 2 refine w_ ?_
 apply dW [io 30 _,io 31 (lf (.dat Jl (YT ((Zz c x).1)))),io 32 _,io 33 _,io 34 _,io 35 _,io 4 _,io 5 _,io 6 _] [0,0,0,7,7,7,56,0,0]
 refine z_ ?_
 refine zz (fun _ h_=>ac (dK (Un ((Zz c x).1) (QjB ‹_›).w) Qgf) rfl) ?_
 iterate 7 refine z_ ?_
 exact zN
 refine w_ ?_
 subst hO
 have e11:(((YT ((Zz c x).1)).length:Int):Int)=(Z3 c x):=by
  exact Eq.symm (QoK ‹_› ‹_›).1
 have e12:(((((Zz c x).1).2.1).length:Int):Int)=(Yp c x):=by
  exact Eq.symm (QoK ‹_› ‹_›).2.1
 have e13:(true:Bool)=(YP c x):=by
  exact Eq.symm (QoK ‹_› ‹_›).2.2
 exact Qe (Zu rfl (Qb rfl) (Qb rfl) (Qb rfl)) (by rw[e11,e12,← e13] <;> rfl) rfl
end Go.Proofs.YtjaadeknhofhpaaGreat
