/- Walks over abstract states: the graph behind an insertion, both sides; pairs of states that violate complete state coding, the reference; what an insertion costs. -/
import Derived.Test.YtndabgcpnmeeoaaGreatPUk
set_option linter.unusedSimpArgs false
set_option linter.unusedVariables false
set_option linter.unusedSectionVars false
namespace Go.Proofs.YtndabgcpnmeeoaaGreat
open Go.RowKit
set_option maxRecDepth 100000
set_option maxHeartbeats 4000000
def QsY (s:Int):ByteArray:=(⟨#[UInt8.ofNat (48+s).toNat]⟩:ByteArray)++(⟨#[44]⟩:ByteArray)
def Xi (c:DSg)(q:Int)(i:Nat):ByteArray:=((Q6 c.1 i).filter fun s=>ZT c q s).foldl (fun b s=>b++QsY s) (⟨#[]⟩:ByteArray)
section
variable {c:DSg}{as_:List DAr}{a:DAr}{i j k n:Nat}{s q:Int}{z:QM}
theorem Qfl (d:c.1[i]? =some z)(h:¬z.2=1)(b:ZT c q (i:Int)=true):Xi c q i++((⟨#[UInt8.ofNat (48+(i:Int)).toNat]⟩:ByteArray)++(⟨#[44]⟩:ByteArray))=Xi c q (i+1):=by
 unfold Xi
 rw[← V5 d h,aZ,bm]
 simp[b,QsY]
theorem Qfj (b:c.1[i]? =some z)(h:z.2=1):Xi c q i=Xi c q (i+1):=by
 unfold Xi
 rw[← HH b h]
theorem Qfk (d:c.1[i]? =some z)(h:¬z.2=1)(b:ZT c q (i:Int)=false):Xi c q i=Xi c q (i+1):=by
 unfold Xi
 rw[← V5 d h,aZ,bm]
 simp[b]
theorem Qcd:∀(l:List Int) (b:ByteArray),(l.foldl (fun b s=>b++QsY s) b).toList=b.toList++l.flatMap fun s=>[UInt8.ofNat (48+s).toNat,44]
 | [],b=>by simp
 | s :: l,b=>by
  rw[aW,Qcd l,de]
  simp only[QsY,bw,ByteArray.data_append,Array.toList_append]
  simp
theorem Qss (l:List Int):(l.flatMap fun s=>[UInt8.ofNat (48+s).toNat,44]).length=2*l.length:=by
 induction l with
 | nil=>rfl
 | cons s l b=>rw[de,aj,b,au,au,au,aH]; omega
theorem Qtx (l:List Int)(b:ByteArray):(l.foldl (fun b s=>b++QsY s) b).size=b.size+2*l.length:=by
 have h:=congrArg List.length (Qcd l b)
 rw[aj,XO,XO,Qss] at h
 exact h
theorem QkK:∀{l m:List Int},(∀x∈l,0≤x∧x≤9)→(∀x∈m,0≤x∧x≤9)→(l.flatMap fun s=>[UInt8.ofNat (48+s).toNat,44])=(m.flatMap fun s=>[UInt8.ofNat (48+s).toNat,44])→l=m
 | [],[],_,_,_=>rfl
 | [],y :: m,_,_,h=>by simp at h
 | x :: l,[],_,_,h=>by simp at h
 | x :: l,y :: m,hl,hm,h=>by
  rw[de,de] at h
  simp only[ci,cE,aC,true_and] at h
  obtain ⟨d,e⟩:=h
  have g:=hl x (az ..)
  have o:=hm y (az ..)
  have f:=congrArg UInt8.toNat d
  rw[UInt8.toNat_ofNat',UInt8.toNat_ofNat',cy (by omega),cy (by omega)] at f
  rw[QkK (fun z b=>hl z (ay _ b)) (fun z b=>hm z (ay _ b)) e,show x=y by omega]
theorem Qke (o:c.1.length≤8):Xi c (i:Int) c.1.length=Xi c (j:Int) c.1.length↔QaS c i j=false:=by
 have g:∀(f:Int→Bool),∀x∈(Q6 c.1 c.1.length).filter f,0≤x∧x≤9:=fun f x m=>by
  obtain ⟨t,rfl,p,_⟩:=KZ.1 (cn.1 m).1; omega
 unfold QaS
 rw[cB]
 constructor
 ·intro h s d
  have b:=congrArg ByteArray.toList h
  unfold Xi at b
  rw[Qcd,Qcd] at b
  have l:=QkK (g _) (g _) (List.append_cancel_left b)
  have e:(s∈(Q6 c.1 c.1.length).filter fun s=>ZT c i s)↔(s∈(Q6 c.1 c.1.length).filter fun s=>ZT c j s):=by rw[l]
  simp only[cn,d,true_and] at e
  rw[bP.2 e]; simp
 ·intro h
  unfold Xi
  congr 1
  apply dh
  intro s d
  have:=h s d
  simpa using this
theorem QrJ:(Xi c q i).size≤2*i:=by
 unfold Xi
 rw[Qtx]
 have b:((Q6 c.1 i).filter fun s=>ZT c q s).length≤(Q6 c.1 i).length:=bK ..
 have d:=KY (ss:=c.1) (k:=i)
 show 0+_≤_
 omega
theorem QiW (b:c.1.length≤8)(h:(!decide (Xi c (i:Int) c.1.length=Xi c (j:Int) c.1.length))=true):QaS c i j=true:=by
 cases d:QaS c i j with
 | true=>rfl
 | false=>rw[aL ((Qke b).2 d)] at h; cases h
theorem Ql0 (b:c.1.length≤8)(h:(!decide (Xi c (i:Int) c.1.length=Xi c (j:Int) c.1.length))=false):QaS c i j=false:=(Qke b).1 (by simpa using h)
end
section
variable [∀c,Decidable (SgOk c)][∀s,Decidable (Zo s)]{c:DSg}{x:(Int×Bool)×Int×Bool}
abbrev Qlp (c:DSg)(x:(Int×Bool)×Int×Bool):ByteArray:=YG c (Qn c x.1 x.2)
abbrev Qgq (c:DSg)(x:(Int×Bool)×Int×Bool):(DSg×List Int)×Bool:=YE c (Ye c) (Qlp c x)
def Qce (c:DSg)(x:(Int×Bool)×Int×Bool):Bool:=okB c x.1 x.2&& !QaR c (Qlp c x)
def Zp (c:DSg)(x:(Int×Bool)×Int×Bool):DSg×Bool:=
 if Qce c x=true then ((Qgq c x).1.1,(Qgq c x).2&&decide (Ul (Qgq c x).1.1≤Ul c)) else (YL,false)
def Qki (c:DSg)(x:(Int×Bool)×Int×Bool):Prop:=((SgOk c∧(0≤x.1.1∧x.1.1≤(c.1.length:Int) - 1))∧(0≤x.2.1∧x.2.1≤(c.1.length:Int) - 1))∧¬x.1=x.2
instance:Decidable (Qki c x):=inferInstanceAs (Decidable (_∧_))
def VN (c:DSg)(x:(Int×Bool)×Int×Bool):Bool:=decide (Qki c x)&&(Zp c x).2
def XJ (c:DSg)(x:(Int×Bool)×Int×Bool):Int:=if VN c x=true then ((Zt (Zp c x).1).length:Int) else 0
def Uk (c:DSg)(x:(Int×Bool)×Int×Bool):Int:=if VN c x=true then ((Zp c x).1.2.1.length:Int) else 0
theorem QuB (h:okB c x.1 x.2=false):Qce c x=false:=by unfold Qce; rw[h]; rfl
theorem Qo5 (h:QaR c (Qlp c x)=true):Qce c x=false:=by unfold Qce; rw[h]; simp
theorem Qi9 (b:okB c x.1 x.2=true)(h:QaR c (Qlp c x)=false):Qce c x=true:=by unfold Qce; rw[h,b]; rfl
theorem Qop (h:Qce c x=false):Zp c x=(YL,false):=if_neg (by rw[h]; decide)
theorem QjM (h:Qce c x=true):Zp c x=((Qgq c x).1.1,(Qgq c x).2&&decide (Ul (Qgq c x).1.1≤Ul c)):=if_pos h
theorem Qpd (h:(Qgq c x).2=true):SgOk (Qgq c x).1.1:=by
 unfold Qgq YE at h ⊢
 split at h
 ·rename_i b; rw[if_pos b]; exact b.2
 ·cases h
theorem QtC (h:(Zp c x).2=true):SgOk (Zp c x).1:=by
 unfold Zp at h ⊢
 split at h
 ·rename_i b
  rw[if_pos b]
  rw[aI] at h
  exact Qpd h.1
 ·cases h
theorem Qag (h:okB c x.1 x.2=true):Yo c x.1 x.2=Qlp c x:=(Qig h).symm
theorem Qv0 (h:(ZQ c (Ye c) (Qlp c x)).2=false):Qgq c x=(QnR,false):=Qv1 h
theorem QnQ (h:(ZQ c (Ye c) (Qlp c x)).2=true):Qgq c x=ZQ c (Ye c) (Qlp c x):=Qv2 h
theorem Qlv:(Ye c).size≤2:=by unfold Ye; split <;> (try split) <;> exact aJ _
theorem Qpc {d s:ByteArray}(h:(YE c d s).2=true):SgOk (YE c d s).1.1:=by
 unfold YE at h ⊢
 split at h
 ·rename_i b; rw[if_pos b]; exact b.2
 ·cases h
theorem U2 (h:okB c x.1 x.2=false):Zp c x=(YL,false):=Qop (QuB h)
theorem QeR (b:okB c x.1 x.2=true)(h:(c.2.2.any fun a:DAr=>ZK (Yo c x.1 x.2) a&&Yu c a.2.1)=true):Zp c x=(YL,false):=Qop (Qo5 (by rw[← Qag b]; exact h))
theorem QjL (b:okB c x.1 x.2=true)(h:(c.2.2.any fun a:DAr=>ZK (Yo c x.1 x.2) a&&Yu c a.2.1)=false):
 Zp c x=((YE c (Ye c) (Yo c x.1 x.2)).1.1,(YE c (Ye c) (Yo c x.1 x.2)).2&&decide (Ul (YE c (Ye c) (Yo c x.1 x.2)).1.1≤Ul c)):=by
 rw[QjM (Qi9 b (by rw[← Qag b]; exact h)),Qag b]
theorem Qiy (b:okB c x.1 x.2=true)(h:(c.2.2.any fun a:DAr=>ZK (Yo c x.1 x.2) a&&Yu c a.2.1)=false):(YE c (Ye c) (Yo c x.1 x.2)).1.1=(Zp c x).1:=by rw[QjL b h]
theorem Qxq (b:okB c x.1 x.2=true)(h:(c.2.2.any fun a:DAr=>ZK (Yo c x.1 x.2) a&&Yu c a.2.1)=false)(d:(YE c (Ye c) (Yo c x.1 x.2)).2=false):false=(Zp c x).2:=by rw[QjL b h,d]; rfl
theorem Qxr (b:okB c x.1 x.2=true)(h:(c.2.2.any fun a:DAr=>ZK (Yo c x.1 x.2) a&&Yu c a.2.1)=false)(d:(YE c (Ye c) (Yo c x.1 x.2)).2=true):decide (Ul (YE c (Ye c) (Yo c x.1 x.2)).1.1≤Ul c)=(Zp c x).2:=by rw[QjL b h,d]; rfl
theorem QeS (h:(!QaR c (YG c (Qn c x.1 x.2)))=false):Zp c x=(YL,false):=Qop (Qo5 (by simpa using h))
theorem QpO (b:okB c x.1 x.2=true)(h:(!QaR c (YG c (Qn c x.1 x.2)))=true)(d:(ZQ c (Ye c) (YG c (Qn c x.1 x.2))).2=false):Zp c x=(YL,false):=by
 rw[QjM (Qi9 b (by simpa using h)),Qv0 d]; rfl
theorem Qvv (d:okB c x.1 x.2=true)(h:(!QaR c (YG c (Qn c x.1 x.2)))=true)(b:(ZQ c (Ye c) (YG c (Qn c x.1 x.2))).2=true):
 Zp c x=((ZQ c (Ye c) (YG c (Qn c x.1 x.2))).1.1,decide (Ul (ZQ c (Ye c) (YG c (Qn c x.1 x.2))).1.1≤Ul c)):=by
 rw[QjM (Qi9 d (by simpa using h)),QnQ b,b]; rfl
theorem QtA (b:okB c x.1 x.2=true)(h:(!QaR c (YG c (Qn c x.1 x.2)))=true)(d:(ZQ c (Ye c) (YG c (Qn c x.1 x.2))).2=true):(ZQ c (Ye c) (YG c (Qn c x.1 x.2))).1.1=(Zp c x).1:=by rw[Qvv b h d]
theorem Qxs (f:SgOk c)(d:okB c x.1 x.2=true)(h:(!QaR c (YG c (Qn c x.1 x.2)))=true)(b:(ZQ c (Ye c) (YG c (Qn c x.1 x.2))).2=true):
 decide ((if SgOk (ZQ c (Ye c) (YG c (Qn c x.1 x.2))).1.1 then Ul (ZQ c (Ye c) (YG c (Qn c x.1 x.2))).1.1 else 0)≤(if SgOk c then Ul c else 0))=(Zp c x).2:=by
 have e:SgOk (ZQ c (Ye c) (YG c (Qn c x.1 x.2))).1.1:=by
  have:=Qpd (c:=c) (x:=x) (by rw[QnQ b]; exact b)
  rw[QnQ b] at this; exact this
 rw[Qvv d h b,if_pos e,if_pos f]
theorem Qfv (h:¬Qki c x):VN c x=false:=by unfold VN; rw[aB h]; rfl
theorem Qfw (h:(Zp c x).2=false):VN c x=false:=by unfold VN; rw[h]; simp
theorem QbO (b:Qki c x)(h:(Zp c x).2=true):VN c x=true:=by unfold VN; rw[h,aL b]; rfl
theorem QvG (h:¬Qki c x):XJ c x=0∧Uk c x=0∧VN c x=false:=⟨if_neg (by rw[Qfv h]; decide),if_neg (by rw[Qfv h]; decide),Qfv h⟩
theorem QvH (h:(Zp c x).2=false):XJ c x=0∧Uk c x=0∧VN c x=false:=⟨if_neg (by rw[Qfw h]; decide),if_neg (by rw[Qfw h]; decide),Qfw h⟩
theorem QvI (b:Qki c x)(h:(Zp c x).2=true):XJ c x=((Zt (Zp c x).1).length:Int)∧Uk c x=((Zp c x).1.2.1.length:Int)∧VN c x=true:=⟨if_pos (QbO b h),if_pos (QbO b h),QbO b h⟩
end
theorem UM (c:Zi)(k:Int)(B:c.1.length≤8):FC Tryz.prog 400 [(true,[.dat Ql c.1, .dat Qo c.2.1, .dat Qw c.2.2]),(false,[dI k])] [] 0 (QY (lf (dS (Xi c k c.1.length)))):=by
 refine Qv Tryz.func400 rfl rfl Tryz.ntmps400 fun y p w l A o m=> ?_
 refine acI 1 fun _=> ?_
 refine w_ ?_
 refine xbx 0 ?_
 refine w9 ?_
 refine alL 9 fun _=> ?_
 refine w4 ?_
 refine lp0 c.1.length (fun i=>⟨[(1,lI k),(2,lP 0 0),(4,lf (dS (⟨#[]⟩:ByteArray))),(5,lf (dS (Xi c k i))),(9,lf (.dat Ql c.1)),(10,lI (c.1.length:Int)),(11,lI (i:Int))],[bx 0 28 [.dat Ql c.1, .dat Qo c.2.1, .dat Qw c.2.2]]⟩) ?_ fun i _=> ?_
 exact Wk.of [] rfl ⟨rfl,rfl,rfl,(show some (lf (dS (⟨#[]⟩:ByteArray)))=some (lf (dS (Xi c k 0))) from congrArg (fun z_=>some (lf (dS z_))) (rfl)),rfl,rfl,rfl,trivial⟩ ⟨rfl,trivial⟩ rfl rfl
 have r:=QrJ (c:=c) (q:=k) (i:=i)
 have t:(⟨#[UInt8.ofNat (48+(i:Int)).toNat]⟩:ByteArray).size=1:=rfl
 have u:(⟨#[44]⟩:ByteArray).size=1:=rfl
 have v:((⟨#[UInt8.ofNat (48+(i:Int)).toNat]⟩:ByteArray)++(⟨#[44]⟩:ByteArray)).size=2:=by rw[cw]; rfl
 refine w4 ?_
 cases d:(decide ((i:Int) < (c.1.length:Int)))
 have e:=aa d
 refine w7 ?_
 refine Qd<|fqS p ?_
 (congr 1; omega)
 have e:=ab d
 refine w6 ?_
 obtain ⟨sg,b⟩:=gx c.1 i
 refine w2 ?_
 refine lc (xal 1 QE VL) ?_
 refine w6 ?_
 refine alI 17 fun _=> ?_
 refine w2 ?_
 cases f:(!decide (sg.2=1))
 have g:(sg.2=1):=QK f
 refine w12 ?_
 refine Qb ?_
 refine l0_ ?_
 exact Wk.of [] rfl ⟨rfl,rfl,rfl,(show some (lf (dS (Xi c k i)))=some (lf (dS (Xi c k (i+1)))) from congrArg (fun z_=>some (lf (dS z_))) (by first | exact Qfl b ‹_› ‹_› | exact Qfj b ‹_› | exact Qfk b ‹_› ‹_›)),rfl,rfl,rfl,trivial⟩ ⟨rfl,trivial⟩ rfl rfl
 have g:¬(sg.2=1):=QR f
 refine w3 ?_
 refine lgy rfl rfl (dK (YC c k (i:Int)) Um) ?_
 refine w2 ?_
 cases h:(ZT c k (i:Int))
 refine w6 ?_
 refine Qb ?_
 refine l0_ ?_
 exact Wk.of [] rfl ⟨rfl,rfl,rfl,(show some (lf (dS (Xi c k i)))=some (lf (dS (Xi c k (i+1)))) from congrArg (fun z_=>some (lf (dS z_))) (by first | exact Qfl b ‹_› ‹_› | exact Qfj b ‹_› | exact Qfk b ‹_› ‹_›)),rfl,rfl,rfl,trivial⟩ ⟨rfl,trivial⟩ rfl rfl
 refine w4 ?_
 refine lc (dK (QaD (i:Int) (by omega)) QfR) ?_
 refine lc (YN (Qa rfl) (Evl.str rfl) rfl (by omega))<|lc (YN (Qa rfl) (Qa rfl) rfl (by omega)) ?_
 refine w_ ?_
 refine Qb ?_
 refine w4 ?_
 refine Qb ?_
 refine l0_ ?_
 exact Wk.of [] rfl ⟨rfl,rfl,rfl,(show some (lf (dS ((Xi c k i)++((⟨#[UInt8.ofNat (48+(i:Int)).toNat]⟩:ByteArray)++(⟨#[44]⟩:ByteArray)))))=some (lf (dS (Xi c k (i+1)))) from congrArg (fun z_=>some (lf (dS z_))) (by first | exact Qfl b ‹_› ‹_› | exact Qfj b ‹_› | exact Qfk b ‹_› ‹_›)),rfl,rfl,rfl,trivial⟩ ⟨rfl,trivial⟩ rfl rfl
theorem Zy (c:Zi)(G:SgW c):FC Tryz.prog 284 [(true,[.dat Ql c.1, .dat Qo c.2.1, .dat Qw c.2.2])] [] 0 (YB 123 Qz (Zt c)):=by
 have F:=G.some_
 have Q:=G.few
 have o:=G.sig8
 refine Qv Tryz.func284 rfl rfl Tryz.ntmps284 fun U P T K V O N=> ?_
 refine w_ ?_
 refine xbx 0 ?_
 refine w9 ?_
 refine alL 7 fun _=> ?_
 refine w4 ?_
 refine AC.wk (Wk.nilS 1 3 123 Qz rfl (Fresh.of rfl) (nlr rfl)) ?_
 refine lp0 c.2.1.length (fun i=>⟨[(1,lP 0 0),(2,lf (.val (.slice none 0 0))),(3,lR 2),(8,lI (c.2.1.length:Int)),(9,lI (i:Int))],[bx 0 28 [.dat Ql c.1, .dat Qo c.2.1, .dat Qw c.2.2],ar 2 123 Qz (Z4 c (QaS c) i)]⟩) ?_ fun i _=> ?_
 exact wp [(2,1)] ⟨rfl,(Qe (rfl)),trivial⟩
 have E:=Hg (c:=c) (f:=QaS c) (i:=i) F.2
 refine w4 ?_
 cases y:(decide ((i:Int) < (c.2.1.length:Int)))
 have A:=aa y
 refine w7 ?_
 refine Qd<|fo_ P ?_
 (congr 1; omega)
 have A:=ab y
 refine w14 ?_
 refine QP (fun I J=>∃(m:Int) (b:List (List Int)),I=((c.2.1.length:Int) - m).toNat∧((i:Int)+1≤m∧m≤(c.2.1.length:Int))∧(b=Z4 c (QaS c) i++XS c (QaS c) i m.toNat)∧J=⟨[(1,lP 0 0),(2,lf (.val (.slice none 0 0))),(3,lR 3),(4,lI (i:Int)),(5,lI m),(8,lI (c.2.1.length:Int)),(9,lI (i:Int)),(10,lB true),(11,lI (i:Int)),(12,lI (i:Int)),(13,lI ((i:Int)+1))],[bx 0 28 [.dat Ql c.1, .dat Qo c.2.1, .dat Qw c.2.2],ar 3 123 Qz b]⟩) ⟨(i:Int)+1,Z4 c (QaS c) i,rfl,(by omega),(by rw[show ((i:Int)+1).toNat=i+1 by omega,Qbx,bs]),rfl⟩ ?_ ?_
 exact wp [(3,2)] ⟨rfl,(Qe (by first | rfl | simp)),trivial⟩
 rintro I J ⟨m,b,R,W,p,rfl⟩
 have S:b.length≤100000:=by rw[p,aj]; have:=QcD (c:=c) (f:=QaS c) (i:=i) (k:=m.toNat); have:=E (by omega); omega
 have l:((m.toNat:Nat):Int)=m:=by omega
 refine w5 ?_
 refine alL 16 fun _=> ?_
 refine w3 ?_
 cases B:(decide (m < (c.2.1.length:Int)))
 have C:=aa B
 refine w6 ?_
 refine Qb ?_
 refine l0_ ?_
 exact wp [(2,3)] ⟨rfl,(Qe ((by rw[p]; exact Qsi (by omega) (by omega)))),trivial⟩
 have C:=ab B
 refine w4 ?_
 obtain ⟨L,H⟩:=gx c.2.1 i
 have g:=H
 obtain ⟨M,D⟩:=gx c.2.1 ((m).toNat)
 have h:=D
 cases d:(decide (L=M))
 have u:=aa d
 apply dW (i9 21 _ _ _ _ _ _ _ _ _ (io 30 _ :: io 31 (lB false) :: i9 32 _ _ _ _ _ _ _ _ _ [])) [0,0,3,0,0,31,31,127,31,31,0,0,0,4096,0,28672,61440,0,0,0]
 refine z10 ?_
 refine zz (fun _ r=>ac (QH (d) (V0 (r.v rfl) (r.v rfl) rfl)) rfl) ?_
 exact y9
 refine w7 ?_
 refine Qb<|QW ⟨(m+1),b,rfl,(by omega),(by rw[p]; first | exact QoR (by omega) h g ‹_› (QiW o (by rw[l]; assumption)) | exact QoQ (by omega) h g ‹_› | exact Qr3 (by omega) (Ql0 o (by rw[l]; assumption))),rfl⟩ (by omega) ?_
 exact wo []
 have u:=ab d
 apply dW (i9 21 _ _ _ _ _ _ _ _ _ (io 30 _ :: io 31 (lB true) :: i3 32 _ _ _ (io 35 (lf (dS (Xi c (i:Int) c.1.length))) :: i2 36 _ _ (io 38 (lf (dS (Xi c m c.1.length))) :: i2 39 _ _ [])))) [0,0,3,0,0,31,31,127,31,31,0,0,0,4096,0,28672,61440,0,0,0]
 refine z10 ?_
 refine zz (fun _ r=>ac (QH (d) (V0 (r.v rfl) (r.v rfl) rfl)) rfl) ?_
 refine z3 ?_
 refine zz (fun _ r=>day rfl (r.k rfl) (dK (UM c (i:Int) (by omega)) QfL) rfl) ?_
 refine z2 ?_
 refine zz (fun _ r=>day rfl (r.k rfl) (dK (UM c m (by omega)) QfL) rfl) ?_
 exact y2
 cases t:(!decide ((Xi c (i:Int) c.1.length)=(Xi c m c.1.length)))
 have w:((Xi c (i:Int) c.1.length)=(Xi c m c.1.length)):=QK t
 refine w7 ?_
 refine Qb<|QW ⟨(m+1),b,rfl,(by omega),(by rw[p]; first | exact QoR (by omega) h g ‹_› (QiW o (by rw[l]; assumption)) | exact QoQ (by omega) h g ‹_› | exact Qr3 (by omega) (Ql0 o (by rw[l]; assumption))),rfl⟩ (by omega) ?_
 exact wo []
 have w:¬((Xi c (i:Int) c.1.length)=(Xi c m c.1.length)):=QR t
 refine w5 ?_
 refine lc (dBs 4 (e:= .int) Yk) ?_
 refine lc (dBs 5 (e:=Qz) WG (hab:=by exact ⟨_,_,_,_,rfl,(.inl ⟨_,rfl,rfl,rfl⟩),⟨rfl,rfl⟩,rfl⟩)) ?_
 refine lc (dA 6 H5) ?_
 refine w_ ?_
 refine Qb ?_
 refine w5 ?_
 refine Qb<|QW ⟨(m+1),(b++([[(i:Int),m]])),rfl,(by omega),(by rw[p]; first | exact QoR (by omega) h g ‹_› (QiW o (by rw[l]; assumption)) | exact QoQ (by omega) h g ‹_› | exact Qr3 (by omega) (Ql0 o (by rw[l]; assumption))),rfl⟩ (by omega) ?_
 exact wp [(3,6)] ⟨rfl,(Qe (by first | rfl | simp)),trivial⟩
theorem Qg9 (c:Zi)(x:QvN)[∀c,Decidable (SgOk c)][∀s,Decidable (Zo s)](d:SgOk c):FC Tryz.prog 506 [(true,[.dat Ql c.1, .dat Qo c.2.1, .dat Qw c.2.2]),(true,[dI x.1.1,dB x.1.2,dI x.2.1,dB x.2.2])] [] 0 (Is (PV.tup [(true,[.ref 0, .ref 1, .ref 2]),(false,[dB ((Zp c x).2)])]) [ar 0 77 QE (((Zp c x).1).1),ar 1 9 .str (((Zp c x).1).2.1),ar 2 154 QD (((Zp c x).1).2.2)]):=by
 have H:∀a∈c.2.2,InR c.2.1.length a:=fun a f=>XC (d.arcs a f)
 have B:=d.some_
 have A:=d.few
 have D:=d.sigs.2.2
 have C:=Qlv (c:=c)
 refine Qv Tryz.func506 rfl rfl Tryz.ntmps506 fun F e E g G t r=> ?_
 refine acG 1 0 fun _=> ?_
 refine acG 1 2 fun _=> ?_
 refine w_ ?_
 refine xbx 0 ?_
 refine xbx 1 ?_
 refine lc (xal 2 XU Zr) ?_
 refine w8 ?_
 refine lc (dK (Hw c x.1 x.2 d) Qnp) ?_
 refine w3 ?_
 refine lc (xal 3 .str HQ) ?_
 refine w8 ?_
 cases u:(okB c x.1 x.2)
 refine w8 ?_
 refine lc (Qi Q8 rfl (ak.1 rfl) rfl rfl) ?_
 refine w3 ?_
 refine AC.wk (Qp 4 (p:=2) (off:=0) 77 QE rfl rfl (Fresh.of rfl) (nlr rfl))<|AC.wk (Qp 5 (p:=2) (off:=1) 9 .str rfl rfl (Fresh.of rfl) (nlr rfl))<|AC.wk (Qp 6 (p:=2) (off:=2) 154 QD rfl rfl (Fresh.of rfl) (nlr rfl))<|Qd ?_
 have h:(false:Bool)=((Zp c x).2):=by
  (rw[U2 ‹_›]; done)
 exact fi_ [(0,4),(1,5),(2,6)] e ⟨(Qe (by (rw[U2 ‹_›]; rfl))),(Qe (by (rw[U2 ‹_›]; rfl))),(Qe (by (rw[U2 ‹_›]; rfl))),trivial⟩ (h0:=by rw[← h] <;> rfl)
 refine w2 ?_
 refine lgy rfl rfl (YI ⟨_,_,rfl,(Qa rfl),rfl,⟨_,_,rfl,(Qa rfl),rfl,rfl⟩⟩ rfl) ?_
 refine lgy rfl rfl (dP 7 [(0,3),(1,0)] (UD c.2.2 (Yo c x.1 x.2) c (fun a f=>by rw[Qag ‹_›]; exact ⟨(Qdz d).at_ f,Vf (d.arcs a f).2.2.1⟩)) QaW) ?_
 refine w2 ?_
 refine cb_ (fun _=> ?_) fun _=> ?_
 refine w_ ?_
 apply dW (i2 29 _ _ (io 31 (lf (dS (Ye c))) :: io 32 _ :: ⟨some 33,PV.tup [(true,[.ref 9, .ref 10, .ref 11]),(false,[dB ((YE c (Ye c) (Yo c x.1 x.2)).2)])],[ar 9 77 QE (((YE c (Ye c) (Yo c x.1 x.2)).1.1).1),ar 10 9 .str (((YE c (Ye c) (Yo c x.1 x.2)).1.1).2.1),ar 11 154 QD (((YE c (Ye c) (Yo c x.1 x.2)).1.1).2.2)]⟩ :: io 28 _ :: i2 34 _ _ [⟨some 8,lP 12 0,[bx 12 28 [.val (.slice none 0 0), .val (.slice none 0 0), .val (.slice none 0 0)]]⟩,⟨none,lf (.val undef),[bx 12 28 [.ref 9, .ref 10, .ref 11]]⟩,io 9 _])) [0,1,1,7,0,0,0,64,255,128,0]
 refine z2 ?_
 refine zz (fun _ b=>ac (dK (Qb4 c) Qns) rfl) ?_
 refine z_ ?_
 refine zz (fun _ b=>ac (dG 9 (Hr c (Ye c) (Yo c x.1 x.2) (by omega)) Qnr) rfl) ?_
 refine z3 ?_
 refine zz (fun _ b=>ac (Yl 12 XU Zr rfl rfl (b.fr 12 rfl) (nlr rfl)) rfl)<|zz (fun _ b=>ac (Q0 (b.v rfl) (b.en 12 rfl) (b.w rfl) (by show Q4 _ [.ref 9, .ref 10, .ref 11]=true; simp only[Q4,Vu,ba,bA]; rw[(b.en 9 rfl),(b.en 10 rfl),(b.en 11 rfl)]; rfl) Kl rfl) rfl) ?_
 exact y1
 cases y:((YE c (Ye c) (Yo c x.1 x.2)).2)
 apply dW (i9 36 _ _ _ _ _ _ _ _ _ [⟨none,lf (.val undef),[bx 2 28 [.ref 9, .ref 10, .ref 11]]⟩,io 5 _]) [0,1,1,1,1,25,1,1,1,384,0]
 refine z9 ?_
 refine zz (fun _ b=>ac (Q0 (b.v rfl) (b.en 2 rfl) (b.w rfl) (by show Q4 _ [.ref 9, .ref 10, .ref 11]=true; simp only[Q4,Vu,ba,bA]; rw[(b.en 9 rfl),(b.en 10 rfl),(b.en 11 rfl)]; rfl) Kl rfl) rfl) ?_
 exact y1
 refine w_ ?_
 have l:(false:Bool)=((Zp c x).2):=by
  exact Qxq ‹_› ‹_› ‹_›
 exact fi_ [(0,9),(1,10),(2,11)] e ⟨(Qe (by (rw[Qiy ‹_› ‹_›]; done))),(Qe (by (rw[Qiy ‹_› ‹_›]; done))),(Qe (by (rw[Qiy ‹_› ‹_›]; done))),trivial⟩ (h0:=by rw[← l] <;> rfl)
 apply dW (i4 36 _ _ _ _ (io 40 (lI (Ul ((YE c (Ye c) (Yo c x.1 x.2)).1.1))) :: io 41 _ :: io 42 (lI (Ul c)) :: i2 43 _ _ [⟨none,lf (.val undef),[bx 2 28 [.ref 9, .ref 10, .ref 11]]⟩,io 5 _])) [0,1,1,1,1,25,1,1,1,384,0]
 refine z4 ?_
 refine zz (fun _ b=>day rfl (b.k rfl) (Ze (Up ((YE c (Ye c) (Yo c x.1 x.2)).1.1) (by first | exact d | exact Qpc ‹_›)) QfW ⟨_,_,rfl,(ZJ (b.w rfl) ⟨_,_,rfl, .inr ⟨_,_,_,_,rfl,(b.en 9 rfl),rfl⟩,⟨_,_,rfl, .inr ⟨_,_,_,_,rfl,(b.en 10 rfl),rfl⟩,⟨_,_,rfl, .inr ⟨_,_,_,_,rfl,(b.en 11 rfl),rfl⟩,rfl⟩⟩⟩),rfl⟩ rfl rfl rfl) rfl) ?_
 refine z_ ?_
 refine zz (fun _ b=>day rfl (b.k rfl) (dK (Up c (by first | exact d | exact Qpc ‹_›)) QfW) rfl) ?_
 refine z2 ?_
 refine zz (fun _ b=>ac (Q0 (b.v rfl) (b.en 2 rfl) (b.w rfl) (by show Q4 _ [.ref 9, .ref 10, .ref 11]=true; simp only[Q4,Vu,ba,bA]; rw[(b.en 9 rfl),(b.en 10 rfl),(b.en 11 rfl)]; rfl) Kl rfl) rfl) ?_
 exact y1
 refine w_ ?_
 have m:(decide ((Ul ((YE c (Ye c) (Yo c x.1 x.2)).1.1))≤(Ul c)):Bool)=((Zp c x).2):=by
  exact Qxr ‹_› ‹_› ‹_›
 exact fi_ [(0,9),(1,10),(2,11)] e ⟨(Qe (by (rw[Qiy ‹_› ‹_›]; done))),(Qe (by (rw[Qiy ‹_› ‹_›]; done))),(Qe (by (rw[Qiy ‹_› ‹_›]; done))),trivial⟩ (h0:=by rw[m] <;> rfl)
 refine w_ ?_
 refine lc (Qi Q8 rfl (ak.1 rfl) rfl rfl) ?_
 refine w3 ?_
 refine AC.wk (Qp 13 (p:=2) (off:=0) 77 QE rfl rfl (Fresh.of rfl) (nlr rfl))<|AC.wk (Qp 14 (p:=2) (off:=1) 9 .str rfl rfl (Fresh.of rfl) (nlr rfl))<|AC.wk (Qp 15 (p:=2) (off:=2) 154 QD rfl rfl (Fresh.of rfl) (nlr rfl))<|Qd ?_
 have o:(false:Bool)=((Zp c x).2):=by
  (rw[QeR ‹_› ‹_›]; done)
 exact fi_ [(0,13),(1,14),(2,15)] e ⟨(Qe (by (rw[QeR ‹_› ‹_›]; rfl))),(Qe (by (rw[QeR ‹_› ‹_›]; rfl))),(Qe (by (rw[QeR ‹_› ‹_›]; rfl))),trivial⟩ (h0:=by rw[← o] <;> rfl)
theorem VE (c:Zi)(x:QvN)[∀c,Decidable (SgOk c)][∀s,Decidable (Zo s)](d:SgOk c):FC Tryz.prog 287 [(true,[.dat Ql c.1, .dat Qo c.2.1, .dat Qw c.2.2]),(true,[dI x.1.1,dB x.1.2,dI x.2.1,dB x.2.2])] [] 0 (Is (PV.tup [(true,[.ref 0, .ref 1, .ref 2]),(false,[dB ((Zp c x).2)])]) [ar 0 77 QE (((Zp c x).1).1),ar 1 9 .str (((Zp c x).1).2.1),ar 2 154 QD (((Zp c x).1).2.2)]):=by
 have H:∀a∈c.2.2,InR c.2.1.length a:=fun a t=>XC (d.arcs a t)
 have B:=d.some_
 have A:=d.few
 have D:=d.sigs.2.2
 have C:=Qlv (c:=c)
 refine Qv Tryz.func287 rfl rfl Tryz.ntmps287 fun F e E f G r o=> ?_
 refine acG 1 0 fun _=> ?_
 refine acG 1 2 fun _=> ?_
 refine w_ ?_
 refine xbx 0 ?_
 refine xbx 1 ?_
 refine lc (xal 2 XU Zr) ?_
 refine w8 ?_
 refine lc (dK (Qau c x.1 x.2 d) Qm0) ?_
 refine w11 ?_
 cases u:(okB c x.1 x.2)
 refine w8 ?_
 refine lc (Qi Q8 rfl (ak.1 rfl) rfl rfl) ?_
 refine w3 ?_
 refine AC.wk (Qp 3 (p:=2) (off:=0) 77 QE rfl rfl (Fresh.of rfl) (nlr rfl))<|AC.wk (Qp 4 (p:=2) (off:=1) 9 .str rfl rfl (Fresh.of rfl) (nlr rfl))<|AC.wk (Qp 5 (p:=2) (off:=2) 154 QD rfl rfl (Fresh.of rfl) (nlr rfl))<|Qd ?_
 have g:(false:Bool)=((Zp c x).2):=by
  (rw[U2 ‹_›]; done)
 exact fi_ [(0,3),(1,4),(2,5)] e ⟨(Qe (by (rw[U2 ‹_›]; rfl))),(Qe (by (rw[U2 ‹_›]; rfl))),(Qe (by (rw[U2 ‹_›]; rfl))),trivial⟩ (h0:=by rw[← g] <;> rfl)
 refine w2 ?_
 refine lgy rfl rfl (dK (Qee c (YG c (Qn c x.1 x.2)) (Qdz (block:=Qn c x.1 x.2) d)) Qm1) ?_
 refine w3 ?_
 cases y:(!QaR c (YG c (Qn c x.1 x.2)))
 refine w2 ?_
 refine lc (Qi Q8 rfl (ak.1 rfl) rfl rfl) ?_
 refine w3 ?_
 refine AC.wk (Qp 6 (p:=2) (off:=0) 77 QE rfl rfl (Fresh.of rfl) (nlr rfl))<|AC.wk (Qp 7 (p:=2) (off:=1) 9 .str rfl rfl (Fresh.of rfl) (nlr rfl))<|AC.wk (Qp 8 (p:=2) (off:=2) 154 QD rfl rfl (Fresh.of rfl) (nlr rfl))<|Qd ?_
 have h:(false:Bool)=((Zp c x).2):=by
  (rw[QeS ‹_›]; done)
 exact fi_ [(0,6),(1,7),(2,8)] e ⟨(Qe (by (rw[QeS ‹_›]; rfl))),(Qe (by (rw[QeS ‹_›]; rfl))),(Qe (by (rw[QeS ‹_›]; rfl))),trivial⟩ (h0:=by rw[← h] <;> rfl)
 refine w2 ?_
 apply dW (i2 34 _ _ (io 36 (lf (dS (Ye c))) :: io 37 _ :: ⟨some 38,PV.tup [(true,[.ref 9, .ref 10, .ref 11]),(false,[.ref 12]),(false,[dB ((ZQ c (Ye c) (YG c (Qn c x.1 x.2))).2)])],[ar 9 77 QE (((ZQ c (Ye c) (YG c (Qn c x.1 x.2))).1.1).1),ar 10 9 .str (((ZQ c (Ye c) (YG c (Qn c x.1 x.2))).1.1).2.1),ar 11 154 QD (((ZQ c (Ye c) (YG c (Qn c x.1 x.2))).1.1).2.2),ar 12 3 .int ((ZQ c (Ye c) (YG c (Qn c x.1 x.2))).1.2)]⟩ :: io 33 _ :: i3 39 _ _ _ (⟨some 8,lP 13 0,[bx 13 28 [.val (.slice none 0 0), .val (.slice none 0 0), .val (.slice none 0 0)]]⟩ :: ⟨none,lf (.val undef),[bx 13 28 [.ref 9, .ref 10, .ref 11]]⟩ :: i2 9 _ _ []))) [0,1,1,7,0,0,0,64,192,511,384,256,0]
 refine z2 ?_
 refine zz (fun _ b=>ac (dK (Qeh c) Qm3) rfl) ?_
 refine z_ ?_
 refine zz (fun _ b=>ac (dG 9 (Qb7 c (Ye c) (YG c (Qn c x.1 x.2)) (by omega)) Qm2) rfl) ?_
 refine z4 ?_
 refine zz (fun _ b=>ac (Yl 13 XU Zr rfl rfl (b.fr 13 rfl) (nlr rfl)) rfl)<|zz (fun _ b=>ac (Q0 (b.v rfl) (b.en 13 rfl) (b.w rfl) (by simp only[Q4,Vu,ba,bA]; rw[(b.en 9 rfl),(b.en 10 rfl),(b.en 11 rfl)]; rfl) Kl rfl) rfl) ?_
 exact y2
 refine w5 ?_
 refine cx_ (fun _=> ?_) fun _=> ?_
 refine w_ ?_
 refine lc (Qi Q8 rfl (ak.1 rfl) rfl rfl) ?_
 refine w3 ?_
 refine AC.wk (Qp 14 (p:=2) (off:=0) 77 QE rfl rfl (Fresh.of rfl) (nlr rfl))<|AC.wk (Qp 15 (p:=2) (off:=1) 9 .str rfl rfl (Fresh.of rfl) (nlr rfl))<|AC.wk (Qp 16 (p:=2) (off:=2) 154 QD rfl rfl (Fresh.of rfl) (nlr rfl))<|Qd ?_
 have l:(false:Bool)=((Zp c x).2):=by
  (rw[QpO ‹_› ‹_› ‹_›]; done)
 exact fi_ [(0,14),(1,15),(2,16)] e ⟨(Qe (by (rw[QpO ‹_› ‹_› ‹_›]; rfl))),(Qe (by (rw[QpO ‹_› ‹_› ‹_›]; rfl))),(Qe (by (rw[QpO ‹_› ‹_› ‹_›]; rfl))),trivial⟩ (h0:=by rw[← l] <;> rfl)
 refine w3 ?_
 refine lc (dK (We c) QfM) ?_
 refine w8 ?_
 refine lc (Ze (We ((ZQ c (Ye c) (YG c (Qn c x.1 x.2))).1.1)) QfM ⟨_,_,rfl,(ZJ (Qk rfl) ⟨_,_,rfl, .inr ⟨_,_,_,_,rfl,rfl,rfl⟩,⟨_,_,rfl, .inr ⟨_,_,_,_,rfl,rfl,rfl⟩,⟨_,_,rfl, .inr ⟨_,_,_,_,rfl,rfl,rfl⟩,rfl⟩⟩⟩),rfl⟩ rfl rfl rfl) ?_
 refine w15 ?_
 have m:(decide ((if SgOk ((ZQ c (Ye c) (YG c (Qn c x.1 x.2))).1.1) then Ul ((ZQ c (Ye c) (YG c (Qn c x.1 x.2))).1.1) else 0)≤(if SgOk c then Ul c else 0)):Bool)=((Zp c x).2):=by
  exact Qxs d ‹_› ‹_› ‹_›
 exact fi_ [(0,9),(1,10),(2,11)] e ⟨(Qe (by (rw[QtA ‹_› ‹_› ‹_›]; done))),(Qe (by (rw[QtA ‹_› ‹_› ‹_›]; done))),(Qe (by (rw[QtA ‹_› ‹_› ‹_›]; done))),trivial⟩ (h0:=by rw[m] <;> rfl)
theorem WL (c:Zi)(x:QvN)[∀c,Decidable (SgOk c)][∀s,Decidable (Zo s)]:FC Tryz.prog 286 [(true,[.dat Ql c.1, .dat Qo c.2.1, .dat Qw c.2.2]),(true,[dI x.1.1,dB x.1.2,dI x.2.1,dB x.2.2])] [] 0 (QY (PV.tup [(false,[dI (XJ c x)]),(false,[dI (Uk c x)]),(false,[dB (VN c x)])])):=by
 refine Qv Tryz.func286 rfl rfl Tryz.ntmps286 fun E o D p F B A=> ?_
 refine acG 1 0 fun _=> ?_
 refine acG 1 2 fun _=> ?_
 refine w_ ?_
 refine xbx 0 ?_
 refine xbx 1 ?_
 refine w11 ?_
 refine lc (dK (Qdf c x.1 x.2) QmZ) ?_
 refine w2 ?_
 cases d:(decide (((SgOk c∧0≤x.1.1∧x.1.1≤(c.1.length:Int) - 1)∧(0≤x.2.1∧x.2.1≤(c.1.length:Int) - 1))∧¬x.1=x.2))
 have f:=aa d
 refine w7 ?_
 have r:(0:Int)=(XJ c x):=by
  exact Eq.symm (QvG ‹_›).1
 have t:(0:Int)=(Uk c x):=by
  exact Eq.symm (QvG ‹_›).2.1
 have u:(false:Bool)=(VN c x):=by
  exact Eq.symm (QvG ‹_›).2.2
 exact fr_ o (e:=by rw[← r,← t,← u] <;> rfl)
 have f:=ab d
 refine w5 ?_
 refine lc (dG 2 (VE c x (by have C:Qki c x:=‹_›; exact C.1.1.1)) QaY) ?_
 refine w3 ?_
 refine lc (xal 5 XU Zr) ?_
 refine w8 ?_
 refine cx_ (fun _=> ?_) fun _=> ?_
 refine w6 ?_
 have v:(0:Int)=(XJ c x):=by
  exact Eq.symm (QvH ‹_›).1
 have y:(0:Int)=(Uk c x):=by
  exact Eq.symm (QvH ‹_›).2.1
 have g:(false:Bool)=(VN c x):=by
  exact Eq.symm (QvH ‹_›).2.2
 exact fr_ o (e:=by rw[← v,← y,← g] <;> rfl)
 refine w_ ?_
 apply dW (io 24 _ :: ⟨some 25,lR 6,[ar 6 123 Qz (Zt ((Zp c x).1))]⟩ :: io 26 _ :: io 27 (lP 5 1) :: io 28 (lR 3) :: io 29 (lI ((((Zp c x).1).2.1).length:Int)) :: i3 4 _ _ _ []) [0,0,0,7,7,7,56,0,0]
 refine z_ ?_
 refine zz (fun _ b=>ac (Yg 6 (Zy ((Zp c x).1) (QtC ‹_›).w) X4 ⟨_,_,rfl,(ZJ (b.w rfl) ⟨_,_,rfl, .inr ⟨_,_,_,_,rfl,(b.en 2 rfl),rfl⟩,⟨_,_,rfl, .inr ⟨_,_,_,_,rfl,(b.en 3 rfl),rfl⟩,⟨_,_,rfl, .inr ⟨_,_,_,_,rfl,(b.en 4 rfl),rfl⟩,rfl⟩⟩⟩),rfl⟩ rfl (b.fr 6 rfl) (nlr rfl)) rfl) ?_
 exact y7
 refine w_ ?_
 have h:(((Zt ((Zp c x).1)).length:Int):Int)=(XJ c x):=by
  exact Eq.symm (QvI ‹_› ‹_›).1
 have l:(((((Zp c x).1).2.1).length:Int):Int)=(Uk c x):=by
  exact Eq.symm (QvI ‹_› ‹_›).2.1
 have m:(true:Bool)=(VN c x):=by
  exact Eq.symm (QvI ‹_› ‹_›).2.2
 exact fr_ o (e:=by rw[h,l,← m] <;> rfl)
end Go.Proofs.YtndabgcpnmeeoaaGreat
