/- Walks over abstract states: the graph behind an insertion, both sides; pairs of states that violate complete state coding, the reference; what an insertion costs. -/
import Derived.Test.YtgpdhgadmjfokaaGreatBUf
set_option linter.unusedSimpArgs false
set_option linter.unusedVariables false
set_option linter.unusedSectionVars false
namespace Go.Proofs.YtgpdhgadmjfokaaGreat
open Go.RowKit
set_option maxRecDepth 100000
set_option maxHeartbeats 4000000
def Qsj (s:Int):ByteArray:=(⟨#[UInt8.ofNat (48+s).toNat]⟩:ByteArray)++(⟨#[44]⟩:ByteArray)
def Xi (c:DSg)(q:Int)(i:Nat):ByteArray:=((Z3 c.1 i).filter fun s=>U8 c q s).foldl (fun b s=>b++Qsj s) (⟨#[]⟩:ByteArray)
section
variable {c:DSg}{as_:List DAr}{a:DAr}{i j k n:Nat}{s q:Int}{z:QD}
theorem Qu0 (e:c.2.2[k]? =some a)(b:a.1=q)(d:a.2.1=s):true=U8 c q s:=(ck.2 ⟨a,ah e,aQ ⟨b,d⟩⟩).symm
theorem Qv4 (e:∀j,j < k→∀a,c.2.2[j]? =some a→¬(a.1=q∧a.2.1=s))(f:c.2.2.length≤k):false=U8 c q s:=(cD.2 fun a d=>by
 obtain ⟨j,b⟩:=aM.1 d
 have:=(ai.1 b).1
 simpa using e j (by omega) a b).symm
theorem Qd7 (d:c.1[i]? =some z)(h:¬z.2=1)(b:U8 c q (i:Int)=true):Xi c q i++((⟨#[UInt8.ofNat (48+(i:Int)).toNat]⟩:ByteArray)++(⟨#[44]⟩:ByteArray))=Xi c q (i+1):=by
 unfold Xi
 rw[← UV d h,bf,bm]
 simp[b,Qsj]
theorem Qfa (b:c.1[i]? =some z)(h:z.2=1):Xi c q i=Xi c q (i+1):=by
 unfold Xi
 rw[← Qbg b h]
theorem QfO (d:c.1[i]? =some z)(h:¬z.2=1)(b:U8 c q (i:Int)=false):Xi c q i=Xi c q (i+1):=by
 unfold Xi
 rw[← UV d h,bf,bm]
 simp[b]
theorem QaZ:∀(l:List Int) (b:ByteArray),(l.foldl (fun b s=>b++Qsj s) b).toList=b.toList++l.flatMap fun s=>[UInt8.ofNat (48+s).toNat,44]
 | [],b=>by simp
 | s :: l,b=>by
  rw[aT,QaZ l,dp]
  simp only[Qsj,bw,ByteArray.data_append,Array.toList_append]
  simp
theorem QqE (l:List Int):(l.flatMap fun s=>[UInt8.ofNat (48+s).toNat,44]).length=2*l.length:=by
 induction l with
 | nil=>rfl
 | cons s l b=>rw[dp,ae,b,aj,aj,aj,aA]; omega
theorem Qsq (l:List Int)(b:ByteArray):(l.foldl (fun b s=>b++Qsj s) b).size=b.size+2*l.length:=by
 have h:=congrArg List.length (QaZ l b)
 rw[ae,X9,X9,QqE] at h
 exact h
theorem QjB:∀{l m:List Int},(∀x∈l,0≤x∧x≤9)→(∀x∈m,0≤x∧x≤9)→(l.flatMap fun s=>[UInt8.ofNat (48+s).toNat,44])=(m.flatMap fun s=>[UInt8.ofNat (48+s).toNat,44])→l=m
 | [],[],_,_,_=>rfl
 | [],y :: m,_,_,h=>by simp at h
 | x :: l,[],_,_,h=>by simp at h
 | x :: l,y :: m,hl,hm,h=>by
  rw[dp,dp] at h
  simp only[cq,ci,aJ,true_and] at h
  obtain ⟨d,e⟩:=h
  have g:=hl x (ax ..)
  have o:=hm y (ax ..)
  have f:=congrArg UInt8.toNat d
  rw[UInt8.toNat_ofNat',UInt8.toNat_ofNat',cC (by omega),cC (by omega)] at f
  rw[QjB (fun z b=>hl z (aw _ b)) (fun z b=>hm z (aw _ b)) e,show x=y by omega]
theorem Qjj (o:c.1.length≤8):Xi c (i:Int) c.1.length=Xi c (j:Int) c.1.length↔Qcm c i j=false:=by
 have g:∀(f:Int→Bool),∀x∈(Z3 c.1 c.1.length).filter f,0≤x∧x≤9:=fun f x m=>by
  obtain ⟨t,rfl,p,_⟩:=U5.1 (bO.1 m).1; omega
 unfold Qcm
 rw[cD]
 constructor
 ·intro h s d
  have b:=congrArg ByteArray.toList h
  unfold Xi at b
  rw[QaZ,QaZ] at b
  have l:=QjB (g _) (g _) (List.append_cancel_left b)
  have e:(s∈(Z3 c.1 c.1.length).filter fun s=>U8 c i s)↔(s∈(Z3 c.1 c.1.length).filter fun s=>U8 c j s):=by rw[l]
  simp only[bO,d,true_and] at e
  rw[bQ.2 e]; simp
 ·intro h
  unfold Xi
  congr 1
  apply dq
  intro s d
  have:=h s d
  simpa using this
theorem QrQ:(Xi c q i).size≤2*i:=by
 unfold Xi
 rw[Qsq]
 have b:((Z3 c.1 i).filter fun s=>U8 c q s).length≤(Z3 c.1 i).length:=bX ..
 have d:=QbX (ss:=c.1) (k:=i)
 show 0+_≤_
 omega
theorem Qhw (b:c.1.length≤8)(h:(!decide (Xi c (i:Int) c.1.length=Xi c (j:Int) c.1.length))=true):Qcm c i j=true:=by
 cases d:Qcm c i j with
 | true=>rfl
 | false=>rw[aQ ((Qjj b).2 d)] at h; cases h
theorem Qms (b:c.1.length≤8)(h:(!decide (Xi c (i:Int) c.1.length=Xi c (j:Int) c.1.length))=false):Qcm c i j=false:=(Qjj b).1 (by simpa using h)
end
section
variable [∀c,Decidable (SgOk c)][∀s,Decidable (Zx s)]{c:DSg}{x:(Int×Bool)×Int×Bool}
abbrev QiL (c:DSg)(x:(Int×Bool)×Int×Bool):ByteArray:=YC c (Qj c x.1 x.2)
abbrev Qda (c:DSg)(x:(Int×Bool)×Int×Bool):(DSg×List Int)×Bool:=Yz c (Yn c) (QiL c x)
def Qbb (c:DSg)(x:(Int×Bool)×Int×Bool):Bool:=okB c x.1 x.2&& !Qak c (QiL c x)
def Zo (c:DSg)(x:(Int×Bool)×Int×Bool):DSg×Bool:=
 if Qbb c x=true then ((Qda c x).1.1,(Qda c x).2&&decide (Ue (Qda c x).1.1≤Ue c)) else (X4,false)
def QjP (c:DSg)(x:(Int×Bool)×Int×Bool):Prop:=((SgOk c∧(0≤x.1.1∧x.1.1≤(c.1.length:Int) - 1))∧(0≤x.2.1∧x.2.1≤(c.1.length:Int) - 1))∧¬x.1=x.2
instance:Decidable (QjP c x):=inferInstanceAs (Decidable (_∧_))
def VB (c:DSg)(x:(Int×Bool)×Int×Bool):Bool:=decide (QjP c x)&&(Zo c x).2
def XG (c:DSg)(x:(Int×Bool)×Int×Bool):Int:=if VB c x=true then ((Zt (Zo c x).1).length:Int) else 0
def VW (c:DSg)(x:(Int×Bool)×Int×Bool):Int:=if VB c x=true then ((Zo c x).1.2.1.length:Int) else 0
theorem Qut (h:okB c x.1 x.2=false):Qbb c x=false:=by unfold Qbb; rw[h]; rfl
theorem Qnm (h:Qak c (QiL c x)=true):Qbb c x=false:=by unfold Qbb; rw[h]; simp
theorem QhJ (b:okB c x.1 x.2=true)(h:Qak c (QiL c x)=false):Qbb c x=true:=by unfold Qbb; rw[h,b]; rfl
theorem QlN (h:Qbb c x=false):Zo c x=(X4,false):=if_neg (by rw[h]; decide)
theorem Qif (h:Qbb c x=true):Zo c x=((Qda c x).1.1,(Qda c x).2&&decide (Ue (Qda c x).1.1≤Ue c)):=if_pos h
theorem Qn5 (h:(Qda c x).2=true):SgOk (Qda c x).1.1:=by
 unfold Qda Yz at h ⊢
 split at h
 ·rename_i b; rw[if_pos b]; exact b.2
 ·cases h
theorem Qsn (h:(Zo c x).2=true):SgOk (Zo c x).1:=by
 unfold Zo at h ⊢
 split at h
 ·rename_i b
  rw[if_pos b]
  rw[aL] at h
  exact Qn5 h.1
 ·cases h
theorem J1 (h:okB c x.1 x.2=true):Yu c x.1 x.2=QiL c x:=(Qgr h).symm
theorem QwS (h:(Z2 c (Yn c) (QiL c x)).2=false):Qda c x=(Qli,false):=Qwq h
theorem QlL (h:(Z2 c (Yn c) (QiL c x)).2=true):Qda c x=Z2 c (Yn c) (QiL c x):=QxE h
theorem Qko:(Yn c).size≤2:=by unfold Yn; split <;> (try split) <;> exact aO _
theorem Qok {d s:ByteArray}(h:(Yz c d s).2=true):SgOk (Yz c d s).1.1:=by
 unfold Yz at h ⊢
 split at h
 ·rename_i b; rw[if_pos b]; exact b.2
 ·cases h
theorem Un (h:okB c x.1 x.2=false):Zo c x=(X4,false):=QlN (Qut h)
theorem QdJ (b:okB c x.1 x.2=true)(h:(c.2.2.any fun a:DAr=>ZS (Yu c x.1 x.2) a&&X8 c a.2.1)=true):Zo c x=(X4,false):=QlN (Qnm (by rw[← J1 b]; exact h))
theorem QiD (b:okB c x.1 x.2=true)(h:(c.2.2.any fun a:DAr=>ZS (Yu c x.1 x.2) a&&X8 c a.2.1)=false):
 Zo c x=((Yz c (Yn c) (Yu c x.1 x.2)).1.1,(Yz c (Yn c) (Yu c x.1 x.2)).2&&decide (Ue (Yz c (Yn c) (Yu c x.1 x.2)).1.1≤Ue c)):=by
 rw[Qif (QhJ b (by rw[← J1 b]; exact h)),J1 b]
theorem Qg4 (b:okB c x.1 x.2=true)(h:(c.2.2.any fun a:DAr=>ZS (Yu c x.1 x.2) a&&X8 c a.2.1)=false):(Yz c (Yn c) (Yu c x.1 x.2)).1.1=(Zo c x).1:=by rw[QiD b h]
theorem QyG (b:okB c x.1 x.2=true)(h:(c.2.2.any fun a:DAr=>ZS (Yu c x.1 x.2) a&&X8 c a.2.1)=false)(d:(Yz c (Yn c) (Yu c x.1 x.2)).2=false):false=(Zo c x).2:=by rw[QiD b h,d]; rfl
theorem QyM (b:okB c x.1 x.2=true)(h:(c.2.2.any fun a:DAr=>ZS (Yu c x.1 x.2) a&&X8 c a.2.1)=false)(d:(Yz c (Yn c) (Yu c x.1 x.2)).2=true):decide (Ue (Yz c (Yn c) (Yu c x.1 x.2)).1.1≤Ue c)=(Zo c x).2:=by rw[QiD b h,d]; rfl
theorem Qdo (h:(!Qak c (YC c (Qj c x.1 x.2)))=false):Zo c x=(X4,false):=QlN (Qnm (by simpa using h))
theorem Qnu (b:okB c x.1 x.2=true)(h:(!Qak c (YC c (Qj c x.1 x.2)))=true)(d:(Z2 c (Yn c) (YC c (Qj c x.1 x.2))).2=false):Zo c x=(X4,false):=by
 rw[Qif (QhJ b (by simpa using h)),QwS d]; rfl
theorem QvR (d:okB c x.1 x.2=true)(h:(!Qak c (YC c (Qj c x.1 x.2)))=true)(b:(Z2 c (Yn c) (YC c (Qj c x.1 x.2))).2=true):
 Zo c x=((Z2 c (Yn c) (YC c (Qj c x.1 x.2))).1.1,decide (Ue (Z2 c (Yn c) (YC c (Qj c x.1 x.2))).1.1≤Ue c)):=by
 rw[Qif (QhJ d (by simpa using h)),QlL b,b]; rfl
theorem QsB (b:okB c x.1 x.2=true)(h:(!Qak c (YC c (Qj c x.1 x.2)))=true)(d:(Z2 c (Yn c) (YC c (Qj c x.1 x.2))).2=true):(Z2 c (Yn c) (YC c (Qj c x.1 x.2))).1.1=(Zo c x).1:=by rw[QvR b h d]
theorem Qx1 (f:SgOk c)(d:okB c x.1 x.2=true)(h:(!Qak c (YC c (Qj c x.1 x.2)))=true)(b:(Z2 c (Yn c) (YC c (Qj c x.1 x.2))).2=true):
 decide ((if SgOk (Z2 c (Yn c) (YC c (Qj c x.1 x.2))).1.1 then Ue (Z2 c (Yn c) (YC c (Qj c x.1 x.2))).1.1 else 0)≤(if SgOk c then Ue c else 0))=(Zo c x).2:=by
 have e:SgOk (Z2 c (Yn c) (YC c (Qj c x.1 x.2))).1.1:=by
  have:=Qn5 (c:=c) (x:=x) (by rw[QlL b]; exact b)
  rw[QlL b] at this; exact this
 rw[QvR d h b,if_pos e,if_pos f]
theorem Qfe (h:¬QjP c x):VB c x=false:=by unfold VB; rw[aH h]; rfl
theorem QfG (h:(Zo c x).2=false):VB c x=false:=by unfold VB; rw[h]; simp
theorem QaM (b:QjP c x)(h:(Zo c x).2=true):VB c x=true:=by unfold VB; rw[h,aQ b]; rfl
theorem Qww (h:¬QjP c x):XG c x=0∧VW c x=0∧VB c x=false:=⟨if_neg (by rw[Qfe h]; decide),if_neg (by rw[Qfe h]; decide),Qfe h⟩
theorem QwO (h:(Zo c x).2=false):XG c x=0∧VW c x=0∧VB c x=false:=⟨if_neg (by rw[QfG h]; decide),if_neg (by rw[QfG h]; decide),QfG h⟩
theorem Qwj (b:QjP c x)(h:(Zo c x).2=true):XG c x=((Zt (Zo c x).1).length:Int)∧VW c x=((Zo c x).1.2.1.length:Int)∧VB c x=true:=⟨if_pos (QaM b h),if_pos (QaM b h),QaM b h⟩
end
theorem Qbk (c:ZB)(k:Int)(sig:Int):FC Tryz.prog 286 [(true,[.dat Ql c.1, .dat Qm c.2.1, .dat Qu c.2.2]),(false,[dI k]),(false,[dI sig])] [] 0 (Q7 (lB (U8 c k sig))):=by
 refine Qt Tryz.func286 rfl rfl Tryz.ntmps286 fun A p y t B v u=> ?_
 refine acI 1 fun _=> ?_
 refine acI 2 fun _=> ?_
 refine w_ ?_
 refine xbx 0 ?_
 refine w6 ?_
 refine alL 10 fun _=> ?_
 refine w4 ?_
 refine lpK c.2.2.length (fun i=>∀j,j < i→∀a,c.2.2[j]? =some a→¬(a.1=k∧a.2.1=sig)) (fun i=>⟨[(1,lI k),(2,lI sig),(10,lf (.dat Qu c.2.2)),(11,lI (c.2.2.length:Int)),(12,lI (i:Int))],[]⟩) ((fun j w=>absurd w (bi j))) ?_ fun i _ e=> ?_
 exact wo []
 refine w4 ?_
 cases h:(decide ((i:Int) < (c.2.2.length:Int)))
 have l:=aa h
 refine w6 ?_
 refine Qd<|fqB p ?_
 first | exact Qv4 e (by omega)
 have l:=ab h
 refine w5 ?_
 obtain ⟨r,f⟩:=gx c.2.2 i
 refine w2 ?_
 refine lc (xal 1 Qs Zg) ?_
 refine w5 ?_
 refine alI 17 fun _=> ?_
 refine w3 ?_
 cases m:(decide (r.1=k))
 have o:=aa m
 refine w12 ?_
 refine Qb ?_
 refine lK_ ((YP e f (by first | (exact fun g=>absurd g.1 ‹_›) | (exact fun g=>absurd g.2 ‹_›)))) ?_
 exact wo []
 have o:=ab m
 refine w6 ?_
 cases b:(decide (r.2.1=sig))
 have d:=aa b
 refine w6 ?_
 refine Qb ?_
 refine lK_ ((YP e f (by first | (exact fun g=>absurd g.1 ‹_›) | (exact fun g=>absurd g.2 ‹_›)))) ?_
 exact wo []
 have d:=ab b
 refine w4 ?_
 refine Qd<|fqB p ?_
 exact Qu0 f ‹_› ‹_›
theorem Ur (c:ZB)(k:Int)(B:c.1.length≤8):FC Tryz.prog 232 [(true,[.dat Ql c.1, .dat Qm c.2.1, .dat Qu c.2.2]),(false,[dI k])] [] 0 (Q7 (lf (dS (Xi c k c.1.length)))):=by
 refine Qt Tryz.func232 rfl rfl Tryz.ntmps232 fun y p w l A o m=> ?_
 refine acI 1 fun _=> ?_
 refine w_ ?_
 refine xbx 0 ?_
 refine w9 ?_
 refine alL 9 fun _=> ?_
 refine w4 ?_
 refine lp0 c.1.length (fun i=>⟨[(1,lI k),(2,lP 0 0),(4,lf (dS (⟨#[]⟩:ByteArray))),(5,lf (dS (Xi c k i))),(9,lf (.dat Ql c.1)),(10,lI (c.1.length:Int)),(11,lI (i:Int))],[bx 0 27 [.dat Ql c.1, .dat Qm c.2.1, .dat Qu c.2.2]]⟩) ?_ fun i _=> ?_
 exact Wk.of [] rfl ⟨rfl,rfl,rfl,(show some (lf (dS (⟨#[]⟩:ByteArray)))=some (lf (dS (Xi c k 0))) from congrArg (fun z_=>some (lf (dS z_))) (rfl)),rfl,rfl,rfl,trivial⟩ ⟨rfl,trivial⟩ rfl rfl
 have r:=QrQ (c:=c) (q:=k) (i:=i)
 have t:(⟨#[UInt8.ofNat (48+(i:Int)).toNat]⟩:ByteArray).size=1:=rfl
 have u:(⟨#[44]⟩:ByteArray).size=1:=rfl
 have v:((⟨#[UInt8.ofNat (48+(i:Int)).toNat]⟩:ByteArray)++(⟨#[44]⟩:ByteArray)).size=2:=by rw[aX]; rfl
 refine w4 ?_
 cases d:(decide ((i:Int) < (c.1.length:Int)))
 have e:=aa d
 refine w7 ?_
 refine Qd<|fqS p ?_
 (congr 1; omega)
 have e:=ab d
 refine w6 ?_
 obtain ⟨sg,b⟩:=gx c.1 i
 refine w2 ?_
 refine lc (xal 1 Qz WA) ?_
 refine w6 ?_
 refine alI 17 fun _=> ?_
 refine w2 ?_
 cases f:(!decide (sg.2=1))
 have g:(sg.2=1):=QM f
 refine w12 ?_
 refine Qb ?_
 refine l0_ ?_
 exact Wk.of [] rfl ⟨rfl,rfl,rfl,(show some (lf (dS (Xi c k i)))=some (lf (dS (Xi c k (i+1)))) from congrArg (fun z_=>some (lf (dS z_))) (by first | exact Qd7 b ‹_› ‹_› | exact Qfa b ‹_› | exact QfO b ‹_› ‹_›)),rfl,rfl,rfl,trivial⟩ ⟨rfl,trivial⟩ rfl rfl
 have g:¬(sg.2=1):=QS f
 refine w3 ?_
 refine lgy rfl rfl (dK (Qbk c k (i:Int)) Qk4) ?_
 refine w2 ?_
 cases h:(U8 c k (i:Int))
 refine w6 ?_
 refine Qb ?_
 refine l0_ ?_
 exact Wk.of [] rfl ⟨rfl,rfl,rfl,(show some (lf (dS (Xi c k i)))=some (lf (dS (Xi c k (i+1)))) from congrArg (fun z_=>some (lf (dS z_))) (by first | exact Qd7 b ‹_› ‹_› | exact Qfa b ‹_› | exact QfO b ‹_› ‹_›)),rfl,rfl,rfl,trivial⟩ ⟨rfl,trivial⟩ rfl rfl
 refine w4 ?_
 refine lc (dK (HV (i:Int) (by omega)) Qeb) ?_
 refine lc (Zn (Qa rfl) (Evl.str rfl) rfl (by omega))<|lc (Zn (Qa rfl) (Qa rfl) rfl (by omega)) ?_
 refine w_ ?_
 refine Qb ?_
 refine w4 ?_
 refine Qb ?_
 refine l0_ ?_
 exact Wk.of [] rfl ⟨rfl,rfl,rfl,(show some (lf (dS ((Xi c k i)++((⟨#[UInt8.ofNat (48+(i:Int)).toNat]⟩:ByteArray)++(⟨#[44]⟩:ByteArray)))))=some (lf (dS (Xi c k (i+1)))) from congrArg (fun z_=>some (lf (dS z_))) (by first | exact Qd7 b ‹_› ‹_› | exact Qfa b ‹_› | exact QfO b ‹_› ‹_›)),rfl,rfl,rfl,trivial⟩ ⟨rfl,trivial⟩ rfl rfl
theorem ZF (c:ZB)(G:SgW c):FC Tryz.prog 117 [(true,[.dat Ql c.1, .dat Qm c.2.1, .dat Qu c.2.2])] [] 0 (YJ 32 QA (Zt c)):=by
 have F:=G.some_
 have Q:=G.few
 have o:=G.sig8
 refine Qt Tryz.func117 rfl rfl Tryz.ntmps117 fun U P T K V O N=> ?_
 refine w_ ?_
 refine xbx 0 ?_
 refine w9 ?_
 refine alL 7 fun _=> ?_
 refine w4 ?_
 refine AC.wk (Wk.nilS 1 3 32 QA rfl (Fresh.of rfl) (nlr rfl)) ?_
 refine lp0 c.2.1.length (fun i=>⟨[(1,lP 0 0),(2,lf (.val (.slice none 0 0))),(3,lR 2),(8,lI (c.2.1.length:Int)),(9,lI (i:Int))],[bx 0 27 [.dat Ql c.1, .dat Qm c.2.1, .dat Qu c.2.2],ar 2 32 QA (XL c (Qcm c) i)]⟩) ?_ fun i _=> ?_
 exact wp [(2,1)] ⟨rfl,(Qe (rfl)),trivial⟩
 have E:=Qd3 (c:=c) (f:=Qcm c) (i:=i) F.2
 refine w4 ?_
 cases y:(decide ((i:Int) < (c.2.1.length:Int)))
 have A:=aa y
 refine w7 ?_
 refine Qd<|fo_ P ?_
 (congr 1; omega)
 have A:=ab y
 refine w14 ?_
 refine QL (fun I J=>∃(m:Int) (b:List (List Int)),I=((c.2.1.length:Int) - m).toNat∧((i:Int)+1≤m∧m≤(c.2.1.length:Int))∧(b=XL c (Qcm c) i++X5 c (Qcm c) i m.toNat)∧J=⟨[(1,lP 0 0),(2,lf (.val (.slice none 0 0))),(3,lR 3),(4,lI (i:Int)),(5,lI m),(8,lI (c.2.1.length:Int)),(9,lI (i:Int)),(10,lB true),(11,lI (i:Int)),(12,lI (i:Int)),(13,lI ((i:Int)+1))],[bx 0 27 [.dat Ql c.1, .dat Qm c.2.1, .dat Qu c.2.2],ar 3 32 QA b]⟩) ⟨(i:Int)+1,XL c (Qcm c) i,rfl,(by omega),(by rw[show ((i:Int)+1).toNat=i+1 by omega,Qe5,bq]),rfl⟩ ?_ ?_
 exact wp [(3,2)] ⟨rfl,(Qe (by first | rfl | simp)),trivial⟩
 rintro I J ⟨m,b,R,W,p,rfl⟩
 have S:b.length≤100000:=by rw[p,ae]; have:=QeX (c:=c) (f:=Qcm c) (i:=i) (k:=m.toNat); have:=E (by omega); omega
 have l:((m.toNat:Nat):Int)=m:=by omega
 refine w5 ?_
 refine alL 16 fun _=> ?_
 refine w3 ?_
 cases B:(decide (m < (c.2.1.length:Int)))
 have C:=aa B
 refine w6 ?_
 refine Qb ?_
 refine l0_ ?_
 exact wp [(2,3)] ⟨rfl,(Qe ((by rw[p]; exact QvQ (by omega) (by omega)))),trivial⟩
 have C:=ab B
 refine w4 ?_
 obtain ⟨L,H⟩:=gx c.2.1 i
 have g:=H
 obtain ⟨M,D⟩:=gx c.2.1 ((m).toNat)
 have h:=D
 cases d:(decide (L=M))
 have u:=aa d
 apply dW (i9 21 _ _ _ _ _ _ _ _ _ (io 30 _ :: io 31 (lB false) :: i9 32 _ _ _ _ _ _ _ _ _ [])) [0,0,3,0,0,31,31,127,31,31,0,0,0,4096,0,28672,61440,0,0,0]
 refine z10 ?_
 refine zz (fun _ r=>ac (QC (d) (VL (r.v rfl) (r.v rfl) rfl)) rfl) ?_
 exact y9
 refine w7 ?_
 refine Qb<|Q2 ⟨(m+1),b,rfl,(by omega),(by rw[p]; first | exact QoG (by omega) h g ‹_› (Qhw o (by rw[l]; assumption)) | exact QnC (by omega) h g ‹_› | exact QrN (by omega) (Qms o (by rw[l]; assumption))),rfl⟩ (by omega) ?_
 exact wo []
 have u:=ab d
 apply dW (i9 21 _ _ _ _ _ _ _ _ _ (io 30 _ :: io 31 (lB true) :: i3 32 _ _ _ (io 35 (lf (dS (Xi c (i:Int) c.1.length))) :: i2 36 _ _ (io 38 (lf (dS (Xi c m c.1.length))) :: i2 39 _ _ [])))) [0,0,3,0,0,31,31,127,31,31,0,0,0,4096,0,28672,61440,0,0,0]
 refine z10 ?_
 refine zz (fun _ r=>ac (QC (d) (VL (r.v rfl) (r.v rfl) rfl)) rfl) ?_
 refine z3 ?_
 refine zz (fun _ r=>day rfl (r.k rfl) (dK (Ur c (i:Int) (by omega)) QeZ) rfl) ?_
 refine z2 ?_
 refine zz (fun _ r=>day rfl (r.k rfl) (dK (Ur c m (by omega)) QeZ) rfl) ?_
 exact y2
 cases t:(!decide ((Xi c (i:Int) c.1.length)=(Xi c m c.1.length)))
 have w:((Xi c (i:Int) c.1.length)=(Xi c m c.1.length)):=QM t
 refine w7 ?_
 refine Qb<|Q2 ⟨(m+1),b,rfl,(by omega),(by rw[p]; first | exact QoG (by omega) h g ‹_› (Qhw o (by rw[l]; assumption)) | exact QnC (by omega) h g ‹_› | exact QrN (by omega) (Qms o (by rw[l]; assumption))),rfl⟩ (by omega) ?_
 exact wo []
 have w:¬((Xi c (i:Int) c.1.length)=(Xi c m c.1.length)):=QS t
 refine w5 ?_
 refine lc (dBs 4 (e:= .int) Yj) ?_
 refine lc (dBs 5 (e:=QA) Qao (hab:=by exact ⟨_,_,_,_,rfl,(.inl ⟨_,rfl,rfl,rfl⟩),⟨rfl,rfl⟩,rfl⟩)) ?_
 refine lc (dA 6 Qrk) ?_
 refine w_ ?_
 refine Qb ?_
 refine w5 ?_
 refine Qb<|Q2 ⟨(m+1),(b++([[(i:Int),m]])),rfl,(by omega),(by rw[p]; first | exact QoG (by omega) h g ‹_› (Qhw o (by rw[l]; assumption)) | exact QnC (by omega) h g ‹_› | exact QrN (by omega) (Qms o (by rw[l]; assumption))),rfl⟩ (by omega) ?_
 exact wp [(3,6)] ⟨rfl,(Qe (by first | rfl | simp)),trivial⟩
theorem QfV (c:ZB)(x:QwV)[∀c,Decidable (SgOk c)][∀s,Decidable (Zx s)](d:SgOk c):FC Tryz.prog 336 [(true,[.dat Ql c.1, .dat Qm c.2.1, .dat Qu c.2.2]),(true,[dI x.1.1,dB x.1.2,dI x.2.1,dB x.2.2])] [] 0 (Is (PV.tup [(true,[.ref 0, .ref 1, .ref 2]),(false,[dB ((Zo c x).2)])]) [ar 0 44 Qz (((Zo c x).1).1),ar 1 9 .str (((Zo c x).1).2.1),ar 2 46 Qs (((Zo c x).1).2.2)]):=by
 have H:∀a∈c.2.2,InR c.2.1.length a:=fun a f=>XE (d.arcs a f)
 have B:=d.some_
 have A:=d.few
 have D:=d.sigs.2.2
 have C:=Qko (c:=c)
 refine Qt Tryz.func336 rfl rfl Tryz.ntmps336 fun F e E g G t r=> ?_
 refine acG 1 0 fun _=> ?_
 refine acG 1 2 fun _=> ?_
 refine w_ ?_
 refine xbx 0 ?_
 refine xbx 1 ?_
 refine lc (xal 2 X2 ZC) ?_
 refine w8 ?_
 refine lc (dK (JJ c x.1 x.2 d) QmO) ?_
 refine w3 ?_
 refine lc (xal 3 .str Va) ?_
 refine w8 ?_
 cases u:(okB c x.1 x.2)
 refine w8 ?_
 refine lc (Qg ZU rfl (au.1 rfl) rfl rfl) ?_
 refine w3 ?_
 refine AC.wk (Qn 4 (p:=2) (off:=0) 44 Qz rfl rfl (Fresh.of rfl) (nlr rfl))<|AC.wk (Qn 5 (p:=2) (off:=1) 9 .str rfl rfl (Fresh.of rfl) (nlr rfl))<|AC.wk (Qn 6 (p:=2) (off:=2) 46 Qs rfl rfl (Fresh.of rfl) (nlr rfl))<|Qd ?_
 have h:(false:Bool)=((Zo c x).2):=by
  (rw[Un ‹_›]; done)
 exact fi_ [(0,4),(1,5),(2,6)] e ⟨(Qe (by (rw[Un ‹_›]; rfl))),(Qe (by (rw[Un ‹_›]; rfl))),(Qe (by (rw[Un ‹_›]; rfl))),trivial⟩ (h0:=by rw[← h] <;> rfl)
 refine w2 ?_
 refine lgy rfl rfl (Y6 ⟨_,_,rfl,(Qa rfl),rfl,⟨_,_,rfl,(Qa rfl),rfl,rfl⟩⟩ rfl) ?_
 refine lgy rfl rfl (dP 7 [(0,3),(1,0)] (Ui c.2.2 (Yu c x.1 x.2) c (fun a f=>by rw[J1 ‹_›]; exact ⟨(Qch d).at_ f,Ut (d.arcs a f).2.2.1⟩)) Qfv) ?_
 refine w2 ?_
 refine cb_ (fun _=> ?_) fun _=> ?_
 refine w_ ?_
 apply dW (i2 29 _ _ (io 31 (lf (dS (Yn c))) :: io 32 _ :: ⟨some 33,PV.tup [(true,[.ref 9, .ref 10, .ref 11]),(false,[dB ((Yz c (Yn c) (Yu c x.1 x.2)).2)])],[ar 9 44 Qz (((Yz c (Yn c) (Yu c x.1 x.2)).1.1).1),ar 10 9 .str (((Yz c (Yn c) (Yu c x.1 x.2)).1.1).2.1),ar 11 46 Qs (((Yz c (Yn c) (Yu c x.1 x.2)).1.1).2.2)]⟩ :: io 28 _ :: i2 34 _ _ [⟨some 8,lP 12 0,[bx 12 27 [.val (.slice none 0 0), .val (.slice none 0 0), .val (.slice none 0 0)]]⟩,⟨none,lf (.val undef),[bx 12 27 [.ref 9, .ref 10, .ref 11]]⟩,io 9 _])) [0,1,1,7,0,0,0,64,255,128,0]
 refine z2 ?_
 refine zz (fun _ b=>ac (dK (QbQ c) Qlh) rfl) ?_
 refine z_ ?_
 refine zz (fun _ b=>ac (dG 9 (JS c (Yn c) (Yu c x.1 x.2) (by omega)) QoY) rfl) ?_
 refine z3 ?_
 refine zz (fun _ b=>ac (Xq 12 X2 ZC rfl rfl (b.fr 12 rfl) (nlr rfl)) rfl)<|zz (fun _ b=>ac (QO (b.v rfl) (b.en 12 rfl) (b.w rfl) (by show QQ _ [.ref 9, .ref 10, .ref 11]=true; simp only[QQ,Xz,aY,br]; rw[(b.en 9 rfl),(b.en 10 rfl),(b.en 11 rfl)]; rfl) YL rfl) rfl) ?_
 exact y1
 cases y:((Yz c (Yn c) (Yu c x.1 x.2)).2)
 apply dW (i9 36 _ _ _ _ _ _ _ _ _ [⟨none,lf (.val undef),[bx 2 27 [.ref 9, .ref 10, .ref 11]]⟩,io 5 _]) [0,1,1,1,1,25,1,1,1,384,0]
 refine z9 ?_
 refine zz (fun _ b=>ac (QO (b.v rfl) (b.en 2 rfl) (b.w rfl) (by show QQ _ [.ref 9, .ref 10, .ref 11]=true; simp only[QQ,Xz,aY,br]; rw[(b.en 9 rfl),(b.en 10 rfl),(b.en 11 rfl)]; rfl) YL rfl) rfl) ?_
 exact y1
 refine w_ ?_
 have l:(false:Bool)=((Zo c x).2):=by
  exact QyG ‹_› ‹_› ‹_›
 exact fi_ [(0,9),(1,10),(2,11)] e ⟨(Qe (by (rw[Qg4 ‹_› ‹_›]; done))),(Qe (by (rw[Qg4 ‹_› ‹_›]; done))),(Qe (by (rw[Qg4 ‹_› ‹_›]; done))),trivial⟩ (h0:=by rw[← l] <;> rfl)
 apply dW (i4 36 _ _ _ _ (io 40 (lI (Ue ((Yz c (Yn c) (Yu c x.1 x.2)).1.1))) :: io 41 _ :: io 42 (lI (Ue c)) :: i2 43 _ _ [⟨none,lf (.val undef),[bx 2 27 [.ref 9, .ref 10, .ref 11]]⟩,io 5 _])) [0,1,1,1,1,25,1,1,1,384,0]
 refine z4 ?_
 refine zz (fun _ b=>day rfl (b.k rfl) (YF (VS ((Yz c (Yn c) (Yu c x.1 x.2)).1.1) (by first | exact d | exact Qok ‹_›)) QeP ⟨_,_,rfl,(XI (b.w rfl) ⟨_,_,rfl, .inr ⟨_,_,_,_,rfl,(b.en 9 rfl),rfl⟩,⟨_,_,rfl, .inr ⟨_,_,_,_,rfl,(b.en 10 rfl),rfl⟩,⟨_,_,rfl, .inr ⟨_,_,_,_,rfl,(b.en 11 rfl),rfl⟩,rfl⟩⟩⟩),rfl⟩ rfl rfl rfl) rfl) ?_
 refine z_ ?_
 refine zz (fun _ b=>day rfl (b.k rfl) (dK (VS c (by first | exact d | exact Qok ‹_›)) QeP) rfl) ?_
 refine z2 ?_
 refine zz (fun _ b=>ac (QO (b.v rfl) (b.en 2 rfl) (b.w rfl) (by show QQ _ [.ref 9, .ref 10, .ref 11]=true; simp only[QQ,Xz,aY,br]; rw[(b.en 9 rfl),(b.en 10 rfl),(b.en 11 rfl)]; rfl) YL rfl) rfl) ?_
 exact y1
 refine w_ ?_
 have m:(decide ((Ue ((Yz c (Yn c) (Yu c x.1 x.2)).1.1))≤(Ue c)):Bool)=((Zo c x).2):=by
  exact QyM ‹_› ‹_› ‹_›
 exact fi_ [(0,9),(1,10),(2,11)] e ⟨(Qe (by (rw[Qg4 ‹_› ‹_›]; done))),(Qe (by (rw[Qg4 ‹_› ‹_›]; done))),(Qe (by (rw[Qg4 ‹_› ‹_›]; done))),trivial⟩ (h0:=by rw[m] <;> rfl)
 refine w_ ?_
 refine lc (Qg ZU rfl (au.1 rfl) rfl rfl) ?_
 refine w3 ?_
 refine AC.wk (Qn 13 (p:=2) (off:=0) 44 Qz rfl rfl (Fresh.of rfl) (nlr rfl))<|AC.wk (Qn 14 (p:=2) (off:=1) 9 .str rfl rfl (Fresh.of rfl) (nlr rfl))<|AC.wk (Qn 15 (p:=2) (off:=2) 46 Qs rfl rfl (Fresh.of rfl) (nlr rfl))<|Qd ?_
 have o:(false:Bool)=((Zo c x).2):=by
  (rw[QdJ ‹_› ‹_›]; done)
 exact fi_ [(0,13),(1,14),(2,15)] e ⟨(Qe (by (rw[QdJ ‹_› ‹_›]; rfl))),(Qe (by (rw[QdJ ‹_› ‹_›]; rfl))),(Qe (by (rw[QdJ ‹_› ‹_›]; rfl))),trivial⟩ (h0:=by rw[← o] <;> rfl)
theorem Vr (c:ZB)(x:QwV)[∀c,Decidable (SgOk c)][∀s,Decidable (Zx s)](d:SgOk c):FC Tryz.prog 120 [(true,[.dat Ql c.1, .dat Qm c.2.1, .dat Qu c.2.2]),(true,[dI x.1.1,dB x.1.2,dI x.2.1,dB x.2.2])] [] 0 (Is (PV.tup [(true,[.ref 0, .ref 1, .ref 2]),(false,[dB ((Zo c x).2)])]) [ar 0 44 Qz (((Zo c x).1).1),ar 1 9 .str (((Zo c x).1).2.1),ar 2 46 Qs (((Zo c x).1).2.2)]):=by
 have H:∀a∈c.2.2,InR c.2.1.length a:=fun a t=>XE (d.arcs a t)
 have B:=d.some_
 have A:=d.few
 have D:=d.sigs.2.2
 have C:=Qko (c:=c)
 refine Qt Tryz.func120 rfl rfl Tryz.ntmps120 fun F e E f G r o=> ?_
 refine acG 1 0 fun _=> ?_
 refine acG 1 2 fun _=> ?_
 refine w_ ?_
 refine xbx 0 ?_
 refine xbx 1 ?_
 refine lc (xal 2 X2 ZC) ?_
 refine w8 ?_
 refine lc (dK (Hy c x.1 x.2 d) Qk2) ?_
 refine w11 ?_
 cases u:(okB c x.1 x.2)
 refine w8 ?_
 refine lc (Qg ZU rfl (au.1 rfl) rfl rfl) ?_
 refine w3 ?_
 refine AC.wk (Qn 3 (p:=2) (off:=0) 44 Qz rfl rfl (Fresh.of rfl) (nlr rfl))<|AC.wk (Qn 4 (p:=2) (off:=1) 9 .str rfl rfl (Fresh.of rfl) (nlr rfl))<|AC.wk (Qn 5 (p:=2) (off:=2) 46 Qs rfl rfl (Fresh.of rfl) (nlr rfl))<|Qd ?_
 have g:(false:Bool)=((Zo c x).2):=by
  (rw[Un ‹_›]; done)
 exact fi_ [(0,3),(1,4),(2,5)] e ⟨(Qe (by (rw[Un ‹_›]; rfl))),(Qe (by (rw[Un ‹_›]; rfl))),(Qe (by (rw[Un ‹_›]; rfl))),trivial⟩ (h0:=by rw[← g] <;> rfl)
 refine w2 ?_
 refine lgy rfl rfl (dK (Qdb c (YC c (Qj c x.1 x.2)) (Qch (block:=Qj c x.1 x.2) d)) Qqq) ?_
 refine w3 ?_
 cases y:(!Qak c (YC c (Qj c x.1 x.2)))
 refine w2 ?_
 refine lc (Qg ZU rfl (au.1 rfl) rfl rfl) ?_
 refine w3 ?_
 refine AC.wk (Qn 6 (p:=2) (off:=0) 44 Qz rfl rfl (Fresh.of rfl) (nlr rfl))<|AC.wk (Qn 7 (p:=2) (off:=1) 9 .str rfl rfl (Fresh.of rfl) (nlr rfl))<|AC.wk (Qn 8 (p:=2) (off:=2) 46 Qs rfl rfl (Fresh.of rfl) (nlr rfl))<|Qd ?_
 have h:(false:Bool)=((Zo c x).2):=by
  (rw[Qdo ‹_›]; done)
 exact fi_ [(0,6),(1,7),(2,8)] e ⟨(Qe (by (rw[Qdo ‹_›]; rfl))),(Qe (by (rw[Qdo ‹_›]; rfl))),(Qe (by (rw[Qdo ‹_›]; rfl))),trivial⟩ (h0:=by rw[← h] <;> rfl)
 refine w2 ?_
 apply dW (i2 34 _ _ (io 36 (lf (dS (Yn c))) :: io 37 _ :: ⟨some 38,PV.tup [(true,[.ref 9, .ref 10, .ref 11]),(false,[.ref 12]),(false,[dB ((Z2 c (Yn c) (YC c (Qj c x.1 x.2))).2)])],[ar 9 44 Qz (((Z2 c (Yn c) (YC c (Qj c x.1 x.2))).1.1).1),ar 10 9 .str (((Z2 c (Yn c) (YC c (Qj c x.1 x.2))).1.1).2.1),ar 11 46 Qs (((Z2 c (Yn c) (YC c (Qj c x.1 x.2))).1.1).2.2),ar 12 3 .int ((Z2 c (Yn c) (YC c (Qj c x.1 x.2))).1.2)]⟩ :: io 33 _ :: i3 39 _ _ _ (⟨some 8,lP 13 0,[bx 13 27 [.val (.slice none 0 0), .val (.slice none 0 0), .val (.slice none 0 0)]]⟩ :: ⟨none,lf (.val undef),[bx 13 27 [.ref 9, .ref 10, .ref 11]]⟩ :: i2 9 _ _ []))) [0,1,1,7,0,0,0,64,192,511,384,256,0]
 refine z2 ?_
 refine zz (fun _ b=>ac (dK (Qc5 c) Qmq) rfl) ?_
 refine z_ ?_
 refine zz (fun _ b=>ac (dG 9 (QbH c (Yn c) (YC c (Qj c x.1 x.2)) (by omega)) Qo8) rfl) ?_
 refine z4 ?_
 refine zz (fun _ b=>ac (Xq 13 X2 ZC rfl rfl (b.fr 13 rfl) (nlr rfl)) rfl)<|zz (fun _ b=>ac (QO (b.v rfl) (b.en 13 rfl) (b.w rfl) (by simp only[QQ,Xz,aY,br]; rw[(b.en 9 rfl),(b.en 10 rfl),(b.en 11 rfl)]; rfl) YL rfl) rfl) ?_
 exact y2
 refine w5 ?_
 refine cx_ (fun _=> ?_) fun _=> ?_
 refine w_ ?_
 refine lc (Qg ZU rfl (au.1 rfl) rfl rfl) ?_
 refine w3 ?_
 refine AC.wk (Qn 14 (p:=2) (off:=0) 44 Qz rfl rfl (Fresh.of rfl) (nlr rfl))<|AC.wk (Qn 15 (p:=2) (off:=1) 9 .str rfl rfl (Fresh.of rfl) (nlr rfl))<|AC.wk (Qn 16 (p:=2) (off:=2) 46 Qs rfl rfl (Fresh.of rfl) (nlr rfl))<|Qd ?_
 have l:(false:Bool)=((Zo c x).2):=by
  (rw[Qnu ‹_› ‹_› ‹_›]; done)
 exact fi_ [(0,14),(1,15),(2,16)] e ⟨(Qe (by (rw[Qnu ‹_› ‹_› ‹_›]; rfl))),(Qe (by (rw[Qnu ‹_› ‹_› ‹_›]; rfl))),(Qe (by (rw[Qnu ‹_› ‹_› ‹_›]; rfl))),trivial⟩ (h0:=by rw[← l] <;> rfl)
 refine w3 ?_
 refine lc (dK (Wi c) Qet) ?_
 refine w8 ?_
 refine lc (YF (Wi ((Z2 c (Yn c) (YC c (Qj c x.1 x.2))).1.1)) Qet ⟨_,_,rfl,(XI (Qo rfl) ⟨_,_,rfl, .inr ⟨_,_,_,_,rfl,rfl,rfl⟩,⟨_,_,rfl, .inr ⟨_,_,_,_,rfl,rfl,rfl⟩,⟨_,_,rfl, .inr ⟨_,_,_,_,rfl,rfl,rfl⟩,rfl⟩⟩⟩),rfl⟩ rfl rfl rfl) ?_
 refine w15 ?_
 have m:(decide ((if SgOk ((Z2 c (Yn c) (YC c (Qj c x.1 x.2))).1.1) then Ue ((Z2 c (Yn c) (YC c (Qj c x.1 x.2))).1.1) else 0)≤(if SgOk c then Ue c else 0)):Bool)=((Zo c x).2):=by
  exact Qx1 d ‹_› ‹_› ‹_›
 exact fi_ [(0,9),(1,10),(2,11)] e ⟨(Qe (by (rw[QsB ‹_› ‹_› ‹_›]; done))),(Qe (by (rw[QsB ‹_› ‹_› ‹_›]; done))),(Qe (by (rw[QsB ‹_› ‹_› ‹_›]; done))),trivial⟩ (h0:=by rw[m] <;> rfl)
theorem WK (c:ZB)(x:QwV)[∀c,Decidable (SgOk c)][∀s,Decidable (Zx s)]:FC Tryz.prog 119 [(true,[.dat Ql c.1, .dat Qm c.2.1, .dat Qu c.2.2]),(true,[dI x.1.1,dB x.1.2,dI x.2.1,dB x.2.2])] [] 0 (Q7 (PV.tup [(false,[dI (XG c x)]),(false,[dI (VW c x)]),(false,[dB (VB c x)])])):=by
 refine Qt Tryz.func119 rfl rfl Tryz.ntmps119 fun E o D p F B A=> ?_
 refine acG 1 0 fun _=> ?_
 refine acG 1 2 fun _=> ?_
 refine w_ ?_
 refine xbx 0 ?_
 refine xbx 1 ?_
 refine w11 ?_
 refine lc (dK (Qcu c x.1 x.2) Qky) ?_
 refine w2 ?_
 cases d:(decide (((SgOk c∧0≤x.1.1∧x.1.1≤(c.1.length:Int) - 1)∧(0≤x.2.1∧x.2.1≤(c.1.length:Int) - 1))∧¬x.1=x.2))
 have f:=aa d
 refine w7 ?_
 have r:(0:Int)=(XG c x):=by
  exact Eq.symm (Qww ‹_›).1
 have t:(0:Int)=(VW c x):=by
  exact Eq.symm (Qww ‹_›).2.1
 have u:(false:Bool)=(VB c x):=by
  exact Eq.symm (Qww ‹_›).2.2
 exact fr_ o (e:=by rw[← r,← t,← u] <;> rfl)
 have f:=ab d
 refine w5 ?_
 refine lc (dG 2 (Vr c x (by have C:QjP c x:=‹_›; exact C.1.1.1)) Qaz) ?_
 refine w3 ?_
 refine lc (xal 5 X2 ZC) ?_
 refine w8 ?_
 refine cx_ (fun _=> ?_) fun _=> ?_
 refine w6 ?_
 have v:(0:Int)=(XG c x):=by
  exact Eq.symm (QwO ‹_›).1
 have y:(0:Int)=(VW c x):=by
  exact Eq.symm (QwO ‹_›).2.1
 have g:(false:Bool)=(VB c x):=by
  exact Eq.symm (QwO ‹_›).2.2
 exact fr_ o (e:=by rw[← v,← y,← g] <;> rfl)
 refine w_ ?_
 apply dW (io 24 _ :: ⟨some 25,lR 6,[ar 6 32 QA (Zt ((Zo c x).1))]⟩ :: io 26 _ :: io 27 (lP 5 1) :: io 28 (lR 3) :: io 29 (lI ((((Zo c x).1).2.1).length:Int)) :: i3 4 _ _ _ []) [0,0,0,7,7,7,56,0,0]
 refine z_ ?_
 refine zz (fun _ b=>ac (Yr 6 (ZF ((Zo c x).1) (Qsn ‹_›).w) Wb ⟨_,_,rfl,(XI (b.w rfl) ⟨_,_,rfl, .inr ⟨_,_,_,_,rfl,(b.en 2 rfl),rfl⟩,⟨_,_,rfl, .inr ⟨_,_,_,_,rfl,(b.en 3 rfl),rfl⟩,⟨_,_,rfl, .inr ⟨_,_,_,_,rfl,(b.en 4 rfl),rfl⟩,rfl⟩⟩⟩),rfl⟩ rfl (b.fr 6 rfl) (nlr rfl)) rfl) ?_
 exact y7
 refine w_ ?_
 have h:(((Zt ((Zo c x).1)).length:Int):Int)=(XG c x):=by
  exact Eq.symm (Qwj ‹_› ‹_›).1
 have l:(((((Zo c x).1).2.1).length:Int):Int)=(VW c x):=by
  exact Eq.symm (Qwj ‹_› ‹_›).2.1
 have m:(true:Bool)=(VB c x):=by
  exact Eq.symm (Qwj ‹_› ‹_›).2.2
 exact fr_ o (e:=by rw[h,l,← m] <;> rfl)
end Go.Proofs.YtgpdhgadmjfokaaGreat
