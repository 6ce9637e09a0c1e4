/- Walks over abstract states: lists of monotonous covers, both sides; counts of literals. -/
import Derived.Test.YtndabgcpnmeeoaaGreatMId
import Derived.Test.YtndabgcpnmeeoaaGreatMUd
import Derived.Test.YtndabgcpnmeeoaaGreatMIa
import Derived.Test.YtndabgcpnmeeoaaGreatMDa
set_option linter.unusedSimpArgs false
set_option linter.unusedVariables false
set_option linter.unusedSectionVars false
namespace Go.Proofs.YtndabgcpnmeeoaaGreat
open Go.RowKit
set_option maxRecDepth 100000
set_option maxHeartbeats 4000000
def elE (m:DRc):Int×Bool:=(m.1,m.2.1)
def elB (c:DSg)(l:List DRc):Bool:=decide (l.map elE=egL c)
section
variable {c:DSg}{l:List DRc}{m:DRc}{k:Nat}{e:Int×Bool}{s:Int}
theorem QxW (a:k < l.length)(h:(egL c).length≤k):false=elB c l:=(aB fun g=>by
 have:=congrArg List.length g
 rw[aJ] at this
 omega).symm
theorem QwL (b:l[k]? =some m)(a:(egL c)[k]? =some e)(h:¬(e.1=m.1∧e.2=m.2.1)):false=elB c l:=(aB fun g=>by
 have:=congrArg (fun z=>z[k]?) g
 simp only[bg,b,a,dF,bn] at this
 exact h ⟨(congrArg Prod.fst this).symm,(congrArg Prod.snd this).symm⟩).symm
theorem Qxi (h:∀j,j < k→∀m,l[j]? =some m→(egL c)[j]? =some (elE m))(b:l.length≤k):decide ((l.length:Int)=((egL c).length:Int))=elB c l:=by
 refine bX.2 ⟨fun g=> ?_,fun g=> ?_⟩
 ·refine bK fun j=> ?_
  rw[bg]
  cases a:l[j]? with
  | none=>
   rw[cR] at a
   exact (bH (by omega)).symm
  | some m=>exact (h j (aX (ah.1 a).1 b) m a).symm
 ·have:=congrArg List.length g
  rw[aJ] at this
  omega
theorem Qtz (h:elB c l=true):l.map elE=egL c:=ab h
theorem QwE (h:elB c l=true)(a:l[k]? =some m):(egL c)[k]? =some (elE m):=by rw[← Qtz h,bg,a]; rfl
theorem Qgu (h:elB c l=true):l.length=(egL c).length:=by rw[← Qtz h,aJ]
theorem Qi0 (h:elB c l=true)(a:l[k]? =some m):0≤m.1∧m.1≤(c.1.length:Int) - 1:=Qrh (QwE h a)
theorem QtK:∀{l:List Int} {k:Nat} {s:Int},l[k / 2]? =some s→(l.flatMap egF)[k]? =some (s,decide ((k:Int) % 2=0))
 | [],k,s,h=>by cases h
 | x :: l,0,s,h=>by
  obtain rfl:x=s:=by simpa using h
  rfl
 | x :: l,1,s,h=>by
  obtain rfl:x=s:=by simpa using h
  rfl
 | x :: l,k+2,s,h=>by
  have a:(k+2) / 2=k / 2+1:=by omega
  rw[a,cJ] at h
  have:=QtK h
  show (egF x++l.flatMap egF)[k+2]? =_
  rw[show egF x++l.flatMap egF=(x,true) :: (x,false) :: l.flatMap egF from rfl,cJ,cJ,this]
  congr 2
  refine bX.2 ?_
  omega
theorem Qti (h:(Qy c.1 c.1.length)[((k:Int) / 2).toNat]? =some s):(egL c)[k]? =some (s,decide ((k:Int) % 2=0)):=QtK (by rw[show k / 2=((k:Int) / 2).toNat by omega]; exact h)
theorem QxK (h:¬(l.length:Int)=2*((Qy c.1 c.1.length).length:Int)):false=elB c l:=(aB fun g=>by
 have:=congrArg List.length g
 rw[aJ] at this
 have a:=Qdp (Qy c.1 c.1.length)
 have b:(egL c).length=((Qy c.1 c.1.length).flatMap egF).length:=rfl
 omega).symm
theorem Qws (b:l[k]? =some m)(h:(Qy c.1 c.1.length)[((k:Int) / 2).toNat]? =some s)(a:¬(m.1=s∧m.2.1=decide ((k:Int) % 2=0))):false=elB c l:=QwL b (Qti h) fun g=>a ⟨g.1.symm,g.2.symm⟩
theorem Qyo (h:∀j,j < k→∀m,l[j]? =some m→(egL c)[j]? =some (elE m))(n:l[k]? =some m)(f:(Qy c.1 c.1.length)[((k:Int) / 2).toNat]? =some s)(b:m.1=s)(d:m.2.1=decide ((k:Int) % 2=0)):∀j,j < k+1→∀m,l[j]? =some m→(egL c)[j]? =some (elE m):=
 fun j p o a=>by
  by_cases g:j=k
  ·subst g; rw[n] at a; cases a
   rw[Qti f]; unfold elE; rw[b,d]
  ·exact h j (by omega) o a
theorem Qx3 (h:∀j,j < k→∀m,l[j]? =some m→(egL c)[j]? =some (elE m))(a:l.length≤k)(f:(l.length:Int)=2*((Qy c.1 c.1.length).length:Int)):true=elB c l:=by
 rw[← Qxi h a]
 have b:=Qdp (Qy c.1 c.1.length)
 have d:(egL c).length=((Qy c.1 c.1.length).flatMap egF).length:=rfl
 exact (aE (by omega)).symm
theorem Qyc (h:∀j,j < k→∀m,l[j]? =some m→(egL c)[j]? =some (elE m))(f:l[k]? =some m)(d:(egL c)[k]? =some e)(b:Ty.beq Zk e (m.1,m.2.1)=true):∀j,j < k+1→∀m,l[j]? =some m→(egL c)[j]? =some (elE m):=fun j o n a=>by
 by_cases g:j=k
 ·subst g; rw[f] at a; cases a
  rw[d,(Ty.beq_iff _ _ _).1 b]; rfl
 ·exact h j (by omega) n a
theorem Qyq {a b:Bool}(h:(a==b)=true):a=b:=by simpa using h
theorem QxS {a b:Bool}(h:(a==b)=false):¬a=b:=by simpa using h
theorem QxL {a b:Bool}(h:(!(a==b))=false):a=b:=by simpa using h
end
theorem WV (c:ZX)(l:QhE)(F:c.1.length≤100000):FC Tryz.prog 88 [(true,[.dat Ql c.1, .dat Qj c.2.1, .dat Qv c.2.2]),(false,[.dat V6 l])] [] 0 (QX (lB (elB c l))):=by
 have A:=Qa7 (c:=c)
 refine Qp Tryz.func88 rfl rfl Tryz.ntmps88 fun H u G B I D C=> ?_
 refine w_ ?_
 refine xbx 0 ?_
 refine w4 ?_
 refine lc (dK (U2 c F).frozen Qfu) ?_
 refine w5 ?_
 refine alL 10 fun _=> ?_
 refine w4 ?_
 refine lpK l.length (fun k=>∀j,j < k→∀m,l[j]? =some m→(egL c)[j]? =some (elE m)) (fun k=>⟨[(1,lf (.dat V6 l)),(5,lf (.dat Y9 (egL c))),(10,lf (.dat V6 l)),(11,lI (l.length:Int)),(12,lI (k:Int))],[]⟩) ((fun j E=>absurd E (aW j))) ?_ fun k _ y=> ?_
 exact wo []
 refine w4 ?_
 cases f:(decide ((k:Int) < (l.length:Int)))
 have g:=aa f
 refine w5 ?_
 refine alL 34 fun _=> ?_
 refine w2 ?_
 refine alL 36 fun _=> ?_
 refine w4 ?_
 refine Qd<|fqB u ?_
 exact Qxi y (by omega)
 have g:=ab f
 refine w6 ?_
 obtain ⟨d,x⟩:=gx l k
 have o:=x
 refine w2 ?_
 refine lc (xal 1 Ym XF) ?_
 refine w3 ?_
 cases b:(decide (((egL c).length:Int)≤(k:Int)))
 have h:=aa b
 obtain ⟨t,r⟩:=gx (egL c) k
 have n:=r
 apply dW (i3 17 _ _ _ (io 20 (lB false) :: i9 21 _ _ _ _ _ _ _ _ _ [io 30 (ag [dI d.1,dB d.2.1]),io 31 (lB (!(Ty.beq Zk t (d.1,d.2.1)))),io 32 _])) [0,1,1,0,0,0,32,0,0,480,480,2016,2016,480,0,0]
 refine z3 ?_
 refine zz (fun _ a=>ac (QS (b) (HO (a.v rfl) (a.v rfl) rfl)) rfl) ?_
 refine z9 ?_
 refine zz (fun _ a=>day rfl (a.k rfl) (Qq XJ ⟨_,_,rfl,(a.w rfl),⟨_,_,rfl,(a.w rfl),rfl⟩⟩ (av.1 rfl) rfl rfl) rfl)<|zz (fun _ a=>day rfl (a.k rfl) (QnM QdJ Qdd (a.w rfl) (a.w rfl) (p:=t) (q:=(d.1,d.2.1)) rfl rfl rfl) rfl) ?_
 exact y1
 cases z:(Ty.beq Zk t (d.1,d.2.1))
 refine w4 ?_
 refine Qd<|fqB u ?_
 exact QwL o n (Qa1 ‹_›)
 refine w6 ?_
 refine Qb ?_
 refine lK_ ((Qyc y o n ‹_›)) ?_
 exact wo []
 have h:=ab b
 apply dW (i3 17 _ _ _ (io 20 (lB true) :: i9 21 _ _ _ _ _ _ _ _ _ (i3 30 _ _ _ []))) [0,1,1,0,0,0,32,0,0,480,480,2016,2016,480,0,0]
 refine z3 ?_
 refine zz (fun _ a=>ac (QS (b) (HO (a.v rfl) (a.v rfl) rfl)) rfl) ?_
 exact y12
 refine w4 ?_
 refine Qd<|fqB u ?_
 exact QxW (k:=k) (by omega) (by omega)
theorem U6 (c:ZX)(l:QhE)(B:c.1.length≤100000):FC Tryz.prog 92 [(true,[.dat Ql c.1, .dat Qj c.2.1, .dat Qv c.2.2]),(false,[.dat V6 l])] [] 0 (QX (lB (elB c l))):=by
 have C:=Wo (ss:=c.1) (k:=c.1.length)
 refine Qp Tryz.func92 rfl rfl Tryz.ntmps92 fun E r D x F z y=> ?_
 refine w_ ?_
 refine xbx 0 ?_
 refine w4 ?_
 refine lc (dK (XE c B).frozen Jb) ?_
 refine w5 ?_
 refine alL 10 fun _=> ?_
 refine w2 ?_
 refine alL 12 fun _=> ?_
 refine w_ ?_
 refine lc (WK (Qn rfl) (Qa rfl) rfl (by omega)) ?_
 refine w2 ?_
 refine cn_ (fun _ _=> ?_) fun _ _=> ?_
 refine w4 ?_
 refine alL 16 fun _=> ?_
 refine w4 ?_
 refine lpK l.length (fun k=>∀j,j < k→∀m,l[j]? =some m→(egL c)[j]? =some (elE m)) (fun k=>⟨[(5,lf (.dat Qi (Qy c.1 c.1.length))),(16,lf (.dat V6 l)),(17,lI (l.length:Int)),(18,lI (k:Int))],[]⟩) ((fun j A=>absurd A (aW j))) ?_ fun k _ u=> ?_
 exact wo []
 refine w4 ?_
 cases n:(decide ((k:Int) < (l.length:Int)))
 have o:=aa n
 refine w6 ?_
 refine Qd<|fqB r ?_
 exact Qx3 u (by omega) (by omega)
 have o:=ab n
 refine w6 ?_
 obtain ⟨q,t⟩:=gx l k
 have f:=t
 refine w2 ?_
 refine lc (xal 1 Ym XF) ?_
 refine w3 ?_
 obtain ⟨sg,p⟩:=gx (Qy c.1 c.1.length) (((k:Int) / 2).toNat)
 have h:=p
 cases b:(!decide (q.1=sg))
 have d:(q.1=sg):=Qu b
 apply dW (i4 23 _ _ _ _ (io 27 (lI ((k:Int) / 2)) :: i2 28 _ _ (io 30 (lB false) :: i4 31 _ _ _ _ [io 35 (lI ((k:Int) % 2)),io 36 _,io 37 (lB (!(q.2.1==(decide (((k:Int) % 2)=0))))),io 38 _]))) [0,0,3,7,7,3,3,0,0,0,0,1536,1536,1536,0,0]
 refine z4 ?_
 refine zz (fun _ a=>ac (KW (a.v rfl) (Qn rfl) rfl (by omega) (by omega)) rfl) ?_
 refine z2 ?_
 refine zz (fun _ a=>ac (QS (VI (JO b)) (VD (a.v rfl) (a.v rfl) rfl)) rfl) ?_
 refine z4 ?_
 refine zz (fun _ a=>day rfl (a.k rfl) (Qd8 (a.v rfl) (Qn rfl) rfl (by omega) (by omega)) rfl) ?_
 refine z_ ?_
 refine zz (fun _ a=>day rfl (a.k rfl) (ZW (a.v rfl) (a.v rfl) rfl Zv) rfl) ?_
 exact y1
 cases w:(q.2.1==(decide (((k:Int) % 2)=0)))
 refine w4 ?_
 refine Qd<|fqB r ?_
 exact Qws f h (fun g=>absurd g.2 (QxS ‹_›))
 refine w6 ?_
 refine Qb ?_
 refine lK_ ((Qyo u f h ‹_› (by first | assumption | exact Qyq ‹_› | exact QxL ‹_›))) ?_
 exact wo []
 have d:¬(q.1=sg):=QE b
 apply dW (i4 23 _ _ _ _ (io 27 (lI ((k:Int) / 2)) :: i2 28 _ _ (io 30 (lB true) :: i8 31 _ _ _ _ _ _ _ _ []))) [0,0,3,7,7,3,3,0,0,0,0,1536,1536,1536,0,0]
 refine z4 ?_
 refine zz (fun _ a=>ac (KW (a.v rfl) (Qn rfl) rfl (by omega) (by omega)) rfl) ?_
 refine z2 ?_
 refine zz (fun _ a=>ac (QS (VI (JO b)) (VD (a.v rfl) (a.v rfl) rfl)) rfl) ?_
 exact y8
 refine w4 ?_
 refine Qd<|fqB r ?_
 exact Qws f h (fun g=>absurd g.1 ‹_›)
 refine w3 ?_
 refine Qd<|fqB r ?_
 exact QxK ‹_›
noncomputable def amK [∀c,Decidable (SgOk c)] (c:DSg) (m:DRc) (i:Nat):Bool:=decide (CkP c m.1 m.2.1 (i:Int) ((m.2.2[i]?).getD ByteArray.empty))&&decide (ckV c m.1 m.2.1 (i:Int) ((m.2.2[i]?).getD ByteArray.empty)=0)
noncomputable def am1 [∀c,Decidable (SgOk c)] (c:DSg) (m:DRc):Bool:=decide (m.2.2.length=(rg1 c (elE m)).length)&&(List.range m.2.2.length).all (amK c m)
def AmP [∀c,Decidable (SgOk c)](c:DSg)(l:List DRc):Prop:=(SgOk c∧QL c=QB)∧elB c l=true
instance [∀c,Decidable (SgOk c)] (c:DSg) (l:List DRc):Decidable (AmP c l):=inferInstanceAs (Decidable (_∧_))
noncomputable def amV [∀c,Decidable (SgOk c)] (c:DSg) (l:List DRc):Bool:=decide (AmP c l)&&l.all (am1 c)
section
variable [∀c,Decidable (SgOk c)]{c:DSg}{l:List DRc}{m:DRc}{k i:Nat}{cu:ByteArray}
theorem QeD (h:¬AmP c l):false=amV c l∧false=decide (AmP c l):=by
 have:=aB h
 exact ⟨by unfold amV; rw[this]; rfl,this.symm⟩
theorem QnZ (h:AmP c l)(b:l[k]? =some m)(a:am1 c m=false):false=amV c l:=by
 unfold amV
 rw[aE h,List.all_eq_false.2 ⟨m,ae b,by rw[a]; decide⟩]; rfl
theorem QwY (h:AmP c l)(b:∀j,j < k→∀m,l[j]? =some m→am1 c m=true)(d:l.length≤k):true=amV c l:=by
 unfold amV
 rw[aE h,av.2 fun m f=>by
  obtain ⟨j,a⟩:=aL.1 f
  exact b j (aX (ah.1 a).1 d) m a]; rfl
theorem Qtu (h:¬(m.2.2.length:Int)=((rg1 c (elE m)).length:Int)):am1 c m=false:=by unfold am1; rw[aB fun g=>h (by rw[g])]; rfl
theorem Qjq (a:m.2.2[i]? =some cu):amK c m i=(decide (CkP c m.1 m.2.1 (i:Int) cu)&&decide (ckV c m.1 m.2.1 (i:Int) cu=0)):=by unfold amK; rw[a]; rfl
theorem QlQ (a:m.2.2[i]? =some cu)(h:amK c m i=false):am1 c m=false:=by
 unfold am1
 rw[List.all_eq_false.2 ⟨i,bD.2 (ah.1 a).1,by rw[h]; decide⟩]; simp
theorem QpG (h:(m.2.2.length:Int)=((rg1 c (elE m)).length:Int))(a:∀j,j < i→amK c m j=true)(hi:m.2.2.length≤i):am1 c m=true:=by
 unfold am1
 rw[aE (by omega),av.2 fun j b=>a j (aX (bD.1 b) hi)]; rfl
theorem QqA (d:m.2.2[i]? =some cu)(a:CkP c m.1 m.2.1 (i:Int) cu)(b:ckV c m.1 m.2.1 (i:Int) cu=0):amK c m i=true:=by rw[Qjq d,aE a,aE b]; rfl
theorem Qq9 (b:m.2.2[i]? =some cu)(a:¬CkP c m.1 m.2.1 (i:Int) cu):amK c m i=false:=by rw[Qjq b,aB a]; rfl
theorem QqT (b:m.2.2[i]? =some cu)(a:¬ckV c m.1 m.2.1 (i:Int) cu=0):amK c m i=false:=by rw[Qjq b,aB a]; simp
theorem Qih {P:Nat→Prop}(h:∀j,j < i→P j)(hi:P i):∀j,j < i+1→P j:=fun j a=>by
 by_cases g:j=i
 ·subst g; exact hi
 ·exact h j (by omega)
end
theorem QW (c:ZX)(l:QhE)[∀c,Decidable (SgOk c)]:FC Tryz.prog 13 [(true,[.dat Ql c.1, .dat Qj c.2.1, .dat Qv c.2.2]),(false,[.dat V6 l])] [] 0 (QX (PV.tup [(false,[dB (amV c l)]),(false,[dB (decide (AmP c l))])])):=by
 refine Qp Tryz.func13 rfl rfl Tryz.ntmps13 fun O_ w a4 S X_ Y X=> ?_
 refine w_ ?_
 refine xbx 0 ?_
 refine w6 ?_
 refine lc (dK (X3 c) Jp) ?_
 refine w2 ?_
 cases z:(decide (SgOk c∧QL c=QB))
 have A:=aa z
 refine w12 ?_
 have T:(false:Bool)=(amV c l):=by
  exact (QeD (fun g=>absurd g.1 ‹_›)).1
 have U:(false:Bool)=(decide (AmP c l)):=by
  exact (QeD (fun g=>absurd g.1 ‹_›)).2
 exact fr_ w (e:=by rw[← T,← U] <;> rfl)
 have A:=ab z
 refine w2 ?_
 refine lgy rfl rfl (dK (WV c l (by have:=(by assumption:SgOk c∧QL c=QB).1.sigs.2.2; omega)) QfO) ?_
 refine w3 ?_
 refine cx_ (fun _=> ?_) fun _=> ?_
 refine w5 ?_
 have V:(false:Bool)=(amV c l):=by
  exact (QeD (fun g=>absurd (g.2.symm.trans ‹_›) (by decide))).1
 have W:(false:Bool)=(decide (AmP c l)):=by
  exact (QeD (fun g=>absurd (g.2.symm.trans ‹_›) (by decide))).2
 exact fr_ w (e:=by rw[← V,← W] <;> rfl)
 refine w2 ?_
 refine Zy ?_
 have d:AmP c l:=⟨by assumption,by assumption⟩
 have hM:=d.1
 have D:=hM.1
 have Z:=d.2
 have hr:∀a∈c.2.2,InR c.2.1.length a:=fun a ha=>ZL (D.arcs a ha)
 have a2:=D.some_
 have a0:=D.few
 have h8:=D.sigs.2.2
 have Q:=Qa7 (c:=c)
 have a1:=Qgu Z
 refine w2 ?_
 refine alL 22 fun _=> ?_
 refine w4 ?_
 refine lpK l.length (fun k=>∀j,j < k→∀m,l[j]? =some m→am1 c m=true) (fun k=>⟨[(2,lP 0 0),(22,lf (.dat V6 l)),(23,lI (l.length:Int)),(24,lI (k:Int))],[bx 0 28 [.dat Ql c.1, .dat Qj c.2.1, .dat Qv c.2.2]]⟩) ((fun j O=>absurd O (aW j))) ?_ fun k _ x=> ?_
 exact wo []
 refine w4 ?_
 cases B:(decide ((k:Int) < (l.length:Int)))
 have C:=aa B
 refine w8 ?_
 have G:(true:Bool)=(amV c l):=by
  exact QwY d x (by omega)
 have H:(true:Bool)=(decide (AmP c l)):=by
  exact (aE d).symm
 exact fr_ w (e:=by rw[← G,← H] <;> rfl)
 have C:=ab B
 refine w5 ?_
 obtain ⟨b,E⟩:=gx l k
 have h:=E
 have a3:=Qcg (l:=(b.1,b.2.1)) hr
 have R:(rg1 c (elE b)).length=(regV c.2.2 (xS c.2.2 (b.1,b.2.1))).length:=rfl
 refine w2 ?_
 refine lc (xal 1 Ym XF) ?_
 refine w6 ?_
 refine alI 30 fun _=> ?_
 refine w2 ?_
 refine lc (dK (Z1 c b.1 b.2.1 D) Jm) ?_
 refine w6 ?_
 refine alL 35 fun _=> ?_
 refine w2 ?_
 refine alL 37 fun _=> ?_
 refine w3 ?_
 cases n:(!decide ((b.2.2.length:Int)=((regV c.2.2 (xS c.2.2 (b.1,b.2.1))).length:Int)))
 have r:((b.2.2.length:Int)=((regV c.2.2 (xS c.2.2 (b.1,b.2.1))).length:Int)):=Qu n
 refine w5 ?_
 refine alL 41 fun _=> ?_
 refine w4 ?_
 refine lpK b.2.2.length (fun i=>∀j,j < i→amK c b j=true) (fun i=>⟨[(2,lP 0 0),(7,lP 1 0),(8,lf (.dat Z7 (regV c.2.2 (xS c.2.2 (b.1,b.2.1))))),(22,lf (.dat V6 l)),(23,lI (l.length:Int)),(24,lI (k:Int)),(25,lB true),(26,lf (.elt Ym b 0)),(27,ag [dI b.1,dB b.2.1, .dat Qj b.2.2]),(28,ag [.dat Ql c.1, .dat Qj c.2.1, .dat Qv c.2.2]),(29,lP 1 0),(30,lI b.1),(31,lP 1 1),(32,lB b.2.1),(33,lf (.dat Z7 (regV c.2.2 (xS c.2.2 (b.1,b.2.1))))),(34,lP 1 2),(35,lf (.dat Qj b.2.2)),(36,lI (b.2.2.length:Int)),(37,lf (.dat Z7 (regV c.2.2 (xS c.2.2 (b.1,b.2.1))))),(38,lI ((regV c.2.2 (xS c.2.2 (b.1,b.2.1))).length:Int)),(39,lB false),(40,lP 1 2),(41,lf (.dat Qj b.2.2)),(42,lI (b.2.2.length:Int)),(43,lI (i:Int))],[bx 0 28 [.dat Ql c.1, .dat Qj c.2.1, .dat Qv c.2.2],bx 1 139 [dI b.1,dB b.2.1, .dat Qj b.2.2]]⟩) ((fun j O=>absurd O (aW j))) ?_ fun i _ y=> ?_
 exact wo []
 refine w4 ?_
 cases o:(decide ((i:Int) < (b.2.2.length:Int)))
 have t:=aa o
 refine w6 ?_
 refine Qb ?_
 refine lK_ ((XV (P:=fun m=>am1 c m=true) x h (QpG (by omega) y (by omega)))) ?_
 exact wo []
 have t:=ab o
 refine w6 ?_
 obtain ⟨cu,F⟩:=gx b.2.2 i
 have f:=F
 refine w13 ?_
 refine lc (dK (Z9 c b.1 b.2.1 (i:Int) cu) Ji) ?_
 refine w10 ?_
 cases p:(decide (CkP c b.1 b.2.1 (i:Int) cu))
 have u:=aa p
 refine w10 ?_
 have I:(false:Bool)=(amV c l):=by
  exact QnZ d h (QlQ f (Qq9 f ‹_›))
 have J:(true:Bool)=(decide (AmP c l)):=by
  exact (aE d).symm
 exact fr_ w (e:=by rw[← I,← J] <;> rfl)
 have u:=ab p
 refine w4 ?_
 cases q:(!decide ((ckV c b.1 b.2.1 (i:Int) cu)=0))
 have v:((ckV c b.1 b.2.1 (i:Int) cu)=0):=Qu q
 refine w6 ?_
 refine Qb ?_
 refine lK_ ((Qih (P:=fun j=>amK c b j=true) y (QqA f ‹_› ‹_›))) ?_
 exact wo []
 have v:¬((ckV c b.1 b.2.1 (i:Int) cu)=0):=QE q
 refine w6 ?_
 have K:(false:Bool)=(amV c l):=by
  exact QnZ d h (QlQ f (QqT f ‹_›))
 have L:(true:Bool)=(decide (AmP c l)):=by
  exact (aE d).symm
 exact fr_ w (e:=by rw[← K,← L] <;> rfl)
 have r:¬((b.2.2.length:Int)=((regV c.2.2 (xS c.2.2 (b.1,b.2.1))).length:Int)):=QE n
 refine w6 ?_
 have M:(false:Bool)=(amV c l):=by
  exact QnZ d h (Qtu ‹_›)
 have N:(true:Bool)=(decide (AmP c l)):=by
  exact (aE d).symm
 exact fr_ w (e:=by rw[← M,← N] <;> rfl)
theorem QV (c:ZX)(l:QhE)[∀c,Decidable (SgOk c)]:FC Tryz.prog 15 [(true,[.dat Ql c.1, .dat Qj c.2.1, .dat Qv c.2.2]),(false,[.dat V6 l])] [] 0 (QX (PV.tup [(false,[dB (amV c l)]),(false,[dB (decide (AmP c l))])])):=by
 refine Qp Tryz.func15 rfl rfl Tryz.ntmps15 fun O_ t a6 Y X_ a1 a0=> ?_
 refine w_ ?_
 refine xbx 0 ?_
 refine w6 ?_
 refine lc (dK (X0 c) JA) ?_
 refine w2 ?_
 cases C:(decide (SgOk c))
 have D:=aa C
 refine w16 ?_
 refine w_ ?_
 have Z:(false:Bool)=(amV c l):=by
  exact (QeD (fun g=>absurd g.1.1 ‹_›)).1
 have e3:(false:Bool)=(decide (AmP c l)):=by
  exact (QeD (fun g=>absurd g.1.1 ‹_›)).2
 exact fr_ t (e:=by rw[← Z,← e3] <;> rfl)
 have D:=ab C
 refine w_ ?_
 refine lgy rfl rfl (dK (XD c (by assumption:SgOk c).w) Uc) ?_
 refine w3 ?_
 cases E:(!decide ((QL c)=(⟨#[109,97,100,101]⟩:ByteArray)))
 have F:((QL c)=(⟨#[109,97,100,101]⟩:ByteArray)):=Qu E
 refine w2 ?_
 refine lgy rfl rfl (dK (U6 c l (by have:=(by assumption:SgOk c).sigs.2.2; omega)) QfR) ?_
 refine w3 ?_
 refine cx_ (fun _=> ?_) fun _=> ?_
 refine w5 ?_
 have e6:(false:Bool)=(amV c l):=by
  exact (QeD (fun g=>absurd (g.2.symm.trans ‹_›) (by decide))).1
 have e7:(false:Bool)=(decide (AmP c l)):=by
  exact (QeD (fun g=>absurd (g.2.symm.trans ‹_›) (by decide))).2
 exact fr_ t (e:=by rw[← e6,← e7] <;> rfl)
 refine w2 ?_
 refine Zy ?_
 have d:AmP c l:=⟨⟨by assumption,by assumption⟩,by assumption⟩
 have hM:=d.1
 have G:=hM.1
 have V:=d.2
 have hr:∀a∈c.2.2,InR c.2.1.length a:=fun a ha=>ZL (G.arcs a ha)
 have a4:=G.some_
 have a2:=G.few
 have h8:=G.sigs.2.2
 have W:=Qa7 (c:=c)
 have a3:=Qgu V
 refine w2 ?_
 refine alL 27 fun _=> ?_
 refine w4 ?_
 refine lpK l.length (fun k=>∀j,j < k→∀m,l[j]? =some m→am1 c m=true) (fun k=>⟨[(2,lP 0 0),(27,lf (.dat V6 l)),(28,lI (l.length:Int)),(29,lI (k:Int))],[bx 0 28 [.dat Ql c.1, .dat Qj c.2.1, .dat Qv c.2.2]]⟩) ((fun j U=>absurd U (aW j))) ?_ fun k _ A=> ?_
 exact wo []
 refine w4 ?_
 cases n:(decide ((k:Int) < (l.length:Int)))
 have u:=aa n
 refine w8 ?_
 have J:(true:Bool)=(amV c l):=by
  exact QwY d A (by omega)
 have K:(true:Bool)=(decide (AmP c l)):=by
  exact (aE d).symm
 exact fr_ t (e:=by rw[← J,← K] <;> rfl)
 have u:=ab n
 refine w5 ?_
 obtain ⟨b,H⟩:=gx l k
 have h:=H
 have a5:=Qcg (l:=(b.1,b.2.1)) hr
 have X:(rg1 c (elE b)).length=(regV c.2.2 (xS c.2.2 (b.1,b.2.1))).length:=rfl
 refine w2 ?_
 refine lc (xal 1 Ym XF) ?_
 refine w6 ?_
 refine alI 35 fun _=> ?_
 refine w2 ?_
 refine lc (dK (Z2 c b.1 b.2.1 G (Qi0 V h)).frozen Vb) ?_
 refine w6 ?_
 refine alL 40 fun _=> ?_
 refine w2 ?_
 refine alL 42 fun _=> ?_
 refine w3 ?_
 cases o:(!decide ((b.2.2.length:Int)=((regV c.2.2 (xS c.2.2 (b.1,b.2.1))).length:Int)))
 have v:((b.2.2.length:Int)=((regV c.2.2 (xS c.2.2 (b.1,b.2.1))).length:Int)):=Qu o
 refine w5 ?_
 refine alL 46 fun _=> ?_
 refine w4 ?_
 refine lpK b.2.2.length (fun i=>∀j,j < i→amK c b j=true) (fun i=>⟨[(2,lP 0 0),(7,lP 1 0),(8,lf (.dat Z7 (regV c.2.2 (xS c.2.2 (b.1,b.2.1))))),(27,lf (.dat V6 l)),(28,lI (l.length:Int)),(29,lI (k:Int)),(30,lB true),(31,lf (.elt Ym b 0)),(32,ag [dI b.1,dB b.2.1, .dat Qj b.2.2]),(33,ag [.dat Ql c.1, .dat Qj c.2.1, .dat Qv c.2.2]),(34,lP 1 0),(35,lI b.1),(36,lP 1 1),(37,lB b.2.1),(38,lf (.dat Z7 (regV c.2.2 (xS c.2.2 (b.1,b.2.1))))),(39,lP 1 2),(40,lf (.dat Qj b.2.2)),(41,lI (b.2.2.length:Int)),(42,lf (.dat Z7 (regV c.2.2 (xS c.2.2 (b.1,b.2.1))))),(43,lI ((regV c.2.2 (xS c.2.2 (b.1,b.2.1))).length:Int)),(44,lB false),(45,lP 1 2),(46,lf (.dat Qj b.2.2)),(47,lI (b.2.2.length:Int)),(48,lI (i:Int))],[bx 0 28 [.dat Ql c.1, .dat Qj c.2.1, .dat Qv c.2.2],bx 1 139 [dI b.1,dB b.2.1, .dat Qj b.2.2]]⟩) ((fun j U=>absurd U (aW j))) ?_ fun i _ B=> ?_
 exact wo []
 refine w4 ?_
 cases p:(decide ((i:Int) < (b.2.2.length:Int)))
 have x:=aa p
 refine w6 ?_
 refine Qb ?_
 refine lK_ ((XV (P:=fun m=>am1 c m=true) A h (QpG (by omega) B (by omega)))) ?_
 exact wo []
 have x:=ab p
 refine w6 ?_
 obtain ⟨cu,I⟩:=gx b.2.2 i
 have f:=I
 refine w13 ?_
 refine lc (dK (Yb c b.1 b.2.1 (i:Int) cu) Jc) ?_
 refine w10 ?_
 cases q:(decide (CkP c b.1 b.2.1 (i:Int) cu))
 have y:=aa q
 refine w10 ?_
 have L:(false:Bool)=(amV c l):=by
  exact QnZ d h (QlQ f (Qq9 f ‹_›))
 have M:(true:Bool)=(decide (AmP c l)):=by
  exact (aE d).symm
 exact fr_ t (e:=by rw[← L,← M] <;> rfl)
 have y:=ab q
 refine w4 ?_
 cases r:(!decide ((ckV c b.1 b.2.1 (i:Int) cu)=0))
 have z:((ckV c b.1 b.2.1 (i:Int) cu)=0):=Qu r
 refine w6 ?_
 refine Qb ?_
 refine lK_ ((Qih (P:=fun j=>amK c b j=true) B (QqA f ‹_› ‹_›))) ?_
 exact wo []
 have z:¬((ckV c b.1 b.2.1 (i:Int) cu)=0):=QE r
 refine w6 ?_
 have N:(false:Bool)=(amV c l):=by
  exact QnZ d h (QlQ f (QqT f ‹_›))
 have O:(true:Bool)=(decide (AmP c l)):=by
  exact (aE d).symm
 exact fr_ t (e:=by rw[← N,← O] <;> rfl)
 have v:¬((b.2.2.length:Int)=((regV c.2.2 (xS c.2.2 (b.1,b.2.1))).length:Int)):=QE o
 refine w6 ?_
 have Q:(false:Bool)=(amV c l):=by
  exact QnZ d h (Qtu ‹_›)
 have R:(true:Bool)=(decide (AmP c l)):=by
  exact (aE d).symm
 exact fr_ t (e:=by rw[← Q,← R] <;> rfl)
 have F:¬((QL c)=(⟨#[109,97,100,101]⟩:ByteArray)):=QE E
 refine w12 ?_
 have S:(false:Bool)=(amV c l):=by
  exact (QeD (fun g=>absurd g.1.2 ‹_›)).1
 have T:(false:Bool)=(decide (AmP c l)):=by
  exact (QeD (fun g=>absurd g.1.2 ‹_›)).2
 exact fr_ t (e:=by rw[← S,← T] <;> rfl)
end Go.Proofs.YtndabgcpnmeeoaaGreat
namespace Go.Proofs.YtndabgcpnmeeoaaGreat
open Go.RowKit
set_option maxRecDepth 100000
set_option maxHeartbeats 4000000
abbrev VZ:ByteArray:=⟨#[32]⟩
abbrev plT:ByteArray:=⟨#[32,43,32]⟩
def nmA (s:List Qz)(i:Nat):ByteArray:=((s[i]?).getD (ByteArray.empty,0)).1
def wd1 (s:List Qz)(cube:ByteArray)(i:Nat):List ByteArray:=if bAt cube (i:Int)=49 then [nmA s i] else if bAt cube (i:Int)=48 then [nmA s i++⟨#[39]⟩] else []
def wdL (s:List Qz)(cube:ByteArray)(k:Nat):List ByteArray:=(List.range k).flatMap (wd1 s cube)
def jnO (l:List ByteArray)(sep:ByteArray):ByteArray:=if l=[] then ⟨#[]⟩ else jnB l sep
def orT (t d:ByteArray):ByteArray:=if t=⟨#[]⟩ then d else t
def prT (s:List Qz)(cube:ByteArray):ByteArray:=orT (jnO (wdL s cube s.length) VZ) ⟨#[49]⟩
def cvO (s:List Qz)(l:List ByteArray):ByteArray:=jnO (l.map (prT s)) plT
def cvT (s:List Qz)(l:List ByteArray):ByteArray:=orT (cvO s l) ⟨#[48]⟩
def WZ (s:List Qz):Prop:=∀g∈s,1≤g.1.size∧g.1.size≤6
section
variable {s:List Qz}{cube w sep t:ByteArray}{l L:List ByteArray}{k i:Nat}{g:Qz}{u:UInt8}{B:Nat}
theorem ba0 {x:ByteArray}(h:x.size=0):x=⟨#[]⟩:=ByteArray.size_eq_zero_iff.1 h
theorem Qvo (h0:0 < l.length)(m:∀x∈l,x.size≤B):(jnB l sep).size≤(B+sep.size)*l.length:=by
 have d:(jnB l sep).size=(Lib.join (l.map fB) (fB sep)).length:=by simp[jnB,ByteArray.size]; rfl
 have e:∀l:List ByteArray,(∀x∈l,x.size≤B)→Lib.lens (l.map fB)≤B*l.length:=fun l=>by
  induction l with
  | nil=>intro _; exact aP _
  | cons x l n=>
   intro h
   have o:=n fun y j=>h y (aw _ j)
   have p:=h x (ax ..)
   have b:(fB x).length=x.size:=by simp[fB]
   have c:Lib.lens ((x :: l).map fB)=(fB x).length+Lib.lens (l.map fB):=by simp[Lib.lens]
   rw[c,b,au,Nat.mul_add]; omega
 have a:=e l m
 rw[d]
 cases l with
 | nil=>cases h0
 | cons x r=>
  rw[be,Lib.join_length,aJ,← be (f:=fB),show (fB sep).length=sep.size by simp[fB],bP]
  rw[au] at a ⊢
  have:sep.size*r.length≤sep.size*(r.length+1):=Nat.mul_le_mul_left _ (Nat.le_succ _)
  omega
theorem Qwn (h0:0 < l.length)(c:∀x∈l,1≤x.size):1≤(jnB l sep).size:=by
 have b:(jnB l sep).size=(Lib.join (l.map fB) (fB sep)).length:=by simp[jnB,ByteArray.size]; rfl
 cases l with
 | nil=>cases h0
 | cons x r=>
  have d:=c x (ax ..)
  have a:(fB x).length=x.size:=by simp[fB]
  rw[b,be,Lib.join_cons,ai,a]; omega
theorem Qw5:jnO [] sep=⟨#[]⟩:=rfl
theorem Qdk (h:l≠[]):jnO l sep=jnB l sep:=if_neg h
theorem QqP (a:∀x∈l,1≤x.size):jnO l sep=⟨#[]⟩↔l=[]:=by
 constructor
 ·intro h
  cases l with
  | nil=>rfl
  | cons x r=>
   rw[Qdk (by simp)] at h
   have:=Qwn (sep:=sep) (l:=x :: r) (by simp) a
   rw[h] at this
   exact absurd this (by decide)
 ·rintro rfl; rfl
theorem Qo9 (h:l≠[]):jnO l sep++sep++w=jnO (l++[w]) sep:=by rw[Qdk h,Qdk (by simp),Qox h]
theorem Qql (h:l=[]):jnO l sep++w=jnO (l++[w]) sep:=by
 subst h
 rw[Qw5,Qdk (by simp),cV,QsQ]
 exact ByteArray.empty_append
theorem Qqe (a:∀x∈l,x.size≤B):(jnO l sep).size≤(B+sep.size)*l.length:=by
 by_cases h:l=[]
 ·subst h; exact aP _
 ·rw[Qdk h]; exact Qvo (List.length_pos_iff.2 h) a
theorem QmJ (a:s[k]? =some g):nmA s k=g.1:=by unfold nmA; rw[a]; rfl
theorem Qlj:wdL s cube (k+1)=wdL s cube k++wd1 s cube k:=by unfold wdL; rw[bY,db]; simp
theorem QqL (b:s[k]? =some g)(a:cube[((k:Int)).toNat]? =some u)(h:u=49):wdL s cube k++[g.1]=wdL s cube (k+1):=by rw[Qlj,wd1,Zo a,if_pos h,QmJ b]
theorem Qpv (c:s[k]? =some g)(b:cube[((k:Int)).toNat]? =some u)(a:¬u=49)(h:u=48):wdL s cube k++[g.1++⟨#[39]⟩]=wdL s cube (k+1):=by rw[Qlj,wd1,Zo b,if_neg a,if_pos h,QmJ c]
theorem Qs0 (b:cube[((k:Int)).toNat]? =some u)(a:¬u=49)(h:¬u=48):wdL s cube k=wdL s cube (k+1):=by rw[Qlj,wd1,Zo b,if_neg a,if_neg h,bE]
theorem QvM (a:cube[((k:Int)).toNat]? =some u)(h:u=45):wdL s cube k=wdL s cube (k+1):=Qs0 a (by rw[h]; decide) (by rw[h]; decide)
theorem Qr3:(wd1 s cube k).length≤1:=by
 unfold wd1
 split
 ·simp
 ·split <;> simp
theorem Qlv:(wdL s cube k).length≤k:=by
 induction k with
 | zero=>exact aK _
 | succ k a=>rw[Qlj,ai]; have:=Qr3 (s:=s) (cube:=cube) (k:=k); omega
theorem QgQ (d:WZ s)(f:k≤s.length):∀x∈wdL s cube k,1≤x.size∧x.size≤7:=fun x c=>by
 unfold wdL at c
 obtain ⟨i,b,h⟩:=cH.1 c
 have b:=bD.1 b
 have a:s[i]? =some s[i]:=aj (by omega)
 have e:=d _ (ae a)
 unfold wd1 at h
 split at h
 ·rw[aD,QmJ a] at h; rw[h]; omega
 ·split at h
  ·rw[aD,QmJ a] at h
   rw[h,aA]
   have:(⟨#[39]⟩:ByteArray).size=1:=rfl
   omega
  ·cases h
theorem Qh7 (a:Q2 cube (s.length:Int))(b:cube[((k:Int)).toNat]? =some u)(h:¬u=45):u=48∨u=49:=by
 rcases a.1 u (ae (Jl b)) with g | g | g
 ·exact .inl g
 ·exact .inr g
 ·exact absurd g h
theorem Qk8 (h:((wdL s cube s.length).length:Int)=0):(⟨#[49]⟩:ByteArray)=prT s cube:=by
 have:wdL s cube s.length=[]:=bf (by omega)
 unfold prT; rw[this]; rfl
theorem Qk9 (b:WZ s)(h:¬((wdL s cube s.length).length:Int)=0):jnB (wdL s cube s.length) VZ=prT s cube:=by
 have a:wdL s cube s.length≠[]:=fun g=>h (by rw[g]; rfl)
 unfold prT orT
 rw[if_neg fun g=>a ((QqP fun x c=>(QgQ b (aK _) x c).1).1 g),Qdk a]
theorem Qw6 (b:WZ s)(a:k≤s.length)(h:¬jnO (wdL s cube k) VZ=⟨#[]⟩):wdL s cube k≠[]:=fun g=>h (by rw[g]; rfl)
theorem QvV (b:WZ s)(a:k≤s.length)(h:jnO (wdL s cube k) VZ=⟨#[]⟩):wdL s cube k=[]:=(QqP fun x c=>(QgQ b a x c).1).1 h
theorem QvZ (a:WZ s)(d:k < s.length)(h:¬t=⟨#[]⟩)(e:t=jnO (wdL s cube k) VZ)(c:s[k]? =some g)(b:cube[((k:Int)).toNat]? =some u)(hv:u=49):t++VZ++g.1=jnO (wdL s cube (k+1)) VZ:=by
 rw[e,Qo9 (Qw6 a (by omega) (e▸h)),QqL c b hv]
theorem Qvt (a:WZ s)(d:k < s.length)(h:¬t=⟨#[]⟩)(e:t=jnO (wdL s cube k) VZ)(c:s[k]? =some g)(b:cube[((k:Int)).toNat]? =some u)(hv:u=48):t++VZ++g.1++⟨#[39]⟩=jnO (wdL s cube (k+1)) VZ:=by
 rw[e,ByteArray.append_assoc,Qo9 (Qw6 a (by omega) (e▸h)),Qpv c b (by rw[hv]; decide) hv]
theorem QvY (a:WZ s)(d:k < s.length)(h:t=⟨#[]⟩)(e:t=jnO (wdL s cube k) VZ)(c:s[k]? =some g)(b:cube[((k:Int)).toNat]? =some u)(hv:u=49):t++g.1=jnO (wdL s cube (k+1)) VZ:=by
 rw[e,Qql (QvV a (by omega) (e▸h)),QqL c b hv]
theorem QvQ (a:WZ s)(d:k < s.length)(h:t=⟨#[]⟩)(e:t=jnO (wdL s cube k) VZ)(c:s[k]? =some g)(b:cube[((k:Int)).toNat]? =some u)(hv:u=48):t++g.1++⟨#[39]⟩=jnO (wdL s cube (k+1)) VZ:=by
 rw[e,ByteArray.append_assoc,Qql (QvV a (by omega) (e▸h)),Qpv c b (by rw[hv]; decide) hv]
theorem QxE (e:t=jnO (wdL s cube k) VZ)(a:cube[((k:Int)).toNat]? =some u)(hv:u=45):t=jnO (wdL s cube (k+1)) VZ:=by rw[e,QvM a hv]
theorem Qof (c:WZ s)(b:k≤s.length):(jnO (wdL s cube k) VZ).size≤8*k:=by
 have e:=Qqe (sep:=VZ) fun x d=>(QgQ (cube:=cube) c b x d).2
 have a:=Qlv (s:=s) (cube:=cube) (k:=k)
 have f:(7+VZ.size)*(wdL s cube k).length≤8*k:=cQ (aK 8) a
 omega
theorem Qr6 (h:t=⟨#[]⟩):w=orT t w:=(if_pos h).symm
theorem Qrn (h:¬t=⟨#[]⟩):t=orT t w:=(if_neg h).symm
theorem Qlf (a:WZ s)(c:s.length≤8):1≤(prT s cube).size∧(prT s cube).size≤64:=by
 have b:=Qof (cube:=cube) a (aK s.length)
 unfold prT orT
 split
 ·exact ⟨aK 1,by have:(⟨#[49]⟩:ByteArray).size=1:=rfl; omega⟩
 ·rename_i g
  refine ⟨?_,by omega⟩
  by_cases e:(jnO (wdL s cube s.length) VZ).size=0
  ·exact absurd (ba0 e) g
  ·omega
theorem Qpr (b:WZ s)(a:s.length≤8):∀x∈l.map (prT s),1≤x.size∧x.size≤64:=fun x d=>by
 obtain ⟨c,_,rfl⟩:=ba.1 d
 exact Qlf b a
theorem Qol (c:WZ s)(b:s.length≤8):(cvO s l).size≤67*l.length:=by
 have a:=Qqe (sep:=plT) fun x d=>(Qpr (l:=l) c b x d).2
 rw[aJ] at a
 exact a
theorem Qvy (a:l[k]? =some w)(b:¬0 < (k:Int))(e:t=cvO s (l.take k)):t++prT s w=cvO s (l.take (k+1)):=by
 obtain rfl:k=0:=by omega
 rw[e]
 unfold cvO
 rw[Qw a,bt]
 exact Qql rfl
theorem Qwh (a:l[k]? =some w)(c:0 < (k:Int))(e:t=cvO s (l.take k)):t++plT++prT s w=cvO s (l.take (k+1)):=by
 have b:=(ah.1 a).1
 rw[e]
 unfold cvO
 rw[Qw a,bt]
 exact Qo9 fun g=>by
  have:=congrArg List.length g
  rw[aJ,ap,aO] at this
  omega
theorem Qsd (h:((l.map (prT s)).length:Int)=0):(⟨#[48]⟩:ByteArray)=cvT s l:=by
 have:l.map (prT s)=[]:=bf (by omega)
 unfold cvT cvO; rw[this]; rfl
theorem QsF (c:WZ s)(b:s.length≤8)(h:¬((l.map (prT s)).length:Int)=0):jnB (l.map (prT s)) plT=cvT s l:=by
 have a:l.map (prT s)≠[]:=fun g=>h (by rw[g]; rfl)
 unfold cvT orT cvO
 rw[if_neg fun g=>a ((QqP fun x d=>(Qpr c b x d).1).1 g),Qdk a]
theorem QwZ (a:l.length≤k)(h:(((l.take k).map (prT s)).length:Int)=0):(⟨#[48]⟩:ByteArray)=cvT s l:=by
 rw[aR a] at h; exact Qsd h
theorem Qwa (c:WZ s)(a:s.length≤8)(b:l.length≤k)(h:¬(((l.take k).map (prT s)).length:Int)=0):jnB ((l.take k).map (prT s)) plT=cvT s l:=by
 rw[aR b] at h ⊢; exact QsF c a h
theorem Qgm (b:WZ s)(a:s.length≤8)(d:l.length≤60):1≤(cvT s l).size∧(cvT s l).size≤4020:=by
 have c:=Qol (l:=l) b a
 unfold cvT orT
 split
 ·exact ⟨aK 1,by have:(⟨#[48]⟩:ByteArray).size=1:=rfl; omega⟩
 ·rename_i g
  refine ⟨?_,by omega⟩
  by_cases e:(cvO s l).size=0
  ·exact absurd (ba0 e) g
  ·omega
theorem Qwl (b:WZ s)(a:s.length≤8):∀x∈(l.take k).map (prT s),x.size≤1000000:=fun x c=>by
 have:=(Qpr b a x c).2
 omega
end
theorem QaK (s:Qm9)(cube:ByteArray)(n:WZ s)(I:s.length≤8)(A:Q2 cube (s.length:Int)):FC Tryz.prog 230 [(false,[.dat Ql s]),(false,[dS cube])] [] 0 (QX (lf (dS (prT s cube)))):=by
 have J:(cube.size:Int)=(s.length:Int):=A.2.1
 refine Qp Tryz.func230 rfl rfl Tryz.ntmps230 fun G r F v H z y=> ?_
 refine w4 ?_
 refine lc (dBs 0 (e:= .str) Ya) ?_
 refine w5 ?_
 refine alL 9 fun _=> ?_
 refine w4 ?_
 refine lp0 s.length (fun k=>⟨[(1,lf (dS cube)),(4,lf (dS (⟨#[]⟩:ByteArray))),(5,lR 1),(9,lf (.dat Ql s)),(10,lI (s.length:Int)),(11,lI (k:Int))],[ar 1 9 .str (wdL s cube k)]⟩) ?_ fun k _=> ?_
 exact wp [(1,0)] ⟨(Qk (rfl)),trivial⟩
 have D:=Qlv (s:=s) (cube:=cube) (k:=k)
 refine w4 ?_
 cases f:(decide ((k:Int) < (s.length:Int)))
 have h:=aa f
 refine w9 ?_
 refine cd_ (fun _ _=> ?_) fun _ _=> ?_
 refine w3 ?_
 refine lc (dB_ (Ql9 (wdL s cube k) (⟨#[32]⟩:ByteArray) (by omega) (by omega) (fun x E=>by have:=(QgQ n (by omega) x E).2; omega) (by decide)) Qeg) ?_
 refine w2 ?_
 refine Qd<|fqS r ?_
 (obtain rfl:k=s.length:=by omega); first | exact Qk8 ‹_› | exact Qk9 n ‹_›
 refine w3 ?_
 refine Qd<|fqS r ?_
 (obtain rfl:k=s.length:=by omega); first | exact Qk8 ‹_› | exact Qk9 n ‹_›
 have h:=ab f
 refine w6 ?_
 obtain ⟨g,p⟩:=gx s k
 have d:=p
 have C:=n _ (ae d)
 refine w2 ?_
 refine lc (xal 2 Zw HI) ?_
 refine w6 ?_
 obtain ⟨q,o⟩:=gs cube (((k:Int)).toNat)
 have a:=o
 refine w4 ?_
 refine lc (ZJ (Qa rfl) (Q0 49 rfl) rfl) ?_
 refine w2 ?_
 cases j:(decide (q=49))
 have m:=aa j
 refine w2 ?_
 refine lc (ZJ (Qa rfl) (Q0 48 rfl) rfl) ?_
 refine w2 ?_
 cases b:(decide (q=48))
 have c:=aa b
 refine w6 ?_
 refine Qb ?_
 refine l0_ ?_
 exact wp [] ⟨(Qk ((by first | exact QqL d a ‹_› | exact Qpv d a ‹_› ‹_› | exact Qs0 a ‹_› ‹_›))),trivial⟩
 have c:=ab b
 refine w5 ?_
 refine lc (QA (Qa rfl) (Evl.str rfl) rfl (by first | omega | (simp only[aA,Zh]; omega))) ?_
 refine lc (dBs 3 (e:= .str) Ya) ?_
 refine lc (dA 4 VT) ?_
 refine w_ ?_
 refine Qb ?_
 refine w4 ?_
 refine Qb ?_
 refine l0_ ?_
 exact wp [(1,4)] ⟨(Qk ((by first | exact QqL d a ‹_› | exact Qpv d a ‹_› ‹_› | exact Qs0 a ‹_› ‹_›))),trivial⟩
 have m:=ab j
 refine w5 ?_
 refine lc (dBs 5 (e:= .str) Ya) ?_
 refine lc (dA 6 VT) ?_
 refine w_ ?_
 refine Qb ?_
 refine w4 ?_
 refine Qb ?_
 refine l0_ ?_
 exact wp [(1,6)] ⟨(Qk ((by first | exact QqL d a ‹_› | exact Qpv d a ‹_› ‹_› | exact Qs0 a ‹_› ‹_›))),trivial⟩
theorem VE (s:Qm9)(cube:ByteArray)(j:WZ s)(R:s.length≤8)(A:Q2 cube (s.length:Int)):FC Tryz.prog 232 [(false,[.dat Ql s]),(false,[dS cube])] [] 0 (QX (lf (dS (prT s cube)))):=by
 have S:(cube.size:Int)=(s.length:Int):=A.2.1
 refine Qp Tryz.func232 rfl rfl Tryz.ntmps232 fun P E O H Q J I=> ?_
 refine w11 ?_
 refine QD (fun F G=>∃(k:Nat) (b:ByteArray),k≤cube.size∧F=cube.size - k∧(b=jnO (wdL s cube k) VZ)∧G=⟨[(0,lf (.dat Ql s)),(1,lf (dS cube)),(4,lf (dS (⟨#[]⟩:ByteArray))),(5,lf (dS b)),(6,lI (k:Int))],[]⟩) ⟨0,(⟨#[]⟩:ByteArray),aP _,rfl,rfl,rfl⟩ ?_ ?_
 exact wo []
 rintro F G ⟨k,b,K,M,a,rfl⟩
 have N:b.size≤8*k:=by rw[a]; exact Qof j (by omega)
 refine w4 ?_
 refine alS 8 fun _=> ?_
 refine lc (Zd (Qa rfl) rfl Zz) ?_
 refine w2 ?_
 cases n:(decide ((k:Int) < (cube.size:Int)))
 have o:=aa n
 refine w8 ?_
 refine cd_ (fun _ _=> ?_) fun _ _=> ?_
 refine w5 ?_
 refine Qd<|fqS E ?_
 (obtain rfl:k=s.length:=by omega); rw[prT,← a]; first | exact Qr6 ‹_› | exact Qrn ‹_›
 refine w3 ?_
 refine Qd<|fqS E ?_
 (obtain rfl:k=s.length:=by omega); rw[prT,← a]; first | exact Qr6 ‹_› | exact Qrn ‹_›
 have o:=ab n
 refine w8 ?_
 obtain ⟨z,C⟩:=gs cube (((k:Int)).toNat)
 have m:=C
 refine w_ ?_
 refine lc (ZJ (Qa rfl) (Q0 45 rfl) rfl) ?_
 refine w_ ?_
 cases p:(decide (z=45))
 have q:=aa p
 refine w7 ?_
 cases r:(!decide (b=(⟨#[]⟩:ByteArray)))
 have v:(b=(⟨#[]⟩:ByteArray)):=Qu r
 refine w6 ?_
 obtain ⟨g,x⟩:=gx s k
 have h:=x
 have D:=j _ (ae h)
 refine w3 ?_
 refine lc (QA (Qa rfl) (Qa rfl) rfl (by first | omega | (simp only[aA,Zh]; omega))) ?_
 refine w6 ?_
 refine lc (ZJ (Qa rfl) (Q0 48 rfl) rfl) ?_
 refine w_ ?_
 cases c:(decide (z=48))
 have e:=aa c
 refine w7 ?_
 refine Qb<|Zb ⟨k+1,(b++g.1),by omega,rfl,(by exact QvY j (by omega) ‹_› a h m ((Qh7 A m ‹_›).resolve_left ‹_›)),rfl⟩ (by omega) ?_
 exact wo []
 have e:=ab c
 refine w3 ?_
 refine lc (QA (Qa rfl) (Evl.str rfl) rfl (by first | omega | (simp only[aA,Zh]; omega))) ?_
 refine w_ ?_
 refine Qb ?_
 refine w5 ?_
 refine Qb<|Zb ⟨k+1,((b++g.1)++(⟨#[39]⟩:ByteArray)),by omega,rfl,(by exact QvQ j (by omega) ‹_› a h m ‹_›),rfl⟩ (by omega) ?_
 exact wo []
 have v:¬(b=(⟨#[]⟩:ByteArray)):=QE r
 refine w3 ?_
 refine lc (QA (Qa rfl) (Evl.str rfl) rfl (by first | omega | (simp only[aA,Zh]; omega))) ?_
 refine w6 ?_
 obtain ⟨g,y⟩:=gx s k
 have h:=y
 have D:=j _ (ae h)
 refine w3 ?_
 refine lc (QA (Qa rfl) (Qa rfl) rfl (by first | omega | (simp only[aA,Zh]; omega))) ?_
 refine w6 ?_
 refine lc (ZJ (Qa rfl) (Q0 48 rfl) rfl) ?_
 refine w_ ?_
 cases d:(decide (z=48))
 have f:=aa d
 refine w7 ?_
 refine Qb<|Zb ⟨k+1,((b++(⟨#[32]⟩:ByteArray))++g.1),by omega,rfl,(by exact QvZ j (by omega) ‹_› a h m ((Qh7 A m ‹_›).resolve_left ‹_›)),rfl⟩ (by omega) ?_
 exact wo []
 have f:=ab d
 refine w3 ?_
 refine lc (QA (Qa rfl) (Evl.str rfl) rfl (by first | omega | (simp only[aA,Zh]; omega))) ?_
 refine w_ ?_
 refine Qb ?_
 refine w5 ?_
 refine Qb<|Zb ⟨k+1,(((b++(⟨#[32]⟩:ByteArray))++g.1)++(⟨#[39]⟩:ByteArray)),by omega,rfl,(by exact Qvt j (by omega) ‹_› a h m ‹_›),rfl⟩ (by omega) ?_
 exact wo []
 have q:=ab p
 refine w7 ?_
 refine Qb<|Zb ⟨k+1,b,by omega,rfl,(by exact QxE a m ‹_›),rfl⟩ (by omega) ?_
 exact wo []
theorem Qax (s:Qm9)(l:List ByteArray)(n:WZ s)(h:s.length≤8)(D:l.length≤60)(m:∀c∈l,Q2 c (s.length:Int)):FC Tryz.prog 91 [(false,[.dat Ql s]),(false,[.dat Qj l])] [] 0 (QX (lf (dS (cvT s l)))):=by
 refine Qp Tryz.func91 rfl rfl Tryz.ntmps91 fun A p z q C x v=> ?_
 refine w4 ?_
 refine lc (dBs 0 (e:= .str) Ya) ?_
 refine w5 ?_
 refine alL 9 fun _=> ?_
 refine w4 ?_
 refine lp0 l.length (fun k=>⟨[(0,lf (.dat Ql s)),(4,lf (dS (⟨#[]⟩:ByteArray))),(5,lR 1),(9,lf (.dat Qj l)),(10,lI (l.length:Int)),(11,lI (k:Int))],[ar 1 9 .str ((l.take k).map (prT s))]⟩) ?_ fun k _=> ?_
 exact wp [(1,0)] ⟨(Qk (rfl)),trivial⟩
 have y:=QqN (k:=k) (l:=l) (f:=prT s)
 refine w4 ?_
 cases a:(decide ((k:Int) < (l.length:Int)))
 have b:=aa a
 refine w9 ?_
 refine cd_ (fun _ _=> ?_) fun _ _=> ?_
 refine w3 ?_
 refine lc (dB_ (Ql9 ((l.take k).map (prT s)) (⟨#[32,43,32]⟩:ByteArray) (by omega) (by omega) (Qwl n h) (by decide)) Qeg) ?_
 refine w2 ?_
 refine Qd<|fqS p ?_
 exact Qwa (k:=k) n h (by omega) ‹_›
 refine w3 ?_
 refine Qd<|fqS p ?_
 exact QwZ (k:=k) (by omega) ‹_›
 have b:=ab a
 refine w5 ?_
 obtain ⟨r,o⟩:=gx l k
 have d:=o
 have j:=m _ (ae d)
 refine w8 ?_
 refine lc (dK (QaK s r n h j) Qkt) ?_
 refine lc (dBs 2 (e:= .str) Ya) ?_
 refine lc (dA 3 VT) ?_
 refine w_ ?_
 refine Qb ?_
 refine w4 ?_
 refine Qb ?_
 refine l0_ ?_
 exact wp [(1,3)] ⟨(Qk ((Qd4 d rfl))),trivial⟩
theorem QbL (s:Qm9)(l:List ByteArray)(q:WZ s)(p:s.length≤8)(N:l.length≤60)(v:∀c∈l,Q2 c (s.length:Int)):FC Tryz.prog 95 [(false,[.dat Ql s]),(false,[.dat Qj l])] [] 0 (QX (lf (dS (cvT s l)))):=by
 have d:(⟨#[32,43,32]⟩:ByteArray).size=3:=rfl
 refine Qp Tryz.func95 rfl rfl Tryz.ntmps95 fun K y J C M E D=> ?_
 refine w9 ?_
 refine alL 8 fun _=> ?_
 refine w4 ?_
 refine QD (fun z A=>∃(k:Nat) (e:ByteArray),k≤l.length∧z=l.length - k∧(e=cvO s (l.take k))∧A=⟨[(0,lf (.dat Ql s)),(4,lf (dS (⟨#[]⟩:ByteArray))),(5,lf (dS e)),(8,lf (.dat Qj l)),(9,lI (l.length:Int)),(10,lI (k:Int))],[]⟩) ⟨0,(⟨#[]⟩:ByteArray),aP _,rfl,rfl,rfl⟩ ?_ ?_
 exact wo []
 rintro z A ⟨k,e,F,G,a,rfl⟩
 have H:e.size≤67*k:=by rw[a]; exact bu (Qol q p) (Nat.mul_le_mul_left _ (by rw[ap]; omega))
 refine w4 ?_
 cases h:(decide ((k:Int) < (l.length:Int)))
 have j:=aa h
 refine w8 ?_
 refine cd_ (fun _ _=> ?_) fun _ _=> ?_
 refine w5 ?_
 refine Qd<|fqS y ?_
 (have r:l.take k=l:=aR (by omega)); rw[r] at a; rw[cvT,← a]; first | exact Qr6 ‹_› | exact Qrn ‹_›
 refine w3 ?_
 refine Qd<|fqS y ?_
 (have r:l.take k=l:=aR (by omega)); rw[r] at a; rw[cvT,← a]; first | exact Qr6 ‹_› | exact Qrn ‹_›
 have j:=ab h
 refine w6 ?_
 obtain ⟨f,x⟩:=gx l k
 have b:=x
 have o:=v _ (ae b)
 have I:=Qlf (cube:=f) q p
 refine w10 ?_
 cases m:(decide (0 < (k:Int)))
 have n:=aa m
 refine w6 ?_
 refine lc (dK (VE s f q p o) Qc1) ?_
 refine lc (QA (Qa rfl) (Qa rfl) rfl (by first | omega | (simp only[aA,Zh,d]; omega))) ?_
 refine w_ ?_
 refine Qb ?_
 refine w4 ?_
 refine Qb<|Zb ⟨k+1,(e++(prT s f)),by omega,rfl,(by exact Qvy b ‹_› a),rfl⟩ (by omega) ?_
 exact wo []
 have n:=ab m
 refine w3 ?_
 refine lc (QA (Qa rfl) (Evl.str rfl) rfl (by first | omega | (simp only[aA,Zh,d]; omega))) ?_
 refine w6 ?_
 refine lc (dK (VE s f q p o) Qc1) ?_
 refine lc (QA (Qa rfl) (Qa rfl) rfl (by first | omega | (simp only[aA,Zh,d]; omega))) ?_
 refine w_ ?_
 refine Qb ?_
 refine w4 ?_
 refine Qb<|Zb ⟨k+1,((e++(⟨#[32,43,32]⟩:ByteArray))++(prT s f)),by omega,rfl,(by exact Qwh b ‹_› a),rfl⟩ (by omega) ?_
 exact wo []
end Go.Proofs.YtndabgcpnmeeoaaGreat
