/- Walks over abstract states: partitions of state graphs. -/
import Derived.Test.YtndabgcpnmeeoaaGreatPVb
import Derived.Test.YtndabgcpnmeeoaaGreatPAg
set_option linter.unusedSimpArgs false
set_option linter.unusedVariables false
set_option linter.unusedSectionVars false
namespace Go.Proofs.YtndabgcpnmeeoaaGreat
open Go.RowKit
set_option maxRecDepth 100000
set_option maxHeartbeats 4000000
theorem Qf5 (s:ByteArray)[Decidable (Zo s)]:FC Tryz.prog 312 [(false,[dS s])] [] 0 (QY (lf (dB (decide (Zo s))))):=QcM fun g w j h=>by
 obtain ⟨v,rfl,d⟩:=h.leaf1
 obtain ⟨rfl,f⟩:=d.str_
 exact (Qgr s w f).mono fun _ _ h=>K3 h
theorem Qf9 (s:ByteArray)[Decidable (Zo s)]:FC Tryz.prog 349 [(false,[dS s])] [] 0 (QY (lf (dB (decide (Zo s))))):=QcM fun g w j h=>by
 obtain ⟨v,rfl,d⟩:=h.leaf1
 obtain ⟨rfl,f⟩:=d.str_
 exact (Qgv s w f).mono fun _ _ h=>K3 h
def Xj (a b:UInt8):Bool:=decide (a=b)||(decide (a=48)&&decide (b=43))||(decide (a=43)&&decide (b=49))||(decide (a=49)&&decide (b=45))||(decide (a=45)&&decide (b=48))||(decide (a=43)&&decide (b=45))||(decide (a=45)&&decide (b=43))
def QrE (s:ByteArray):Prop:=∀x∈s.toList,x=48∨x=43∨x=49∨x=45
instance (s:ByteArray):Decidable (QrE s):=inferInstanceAs (Decidable (∀x∈s.toList,x=48∨x=43∨x=49∨x=45))
def SignsOk (c:DSg)(s:ByteArray):Prop:=QrE s∧s.size=c.2.1.length∧SgOk c
instance (c:DSg) (s:ByteArray) [Decidable (SgOk c)]:Decidable (SignsOk c s):=inferInstanceAs (Decidable (_∧_))
def WP (c:DSg)(s:ByteArray):Bool:=c.2.2.all fun a=>Xj (bAt s a.1) (bAt s a.2.2.2)
def ZK (s:ByteArray)(a:DAr):Bool:=(decide (bAt s a.1=43)&&(decide (bAt s a.2.2.2=49)||decide (bAt s a.2.2.2=45)))||(decide (bAt s a.1=45)&&(decide (bAt s a.2.2.2=48)||decide (bAt s a.2.2.2=43)))
def okP (c:DSg)(s:ByteArray)[Decidable (SgOk c)]:Bool:=decide (SignsOk c s)&&WP c s
theorem Qjr {c:DSg}{s:ByteArray}[Decidable (SgOk c)]:okP c s=true↔SignsOk c s∧WP c s=true:=by unfold okP; rw[aI,aQ]
theorem Qoa {c:DSg}{s:ByteArray}[Decidable (SgOk c)](h:¬SignsOk c s):false=okP c s:=by unfold okP; rw[aB h]; rfl
theorem Qpu {c:DSg}{s:ByteArray}[Decidable (SgOk c)](h:SignsOk c s):WP c s=okP c s:=by unfold okP; rw[aL h]; rfl
def Z9 (as_:List DAr)(q:Int):List DAr:=as_.filter fun a=>decide (a.1=q)
def Xv:ByteArray:=⟨#[48,43,49,45,48]⟩
theorem ba2 {a b c d:UInt8}:(⟨#[a,b]⟩:ByteArray)=⟨#[c,d]⟩↔a=c∧b=d:=by simp[ByteArray.mk.injEq]
section
variable {a b x:UInt8}{k i:Nat}{s:ByteArray}{c:DSg}{l:List DAr}{e:DAr}{q:Int}
theorem Qai (k:Nat)(h:k < 5):bAt Xv (k:Int)=[(48:UInt8),43,49,45,48][k]! :=by
 match k,h with
 | 0,_=>rfl
 | 1,_=>rfl
 | 2,_=>rfl
 | 3,_=>rfl
 | 4,_=>rfl
theorem QsW (g:(k:Int)+1 < 5)(d:bAt Xv (k:Int)=a)(f:bAt Xv ((k:Int)+1)=b):true=Xj a b:=by
 rw[show ((k:Int)+1)=((k+1:Nat):Int) by omega,Qai _ (by omega)] at f
 rw[Qai _ (by omega)] at d
 subst d f
 match k,g with
 | 0,_=>rfl
 | 1,_=>rfl
 | 2,_=>rfl
 | 3,_=>rfl
 | n+4,h=>omega
theorem QsL (h0:¬(a=48∧b=43))(g:¬(a=43∧b=49))(j:¬(a=49∧b=45))(m:¬(a=45∧b=48))(n:¬(a=43∧b=45))(o:¬(a=45∧b=43)):decide (a=b)=Xj a b:=by
 have f:∀{p q:UInt8},¬(a=p∧b=q)→(decide (a=p)&&decide (b=q))=false:=fun {p q} h=>by
  rw[Bool.and_eq_false_iff,bE,bE]
  by_cases e:a=p
  ·exact .inr fun d=>h ⟨e,d⟩
  ·exact .inl e
 unfold Xj
 rw[f h0,f g,f j,f m,f n,f o]
 simp
theorem QuO (r:∀j:Nat,j < k→¬(bAt Xv (j:Int)=a∧bAt Xv ((j:Int)+1)=b))(u:¬(k:Int)+1 < 5)(o:¬(a=43∧b=45))(p:¬(a=45∧b=43)):decide (a=b)=Xj a b:=by
 have g:∀j:Nat,j < 4→¬([(48:UInt8),43,49,45,48][j]! =a∧[(48:UInt8),43,49,45,48][j+1]! =b):=fun j t h=>by
  refine r j (by omega) ?_
  rw[show ((j:Int)+1)=((j+1:Nat):Int) by omega,Qai _ (by omega),Qai _ (by omega)]
  exact h
 have d:¬(48=a∧43=b):=g 0 (by omega)
 have f:¬(43=a∧49=b):=g 1 (by omega)
 have m:¬(49=a∧45=b):=g 2 (by omega)
 have n:¬(45=a∧48=b):=g 3 (by omega)
 exact QsL (fun h=>d ⟨h.1.symm,h.2.symm⟩) (fun h=>f ⟨h.1.symm,h.2.symm⟩) (fun h=>m ⟨h.1.symm,h.2.symm⟩) (fun h=>n ⟨h.1.symm,h.2.symm⟩) o p
theorem Qid (d:∀j:Nat,j < k→¬(bAt Xv (j:Int)=a∧bAt Xv ((j:Int)+1)=b))(h:¬(bAt Xv (k:Int)=a∧bAt Xv ((k:Int)+1)=b)):∀j:Nat,j < k+1→¬(bAt Xv (j:Int)=a∧bAt Xv ((j:Int)+1)=b):=fun j f=>by
 by_cases e:j=k
 ·subst e; exact h
 ·exact d j (by omega)
theorem Wi (g:∀j,j < k→∀x,s.toList[j]? =some x→x=48∨x=43∨x=49∨x=45)(m:s[((k:Int)).toNat]? =some x)(h:x=48∨x=43∨x=49∨x=45):∀j,j < k+1→∀x,s.toList[j]? =some x→x=48∨x=43∨x=49∨x=45:=fun j n d f=>by
 by_cases e:j=k
 ·subst e; rw[Qcp m] at f; cases f; exact h
 ·exact g j (by omega) d f
theorem Qlq (f:∀j,j < k→∀x,s.toList[j]? =some x→x=48∨x=43∨x=49∨x=45)(h:s.size≤k):QrE s:=fun x g=>by
 obtain ⟨j,d⟩:=aN.1 g
 have:=(ai.1 d).1
 rw[XO] at this
 exact f j (by omega) x d
section
variable [Decidable (SignsOk c s)]
theorem Qir (d:s[((k:Int)).toNat]? =some x)(h:¬(x=48∨x=43∨x=49∨x=45)):false=decide (SignsOk c s):=(aB fun g=>h (g.1 x (ah (Qcp d)))).symm
theorem Qq2 (h:¬(s.size:Int)=(c.2.1.length:Int)):false=decide (SignsOk c s):=(aB fun g=>h (by rw[g.2.1])).symm
theorem Qq3 (h:¬SgOk c):false=decide (SignsOk c s):=(aB fun g=>h g.2.2).symm
theorem Qq1 [Decidable (SgOk c)](d:∀j,j < k→∀x,s.toList[j]? =some x→x=48∨x=43∨x=49∨x=45)(f:s.size≤k)(h:(s.size:Int)=(c.2.1.length:Int)):decide (SgOk c)=decide (SignsOk c s):=cN.2 ⟨fun g=>⟨Qlq d f,by omega,g⟩,fun g=>g.2.2⟩
theorem Qoj (d:∀j,j < k→∀x,s.toList[j]? =some x→x=48∨x=43∨x=49∨x=45)(f:s.size≤k)(g:SgOk c):decide ((s.size:Int)=(c.2.1.length:Int))=decide (SignsOk c s):=cN.2 ⟨fun h=>⟨Qlq d f,by omega,g⟩,fun g=>by rw[g.2.1]⟩
end
theorem SignsOk.at_ (h:SignsOk c s)(f:e∈c.2.2):(0≤e.1∧e.1 < (s.size:Int))∧0≤e.2.2.2∧e.2.2.2 < (s.size:Int):=by
 have d:=XC (h.2.2.arcs e f)
 rw[h.2.1]
 exact d
theorem QuT:(!(c.2.2.any fun a=> !Xj (bAt s a.1) (bAt s a.2.2.2)))=WP c s:=by
 unfold WP
 rw[bP,bO,cB,ak]
 constructor
 ·intro h a d; have:=h a d; simpa using this
 ·intro h a d; have:=h a d; simpa using this
theorem QuU (d:c.2.2[k]? =some e)(h:Xj (bAt s e.1) (bAt s e.2.2.2)=false):false=WP c s:=by
 refine (List.all_eq_false.2 ⟨e,ah d, ?_⟩).symm
 rw[h]; decide
theorem Qs4 (f:∀j,j < k→∀a,c.2.2[j]? =some a→Xj (bAt s a.1) (bAt s a.2.2.2)=true)(h:c.2.2.length≤k):true=WP c s:=(ak.2 fun a g=>by
 obtain ⟨j,d⟩:=aN.1 g
 have:=(ai.1 d).1
 exact f j (by omega) a d).symm
theorem QqI (g:∀j,j < k→∀a,c.2.2[j]? =some a→Xj (bAt s a.1) (bAt s a.2.2.2)=true)(m:c.2.2[k]? =some e)(h:Xj (bAt s e.1) (bAt s e.2.2.2)=true):∀j,j < k+1→∀a,c.2.2[j]? =some a→Xj (bAt s a.1) (bAt s a.2.2.2)=true:=fun j n a d=>by
 by_cases f:j=k
 ·subst f; rw[m] at d; cases d; exact h
 ·exact g j (by omega) a d
theorem QkO (d:l[i]? =some e)(h:e.1=q):Z9 (l.take i) q++[e]=Z9 (l.take (i+1)) q:=by
 unfold Z9
 rw[QO d,aZ]; simp[h]
theorem Qo6 (d:l[i]? =some e)(h:¬e.1=q):Z9 (l.take i) q=Z9 (l.take (i+1)) q:=by
 unfold Z9
 rw[QO d,aZ]; simp[h]
theorem Qcf:(Z9 l q).length≤l.length:=bK ..
theorem Qgl:e∈Z9 l q↔e∈l∧e.1=q:=by unfold Z9; rw[cn,aQ]
end
theorem Qb3 (a:UInt8)(b:UInt8):FC Tryz.prog 585 [(false,[.dat .u8 a]),(false,[.dat .u8 b])] [] 0 (QY (lB (Xj a b))):=by
 refine Qv Tryz.func585 rfl rfl Tryz.ntmps585 fun A d z v B y w=> ?_
 refine w7 ?_
 refine lc (dBs 0 (e:= .u8) QaL) ?_
 refine lc (Q7 (ys:=[a,b]) (YA (Qa rfl) rfl) Za Wq Z7 rfl) ?_
 refine w7 ?_
 cases f:(decide ((⟨#[a,b]⟩:ByteArray)=(⟨#[48,43]⟩:ByteArray)))
 have g:=aa f
 refine w5 ?_
 cases j:(decide ((⟨#[a,b]⟩:ByteArray)=(⟨#[43,49]⟩:ByteArray)))
 have m:=aa j
 refine w5 ?_
 cases n:(decide ((⟨#[a,b]⟩:ByteArray)=(⟨#[49,45]⟩:ByteArray)))
 have o:=aa n
 refine w5 ?_
 cases p:(decide ((⟨#[a,b]⟩:ByteArray)=(⟨#[45,48]⟩:ByteArray)))
 have r:=aa p
 refine w5 ?_
 cases t:(decide ((⟨#[a,b]⟩:ByteArray)=(⟨#[43,45]⟩:ByteArray)))
 have u:=aa t
 refine w5 ?_
 refine cd_ (fun _ _=> ?_) fun _ _=> ?_
 refine w8 ?_
 refine Qd<|fqB d ?_
 exact QsL (fun h=>by have:=ba2.2 h; contradiction) (fun h=>by have:=ba2.2 h; contradiction) (fun h=>by have:=ba2.2 h; contradiction) (fun h=>by have:=ba2.2 h; contradiction) (fun h=>by have:=ba2.2 h; contradiction) (fun h=>by have:=ba2.2 h; contradiction)
 refine w3 ?_
 refine Qd<|fqB d ?_
 ·(unfold Xj; simp only[ba2] at*; simp_all; done)
 have u:=ab t
 refine w6 ?_
 refine Qd<|fqB d ?_
 ·(unfold Xj; simp only[ba2] at*; simp_all; done)
 have r:=ab p
 refine w6 ?_
 refine Qd<|fqB d ?_
 ·(unfold Xj; simp only[ba2] at*; simp_all; done)
 have o:=ab n
 refine w6 ?_
 refine Qd<|fqB d ?_
 ·(unfold Xj; simp only[ba2] at*; simp_all; done)
 have m:=ab j
 refine w6 ?_
 refine Qd<|fqB d ?_
 ·(unfold Xj; simp only[ba2] at*; simp_all; done)
 have g:=ab f
 refine w6 ?_
 refine Qd<|fqB d ?_
 ·(unfold Xj; simp only[ba2] at*; simp_all; done)
theorem Qef (a:UInt8)(b:UInt8):FC Tryz.prog 547 [(false,[.dat .u8 a]),(false,[.dat .u8 b])] [] 0 (QY (lB (Xj a b))):=by
 have S:(⟨#[48,43,49,45,48]⟩:ByteArray).size=5:=rfl
 refine Qv Tryz.func547 rfl rfl Tryz.ntmps547 fun U C T J V N M=> ?_
 refine w6 ?_
 refine Qbz (fun I=>(¬(a=43∧b=45))∧(¬(a=45∧b=43))∧I=⟨[(0,lf (.dat .u8 a)),(1,lf (.dat .u8 b)),(5,lf (dS (⟨#[48,43,49,45,48]⟩:ByteArray)))],[]⟩) ?_ fun D=> ?_
 rintro I ⟨G,H,rfl⟩
 refine w5 ?_
 refine lpK 5 (fun k=>∀j:Nat,j < k→¬(bAt Xv (j:Int)=a∧bAt Xv ((j:Int)+1)=b)) (fun k=>⟨[(0,lf (.dat .u8 a)),(1,lf (.dat .u8 b)),(5,lf (dS (⟨#[48,43,49,45,48]⟩:ByteArray))),(6,lI (k:Int))],[]⟩) ((fun j R=>absurd R (bg j))) ?_ fun k _ E=> ?_
 exact wo []
 refine w5 ?_
 refine alS 23 fun _=> ?_
 refine lc (Y7 (Qa rfl) rfl Z7) ?_
 refine w2 ?_
 cases y:(decide (((k:Int)+1) < ((⟨#[48,43,49,45,48]⟩:ByteArray).size:Int)))
 have z:=aa y
 refine w9 ?_
 refine Qd<|fqB C ?_
 exact QuO E (by omega) G H
 have z:=ab y
 refine w7 ?_
 obtain ⟨K,P⟩:=gs (⟨#[48,43,49,45,48]⟩:ByteArray) (((k:Int)).toNat)
 refine w4 ?_
 cases A:(decide (K=a))
 have B:=aa A
 refine w15 ?_
 refine Qb ?_
 refine lK_ ((Qid E (fun h=>by obtain ⟨d,f⟩:=h; rw[show Xv=(⟨#[48,43,49,45,48]⟩:ByteArray) from rfl] at d f; first | (rw[QB ‹_›] at d; contradiction) | (rw[QB ‹_›] at f; contradiction)))) ?_
 exact wo []
 have B:=ab A
 refine w3 ?_
 obtain ⟨L,Q⟩:=gs (⟨#[48,43,49,45,48]⟩:ByteArray) (((k:Int)+1).toNat)
 refine w5 ?_
 cases n:(decide (L=b))
 have t:=aa n
 refine w7 ?_
 refine Qb ?_
 refine lK_ ((Qid E (fun h=>by obtain ⟨d,f⟩:=h; rw[show Xv=(⟨#[48,43,49,45,48]⟩:ByteArray) from rfl] at d f; first | (rw[QB ‹_›] at d; contradiction) | (rw[QB ‹_›] at f; contradiction)))) ?_
 exact wo []
 have t:=ab n
 refine w4 ?_
 refine Qd<|fqB C ?_
 exact QsW (k:=k) (by omega) ((QB (m:=Xv) ‹_›).trans ‹_›) ((QB (m:=Xv) ‹_›).trans ‹_›)
 refine w3 ?_
 refine lc (Qu (Qa rfl) (QC 43 rfl) rfl) ?_
 refine w_ ?_
 cases g:(decide (a=43))
 have u:=aa g
 refine w5 ?_
 refine lgy rfl rfl (Qu (Qa rfl) (QC 45 rfl) rfl) ?_
 refine w_ ?_
 cases o:(decide (a=45))
 have v:=aa o
 refine w7 ?_
 refine UE (D _ ⟨(fun h=>by obtain ⟨d,f⟩:=h; contradiction),(fun h=>by obtain ⟨d,f⟩:=h; contradiction),rfl⟩) ?_
 exact wo []
 have v:=ab o
 refine w_ ?_
 refine lgy rfl rfl (Qu (Qa rfl) (QC 43 rfl) rfl) ?_
 refine w3 ?_
 refine cd_ (fun _ _=> ?_) fun _ _=> ?_
 refine w_ ?_
 refine UE (D _ ⟨(fun h=>by obtain ⟨d,f⟩:=h; contradiction),(fun h=>by obtain ⟨d,f⟩:=h; contradiction),rfl⟩) ?_
 exact wo []
 refine w3 ?_
 refine Qd<|fqB C ?_
 ·(unfold Xj; simp_all; done)
 have u:=ab g
 refine w_ ?_
 refine lgy rfl rfl (Qu (Qa rfl) (QC 45 rfl) rfl) ?_
 refine w2 ?_
 cases p:(decide (b=45))
 have w:=aa p
 refine w_ ?_
 refine lgy rfl rfl (Qu (Qa rfl) (QC 45 rfl) rfl) ?_
 refine w_ ?_
 have r:(decide (a=45))=false:=aB fun O=>absurd ((ab (g)).symm.trans O) (by decide)
 have F:=aa r
 try rw[r]
 refine w7 ?_
 refine UE (D _ ⟨(fun h=>by obtain ⟨d,f⟩:=h; contradiction),(fun h=>by obtain ⟨d,f⟩:=h; contradiction),rfl⟩) ?_
 exact wo []
 have w:=ab p
 refine w3 ?_
 refine Qf rfl rfl rfl ?_ rfl
 refine Qf rfl rfl rfl ?_ rfl
 refine w7 ?_
 refine Qd<|fqB C ?_
 ·(unfold Xj; simp_all; done)
theorem Xf (a:Qfy)(s:ByteArray)(I:0≤a.1∧a.1 < (s.size:Int))(J:0≤a.2.2.2∧a.2.2.2 < (s.size:Int)):FC Tryz.prog 556 [(true,[dI a.1,dI a.2.1,dB a.2.2.1,dI a.2.2.2]),(false,[dS s])] [] 0 (QY (lB (ZK s a))):=by
 refine Qv Tryz.func556 rfl rfl Tryz.ntmps556 fun G r F z H B A=> ?_
 refine acG 0 0 fun _=> ?_
 refine acG 0 1 fun _=> ?_
 refine acG 0 3 fun _=> ?_
 refine w_ ?_
 refine xbx 0 ?_
 refine w2 ?_
 obtain ⟨c4,D⟩:=gs s ((a.1).toNat)
 obtain ⟨w,E⟩:=gs s ((a.2.2.2).toNat)
 apply dW (i8 7 _ _ _ _ _ _ _ _ (i2 5 _ _ [])) [0,1,1,0,15,31,31,15,240,0]
 exact y10
 refine w2 ?_
 refine lc (Qu (Qa rfl) (QC 43 rfl) rfl) ?_
 refine w_ ?_
 cases o:(decide (c4=43))
 have t:=aa o
 refine w3 ?_
 refine Qf rfl rfl rfl ?_ rfl
 refine Qf rfl rfl rfl ?_ rfl
 refine w4 ?_
 refine lgy rfl rfl (Qu (Qa rfl) (QC 45 rfl) rfl) ?_
 refine w_ ?_
 cases u:(decide (c4=45))
 have v:=aa u
 refine w3 ?_
 refine Qf rfl rfl rfl ?_ rfl
 refine Qf rfl rfl rfl ?_ rfl
 refine w5 ?_
 refine Qd<|fqB r ?_
 ·(unfold ZK; rw[QB (p:=a.1) ‹_›,QB (p:=a.2.2.2) ‹_›]; simp_all; done)
 have v:=ab u
 refine w_ ?_
 refine lgy rfl rfl (Qu (Qa rfl) (QC 48 rfl) rfl) ?_
 refine w_ ?_
 cases d:(decide (w=48))
 have j:=aa d
 refine w_ ?_
 refine lgy rfl rfl (Qu (Qa rfl) (QC 43 rfl) rfl) ?_
 refine w5 ?_
 refine Qd<|fqB r ?_
 ·(unfold ZK; rw[QB (p:=a.1) ‹_›,QB (p:=a.2.2.2) ‹_›]; simp_all; done)
 have j:=ab d
 refine w7 ?_
 refine Qd<|fqB r ?_
 ·(unfold ZK; rw[QB (p:=a.1) ‹_›,QB (p:=a.2.2.2) ‹_›]; simp_all; done)
 have t:=ab o
 refine w_ ?_
 refine lgy rfl rfl (Qu (Qa rfl) (QC 49 rfl) rfl) ?_
 refine w_ ?_
 cases f:(decide (w=49))
 have m:=aa f
 refine w_ ?_
 refine lgy rfl rfl (Qu (Qa rfl) (QC 45 rfl) rfl) ?_
 refine w3 ?_
 cases g:(decide (w=45))
 have n:=aa g
 refine w_ ?_
 refine lgy rfl rfl (Qu (Qa rfl) (QC 45 rfl) rfl) ?_
 refine w_ ?_
 have h:(decide (c4=45))=false:=aB fun C=>absurd ((ab (o)).symm.trans C) (by decide)
 have y:=aa h
 try rw[h]
 refine w3 ?_
 refine Qf rfl rfl rfl ?_ rfl
 refine Qf rfl rfl rfl ?_ rfl
 refine w5 ?_
 refine Qd<|fqB r ?_
 ·(unfold ZK; rw[QB (p:=a.1) ‹_›,QB (p:=a.2.2.2) ‹_›]; simp_all; done)
 have n:=ab g
 refine w3 ?_
 refine Qf rfl rfl rfl ?_ rfl
 refine Qf rfl rfl rfl ?_ rfl
 refine Qf rfl rfl rfl ?_ rfl
 refine Qf rfl rfl rfl ?_ rfl
 refine Qf rfl rfl rfl ?_ rfl
 refine Qf rfl rfl rfl ?_ rfl
 refine w4 ?_
 refine Qd<|fqB r ?_
 ·(unfold ZK; rw[QB (p:=a.1) ‹_›,QB (p:=a.2.2.2) ‹_›]; simp_all; done)
 have m:=ab f
 refine w8 ?_
 refine Qf rfl rfl rfl ?_ rfl
 refine Qf rfl rfl rfl ?_ rfl
 refine Qf rfl rfl rfl ?_ rfl
 refine Qf rfl rfl rfl ?_ rfl
 refine Qf rfl rfl rfl ?_ rfl
 refine Qf rfl rfl rfl ?_ rfl
 refine w4 ?_
 refine Qd<|fqB r ?_
 ·(unfold ZK; rw[QB (p:=a.1) ‹_›,QB (p:=a.2.2.2) ‹_›]; simp_all; done)
theorem WY (s:ByteArray)(a:Qfy)(I:0≤a.1∧a.1 < (s.size:Int))(J:0≤a.2.2.2∧a.2.2.2 < (s.size:Int)):FC Tryz.prog 548 [(false,[dS s]),(true,[dI a.1,dI a.2.1,dB a.2.2.1,dI a.2.2.2])] [] 0 (QY (lB (ZK s a))):=by
 refine Qv Tryz.func548 rfl rfl Tryz.ntmps548 fun G r F z H B A=> ?_
 refine acG 1 0 fun _=> ?_
 refine acG 1 1 fun _=> ?_
 refine acG 1 3 fun _=> ?_
 refine w_ ?_
 refine xbx 0 ?_
 refine w2 ?_
 obtain ⟨c4,D⟩:=gs s ((a.1).toNat)
 obtain ⟨w,E⟩:=gs s ((a.2.2.2).toNat)
 apply dW (i8 7 _ _ _ _ _ _ _ _ (i2 5 _ _ [])) [0,1,1,0,15,31,31,15,240,0]
 exact y10
 refine w2 ?_
 refine lc (Qu (Qa rfl) (QC 43 rfl) rfl) ?_
 refine w_ ?_
 cases o:(decide (c4=43))
 have t:=aa o
 refine w3 ?_
 refine Qf rfl rfl rfl ?_ rfl
 refine Qf rfl rfl rfl ?_ rfl
 refine w4 ?_
 refine lgy rfl rfl (Qu (Qa rfl) (QC 45 rfl) rfl) ?_
 refine w_ ?_
 cases u:(decide (c4=45))
 have v:=aa u
 refine w3 ?_
 refine Qf rfl rfl rfl ?_ rfl
 refine Qf rfl rfl rfl ?_ rfl
 refine w5 ?_
 refine Qd<|fqB r ?_
 ·(unfold ZK; rw[QB (p:=a.1) ‹_›,QB (p:=a.2.2.2) ‹_›]; simp_all; done)
 have v:=ab u
 refine w_ ?_
 refine lgy rfl rfl (Qu (Qa rfl) (QC 48 rfl) rfl) ?_
 refine w_ ?_
 cases d:(decide (w=48))
 have j:=aa d
 refine w_ ?_
 refine lgy rfl rfl (Qu (Qa rfl) (QC 43 rfl) rfl) ?_
 refine w5 ?_
 refine Qd<|fqB r ?_
 ·(unfold ZK; rw[QB (p:=a.1) ‹_›,QB (p:=a.2.2.2) ‹_›]; simp_all; done)
 have j:=ab d
 refine w7 ?_
 refine Qd<|fqB r ?_
 ·(unfold ZK; rw[QB (p:=a.1) ‹_›,QB (p:=a.2.2.2) ‹_›]; simp_all; done)
 have t:=ab o
 refine w_ ?_
 refine lgy rfl rfl (Qu (Qa rfl) (QC 49 rfl) rfl) ?_
 refine w_ ?_
 cases f:(decide (w=49))
 have m:=aa f
 refine w_ ?_
 refine lgy rfl rfl (Qu (Qa rfl) (QC 45 rfl) rfl) ?_
 refine w3 ?_
 cases g:(decide (w=45))
 have n:=aa g
 refine w_ ?_
 refine lgy rfl rfl (Qu (Qa rfl) (QC 45 rfl) rfl) ?_
 refine w_ ?_
 have h:(decide (c4=45))=false:=aB fun C=>absurd ((ab (o)).symm.trans C) (by decide)
 have y:=aa h
 try rw[h]
 refine w3 ?_
 refine Qf rfl rfl rfl ?_ rfl
 refine Qf rfl rfl rfl ?_ rfl
 refine w5 ?_
 refine Qd<|fqB r ?_
 ·(unfold ZK; rw[QB (p:=a.1) ‹_›,QB (p:=a.2.2.2) ‹_›]; simp_all; done)
 have n:=ab g
 refine w3 ?_
 refine Qf rfl rfl rfl ?_ rfl
 refine Qf rfl rfl rfl ?_ rfl
 refine Qf rfl rfl rfl ?_ rfl
 refine Qf rfl rfl rfl ?_ rfl
 refine Qf rfl rfl rfl ?_ rfl
 refine Qf rfl rfl rfl ?_ rfl
 refine w4 ?_
 refine Qd<|fqB r ?_
 ·(unfold ZK; rw[QB (p:=a.1) ‹_›,QB (p:=a.2.2.2) ‹_›]; simp_all; done)
 have m:=ab f
 refine w8 ?_
 refine Qf rfl rfl rfl ?_ rfl
 refine Qf rfl rfl rfl ?_ rfl
 refine Qf rfl rfl rfl ?_ rfl
 refine Qf rfl rfl rfl ?_ rfl
 refine Qf rfl rfl rfl ?_ rfl
 refine Qf rfl rfl rfl ?_ rfl
 refine w4 ?_
 refine Qd<|fqB r ?_
 ·(unfold ZK; rw[QB (p:=a.1) ‹_›,QB (p:=a.2.2.2) ‹_›]; simp_all; done)
theorem Zf (a:Qfy):FC Tryz.prog 347 [(true,[dI a.1,dI a.2.1,dB a.2.2.1,dI a.2.2.2])] [] 0 (QY (ag [dI a.2.1,dB a.2.2.1])):=by
 refine Qv Tryz.func347 rfl rfl Tryz.ntmps347 fun m h j d n g f=> ?_
 refine acG 0 0 fun _=> ?_
 refine acG 0 1 fun _=> ?_
 refine acG 0 3 fun _=> ?_
 refine w_ ?_
 refine xbx 0 ?_
 refine lc (xal 1 QF VK) ?_
 refine w6 ?_
 refine lc (Qi VB ⟨_,_,rfl,(Qk rfl),⟨_,_,rfl,(Qk rfl),rfl⟩⟩ (ak.1 rfl) rfl rfl) ?_
 refine w3 ?_
 exact fe_ h
theorem Qc4 (c:Zi)(s:ByteArray)[∀c,Decidable (SgOk c)]:FC Tryz.prog 591 [(true,[.dat Ql c.1, .dat Qo c.2.1, .dat Qw c.2.2]),(false,[dS s])] [] 0 (QY (lB (decide (SignsOk c s)))):=by
 refine Qv Tryz.func591 rfl rfl Tryz.ntmps591 fun H A G B I D C=> ?_
 refine w_ ?_
 refine xbx 0 ?_
 refine w7 ?_
 refine lpK s.size (fun k=>∀j,j < k→∀x,s.toList[j]? =some x→x=48∨x=43∨x=49∨x=45) (fun k=>⟨[(1,lf (dS s)),(2,lP 0 0),(5,lI (k:Int))],[bx 0 28 [.dat Ql c.1, .dat Qo c.2.1, .dat Qw c.2.2]]⟩) ((fun j F=>absurd F (bg j))) ?_ fun k _ r=> ?_
 exact wo []
 refine w4 ?_
 refine alS 8 fun _=> ?_
 refine lc (Y7 (Qa rfl) rfl Z7) ?_
 refine w2 ?_
 cases t:(decide ((k:Int) < (s.size:Int)))
 have u:=aa t
 refine w5 ?_
 refine alS 30 fun _=> ?_
 refine lc (Y7 (Qa rfl) rfl Z7) ?_
 refine w2 ?_
 refine alL 33 fun _=> ?_
 refine w3 ?_
 cases v:(decide ((s.size:Int)=(c.2.1.length:Int)))
 have w:=aa v
 refine w5 ?_
 refine Qd<|fqB A ?_
 exact Qq2 ‹_›
 have w:=ab v
 refine w_ ?_
 refine lgy rfl rfl (dK (ZR c) Jg) ?_
 refine w3 ?_
 refine Qd<|fqB A ?_
 exact Qq1 r (by omega) ‹_›
 have u:=ab t
 refine w7 ?_
 obtain ⟨d,E⟩:=gs s (((k:Int)).toNat)
 refine w5 ?_
 refine lc (Zd (Qa rfl) (QC 48 rfl) rfl) ?_
 refine w_ ?_
 cases y:(!decide (d=48))
 have z:(d=48):=QK y
 refine w16 ?_
 refine w3 ?_
 refine Qb ?_
 refine lK_ ((Wi r ‹_› (by first | exact .inl ‹_› | exact .inr (.inl ‹_›) | exact .inr (.inr (.inl ‹_›)) | exact .inr (.inr (.inr ‹_›))))) ?_
 exact wo []
 have z:¬(d=48):=QR y
 refine w_ ?_
 refine lgy rfl rfl (Zd (Qa rfl) (QC 43 rfl) rfl) ?_
 refine w2 ?_
 cases f:(!decide (d=43))
 have n:(d=43):=QK f
 refine w15 ?_
 refine Qb ?_
 refine lK_ ((Wi r ‹_› (by first | exact .inl ‹_› | exact .inr (.inl ‹_›) | exact .inr (.inr (.inl ‹_›)) | exact .inr (.inr (.inr ‹_›))))) ?_
 exact wo []
 have n:¬(d=43):=QR f
 refine w_ ?_
 refine lgy rfl rfl (Zd (Qa rfl) (QC 49 rfl) rfl) ?_
 refine w2 ?_
 cases g:(!decide (d=49))
 have o:(d=49):=QK g
 refine w11 ?_
 refine Qb ?_
 refine lK_ ((Wi r ‹_› (by first | exact .inl ‹_› | exact .inr (.inl ‹_›) | exact .inr (.inr (.inl ‹_›)) | exact .inr (.inr (.inr ‹_›))))) ?_
 exact wo []
 have o:¬(d=49):=QR g
 refine w_ ?_
 refine lgy rfl rfl (Zd (Qa rfl) (QC 45 rfl) rfl) ?_
 refine w2 ?_
 cases m:(!decide (d=45))
 have p:(d=45):=QK m
 refine w7 ?_
 refine Qb ?_
 refine lK_ ((Wi r ‹_› (by first | exact .inl ‹_› | exact .inr (.inl ‹_›) | exact .inr (.inr (.inl ‹_›)) | exact .inr (.inr (.inr ‹_›))))) ?_
 exact wo []
 have p:¬(d=45):=QR m
 refine w4 ?_
 refine Qd<|fqB A ?_
 exact Qir (k:=k) ‹_› (by rintro (h | h | h | h) <;> contradiction)
theorem Qed (c:Zi)(s:ByteArray)[∀c,Decidable (SgOk c)]:FC Tryz.prog 549 [(true,[.dat Ql c.1, .dat Qo c.2.1, .dat Qw c.2.2]),(false,[dS s])] [] 0 (QY (lB (decide (SignsOk c s)))):=by
 refine Qv Tryz.func549 rfl rfl Tryz.ntmps549 fun H A G B I D C=> ?_
 refine w_ ?_
 refine xbx 0 ?_
 refine w7 ?_
 refine lpK s.size (fun k=>∀j,j < k→∀x,s.toList[j]? =some x→x=48∨x=43∨x=49∨x=45) (fun k=>⟨[(1,lf (dS s)),(2,lP 0 0),(5,lI (k:Int))],[bx 0 28 [.dat Ql c.1, .dat Qo c.2.1, .dat Qw c.2.2]]⟩) ((fun j F=>absurd F (bg j))) ?_ fun k _ r=> ?_
 exact wo []
 refine w4 ?_
 refine alS 7 fun _=> ?_
 refine lc (Y7 (Qa rfl) rfl Z7) ?_
 refine w2 ?_
 cases t:(decide ((k:Int) < (s.size:Int)))
 have u:=aa t
 refine w5 ?_
 refine lc (dK (YR c) V4) ?_
 refine w_ ?_
 cases v:(decide (SgOk c))
 have w:=aa v
 refine w9 ?_
 refine Qd<|fqB A ?_
 exact Qq3 ‹_›
 have w:=ab v
 refine w_ ?_
 refine alS 37 fun _=> ?_
 refine lgy rfl rfl (Y7 (Qa rfl) rfl Z7) ?_
 refine w2 ?_
 refine alL 40 fun _=> ?_
 refine w5 ?_
 refine Qd<|fqB A ?_
 exact Qoj r (by omega) ‹_›
 have u:=ab t
 refine w7 ?_
 obtain ⟨d,E⟩:=gs s (((k:Int)).toNat)
 refine w_ ?_
 refine lc (Zd (Qa rfl) (QC 48 rfl) rfl) ?_
 refine w_ ?_
 cases y:(!decide (d=48))
 have z:(d=48):=QK y
 refine w16 ?_
 refine w9 ?_
 refine Qb ?_
 refine lK_ ((Wi r ‹_› (by first | exact .inl ‹_› | exact .inr (.inl ‹_›) | exact .inr (.inr (.inl ‹_›)) | exact .inr (.inr (.inr ‹_›))))) ?_
 exact wo []
 have z:¬(d=48):=QR y
 refine w3 ?_
 refine lgy rfl rfl (Zd (Qa rfl) (QC 43 rfl) rfl) ?_
 refine w2 ?_
 cases f:(!decide (d=43))
 have n:(d=43):=QK f
 refine w16 ?_
 refine w3 ?_
 refine Qb ?_
 refine lK_ ((Wi r ‹_› (by first | exact .inl ‹_› | exact .inr (.inl ‹_›) | exact .inr (.inr (.inl ‹_›)) | exact .inr (.inr (.inr ‹_›))))) ?_
 exact wo []
 have n:¬(d=43):=QR f
 refine w3 ?_
 refine lgy rfl rfl (Zd (Qa rfl) (QC 49 rfl) rfl) ?_
 refine w2 ?_
 cases g:(!decide (d=49))
 have o:(d=49):=QK g
 refine w13 ?_
 refine Qb ?_
 refine lK_ ((Wi r ‹_› (by first | exact .inl ‹_› | exact .inr (.inl ‹_›) | exact .inr (.inr (.inl ‹_›)) | exact .inr (.inr (.inr ‹_›))))) ?_
 exact wo []
 have o:¬(d=49):=QR g
 refine w3 ?_
 refine lgy rfl rfl (Zd (Qa rfl) (QC 45 rfl) rfl) ?_
 refine w2 ?_
 cases m:(!decide (d=45))
 have p:(d=45):=QK m
 refine w7 ?_
 refine Qb ?_
 refine lK_ ((Wi r ‹_› (by first | exact .inl ‹_› | exact .inr (.inl ‹_›) | exact .inr (.inr (.inl ‹_›)) | exact .inr (.inr (.inr ‹_›))))) ?_
 exact wo []
 have p:¬(d=45):=QR m
 refine w4 ?_
 refine Qd<|fqB A ?_
 exact Qir (k:=k) ‹_› (by rintro (h | h | h | h) <;> contradiction)
theorem J2 (a:Qfy)(s:ByteArray)(u:0≤a.1∧a.1 < (s.size:Int))(v:0≤a.2.2.2∧a.2.2.2 < (s.size:Int)):FC Tryz.prog 584 [(true,[dI a.1,dI a.2.1,dB a.2.2.1,dI a.2.2.2]),(false,[.ptr 0 0])] [bx 0 9 [dS s]] 1 (Is (lB (!Xj (bAt s a.1) (bAt s a.2.2.2))) [bx 0 9 [dS s]]):=by
 refine Qv Tryz.func584 rfl rfl Tryz.ntmps584 fun r m p f t j h=> ?_
 refine acG 0 0 fun _=> ?_
 refine acG 0 1 fun _=> ?_
 refine acG 0 3 fun _=> ?_
 refine w_ ?_
 refine xbx 1 ?_
 refine w2 ?_
 obtain ⟨c4,n⟩:=gs s ((a.1).toNat)
 obtain ⟨d,o⟩:=gs s ((a.2.2.2).toNat)
 apply dW (i8 4 _ _ _ _ _ _ _ _ [io 12 (lB (Xj c4 d)),io 13 _,io 3 _]) [0,1,1,0,15,31,31,15,0,0,0]
 refine z8 ?_
 refine zz (fun _ w=>ac (dK (Qb3 c4 d) QnA) rfl) ?_
 exact y2
 refine w_ ?_
 have g:(!(Xj c4 d):Bool)=(!Xj (bAt s a.1) (bAt s a.2.2.2)):=by
  (rw[QB ‹_›,QB ‹_›])
 exact fi_ [] m ⟨rfl,trivial⟩ (h0:=by rw[g] <;> rfl)
theorem J0 (l:QcX)(s:ByteArray)(n:∀a∈l,(0≤a.1∧a.1 < (s.size:Int))∧0≤a.2.2.2∧a.2.2.2 < (s.size:Int)):FC Tryz.prog 340 [(false,[.dat Qw l]),(false,[.clo 584 [0]])] [bx 0 9 [dS s]] 1 (Is (lI (Zq (fun a:DAr=> !Xj (bAt s a.1) (bAt s a.2.2.2)) l)) [bx 0 9 [dS s]]):=by
 refine Qv Tryz.func340 rfl rfl Tryz.ntmps340 fun y m w o z u t=> ?_
 refine w6 ?_
 refine alL 6 fun _=> ?_
 refine w4 ?_
 refine lpK l.length (fun k=>NoneTo (fun a:DAr=> !Xj (bAt s a.1) (bAt s a.2.2.2)) l k) (fun k=>⟨[(0,lf (.dat Qw l)),(1,lf (.clo 584 [0])),(7,lI (l.length:Int)),(8,lI (k:Int))],[bx 0 9 [dS s]]⟩) (NoneTo.zero) ?_ fun k _ f=> ?_
 exact wo []
 refine w4 ?_
 cases h:(decide ((k:Int) < (l.length:Int)))
 have j:=aa h
 refine w7 ?_
 have p:((-1):Int)=(Zq (fun a:DAr=> !Xj (bAt s a.1) (bAt s a.2.2.2)) l):=by
  first | exact (f.no (by omega)).symm
 exact fi_ [] m ⟨rfl,trivial⟩ (h0:=by rw[← p] <;> rfl)
 have j:=ab h
 refine w12 ?_
 obtain ⟨g,d⟩:=gx l k
 refine w2 ?_
 refine lc (YH (args0:=[(true,[dI g.1,dI g.2.1,dB g.2.2.1,dI g.2.2.2])]) (caps:=[0]) 1 [(0,0)] (J2 g s (n _ (ah d)).1 (n _ (ah d)).2) Qnz rfl (Qa rfl) rfl rfl ⟨_,_,rfl,(Qk rfl),rfl⟩ ⟨rfl,trivial⟩ rfl ⟨trivial,trivial⟩ (nlr rfl)) ?_
 refine w_ ?_
 cases v:(Xj (bAt s g.1) (bAt s g.2.2.2))
 refine w6 ?_
 have r:((k:Int):Int)=(Zq (fun a:DAr=> !Xj (bAt s a.1) (bAt s a.2.2.2)) l):=by
  exact (f.at d (by simp[*])).symm
 exact fi_ [] m ⟨rfl,trivial⟩ (h0:=by rw[r] <;> rfl)
 refine w6 ?_
 refine Qb ?_
 refine lK_ (f.step d (by simp[*])) ?_
 exact wo []
theorem U8 (l:QcX)(s:ByteArray)(m:∀a∈l,(0≤a.1∧a.1 < (s.size:Int))∧0≤a.2.2.2∧a.2.2.2 < (s.size:Int)):FC Tryz.prog 204 [(false,[.dat Qw l]),(false,[.clo 584 [0]])] [bx 0 9 [dS s]] 1 (Is (lB (l.any (fun a:DAr=> !Xj (bAt s a.1) (bAt s a.2.2.2)))) [bx 0 9 [dS s]]):=by
 refine Qv Tryz.func204 rfl rfl Tryz.ntmps204 fun o j n d p h g=> ?_
 refine w6 ?_
 refine lc (dP 1 [] (J0 l s m) Ji) ?_
 refine w4 ?_
 have f:(decide (0≤(Zq (fun a:DAr=> !Xj (bAt s a.1) (bAt s a.2.2.2)) l)):Bool)=(l.any (fun a:DAr=> !Xj (bAt s a.1) (bAt s a.2.2.2))):=by
  exact Vq _ _
 exact fi_ [] j ⟨rfl,trivial⟩ (h0:=by rw[f] <;> rfl)
theorem VP (c:Zi)(s:ByteArray)(m:SignsOk c s):FC Tryz.prog 577 [(true,[.dat Ql c.1, .dat Qo c.2.1, .dat Qw c.2.2]),(false,[dS s])] [] 0 (QY (lB (WP c s))):=by
 refine Qv Tryz.func577 rfl rfl Tryz.ntmps577 fun o h n d p g f=> ?_
 refine w_ ?_
 refine xbx 0 ?_
 refine xbx 1 ?_
 refine w5 ?_
 refine lc (YI ⟨_,_,rfl,(Qa rfl),rfl,rfl⟩ rfl) ?_
 refine lc (dP 2 [(0,1)] (U8 c.2.2 s (fun a j=>m.at_ j)) QaW) ?_
 refine w3 ?_
 refine Qd<|fqB h ?_
 exact QuT
theorem XY (c:Zi)(s:ByteArray)(B:SignsOk c s):FC Tryz.prog 496 [(true,[.dat Ql c.1, .dat Qo c.2.1, .dat Qw c.2.2]),(false,[dS s])] [] 0 (QY (lB (WP c s))):=by
 refine Qv Tryz.func496 rfl rfl Tryz.ntmps496 fun D o C u E w v=> ?_
 refine w_ ?_
 refine xbx 0 ?_
 refine w6 ?_
 refine alL 8 fun _=> ?_
 refine w4 ?_
 refine lpK c.2.2.length (fun k=>∀j,j < k→∀a,c.2.2[j]? =some a→Xj (bAt s a.1) (bAt s a.2.2.2)=true) (fun k=>⟨[(1,lf (dS s)),(8,lf (.dat Qw c.2.2)),(9,lI (c.2.2.length:Int)),(10,lI (k:Int))],[]⟩) ((fun j A=>absurd A (bg j))) ?_ fun k _ p=> ?_
 exact wo []
 refine w4 ?_
 cases f:(decide ((k:Int) < (c.2.2.length:Int)))
 have g:=aa f
 refine w6 ?_
 refine Qd<|fqB o ?_
 first | exact Qs4 p (by omega)
 have g:=ab f
 refine w5 ?_
 obtain ⟨t,d⟩:=gx c.2.2 k
 have n:=B.at_ (ah d)
 refine w2 ?_
 refine lc (xal 1 QD QU) ?_
 refine w2 ?_
 obtain ⟨h,y⟩:=gs s ((t.1).toNat)
 obtain ⟨m,z⟩:=gs s ((t.2.2.2).toNat)
 apply dW (i8 14 _ _ _ _ _ _ _ _ [io 22 (lB (Xj h m)),io 23 _]) [0,1,1,0,15,31,31,15,0,0]
 refine z8 ?_
 refine zz (fun _ F=>ac (dK (Qef h m) Qnk) rfl) ?_
 exact y1
 cases r:(Xj h m)
 refine w4 ?_
 refine Qd<|fqB o ?_
 exact QuU d (by rw[QB ‹_›,QB ‹_›]; assumption)
 refine w6 ?_
 refine Qb ?_
 refine lK_ ((QqI p d (by rw[QB ‹_›,QB ‹_›]; assumption))) ?_
 exact wo []
theorem U9 (c:Zi)(s:ByteArray)[∀c,Decidable (SgOk c)]:FC Tryz.prog 586 [(true,[.dat Ql c.1, .dat Qo c.2.1, .dat Qw c.2.2]),(false,[dS s])] [] 0 (QY (PV.tup [(false,[dB (okP c s)]),(false,[dB (decide (SignsOk c s))])])):=by
 refine Qv Tryz.func586 rfl rfl Tryz.ntmps586 fun u g t h v r p=> ?_
 refine w_ ?_
 refine xbx 0 ?_
 refine w7 ?_
 refine lc (dK (Qc4 c s) QnE) ?_
 refine w2 ?_
 cases d:(decide (SignsOk c s))
 have f:=aa d
 refine w6 ?_
 have j:(false:Bool)=(okP c s):=by
  exact Qoa ‹_›
 have m:(false:Bool)=(decide (SignsOk c s)):=by
  exact (aB ‹_›).symm
 exact fr_ g (e:=by rw[← j,← m] <;> rfl)
 have f:=ab d
 refine w5 ?_
 refine lc (dK (VP c s ‹_›) QfY) ?_
 refine w4 ?_
 have n:(WP c s:Bool)=(okP c s):=by
  exact Qpu ‹_›
 have o:(true:Bool)=(decide (SignsOk c s)):=by
  exact (aL ‹_›).symm
 exact fr_ g (e:=by rw[n,← o] <;> rfl)
theorem Qdd (c:Zi)(s:ByteArray)[∀c,Decidable (SgOk c)]:FC Tryz.prog 498 [(true,[.dat Ql c.1, .dat Qo c.2.1, .dat Qw c.2.2]),(false,[dS s])] [] 0 (QY (lB (okP c s))):=by
 refine Qv Tryz.func498 rfl rfl Tryz.ntmps498 fun o g n h p m j=> ?_
 refine w_ ?_
 refine xbx 0 ?_
 refine w5 ?_
 refine lc (dK (Qed c s) Qnl) ?_
 refine w_ ?_
 cases d:(decide (SignsOk c s))
 have f:=aa d
 refine w6 ?_
 refine Qd<|fqB g ?_
 exact Qoa ‹_›
 have f:=ab d
 refine w2 ?_
 refine lgy rfl rfl (dK (XY c s ‹_›) Jk) ?_
 refine w3 ?_
 refine Qd<|fqB g ?_
 exact Qpu ‹_›
end Go.Proofs.YtndabgcpnmeeoaaGreat
namespace Go.Proofs.YtndabgcpnmeeoaaGreat
open Go.RowKit
set_option maxRecDepth 100000
set_option maxHeartbeats 4000000
def DelI {α:Type _}(p:α→Bool)(l0 l:List α)(i j:Int):Prop:=(0≤i∧i < j∧j≤(l.length:Int))∧l.length=l0.length∧l.take i.toNat=(l0.take j.toNat).filter p∧l.drop j.toNat=l0.drop j.toNat
section
variable {α:Type _}{p f:α→Bool}{l0 l:List α}{i j:Int}{x:α}
theorem Qbp (f:α→Bool)(l:List α):(Zq f l= -1∧∀x∈l,f x=false)∨∃(k:Nat) (x:α),Zq f l=(k:Int)∧l[k]? =some x∧f x=true∧NoneTo f l k:=by
 unfold Zq
 cases h:l.findIdx? f with
 | none=>exact .inl ⟨rfl,fun x g=>by simpa using List.findIdx?_eq_none_iff.1 h x g⟩
 | some k=>
  obtain ⟨a,b,c⟩:=List.findIdx?_eq_some_iff_getElem.1 h
  exact .inr ⟨k,l[k],rfl,ae a,b,fun j e y m=>by
   obtain ⟨n,d⟩:=ai.1 m
   have:=c j e
   rw[d] at this
   simpa using this⟩
theorem QkT (f:α→Bool)(l:List α): -1≤Zq f l∧Zq f l < (l.length:Int):=by
 rcases Qbp f l with ⟨h,_⟩ | ⟨k,x,h,a,_⟩
 ·omega
 ·have:=(ai.1 a).1
  omega
theorem QdR (h:Zq f l= -1):l=l.filter fun x=> !f x:=by
 rcases Qbp f l with ⟨_,a⟩ | ⟨k,_,a,_⟩
 ·exact (List.filter_eq_self.2 fun x b=>by rw[a x b]; rfl).symm
 ·omega
theorem DelI.start (h:¬Zq f l= -1):DelI (fun x=> !f x) l l (Zq f l) (Zq f l+1):=by
 rcases Qbp f l with ⟨a,_⟩ | ⟨k,x,a,d,e,g⟩
 ·exact absurd a h
 ·have o:=(ai.1 d).1
  rw[a]
  refine ⟨by omega,rfl, ?_,rfl⟩
  rw[show ((k:Int)+1).toNat=k+1 by omega,show ((k:Int)).toNat=k by omega,QO d,aZ]
  have:([x].filter fun x=> !f x)=[]:=by simp[e]
  rw[this,bs]
  refine (List.filter_eq_self.2 fun y m=> ?_).symm
  obtain ⟨n,b⟩:=aN.1 m
  have c:=(ai.1 b).1
  rw[ao] at c
  rw[List.getElem?_take_of_lt (by omega)] at b
  rw[g n (by omega) y b]; rfl
theorem DelI.at_ (h:DelI p l0 l i j)(b:l[j.toNat]? =some x):l0[j.toNat]? =some x:=by
 obtain ⟨c,d,e,a⟩:=h
 have:=congrArg (fun l:List α=>l[0]?) a
 simpa [b] using this.symm
theorem DelI.lt (h:DelI p l0 l i j)(a:l[j.toNat]? =some x):j < (l.length:Int):=by
 have:=(ai.1 a).1
 obtain ⟨b,_⟩:=h
 omega
theorem DelI.drop_ (h:DelI p l0 l i j)(a:l[j.toNat]? =some x)(g:p x=false):DelI p l0 l i (j+1):=by
 have b:=h.at_ a
 have m:=h.lt a
 obtain ⟨k,c,d,e⟩:=h
 refine ⟨by omega,c, ?_, ?_⟩
 ·rw[show (j+1).toNat=j.toNat+1 by omega,QO b,aZ,d]; simp[g]
 ·have:=congrArg (List.drop 1) e
  rw[dk,dk] at this
  rw[show (j+1).toNat=j.toNat+1 by omega]
  exact this
theorem DelI.keep (h:DelI p l0 l i j)(a:l[j.toNat]? =some x)(k:p x=true):DelI p l0 (l.set i.toNat x) (i+1) (j+1):=by
 have b:=h.at_ a
 have n:=h.lt a
 obtain ⟨m,c,d,e⟩:=h
 refine ⟨by rw[ap]; omega,by rw[ap]; exact c, ?_, ?_⟩
 ·have g:(l.set i.toNat x)[i.toNat]? =some x:=aM (by omega)
  rw[show (j+1).toNat=j.toNat+1 by omega,show (i+1).toNat=i.toNat+1 by omega,QO g,QO b,aZ,List.take_set_of_le (aJ _),d]
  simp[k]
 ·have:=congrArg (List.drop 1) e
  rw[dk,dk] at this
  rw[show (j+1).toNat=j.toNat+1 by omega,List.drop_set_of_lt (by omega)]
  exact this
theorem DelI.end_ {z:List α}(h:DelI p l0 l i j)(g:¬j < (l.length:Int))(n:Nat)(b:n=i.toNat):(l.take i.toNat++z).take n=l0.filter p:=by
 obtain ⟨c,d,a,e⟩:=h
 subst b
 rw[List.take_left' (by rw[ao]; omega),a,bj (by omega)]
end
theorem QkN {l:List DAr}{q:Int}:(l.filter fun x=> !(!decide (x.1=q)))=Z9 l q:=by
 unfold Z9
 congr 1
 funext x
 rw[Bool.not_not]
theorem Uo (a:Qfy)(q:Int):FC Tryz.prog 597 [(true,[dI a.1,dI a.2.1,dB a.2.2.1,dI a.2.2.2]),(false,[.ptr 0 0])] [bx 0 3 [dI q]] 1 (Is (lB (!decide (a.1=q))) [bx 0 3 [dI q]]):=by
 refine Qv Tryz.func597 rfl rfl Tryz.ntmps597 fun h e g b k d c=> ?_
 refine acG 0 0 fun _=> ?_
 refine acG 0 1 fun _=> ?_
 refine acG 0 3 fun _=> ?_
 refine w_ ?_
 refine xbx 1 ?_
 refine w6 ?_
 refine alI 6 fun _=> ?_
 refine w4 ?_
 exact fi_ [] e ⟨rfl,trivial⟩
theorem JZ (l:QcX)(q:Int)(A:l.length≤1000000):FC Tryz.prog 340 [(false,[.ref 1]),(false,[.clo 597 [0]])] [bx 0 3 [dI q],ar 1 154 QD l] 2 (Is (lI (Zq (fun a:DAr=> !decide (a.1=q)) l)) [bx 0 3 [dI q],ar 1 154 QD l]):=by
 refine Qv Tryz.func340 rfl rfl Tryz.ntmps340 fun y o w r z v u=> ?_
 refine w10 ?_
 refine lpK l.length (fun k=>NoneTo (fun a:DAr=> !decide (a.1=q)) l k) (fun k=>⟨[(0,lR 1),(1,lf (.clo 597 [0])),(7,lI (l.length:Int)),(8,lI (k:Int))],[bx 0 3 [dI q],ar 1 154 QD l]⟩) (NoneTo.zero) ?_ fun k _ c=> ?_
 exact wo []
 refine w4 ?_
 cases g:(decide ((k:Int) < (l.length:Int)))
 have h:=aa g
 refine w7 ?_
 have s:((-1):Int)=(Zq (fun a:DAr=> !decide (a.1=q)) l):=by
  first | exact (c.no (by omega)).symm
 exact fi_ [] o ⟨rfl,rfl,trivial⟩ (h0:=by rw[← s] <;> rfl)
 have h:=ab g
 refine w12 ?_
 refine lc (QI (e:=QD) (Qa rfl) rfl (Qa rfl) WF X3 rfl (by omega) (by first | omega | (simp only[ap]; omega))) ?_
 obtain ⟨b,d⟩:=gx l k
 refine lc (Vk (e:=QD) (Qa rfl) rfl d rfl X3 rfl rfl)<|lc (YH (args0:=[(true,[dI b.1,dI b.2.1,dB b.2.2.1,dI b.2.2.2])]) (caps:=[0]) 2 [(0,0)] (Uo b q) Qf0 rfl (Qa rfl) rfl rfl ⟨_,_,rfl,(Qk rfl),rfl⟩ ⟨rfl,trivial⟩ rfl ⟨trivial,trivial⟩ (nlr rfl)) ?_
 refine w_ ?_
 cases m:(!decide (b.1=q))
 have n:(b.1=q):=QK m
 refine w6 ?_
 refine Qb ?_
 refine lK_ (c.step d (by simp[*])) ?_
 exact wo []
 have n:¬(b.1=q):=QR m
 refine w6 ?_
 have t:((k:Int):Int)=(Zq (fun a:DAr=> !decide (a.1=q)) l):=by
  exact (c.at d (by simp[*])).symm
 exact fi_ [] o ⟨rfl,rfl,trivial⟩ (h0:=by rw[t] <;> rfl)
theorem QbY (l:QcX)(q:Int)(D:l.length≤1000000):FC Tryz.prog 595 [(false,[.ref 1]),(false,[.clo 597 [0]])] [bx 0 3 [dI q],ar 1 154 QD l] 1 (Is (lR 2) [bx 0 3 [dI q],ar 2 154 QD (Z9 l q)]):=by
 have C:=QkT (fun a:DAr=> !decide (a.1=q)) l
 refine Qv Tryz.func595 rfl rfl Tryz.ntmps595 fun G t F w H z y=> ?_
 refine w6 ?_
 refine lc (dP 2 [] (JZ l q D) Ji) ?_
 refine w7 ?_
 refine cd_ (fun _ _=> ?_) fun _ _=> ?_
 refine w8 ?_
 refine QP (fun u v=>∃(i:Int) (j:Int) (c:List (Int×Int×Bool×Int)),u=((c.length:Int) - j).toNat∧(DelI (fun x:DAr=> !(!decide (x.1=q))) l c i j)∧v=⟨[(0,lR 4),(1,lf (.clo 597 [0])),(4,lf (.val (.slice none 0 0))),(5,lI i),(6,lI j)],[bx 0 3 [dI q],ar 4 154 QD c]⟩) ⟨Zq (fun a:DAr=> !decide (a.1=q)) l,(Zq (fun a:DAr=> !decide (a.1=q)) l)+1,l,rfl,(DelI.start ‹_›),rfl⟩ ?_ ?_
 exact wo [(4,1)]
 rintro u v ⟨i,j,c,E,g,rfl⟩
 have A:=g.1
 have B:=g.2.1
 refine w7 ?_
 cases k:(decide (j < (c.length:Int)))
 have m:=aa k
 refine w6 ?_
 refine lc (Yh (e:=QD) (a:=(i).toNat) (b:=c.length - (i).toNat) (l:=(some i)) (h:=none) (Qa rfl) rfl (by exact (Qa rfl)) (by exact trivial) WF X3 rfl (by first | (simp only[ax,aw]; omega) | omega | (simp only[ax,aw,aj,ao,aA]; omega)) (by first | (simp only[ax,aw]; omega) | omega | (simp only[ax,aw,aj,ao,aA]; omega)) (by first | (simp only[ax,aw]; omega) | omega | (simp only[ax,aw,aj,ao,aA]; omega)) (by first | rfl | simp) (by first | rfl | simp))<|lc (QdJ (e:=QD) (Qa rfl) rfl (by omega) WF QU rfl rfl rfl) ?_
 refine w4 ?_
 refine lc (Yh (e:=QD) (a:=0) (b:=(i).toNat) (l:=none) (h:=(some i)) (Qa rfl) rfl (by exact trivial) (by exact (Qa rfl)) WF X3 rfl (by first | (simp only[ax,aw]; omega) | omega | (simp only[ax,aw,aj,ao,aA]; omega)) (by first | (simp only[ax,aw]; omega) | omega | (simp only[ax,aw,aj,ao,aA]; omega)) (by first | (simp only[ax,aw]; omega) | omega | (simp only[ax,aw,aj,ao,aA]; omega)) (by first | rfl | simp) (by first | rfl | simp)) ?_
 refine w2 ?_
 refine AC.wk (Qfh 5 4 (e:=QD) (xs:=c.take ((i).toNat)++List.replicate (c.length - (i).toNat) (Ty.zero QD)) rfl rfl (by first | omega | (simp only[aj,ao,aA]; omega)) rfl (Fresh.of rfl) (nlr rfl))<|Qd ?_
 exact fi_ [(2,5)] t ⟨rfl,(Qe (by exact (g.end_ ‹_› _ (by omega)).trans QkN)),trivial⟩
 have m:=ab k
 refine w7 ?_
 refine lc (QI (e:=QD) (Qa rfl) rfl (Qa rfl) WF X3 rfl (by omega) (by first | omega | (simp only[ap]; omega))) ?_
 obtain ⟨d,r⟩:=gx c ((j).toNat)
 refine lc (Vk (e:=QD) (Qa rfl) rfl r rfl X3 rfl rfl)<|lc (xal 6 QD QU) ?_
 refine w5 ?_
 refine lc (YH (args0:=[(true,[dI d.1,dI d.2.1,dB d.2.2.1,dI d.2.2.2])]) (caps:=[0]) 7 [(0,0)] (Uo d q) Qf0 rfl (Qa rfl) rfl rfl ⟨_,_,rfl,(Qk rfl),rfl⟩ ⟨rfl,trivial⟩ rfl ⟨trivial,trivial⟩ (nlr rfl)) ?_
 refine w2 ?_
 cases n:(!decide (d.1=q))
 have o:(d.1=q):=QK n
 refine w5 ?_
 refine lc (QI (e:=QD) (Qa rfl) rfl (Qa rfl) WF X3 rfl (by omega) (by first | omega | (simp only[ap]; omega))) ?_
 obtain ⟨I,s⟩:=gx c ((i).toNat)
 refine lc (QA (e:=QD) (z':=d) (Qa rfl) rfl s rfl (Qk rfl) rfl X3 rfl rfl) ?_
 refine w5 ?_
 refine Qb ?_
 refine w5 ?_
 refine Qb<|QW ⟨(i+1),(j+1),(c.set ((i).toNat) d),rfl,(by exact g.keep (x:=d) ‹_› (by simp[*])),rfl⟩ (by first | omega | (simp only[ap]; omega)) ?_
 exact wp [] ⟨rfl,(Qe (by first | rfl | simp)),trivial⟩
 have o:¬(d.1=q):=QR n
 refine w7 ?_
 refine Qb<|QW ⟨i,(j+1),c,rfl,(by exact g.drop_ (x:=d) ‹_› (by simp[*])),rfl⟩ (by first | omega | (simp only[ap]; omega)) ?_
 exact wo []
 refine w5 ?_
 exact fi_ [(2,1)] t ⟨rfl,(Qe (by exact (QdR ‹_›).trans QkN)),trivial⟩
theorem Wr (s:QcX)(o:s.length≤1000000):FC Tryz.prog 596 [(false,[.dat Qw s])] [] 0 (YB 154 QD s):=by
 refine Qv Tryz.func596 rfl rfl Tryz.ntmps596 fun k b h c m g d=> ?_
 refine w6 ?_
 refine QjS (Qa rfl) Evl.val WF rfl fun n a=> ?_
 refine w_ ?_
 refine cb_ (fun _=> ?_) fun _=> ?_
 refine w2 ?_
 refine lc (dBs 0 (e:=QD) QU) ?_
 refine w_ ?_
 refine lc (Zj 1 (Qa rfl) rfl (Evl.rep (Qa rfl)) rfl WF Ww (by first | omega | (simp only[aj,aF,ao,au,aH]; omega) | (simp only[aj,bh,ao,au,aH]; omega)) rfl (Fresh.of rfl) (nlr rfl)) ?_
 refine w2 ?_
 refine Qd<|fo_ b ?_
 rfl
 refine w3 ?_
 refine AC.wk (Wk.nilS 2 2 154 QD rfl (Fresh.of rfl) (nlr rfl))<|Qd<|fo_ b ?_
 exact (a ‹_›).symm
theorem Qc3 (c:Zi)(q:Int)(a:c.2.2.length≤1000000):FC Tryz.prog 593 [(true,[.dat Ql c.1, .dat Qo c.2.1, .dat Qw c.2.2]),(false,[dI q])] [] 0 (YB 154 QD (Z9 c.2.2 q)):=by
 refine Qv Tryz.func593 rfl rfl Tryz.ntmps593 fun k g h b m e d=> ?_
 refine acI 1 fun _=> ?_
 refine w_ ?_
 refine xbx 0 ?_
 refine xbx 1 ?_
 refine w5 ?_
 refine lc (dO 2 (Wr c.2.2 a) QnH) ?_
 refine lc (YI ⟨_,_,rfl,(Qa rfl),rfl,rfl⟩ rfl) ?_
 refine lc (dP 3 [(0,1),(1,2)] (QbY c.2.2 q a) QnG) ?_
 refine w3 ?_
 exact fo_ g rfl
theorem Qgc (c:Zi)(q:Int)(z:c.2.2.length≤1000000):FC Tryz.prog 573 [(true,[.dat Ql c.1, .dat Qo c.2.1, .dat Qw c.2.2]),(false,[dI q])] [] 0 (YB 154 QD (Z9 c.2.2 q)):=by
 refine Qv Tryz.func573 rfl rfl Tryz.ntmps573 fun w s v n y r o=> ?_
 refine acI 1 fun _=> ?_
 refine w_ ?_
 refine xbx 0 ?_
 refine w9 ?_
 refine alL 9 fun _=> ?_
 refine w4 ?_
 refine AC.wk (Wk.nilS 1 5 154 QD rfl (Fresh.of rfl) (nlr rfl)) ?_
 refine lp0 c.2.2.length (fun k=>⟨[(1,lI q),(4,lf (.val (.slice none 0 0))),(5,lR 2),(9,lf (.dat Qw c.2.2)),(10,lI (c.2.2.length:Int)),(11,lI (k:Int))],[ar 2 154 QD (Z9 (c.2.2.take k) q)]⟩) ?_ fun k _=> ?_
 exact wp [(2,1)] ⟨(Qe (by first | rfl | simp)),trivial⟩
 have t:=Qcf (l:=c.2.2.take k) (q:=q)
 have u:(c.2.2.take k).length≤c.2.2.length:=by simp only[ao]; omega
 refine w4 ?_
 cases d:(decide ((k:Int) < (c.2.2.length:Int)))
 have g:=aa d
 refine w7 ?_
 refine Qd<|fo_ s ?_
 rw[QT (by omega)]
 have g:=ab d
 refine w5 ?_
 obtain ⟨a,b⟩:=gx c.2.2 k
 refine w2 ?_
 refine lc (xal 3 QD QU) ?_
 refine w5 ?_
 refine alI 16 fun _=> ?_
 refine w3 ?_
 cases h:(decide (a.1=q))
 have m:=aa h
 refine w6 ?_
 refine Qb ?_
 refine l0_ ?_
 exact wp [] ⟨(Qe (by first | exact QkO b ‹_› | exact Qo6 b ‹_›)),trivial⟩
 have m:=ab h
 refine w4 ?_
 refine lc (dBs 4 (e:=QD) QU (hab:=by exact ⟨_,_,_,_,rfl,⟨[dI a.1],[dI a.2.1,dB a.2.2.1,dI a.2.2.2],_,_,_,_,rfl,rfl,⟨rfl,rfl⟩,⟨[dI a.2.1],[dB a.2.2.1,dI a.2.2.2],_,_,_,_,rfl,rfl,⟨rfl,rfl⟩,⟨[dB a.2.2.1],[dI a.2.2.2],_,_,_,_,rfl,rfl,⟨rfl,rfl⟩,⟨rfl,rfl⟩,rfl⟩,rfl⟩,rfl⟩,⟨rfl,rfl⟩,rfl⟩)) ?_
 refine lc (dA 5 Ww) ?_
 refine w_ ?_
 refine Qb ?_
 refine w4 ?_
 refine Qb ?_
 refine l0_ ?_
 exact wp [(2,5)] ⟨(Qe (by first | exact QkO b ‹_› | exact Qo6 b ‹_›)),trivial⟩
theorem Qbj (x:ByteArray×Int)(name:ByteArray):FC Tryz.prog 589 [(true,[dS x.1,dI x.2]),(false,[.ptr 0 0])] [bx 0 9 [dS name]] 1 (Is (lB (decide (x.1=name))) [bx 0 9 [dS name]]):=by
 refine Qv Tryz.func589 rfl rfl Tryz.ntmps589 fun g d e a h c b=> ?_
 refine acG 0 1 fun _=> ?_
 refine w_ ?_
 refine xbx 1 ?_
 refine w10 ?_
 exact fi_ [] d ⟨rfl,trivial⟩
theorem Jo (l:Ql2)(name:ByteArray):FC Tryz.prog 438 [(false,[.dat Ql l]),(false,[.clo 589 [0]])] [bx 0 9 [dS name]] 1 (Is (lI (Zq (fun x:QM=>decide (x.1=name)) l)) [bx 0 9 [dS name]]):=by
 refine Qv Tryz.func438 rfl rfl Tryz.ntmps438 fun u m t n v s r=> ?_
 refine w6 ?_
 refine alL 6 fun _=> ?_
 refine w4 ?_
 refine lpK l.length (fun k=>NoneTo (fun x:QM=>decide (x.1=name)) l k) (fun k=>⟨[(0,lf (.dat Ql l)),(1,lf (.clo 589 [0])),(7,lI (l.length:Int)),(8,lI (k:Int))],[bx 0 9 [dS name]]⟩) (NoneTo.zero) ?_ fun k _ a=> ?_
 exact wo []
 refine w4 ?_
 cases b:(decide ((k:Int) < (l.length:Int)))
 have c:=aa b
 refine w7 ?_
 have o:((-1):Int)=(Zq (fun x:QM=>decide (x.1=name)) l):=by
  first | exact (a.no (by omega)).symm
 exact fi_ [] m ⟨rfl,trivial⟩ (h0:=by rw[← o] <;> rfl)
 have c:=ab b
 refine w12 ?_
 obtain ⟨h,g⟩:=gx l k
 refine w2 ?_
 refine lc (YH (args0:=[(true,[dS h.1,dI h.2])]) (caps:=[0]) 1 [(0,0)] (Qbj h name) QnD rfl (Qa rfl) rfl rfl ⟨_,_,rfl,(Qk rfl),rfl⟩ ⟨rfl,trivial⟩ rfl ⟨trivial,trivial⟩ (nlr rfl)) ?_
 refine w_ ?_
 cases d:(decide (h.1=name))
 have e:=aa d
 refine w6 ?_
 refine Qb ?_
 refine lK_ (a.step g ‹_›) ?_
 exact wo []
 have e:=ab d
 refine w6 ?_
 have q:((k:Int):Int)=(Zq (fun x:QM=>decide (x.1=name)) l):=by
  exact (a.at g ‹_›).symm
 exact fi_ [] m ⟨rfl,trivial⟩ (h0:=by rw[q] <;> rfl)
theorem KA (l:Ql2)(name:ByteArray):FC Tryz.prog 579 [(false,[.dat Ql l]),(false,[dS name])] [] 0 (QY (lI (Zq (fun x:QM=>decide (x.1=name)) l))):=by
 refine Qv Tryz.func579 rfl rfl Tryz.ntmps579 fun g d e a h c b=> ?_
 refine w_ ?_
 refine xbx 0 ?_
 refine w4 ?_
 refine lc (YI ⟨_,_,rfl,(Qa rfl),rfl,rfl⟩ rfl) ?_
 refine lc (dP 1 [] (Jo l name) Qm8) ?_
 refine w3 ?_
 exact fe_ d
theorem KH (l:Ql2)(name:ByteArray):FC Tryz.prog 499 [(false,[.dat Ql l]),(false,[dS name])] [] 0 (QY (lI (Zq (fun x:QM=>decide (x.1=name)) l))):=by
 refine Qv Tryz.func499 rfl rfl Tryz.ntmps499 fun s h q m t o n=> ?_
 refine w6 ?_
 refine alL 7 fun _=> ?_
 refine w4 ?_
 refine lpK l.length (fun k=>NoneTo (fun x:QM=>decide (x.1=name)) l k) (fun k=>⟨[(1,lf (dS name)),(7,lf (.dat Ql l)),(8,lI (l.length:Int)),(9,lI (k:Int))],[]⟩) (NoneTo.zero) ?_ fun k _ a=> ?_
 exact wo []
 refine w4 ?_
 cases b:(decide ((k:Int) < (l.length:Int)))
 have c:=aa b
 refine w6 ?_
 refine Qd<|fqI h ?_
 first | exact (a.no (by omega)).symm
 have c:=ab b
 refine w6 ?_
 obtain ⟨r,g⟩:=gx l k
 refine w2 ?_
 refine lc (xal 0 QE VL) ?_
 refine w9 ?_
 cases d:(decide (r.1=name))
 have e:=aa d
 refine w6 ?_
 refine Qb ?_
 refine lK_ (a.step g ‹_›) ?_
 exact wo []
 have e:=ab d
 refine w5 ?_
 refine Qd<|fqI h ?_
 exact (a.at g ‹_›).symm
end Go.Proofs.YtndabgcpnmeeoaaGreat
