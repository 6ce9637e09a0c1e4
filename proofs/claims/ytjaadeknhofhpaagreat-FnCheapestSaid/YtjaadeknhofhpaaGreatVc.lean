/- Walks over abstract states: partitions of state graphs. -/
import Derived.Test.YtjaadeknhofhpaaGreatVb
set_option linter.unusedSimpArgs false
set_option linter.unusedVariables false
set_option linter.unusedSectionVars false
namespace Go.Proofs.YtjaadeknhofhpaaGreat
open Go.RowKit
set_option maxRecDepth 100000
set_option maxHeartbeats 4000000
theorem QeU (s:ByteArray)[Decidable (Zq s)]:FC Tryz.prog 240 [(false,[dS s])] [] 0 (Zk (lf (dB (decide (Zq s))))):=QbN fun gh w vs h=>by
  obtain ⟨v,rfl,hr⟩:=h.leaf1
  obtain ⟨rfl,hs⟩:=hr.str_
  exact (Qd0 s w hs).mono fun _ _ h=>U8 h
theorem QdB (s:ByteArray)[Decidable (Zq s)]:FC Tryz.prog 244 [(false,[dS s])] [] 0 (Zk (lf (dB (decide (Zq s))))):=QbN fun gh w vs h=>by
  obtain ⟨v,rfl,hr⟩:=h.leaf1
  obtain ⟨rfl,hs⟩:=hr.str_
  exact (Qer s w hs).mono fun _ _ h=>U8 h
def Yl (a b:UInt8):Bool:=decide (a=b)||(decide (a=48)&&decide (b=43))||(decide (a=43)&&decide (b=49))||(decide (a=49)&&decide (b=45))||(decide (a=45)&&decide (b=48))||(decide (a=43)&&decide (b=45))||(decide (a=45)&&decide (b=43))
def Qo5 (s:ByteArray):Prop:=∀x∈s.toList,x=48∨x=43∨x=49∨x=45
instance (s:ByteArray):Decidable (Qo5 s):=inferInstanceAs (Decidable (∀x∈s.toList,x=48∨x=43∨x=49∨x=45))
def SignsOk (c:DSg)(s:ByteArray):Prop:=Qo5 s∧s.size=c.2.1.length∧SgOk c
instance (c:DSg) (s:ByteArray) [Decidable (SgOk c)]:Decidable (SignsOk c s):=inferInstanceAs (Decidable (_∧_))
def Xv (c:DSg)(s:ByteArray):Bool:=c.2.2.all fun a=>Yl (bAt s a.1) (bAt s a.2.2.2)
def Zs (s:ByteArray)(a:DAr):Bool:=(decide (bAt s a.1=43)&&(decide (bAt s a.2.2.2=49)||decide (bAt s a.2.2.2=45)))||(decide (bAt s a.1=45)&&(decide (bAt s a.2.2.2=48)||decide (bAt s a.2.2.2=43)))
def okP (c:DSg)(s:ByteArray)[Decidable (SgOk c)]:Bool:=decide (SignsOk c s)&&Xv c s
theorem QgS {c:DSg}{s:ByteArray}[Decidable (SgOk c)]:okP c s=true↔SignsOk c s∧Xv c s=true:=by unfold okP; rw[aG,aN]
theorem Qjx {c:DSg}{s:ByteArray}[Decidable (SgOk c)](h:¬SignsOk c s):false=okP c s:=by unfold okP; rw[az h]; rfl
theorem Qmf {c:DSg}{s:ByteArray}[Decidable (SgOk c)](h:SignsOk c s):Xv c s=okP c s:=by unfold okP; rw[aI h]; rfl
def Z7 (as_:List DAr)(q:Int):List DAr:=as_.filter fun a=>decide (a.1=q)
def Xx:ByteArray:=⟨#[48,43,49,45,48]⟩
theorem ba2 {a b c d:UInt8}:(⟨#[a,b]⟩:ByteArray)=⟨#[c,d]⟩↔a=c∧b=d:=by simp[ByteArray.mk.injEq]
section
variable {a b x:UInt8}{k i:Nat}{s:ByteArray}{c:DSg}{l:List DAr}{e:DAr}{q:Int}
theorem Ha (k:Nat)(h:k < 5):bAt Xx (k:Int)=[(48:UInt8),43,49,45,48][k]! :=by
  match k,h with
  | 0,_=>rfl
  | 1,_=>rfl
  | 2,_=>rfl
  | 3,_=>rfl
  | 4,_=>rfl
theorem Qpf (hk:(k:Int)+1 < 5)(h1:bAt Xx (k:Int)=a)(h2:bAt Xx ((k:Int)+1)=b):true=Yl a b:=by
  rw[show ((k:Int)+1)=((k+1:Nat):Int) by omega,Ha _ (by omega)] at h2
  rw[Ha _ (by omega)] at h1
  subst h1 h2
  match k,hk with
  | 0,_=>rfl
  | 1,_=>rfl
  | 2,_=>rfl
  | 3,_=>rfl
  | n+4,h=>omega
theorem Qp7 (h0:¬(a=48∧b=43))(h1:¬(a=43∧b=49))(h2:¬(a=49∧b=45))(h3:¬(a=45∧b=48))(h4:¬(a=43∧b=45))(h5:¬(a=45∧b=43)):decide (a=b)=Yl a b:=by
  have f:∀{p q:UInt8},¬(a=p∧b=q)→(decide (a=p)&&decide (b=q))=false:=fun {p q} h=>by
    rw[Bool.and_eq_false_iff,bp,bp]
    by_cases e:a=p
    · exact .inr fun e2=>h ⟨e,e2⟩
    · exact .inl e
  unfold Yl
  rw[f h0,f h1,f h2,f h3,f h4,f h5]
  simp
theorem Qr3 (hN:∀j:Nat,j < k→¬(bAt Xx (j:Int)=a∧bAt Xx ((j:Int)+1)=b))(hk:¬(k:Int)+1 < 5)(h1:¬(a=43∧b=45))(h2:¬(a=45∧b=43)):decide (a=b)=Yl a b:=by
  have g:∀j:Nat,j < 4→¬([(48:UInt8),43,49,45,48][j]! =a∧[(48:UInt8),43,49,45,48][j+1]! =b):=fun j hj h=>by
    refine hN j (by omega) ?_
    rw[show ((j:Int)+1)=((j+1:Nat):Int) by omega,Ha _ (by omega),Ha _ (by omega)]
    exact h
  have g0:¬(48=a∧43=b):=g 0 (by omega)
  have g1:¬(43=a∧49=b):=g 1 (by omega)
  have g2:¬(49=a∧45=b):=g 2 (by omega)
  have g3:¬(45=a∧48=b):=g 3 (by omega)
  exact Qp7 (fun h=>g0 ⟨h.1.symm,h.2.symm⟩) (fun h=>g1 ⟨h.1.symm,h.2.symm⟩) (fun h=>g2 ⟨h.1.symm,h.2.symm⟩) (fun h=>g3 ⟨h.1.symm,h.2.symm⟩) h1 h2
theorem Qgn (hN:∀j:Nat,j < k→¬(bAt Xx (j:Int)=a∧bAt Xx ((j:Int)+1)=b))(h:¬(bAt Xx (k:Int)=a∧bAt Xx ((k:Int)+1)=b)):∀j:Nat,j < k+1→¬(bAt Xx (j:Int)=a∧bAt Xx ((j:Int)+1)=b):=fun j hj=>by
  by_cases e:j=k
  · subst e; exact h
  · exact hN j (by omega)
theorem Wf (hB:∀j,j < k→∀x,s.toList[j]? =some x→x=48∨x=43∨x=49∨x=45)(hx:s[((k:Int)).toNat]? =some x)(h:x=48∨x=43∨x=49∨x=45):∀j,j < k+1→∀x,s.toList[j]? =some x→x=48∨x=43∨x=49∨x=45:=fun j hj d hd=>by
  by_cases e:j=k
  · subst e; rw[Qbl hx] at hd; cases hd; exact h
  · exact hB j (by omega) d hd
theorem QiE (hB:∀j,j < k→∀x,s.toList[j]? =some x→x=48∨x=43∨x=49∨x=45)(hk:s.size≤k):Qo5 s:=fun x hx=>by
  obtain ⟨j,hj⟩:=aJ.1 hx
  have:=(ab.1 hj).1
  rw[X7] at this
  exact hB j (by omega) x hj
section
variable [Decidable (SignsOk c s)]
theorem QfE (hx:s[((k:Int)).toNat]? =some x)(h:¬(x=48∨x=43∨x=49∨x=45)):false=decide (SignsOk c s):=(az fun g=>h (g.1 x (a8 (Qbl hx)))).symm
theorem Qn8 (h:¬(s.size:Int)=(c.2.1.length:Int)):false=decide (SignsOk c s):=(az fun g=>h (by rw[g.2.1])).symm
theorem Qol (h:¬SgOk c):false=decide (SignsOk c s):=(az fun g=>h g.2.2).symm
theorem Qoe [Decidable (SgOk c)](hB:∀j,j < k→∀x,s.toList[j]? =some x→x=48∨x=43∨x=49∨x=45)(hk:s.size≤k)(h:(s.size:Int)=(c.2.1.length:Int)):decide (SgOk c)=decide (SignsOk c s):=cO.2 ⟨fun g=>⟨QiE hB hk,by omega,g⟩,fun g=>g.2.2⟩
theorem QkI (hB:∀j,j < k→∀x,s.toList[j]? =some x→x=48∨x=43∨x=49∨x=45)(hk:s.size≤k)(g:SgOk c):decide ((s.size:Int)=(c.2.1.length:Int))=decide (SignsOk c s):=cO.2 ⟨fun h=>⟨QiE hB hk,by omega,g⟩,fun g=>by rw[g.2.1]⟩
end
theorem SignsOk.at_ (h:SignsOk c s)(ha:e∈c.2.2):(0≤e.1∧e.1 < (s.size:Int))∧0≤e.2.2.2∧e.2.2.2 < (s.size:Int):=by
  have h1:=Xi (h.2.2.arcs e ha)
  rw[h.2.1]
  exact h1
theorem QrT:(!(c.2.2.any fun a=> !Yl (bAt s a.1) (bAt s a.2.2.2)))=Xv c s:=by
  unfold Xv
  rw[bC,bB,cr,ah]
  constructor
  · intro h a ha; have:=h a ha; simpa using this
  · intro h a ha; have:=h a ha; simpa using this
theorem Qsn (hx:c.2.2[k]? =some e)(h:Yl (bAt s e.1) (bAt s e.2.2.2)=false):false=Xv c s:=by
  refine (List.all_eq_false.2 ⟨e,a8 hx, ?_⟩).symm
  rw[h]; decide
theorem Qq6 (hP:∀j,j < k→∀a,c.2.2[j]? =some a→Yl (bAt s a.1) (bAt s a.2.2.2)=true)(hk:c.2.2.length≤k):true=Xv c s:=(ah.2 fun a ha=>by
  obtain ⟨j,hj⟩:=aJ.1 ha
  have:=(ab.1 hj).1
  exact hP j (by omega) a hj).symm
theorem Qnp (hP:∀j,j < k→∀a,c.2.2[j]? =some a→Yl (bAt s a.1) (bAt s a.2.2.2)=true)(hx:c.2.2[k]? =some e)(h:Yl (bAt s e.1) (bAt s e.2.2.2)=true):∀j,j < k+1→∀a,c.2.2[j]? =some a→Yl (bAt s a.1) (bAt s a.2.2.2)=true:=fun j hj a ha=>by
  by_cases e2:j=k
  · subst e2; rw[hx] at ha; cases ha; exact h
  · exact hP j (by omega) a ha
theorem QiY (hx:l[i]? =some e)(h:e.1=q):Z7 (l.take i) q++[e]=Z7 (l.take (i+1)) q:=by
  unfold Z7
  rw[QO hx,b5]; simp[h]
theorem Qmb (hx:l[i]? =some e)(h:¬e.1=q):Z7 (l.take i) q=Z7 (l.take (i+1)) q:=by
  unfold Z7
  rw[QO hx,b5]; simp[h]
theorem Qa6:(Z7 l q).length≤l.length:=bG ..
theorem Qd6:e∈Z7 l q↔e∈l∧e.1=q:=by unfold Z7; rw[bY,aN]
end
theorem QaF (a:UInt8)(b:UInt8):FC Tryz.prog 250 [(false,[.dat .u8 a]),(false,[.dat .u8 b])] [] 0 (Zk (lB (Yl a b))):=by
 refine Qy Tryz.func250 rfl rfl Tryz.ntmps250 fun O_ hO w0_ N0_ X_ h0_ f0_=> ?_
 iterate 7 refine w_ ?_
 refine lc (dBs 0 (e:= .u8) Qdl) ?_
 refine lc (Zt (ys:=[a,b]) (YS (Qa rfl) rfl) ZF Ve Zo rfl) ?_
 iterate 7 refine w_ ?_
 cases hb1:(decide ((⟨#[a,b]⟩:ByteArray)=(⟨#[48,43]⟩:ByteArray)))
 have hb1':=a6 hb1
 iterate 5 refine w_ ?_
 cases hb2:(decide ((⟨#[a,b]⟩:ByteArray)=(⟨#[43,49]⟩:ByteArray)))
 have hb2':=a6 hb2
 iterate 5 refine w_ ?_
 cases hb3:(decide ((⟨#[a,b]⟩:ByteArray)=(⟨#[49,45]⟩:ByteArray)))
 have hb3':=a6 hb3
 iterate 5 refine w_ ?_
 cases hb4:(decide ((⟨#[a,b]⟩:ByteArray)=(⟨#[45,48]⟩:ByteArray)))
 have hb4':=a6 hb4
 iterate 5 refine w_ ?_
 cases hb5:(decide ((⟨#[a,b]⟩:ByteArray)=(⟨#[43,45]⟩:ByteArray)))
 have hb5':=a6 hb5
 iterate 5 refine w_ ?_
 cases hb6:(decide ((⟨#[a,b]⟩:ByteArray)=(⟨#[45,43]⟩:ByteArray)))
 have hb6':=a6 hb6
 iterate 10 refine w_ ?_
 subst hO
 have e7:(decide (a=b):Bool)=(Yl a b):=by
  exact Qp7 (fun h=>by have:=ba2.2 h; contradiction) (fun h=>by have:=ba2.2 h; contradiction) (fun h=>by have:=ba2.2 h; contradiction) (fun h=>by have:=ba2.2 h; contradiction) (fun h=>by have:=ba2.2 h; contradiction) (fun h=>by have:=ba2.2 h; contradiction)
 exact Qe (Res.one rfl (Qb rfl)) (by rw[e7] <;> rfl) rfl
 have hb6':=a7 hb6
 iterate 5 refine w_ ?_
 subst hO
 have e8:(true:Bool)=(Yl a b):=by
  (unfold Yl; simp only[ba2] at*; simp_all; done)
 exact Qe (Res.one rfl (Qb rfl)) (by rw[← e8] <;> rfl) rfl
 have hb5':=a7 hb5
 iterate 7 refine w_ ?_
 subst hO
 have e9:(true:Bool)=(Yl a b):=by
  (unfold Yl; simp only[ba2] at*; simp_all; done)
 exact Qe (Res.one rfl (Qb rfl)) (by rw[← e9] <;> rfl) rfl
 have hb4':=a7 hb4
 iterate 7 refine w_ ?_
 subst hO
 have e10:(true:Bool)=(Yl a b):=by
  (unfold Yl; simp only[ba2] at*; simp_all; done)
 exact Qe (Res.one rfl (Qb rfl)) (by rw[← e10] <;> rfl) rfl
 have hb3':=a7 hb3
 iterate 7 refine w_ ?_
 subst hO
 have e11:(true:Bool)=(Yl a b):=by
  (unfold Yl; simp only[ba2] at*; simp_all; done)
 exact Qe (Res.one rfl (Qb rfl)) (by rw[← e11] <;> rfl) rfl
 have hb2':=a7 hb2
 iterate 7 refine w_ ?_
 subst hO
 have e12:(true:Bool)=(Yl a b):=by
  (unfold Yl; simp only[ba2] at*; simp_all; done)
 exact Qe (Res.one rfl (Qb rfl)) (by rw[← e12] <;> rfl) rfl
 have hb1':=a7 hb1
 iterate 7 refine w_ ?_
 subst hO
 have e13:(true:Bool)=(Yl a b):=by
  (unfold Yl; simp only[ba2] at*; simp_all; done)
 exact Qe (Res.one rfl (Qb rfl)) (by rw[← e13] <;> rfl) rfl
theorem Qcv (a:UInt8)(b:UInt8):FC Tryz.prog 251 [(false,[.dat .u8 a]),(false,[.dat .u8 b])] [] 0 (Zk (lB (Yl a b))):=by
 have hrs:(⟨#[48,43,49,45,48]⟩:ByteArray).size=5:=rfl
 refine Qy Tryz.func251 rfl rfl Tryz.ntmps251 fun O_ hO w0_ N0_ X_ h0_ f0_=> ?_
 iterate 6 refine w_ ?_
 refine VW (fun s_=>(¬(a=43∧b=45))∧(¬(a=45∧b=43))∧s_=⟨[(0,lf (.dat .u8 a)),(1,lf (.dat .u8 b)),(5,lf (dS (⟨#[48,43,49,45,48]⟩:ByteArray)))],[]⟩) ?_ fun J1=> ?_
 rintro s_ ⟨hq1,hq2,rfl⟩
 iterate 5 refine w_ ?_
 refine Qm (fun m_ s_=>∃(k:Nat),k≤5∧m_=5 - k∧(∀j:Nat,j < k→¬(bAt Xx (j:Int)=a∧bAt Xx ((j:Int)+1)=b))∧s_=⟨[(0,lf (.dat .u8 a)),(1,lf (.dat .u8 b)),(5,lf (dS (⟨#[48,43,49,45,48]⟩:ByteArray))),(6,lI (k:Int))],[]⟩) ⟨0,ap _,rfl,(fun j hj=>absurd hj (b7 j)),rfl⟩ ?_ ?_
 exact wo []
 rintro m_ s_ ⟨k,hk2,hm3,hN,rfl⟩
 iterate 5 refine w_ ?_
 refine AL.fact (Z4 (x:= .tmp 23) (Qa rfl)) fun hl4=>lc (ZO (Qa rfl) rfl Zo) ?_
 iterate 2 refine w_ ?_
 cases hb5:(decide (((k:Int)+1) < ((⟨#[48,43,49,45,48]⟩:ByteArray).size:Int)))
 have hb5':=a6 hb5
 iterate 10 refine w_ ?_
 subst hO
 have e6:(decide (a=b):Bool)=(Yl a b):=by
  exact Qr3 hN (by omega) hq1 hq2
 exact Qe (Res.one rfl (Qb rfl)) (by rw[e6] <;> rfl) rfl
 have hb5':=a7 hb5
 iterate 7 refine w_ ?_
 obtain ⟨c7,hc8⟩:=gs (⟨#[48,43,49,45,48]⟩:ByteArray) (((k:Int)).toNat)
 iterate 4 refine w_ ?_
 cases hb9:(decide (c7=a))
 have hb9':=a6 hb9
 iterate 15 refine w_ ?_
 refine Qc<|QE ⟨k+1,by omega,rfl,(Qgn hN (fun h=>by obtain ⟨h1,h2⟩:=h; rw[show Xx=(⟨#[48,43,49,45,48]⟩:ByteArray) from rfl] at h1 h2; first | (rw[QC ‹_›] at h1; contradiction) | (rw[QC ‹_›] at h2; contradiction))),rfl⟩ (by omega) ?_
 exact wo []
 have hb9':=a7 hb9
 iterate 3 refine w_ ?_
 obtain ⟨c10,hc11⟩:=gs (⟨#[48,43,49,45,48]⟩:ByteArray) (((k:Int)+1).toNat)
 iterate 5 refine w_ ?_
 cases hb12:(decide (c10=b))
 have hb12':=a6 hb12
 iterate 7 refine w_ ?_
 refine Qc<|QE ⟨k+1,by omega,rfl,(Qgn hN (fun h=>by obtain ⟨h1,h2⟩:=h; rw[show Xx=(⟨#[48,43,49,45,48]⟩:ByteArray) from rfl] at h1 h2; first | (rw[QC ‹_›] at h1; contradiction) | (rw[QC ‹_›] at h2; contradiction))),rfl⟩ (by omega) ?_
 exact wo []
 have hb12':=a7 hb12
 iterate 5 refine w_ ?_
 subst hO
 have e13:(true:Bool)=(Yl a b):=by
  exact Qpf (k:=k) (by omega) ((QC (m:=Xx) ‹_›).trans ‹_›) ((QC (m:=Xx) ‹_›).trans ‹_›)
 exact Qe (Res.one rfl (Qb rfl)) (by rw[← e13] <;> rfl) rfl
 iterate 3 refine w_ ?_
 refine lc (Qt (Qa rfl) (QB 43 rfl) rfl) ?_
 refine w_ ?_
 cases hb14:(decide (a=43))
 have hb14':=a6 hb14
 iterate 5 refine w_ ?_
 refine lgy rfl rfl (Qt (Qa rfl) (QB 45 rfl) rfl) ?_
 refine w_ ?_
 cases hb15:(decide (a=45))
 have hb15':=a6 hb15
 iterate 7 refine w_ ?_
 refine XP (J1 _ ⟨(fun h=>by obtain ⟨h1,h2⟩:=h; contradiction),(fun h=>by obtain ⟨h1,h2⟩:=h; contradiction),rfl⟩) ?_
 exact wo []
 have hb15':=a7 hb15
 refine w_ ?_
 refine lgy rfl rfl (Qt (Qa rfl) (QB 43 rfl) rfl) ?_
 iterate 3 refine w_ ?_
 cases hb16:(decide (b=43))
 have hb16':=a6 hb16
 iterate 2 refine w_ ?_
 refine XP (J1 _ ⟨(fun h=>by obtain ⟨h1,h2⟩:=h; contradiction),(fun h=>by obtain ⟨h1,h2⟩:=h; contradiction),rfl⟩) ?_
 exact wo []
 have hb16':=a7 hb16
 iterate 5 refine w_ ?_
 subst hO
 have e17:(true:Bool)=(Yl a b):=by
  (unfold Yl; simp_all; done)
 exact Qe (Res.one rfl (Qb rfl)) (by rw[← e17] <;> rfl) rfl
 have hb14':=a7 hb14
 refine w_ ?_
 refine lgy rfl rfl (Qt (Qa rfl) (QB 45 rfl) rfl) ?_
 iterate 2 refine w_ ?_
 cases hb18:(decide (b=45))
 have hb18':=a6 hb18
 refine w_ ?_
 refine lgy rfl rfl (Qt (Qa rfl) (QB 45 rfl) rfl) ?_
 refine w_ ?_
 have hb19:(decide (a=45))=false:=az fun h_=>absurd ((a7 (hb14)).symm.trans h_) (by decide)
 have hb19':=a6 hb19
 try rw[hb19]
 iterate 7 refine w_ ?_
 refine XP (J1 _ ⟨(fun h=>by obtain ⟨h1,h2⟩:=h; contradiction),(fun h=>by obtain ⟨h1,h2⟩:=h; contradiction),rfl⟩) ?_
 exact wo []
 have hb18':=a7 hb18
 iterate 3 refine w_ ?_
 refine Qg rfl rfl rfl ?_ rfl
 refine Qg rfl rfl rfl ?_ rfl
 iterate 8 refine w_ ?_
 subst hO
 have e20:(true:Bool)=(Yl a b):=by
  (unfold Yl; simp_all; done)
 exact Qe (Res.one rfl (Qb rfl)) (by rw[← e20] <;> rfl) rfl
theorem Xh (a:Int×Int×Bool×Int)(s:ByteArray)(h1:0≤a.1∧a.1 < (s.size:Int))(h2:0≤a.2.2.2∧a.2.2.2 < (s.size:Int)):FC Tryz.prog 139 [(true,[dI a.1,dI a.2.1,dB a.2.2.1,dI a.2.2.2]),(false,[dS s])] [] 0 (Zk (lB (Zs s a))):=by
 refine Qy Tryz.func139 rfl rfl Tryz.ntmps139 fun O_ hO w0_ N0_ X_ h0_ f0_=> ?_
 refine AC.fact (QH (x:= .tmp 0) (i:=0) (Qf rfl) rfl) fun hi1=>AC.fact (QH (x:= .tmp 0) (i:=1) (Qf rfl) rfl) fun hi2=>AC.fact (QH (x:= .tmp 0) (i:=3) (Qf rfl) rfl) fun hi3=> ?_
 refine w_ ?_
 refine xbx 0 ?_
 iterate 2 refine w_ ?_
 obtain ⟨c4,hc5⟩:=gs s ((a.1).toNat)
 obtain ⟨c6,hc7⟩:=gs s ((a.2.2.2).toNat)
 apply dW [io 7 _,io 8 _,io 9 _,io 10 _,io 11 _,io 12 _,io 13 _,io 14 _,io 5 _,io 6 _] [0,1,1,0,15,31,31,15,240,0]
 iterate 10 refine z_ ?_
 exact zN
 iterate 2 refine w_ ?_
 refine lc (Qt (Qa rfl) (QB 43 rfl) rfl) ?_
 refine w_ ?_
 cases hb8:(decide (c4=43))
 have hb8':=a6 hb8
 iterate 3 refine w_ ?_
 refine Qg rfl rfl rfl ?_ rfl
 refine Qg rfl rfl rfl ?_ rfl
 iterate 4 refine w_ ?_
 refine lgy rfl rfl (Qt (Qa rfl) (QB 45 rfl) rfl) ?_
 refine w_ ?_
 cases hb9:(decide (c4=45))
 have hb9':=a6 hb9
 iterate 3 refine w_ ?_
 refine Qg rfl rfl rfl ?_ rfl
 refine Qg rfl rfl rfl ?_ rfl
 iterate 6 refine w_ ?_
 subst hO
 have e10:(false:Bool)=(Zs s a):=by
  (unfold Zs; rw[QC (p:=a.1) ‹_›,QC (p:=a.2.2.2) ‹_›]; simp_all; done)
 exact Qe (Res.one rfl (Qb rfl)) (by rw[← e10] <;> rfl) rfl
 have hb9':=a7 hb9
 refine w_ ?_
 refine lgy rfl rfl (Qt (Qa rfl) (QB 48 rfl) rfl) ?_
 refine w_ ?_
 cases hb11:(decide (c6=48))
 have hb11':=a6 hb11
 refine w_ ?_
 refine lgy rfl rfl (Qt (Qa rfl) (QB 43 rfl) rfl) ?_
 iterate 6 refine w_ ?_
 subst hO
 have e12:(decide (c6=43):Bool)=(Zs s a):=by
  (unfold Zs; rw[QC (p:=a.1) ‹_›,QC (p:=a.2.2.2) ‹_›]; simp_all; done)
 exact Qe (Res.one rfl (Qb rfl)) (by rw[e12] <;> rfl) rfl
 have hb11':=a7 hb11
 iterate 8 refine w_ ?_
 subst hO
 have e13:(true:Bool)=(Zs s a):=by
  (unfold Zs; rw[QC (p:=a.1) ‹_›,QC (p:=a.2.2.2) ‹_›]; simp_all; done)
 exact Qe (Res.one rfl (Qb rfl)) (by rw[← e13] <;> rfl) rfl
 have hb8':=a7 hb8
 refine w_ ?_
 refine lgy rfl rfl (Qt (Qa rfl) (QB 49 rfl) rfl) ?_
 refine w_ ?_
 cases hb14:(decide (c6=49))
 have hb14':=a6 hb14
 refine w_ ?_
 refine lgy rfl rfl (Qt (Qa rfl) (QB 45 rfl) rfl) ?_
 iterate 3 refine w_ ?_
 cases hb15:(decide (c6=45))
 have hb15':=a6 hb15
 refine w_ ?_
 refine lgy rfl rfl (Qt (Qa rfl) (QB 45 rfl) rfl) ?_
 refine w_ ?_
 have hb16:(decide (c4=45))=false:=az fun h_=>absurd ((a7 (hb8)).symm.trans h_) (by decide)
 have hb16':=a6 hb16
 try rw[hb16]
 iterate 3 refine w_ ?_
 refine Qg rfl rfl rfl ?_ rfl
 refine Qg rfl rfl rfl ?_ rfl
 iterate 6 refine w_ ?_
 subst hO
 have e17:(false:Bool)=(Zs s a):=by
  (unfold Zs; rw[QC (p:=a.1) ‹_›,QC (p:=a.2.2.2) ‹_›]; simp_all; done)
 exact Qe (Res.one rfl (Qb rfl)) (by rw[← e17] <;> rfl) rfl
 have hb15':=a7 hb15
 iterate 3 refine w_ ?_
 refine Qg rfl rfl rfl ?_ rfl
 refine Qg rfl rfl rfl ?_ rfl
 refine Qg rfl rfl rfl ?_ rfl
 refine Qg rfl rfl rfl ?_ rfl
 refine Qg rfl rfl rfl ?_ rfl
 refine Qg rfl rfl rfl ?_ rfl
 iterate 5 refine w_ ?_
 subst hO
 have e18:(true:Bool)=(Zs s a):=by
  (unfold Zs; rw[QC (p:=a.1) ‹_›,QC (p:=a.2.2.2) ‹_›]; simp_all; done)
 exact Qe (Res.one rfl (Qb rfl)) (by rw[← e18] <;> rfl) rfl
 have hb14':=a7 hb14
 iterate 8 refine w_ ?_
 refine Qg rfl rfl rfl ?_ rfl
 refine Qg rfl rfl rfl ?_ rfl
 refine Qg rfl rfl rfl ?_ rfl
 refine Qg rfl rfl rfl ?_ rfl
 refine Qg rfl rfl rfl ?_ rfl
 refine Qg rfl rfl rfl ?_ rfl
 iterate 5 refine w_ ?_
 subst hO
 have e19:(true:Bool)=(Zs s a):=by
  (unfold Zs; rw[QC (p:=a.1) ‹_›,QC (p:=a.2.2.2) ‹_›]; simp_all; done)
 exact Qe (Res.one rfl (Qb rfl)) (by rw[← e19] <;> rfl) rfl
theorem WM (s:ByteArray)(a:Int×Int×Bool×Int)(h1:0≤a.1∧a.1 < (s.size:Int))(h2:0≤a.2.2.2∧a.2.2.2 < (s.size:Int)):FC Tryz.prog 247 [(false,[dS s]),(true,[dI a.1,dI a.2.1,dB a.2.2.1,dI a.2.2.2])] [] 0 (Zk (lB (Zs s a))):=by
 refine Qy Tryz.func247 rfl rfl Tryz.ntmps247 fun O_ hO w0_ N0_ X_ h0_ f0_=> ?_
 refine AC.fact (QH (x:= .tmp 1) (i:=0) (Qf rfl) rfl) fun hi1=>AC.fact (QH (x:= .tmp 1) (i:=1) (Qf rfl) rfl) fun hi2=>AC.fact (QH (x:= .tmp 1) (i:=3) (Qf rfl) rfl) fun hi3=> ?_
 refine w_ ?_
 refine xbx 0 ?_
 iterate 2 refine w_ ?_
 obtain ⟨c4,hc5⟩:=gs s ((a.1).toNat)
 obtain ⟨c6,hc7⟩:=gs s ((a.2.2.2).toNat)
 apply dW [io 7 _,io 8 _,io 9 _,io 10 _,io 11 _,io 12 _,io 13 _,io 14 _,io 5 _,io 6 _] [0,1,1,0,15,31,31,15,240,0]
 iterate 10 refine z_ ?_
 exact zN
 iterate 2 refine w_ ?_
 refine lc (Qt (Qa rfl) (QB 43 rfl) rfl) ?_
 refine w_ ?_
 cases hb8:(decide (c4=43))
 have hb8':=a6 hb8
 iterate 3 refine w_ ?_
 refine Qg rfl rfl rfl ?_ rfl
 refine Qg rfl rfl rfl ?_ rfl
 iterate 4 refine w_ ?_
 refine lgy rfl rfl (Qt (Qa rfl) (QB 45 rfl) rfl) ?_
 refine w_ ?_
 cases hb9:(decide (c4=45))
 have hb9':=a6 hb9
 iterate 3 refine w_ ?_
 refine Qg rfl rfl rfl ?_ rfl
 refine Qg rfl rfl rfl ?_ rfl
 iterate 6 refine w_ ?_
 subst hO
 have e10:(false:Bool)=(Zs s a):=by
  (unfold Zs; rw[QC (p:=a.1) ‹_›,QC (p:=a.2.2.2) ‹_›]; simp_all; done)
 exact Qe (Res.one rfl (Qb rfl)) (by rw[← e10] <;> rfl) rfl
 have hb9':=a7 hb9
 refine w_ ?_
 refine lgy rfl rfl (Qt (Qa rfl) (QB 48 rfl) rfl) ?_
 refine w_ ?_
 cases hb11:(decide (c6=48))
 have hb11':=a6 hb11
 refine w_ ?_
 refine lgy rfl rfl (Qt (Qa rfl) (QB 43 rfl) rfl) ?_
 iterate 6 refine w_ ?_
 subst hO
 have e12:(decide (c6=43):Bool)=(Zs s a):=by
  (unfold Zs; rw[QC (p:=a.1) ‹_›,QC (p:=a.2.2.2) ‹_›]; simp_all; done)
 exact Qe (Res.one rfl (Qb rfl)) (by rw[e12] <;> rfl) rfl
 have hb11':=a7 hb11
 iterate 8 refine w_ ?_
 subst hO
 have e13:(true:Bool)=(Zs s a):=by
  (unfold Zs; rw[QC (p:=a.1) ‹_›,QC (p:=a.2.2.2) ‹_›]; simp_all; done)
 exact Qe (Res.one rfl (Qb rfl)) (by rw[← e13] <;> rfl) rfl
 have hb8':=a7 hb8
 refine w_ ?_
 refine lgy rfl rfl (Qt (Qa rfl) (QB 49 rfl) rfl) ?_
 refine w_ ?_
 cases hb14:(decide (c6=49))
 have hb14':=a6 hb14
 refine w_ ?_
 refine lgy rfl rfl (Qt (Qa rfl) (QB 45 rfl) rfl) ?_
 iterate 3 refine w_ ?_
 cases hb15:(decide (c6=45))
 have hb15':=a6 hb15
 refine w_ ?_
 refine lgy rfl rfl (Qt (Qa rfl) (QB 45 rfl) rfl) ?_
 refine w_ ?_
 have hb16:(decide (c4=45))=false:=az fun h_=>absurd ((a7 (hb8)).symm.trans h_) (by decide)
 have hb16':=a6 hb16
 try rw[hb16]
 iterate 3 refine w_ ?_
 refine Qg rfl rfl rfl ?_ rfl
 refine Qg rfl rfl rfl ?_ rfl
 iterate 6 refine w_ ?_
 subst hO
 have e17:(false:Bool)=(Zs s a):=by
  (unfold Zs; rw[QC (p:=a.1) ‹_›,QC (p:=a.2.2.2) ‹_›]; simp_all; done)
 exact Qe (Res.one rfl (Qb rfl)) (by rw[← e17] <;> rfl) rfl
 have hb15':=a7 hb15
 iterate 3 refine w_ ?_
 refine Qg rfl rfl rfl ?_ rfl
 refine Qg rfl rfl rfl ?_ rfl
 refine Qg rfl rfl rfl ?_ rfl
 refine Qg rfl rfl rfl ?_ rfl
 refine Qg rfl rfl rfl ?_ rfl
 refine Qg rfl rfl rfl ?_ rfl
 iterate 5 refine w_ ?_
 subst hO
 have e18:(true:Bool)=(Zs s a):=by
  (unfold Zs; rw[QC (p:=a.1) ‹_›,QC (p:=a.2.2.2) ‹_›]; simp_all; done)
 exact Qe (Res.one rfl (Qb rfl)) (by rw[← e18] <;> rfl) rfl
 have hb14':=a7 hb14
 iterate 8 refine w_ ?_
 refine Qg rfl rfl rfl ?_ rfl
 refine Qg rfl rfl rfl ?_ rfl
 refine Qg rfl rfl rfl ?_ rfl
 refine Qg rfl rfl rfl ?_ rfl
 refine Qg rfl rfl rfl ?_ rfl
 refine Qg rfl rfl rfl ?_ rfl
 iterate 5 refine w_ ?_
 subst hO
 have e19:(true:Bool)=(Zs s a):=by
  (unfold Zs; rw[QC (p:=a.1) ‹_›,QC (p:=a.2.2.2) ‹_›]; simp_all; done)
 exact Qe (Res.one rfl (Qb rfl)) (by rw[← e19] <;> rfl) rfl
theorem Zj (a:Int×Int×Bool×Int):FC Tryz.prog 254 [(true,[dI a.1,dI a.2.1,dB a.2.2.1,dI a.2.2.2])] [] 0 (Zk (ag [dI a.2.1,dB a.2.2.1])):=by
 refine Qy Tryz.func254 rfl rfl Tryz.ntmps254 fun O_ hO w0_ N0_ X_ h0_ f0_=> ?_
 refine AC.fact (QH (x:= .tmp 0) (i:=0) (Qf rfl) rfl) fun hi1=>AC.fact (QH (x:= .tmp 0) (i:=1) (Qf rfl) rfl) fun hi2=>AC.fact (QH (x:= .tmp 0) (i:=3) (Qf rfl) rfl) fun hi3=> ?_
 refine w_ ?_
 refine xbx 0 ?_
 refine lc (xal 1 Qw Ys) ?_
 iterate 6 refine w_ ?_
 refine lc (Qi XM ⟨_,_,rfl,(Qf rfl),⟨_,_,rfl,(Qf rfl),rfl⟩⟩ (ah.1 rfl) rfl rfl) ?_
 iterate 3 refine w_ ?_
 subst hO
 exact Qe (Res.one rfl (Qz rfl rfl Qeu rfl)) rfl rfl
theorem Qb8 (c:(List (ByteArray×Int))×List ByteArray×(List (Int×Int×Bool×Int)))(s:ByteArray)[∀c,Decidable (SgOk c)]:FC Tryz.prog 146 [(true,[.dat Qo c.1, .dat Qr c.2.1, .dat QD c.2.2]),(false,[dS s])] [] 0 (Zk (lB (decide (SignsOk c s)))):=by
 refine Qy Tryz.func146 rfl rfl Tryz.ntmps146 fun O_ hO w0_ N0_ X_ h0_ f0_=> ?_
 refine w_ ?_
 refine xbx 0 ?_
 iterate 7 refine w_ ?_
 refine Qm (fun m_ s_=>∃(k:Nat),k≤s.size∧m_=s.size - k∧(∀j,j < k→∀x,s.toList[j]? =some x→x=48∨x=43∨x=49∨x=45)∧s_=⟨[(1,lf (dS s)),(2,lP 0 0),(5,lI (k:Int))],[(0,some (.box 52 [.dat Qo c.1, .dat Qr c.2.1, .dat QD c.2.2]))]⟩) ⟨0,ap _,rfl,(fun j hj=>absurd hj (b7 j)),rfl⟩ ?_ ?_
 exact wo []
 rintro m_ s_ ⟨k,hk1,hm2,hB,rfl⟩
 iterate 4 refine w_ ?_
 refine AL.fact (Z4 (x:= .tmp 8) (Qa rfl)) fun hl3=>lc (ZO (Qa rfl) rfl Zo) ?_
 iterate 2 refine w_ ?_
 cases hb4:(decide ((k:Int) < (s.size:Int)))
 have hb4':=a6 hb4
 iterate 5 refine w_ ?_
 refine AL.fact (Z4 (x:= .tmp 30) (Qa rfl)) fun hl5=>lc (ZO (Qa rfl) rfl Zo) ?_
 iterate 2 refine w_ ?_
 refine AL.fact (Qp (x:= .tmp 33) (Qa rfl)) fun hl6=> ?_
 iterate 3 refine w_ ?_
 cases hb7:(decide ((s.size:Int)=(c.2.1.length:Int)))
 have hb7':=a6 hb7
 iterate 6 refine w_ ?_
 subst hO
 have e8:(false:Bool)=(decide (SignsOk c s)):=by
  exact Qn8 ‹_›
 exact Qe (Res.one rfl (Qb rfl)) (by rw[← e8] <;> rfl) rfl
 have hb7':=a7 hb7
 refine w_ ?_
 refine lgy rfl rfl (dK (ZB c) U3) ?_
 iterate 4 refine w_ ?_
 subst hO
 have e9:(decide (SgOk c):Bool)=(decide (SignsOk c s)):=by
  exact Qoe hB (by omega) ‹_›
 exact Qe (Res.one rfl (Qb rfl)) (by rw[e9] <;> rfl) rfl
 have hb4':=a7 hb4
 iterate 7 refine w_ ?_
 obtain ⟨c10,hc11⟩:=gs s (((k:Int)).toNat)
 iterate 5 refine w_ ?_
 refine lc (Q7 (Qa rfl) (QB 48 rfl) rfl) ?_
 refine w_ ?_
 cases hb12:(!decide (c10=48))
 have hb12':(c10=48):=QT hb12
 iterate 19 refine w_ ?_
 refine Qc<|QE ⟨k+1,by omega,rfl,(Wf hB ‹_› (by first | exact .inl ‹_› | exact .inr (.inl ‹_›) | exact .inr (.inr (.inl ‹_›)) | exact .inr (.inr (.inr ‹_›)))),rfl⟩ (by omega) ?_
 exact wo []
 have hb12':¬(c10=48):=Q0 hb12
 refine w_ ?_
 refine lgy rfl rfl (Q7 (Qa rfl) (QB 43 rfl) rfl) ?_
 iterate 2 refine w_ ?_
 cases hb13:(!decide (c10=43))
 have hb13':(c10=43):=QT hb13
 iterate 15 refine w_ ?_
 refine Qc<|QE ⟨k+1,by omega,rfl,(Wf hB ‹_› (by first | exact .inl ‹_› | exact .inr (.inl ‹_›) | exact .inr (.inr (.inl ‹_›)) | exact .inr (.inr (.inr ‹_›)))),rfl⟩ (by omega) ?_
 exact wo []
 have hb13':¬(c10=43):=Q0 hb13
 refine w_ ?_
 refine lgy rfl rfl (Q7 (Qa rfl) (QB 49 rfl) rfl) ?_
 iterate 2 refine w_ ?_
 cases hb14:(!decide (c10=49))
 have hb14':(c10=49):=QT hb14
 iterate 11 refine w_ ?_
 refine Qc<|QE ⟨k+1,by omega,rfl,(Wf hB ‹_› (by first | exact .inl ‹_› | exact .inr (.inl ‹_›) | exact .inr (.inr (.inl ‹_›)) | exact .inr (.inr (.inr ‹_›)))),rfl⟩ (by omega) ?_
 exact wo []
 have hb14':¬(c10=49):=Q0 hb14
 refine w_ ?_
 refine lgy rfl rfl (Q7 (Qa rfl) (QB 45 rfl) rfl) ?_
 iterate 2 refine w_ ?_
 cases hb15:(!decide (c10=45))
 have hb15':(c10=45):=QT hb15
 iterate 7 refine w_ ?_
 refine Qc<|QE ⟨k+1,by omega,rfl,(Wf hB ‹_› (by first | exact .inl ‹_› | exact .inr (.inl ‹_›) | exact .inr (.inr (.inl ‹_›)) | exact .inr (.inr (.inr ‹_›)))),rfl⟩ (by omega) ?_
 exact wo []
 have hb15':¬(c10=45):=Q0 hb15
 iterate 5 refine w_ ?_
 subst hO
 have e16:(false:Bool)=(decide (SignsOk c s)):=by
  exact QfE (k:=k) ‹_› (by rintro (h | h | h | h) <;> contradiction)
 exact Qe (Res.one rfl (Qb rfl)) (by rw[← e16] <;> rfl) rfl
theorem Qcy (c:(List (ByteArray×Int))×List ByteArray×(List (Int×Int×Bool×Int)))(s:ByteArray)[∀c,Decidable (SgOk c)]:FC Tryz.prog 148 [(true,[.dat Qo c.1, .dat Qr c.2.1, .dat QD c.2.2]),(false,[dS s])] [] 0 (Zk (lB (decide (SignsOk c s)))):=by
 refine Qy Tryz.func148 rfl rfl Tryz.ntmps148 fun O_ hO w0_ N0_ X_ h0_ f0_=> ?_
 refine w_ ?_
 refine xbx 0 ?_
 iterate 7 refine w_ ?_
 refine Qm (fun m_ s_=>∃(k:Nat),k≤s.size∧m_=s.size - k∧(∀j,j < k→∀x,s.toList[j]? =some x→x=48∨x=43∨x=49∨x=45)∧s_=⟨[(1,lf (dS s)),(2,lP 0 0),(5,lI (k:Int))],[(0,some (.box 52 [.dat Qo c.1, .dat Qr c.2.1, .dat QD c.2.2]))]⟩) ⟨0,ap _,rfl,(fun j hj=>absurd hj (b7 j)),rfl⟩ ?_ ?_
 exact wo []
 rintro m_ s_ ⟨k,hk1,hm2,hB,rfl⟩
 iterate 4 refine w_ ?_
 refine AL.fact (Z4 (x:= .tmp 7) (Qa rfl)) fun hl3=>lc (ZO (Qa rfl) rfl Zo) ?_
 iterate 2 refine w_ ?_
 cases hb4:(decide ((k:Int) < (s.size:Int)))
 have hb4':=a6 hb4
 iterate 5 refine w_ ?_
 refine lc (dK (Yn c) WR) ?_
 refine w_ ?_
 cases hb5:(decide (SgOk c))
 have hb5':=a6 hb5
 iterate 10 refine w_ ?_
 subst hO
 have e6:(false:Bool)=(decide (SignsOk c s)):=by
  exact Qol ‹_›
 exact Qe (Res.one rfl (Qb rfl)) (by rw[← e6] <;> rfl) rfl
 have hb5':=a7 hb5
 refine w_ ?_
 refine AL.fact (Z4 (x:= .tmp 37) (Qa rfl)) fun hl7=>lgy rfl rfl (ZO (Qa rfl) rfl Zo) ?_
 iterate 2 refine w_ ?_
 refine AL.fact (Qp (x:= .tmp 40) (Qa rfl)) fun hl8=> ?_
 iterate 6 refine w_ ?_
 subst hO
 have e9:(decide ((s.size:Int)=(c.2.1.length:Int)):Bool)=(decide (SignsOk c s)):=by
  exact QkI hB (by omega) ‹_›
 exact Qe (Res.one rfl (Qb rfl)) (by rw[e9] <;> rfl) rfl
 have hb4':=a7 hb4
 iterate 7 refine w_ ?_
 obtain ⟨c10,hc11⟩:=gs s (((k:Int)).toNat)
 refine w_ ?_
 refine lc (Q7 (Qa rfl) (QB 48 rfl) rfl) ?_
 refine w_ ?_
 cases hb12:(!decide (c10=48))
 have hb12':(c10=48):=QT hb12
 iterate 25 refine w_ ?_
 refine Qc<|QE ⟨k+1,by omega,rfl,(Wf hB ‹_› (by first | exact .inl ‹_› | exact .inr (.inl ‹_›) | exact .inr (.inr (.inl ‹_›)) | exact .inr (.inr (.inr ‹_›)))),rfl⟩ (by omega) ?_
 exact wo []
 have hb12':¬(c10=48):=Q0 hb12
 iterate 3 refine w_ ?_
 refine lgy rfl rfl (Q7 (Qa rfl) (QB 43 rfl) rfl) ?_
 iterate 2 refine w_ ?_
 cases hb13:(!decide (c10=43))
 have hb13':(c10=43):=QT hb13
 iterate 19 refine w_ ?_
 refine Qc<|QE ⟨k+1,by omega,rfl,(Wf hB ‹_› (by first | exact .inl ‹_› | exact .inr (.inl ‹_›) | exact .inr (.inr (.inl ‹_›)) | exact .inr (.inr (.inr ‹_›)))),rfl⟩ (by omega) ?_
 exact wo []
 have hb13':¬(c10=43):=Q0 hb13
 iterate 3 refine w_ ?_
 refine lgy rfl rfl (Q7 (Qa rfl) (QB 49 rfl) rfl) ?_
 iterate 2 refine w_ ?_
 cases hb14:(!decide (c10=49))
 have hb14':(c10=49):=QT hb14
 iterate 13 refine w_ ?_
 refine Qc<|QE ⟨k+1,by omega,rfl,(Wf hB ‹_› (by first | exact .inl ‹_› | exact .inr (.inl ‹_›) | exact .inr (.inr (.inl ‹_›)) | exact .inr (.inr (.inr ‹_›)))),rfl⟩ (by omega) ?_
 exact wo []
 have hb14':¬(c10=49):=Q0 hb14
 iterate 3 refine w_ ?_
 refine lgy rfl rfl (Q7 (Qa rfl) (QB 45 rfl) rfl) ?_
 iterate 2 refine w_ ?_
 cases hb15:(!decide (c10=45))
 have hb15':(c10=45):=QT hb15
 iterate 7 refine w_ ?_
 refine Qc<|QE ⟨k+1,by omega,rfl,(Wf hB ‹_› (by first | exact .inl ‹_› | exact .inr (.inl ‹_›) | exact .inr (.inr (.inl ‹_›)) | exact .inr (.inr (.inr ‹_›)))),rfl⟩ (by omega) ?_
 exact wo []
 have hb15':¬(c10=45):=Q0 hb15
 iterate 5 refine w_ ?_
 subst hO
 have e16:(false:Bool)=(decide (SignsOk c s)):=by
  exact QfE (k:=k) ‹_› (by rintro (h | h | h | h) <;> contradiction)
 exact Qe (Res.one rfl (Qb rfl)) (by rw[← e16] <;> rfl) rfl
theorem K0 (a:Int×Int×Bool×Int)(s:ByteArray)(h1:0≤a.1∧a.1 < (s.size:Int))(h2:0≤a.2.2.2∧a.2.2.2 < (s.size:Int)):FC Tryz.prog 249 [(true,[dI a.1,dI a.2.1,dB a.2.2.1,dI a.2.2.2]),(false,[.ptr 0 0])] [(0,some (.box 9 [dS s]))] 1 (Is (lB (!Yl (bAt s a.1) (bAt s a.2.2.2))) [(0,some (.box 9 [dS s]))]):=by
 refine Qy Tryz.func249 rfl rfl Tryz.ntmps249 fun O_ hO w0_ N0_ X_ h0_ f0_=> ?_
 refine AC.fact (QH (x:= .tmp 0) (i:=0) (Qf rfl) rfl) fun hi1=>AC.fact (QH (x:= .tmp 0) (i:=1) (Qf rfl) rfl) fun hi2=>AC.fact (QH (x:= .tmp 0) (i:=3) (Qf rfl) rfl) fun hi3=> ?_
 refine w_ ?_
 refine xbx 1 ?_
 iterate 2 refine w_ ?_
 obtain ⟨c4,hc5⟩:=gs s ((a.1).toNat)
 obtain ⟨c6,hc7⟩:=gs s ((a.2.2.2).toNat)
 apply dW [io 4 _,io 5 _,io 6 _,io 7 _,io 8 _,io 9 _,io 10 _,io 11 _,io 12 (lB (Yl c4 c6)),io 13 _,io 3 _] [0,1,1,0,15,31,31,15,0,0,0]
 iterate 8 refine z_ ?_
 refine zz (fun _ h_=>ac (dK (QaF c4 c6) Qjr) rfl) ?_
 iterate 2 refine z_ ?_
 exact zN
 refine w_ ?_
 subst hO
 have e8:(!(Yl c4 c6):Bool)=(!Yl (bAt s a.1) (bAt s a.2.2.2)):=by
  (rw[QC ‹_›,QC ‹_›])
 exact QF _ _ [] (Res.one rfl (Qb rfl)) (by rw[e8] <;> rfl) ⟨rfl,trivial⟩ rfl rfl
theorem K2 (l:List (Int×Int×Bool×Int))(s:ByteArray)(hp:∀a∈l,(0≤a.1∧a.1 < (s.size:Int))∧0≤a.2.2.2∧a.2.2.2 < (s.size:Int)):FC Tryz.prog 276 [(false,[.dat QD l]),(false,[.clo 249 [0]])] [(0,some (.box 9 [dS s]))] 1 (Is (lI (Ze (fun a:DAr=> !Yl (bAt s a.1) (bAt s a.2.2.2)) l)) [(0,some (.box 9 [dS s]))]):=by
 refine Qy Tryz.func276 rfl rfl Tryz.ntmps276 fun O_ hO w0_ N0_ X_ h0_ f0_=> ?_
 iterate 6 refine w_ ?_
 refine AL.fact (Qp (x:= .tmp 6) (Qa rfl)) fun hl1=> ?_
 iterate 4 refine w_ ?_
 refine Qm (fun m_ s_=>∃(k:Nat),k≤l.length∧m_=l.length - k∧(NoneTo (fun a:DAr=> !Yl (bAt s a.1) (bAt s a.2.2.2)) l k)∧s_=⟨[(0,lf (.dat QD l)),(1,lf (.clo 249 [0])),(7,lI (l.length:Int)),(8,lI (k:Int))],[(0,some (.box 9 [dS s]))]⟩) ⟨0,ap _,rfl,NoneTo.zero,rfl⟩ ?_ ?_
 exact wo []
 rintro m_ s_ ⟨k,hk2,hm3,hno,rfl⟩
 iterate 4 refine w_ ?_
 cases hb4:(decide ((k:Int) < (l.length:Int)))
 have hb4':=a6 hb4
 iterate 7 refine w_ ?_
 subst hO
 have e5:((-1):Int)=(Ze (fun a:DAr=> !Yl (bAt s a.1) (bAt s a.2.2.2)) l):=by
  first | exact (hno.no (by omega)).symm
 exact QF _ _ [] (Res.one rfl (Qb rfl)) (by rw[← e5] <;> rfl) ⟨rfl,trivial⟩ rfl rfl
 have hb4':=a7 hb4
 iterate 12 refine w_ ?_
 obtain ⟨x6,hx7⟩:=gx l k
 iterate 2 refine w_ ?_
 refine lc (Xn (args0:=[(true,[dI x6.1,dI x6.2.1,dB x6.2.2.1,dI x6.2.2.2])]) (caps:=[0]) 1 [(0,0)] (K0 x6 s (hp _ (a8 hx7)).1 (hp _ (a8 hx7)).2) Qkk rfl (Qa rfl) rfl rfl ⟨_,_,rfl,(Qf rfl),rfl⟩ ⟨rfl,trivial⟩ rfl ⟨trivial,trivial⟩ (nlr rfl)) ?_
 refine w_ ?_
 cases hb8:(Yl (bAt s x6.1) (bAt s x6.2.2.2))
 iterate 6 refine w_ ?_
 subst hO
 have e9:((k:Int):Int)=(Ze (fun a:DAr=> !Yl (bAt s a.1) (bAt s a.2.2.2)) l):=by
  exact (hno.at hx7 (by simp[*])).symm
 exact QF _ _ [] (Res.one rfl (Qb rfl)) (by rw[e9] <;> rfl) ⟨rfl,trivial⟩ rfl rfl
 iterate 6 refine w_ ?_
 refine Qc<|QE ⟨k+1,by omega,rfl,hno.step hx7 (by simp[*]),rfl⟩ (by omega) ?_
 exact wo []
theorem UA (l:List (Int×Int×Bool×Int))(s:ByteArray)(hp:∀a∈l,(0≤a.1∧a.1 < (s.size:Int))∧0≤a.2.2.2∧a.2.2.2 < (s.size:Int)):FC Tryz.prog 190 [(false,[.dat QD l]),(false,[.clo 249 [0]])] [(0,some (.box 9 [dS s]))] 1 (Is (lB (l.any (fun a:DAr=> !Yl (bAt s a.1) (bAt s a.2.2.2)))) [(0,some (.box 9 [dS s]))]):=by
 refine Qy Tryz.func190 rfl rfl Tryz.ntmps190 fun O_ hO w0_ N0_ X_ h0_ f0_=> ?_
 iterate 6 refine w_ ?_
 refine lc (dP 1 [] (K2 l s hp) HH) ?_
 iterate 4 refine w_ ?_
 subst hO
 have e1:(decide (0≤(Ze (fun a:DAr=> !Yl (bAt s a.1) (bAt s a.2.2.2)) l)):Bool)=(l.any (fun a:DAr=> !Yl (bAt s a.1) (bAt s a.2.2.2))):=by
  exact VN _ _
 exact QF _ _ [] (Res.one rfl (Qb rfl)) (by rw[e1] <;> rfl) ⟨rfl,trivial⟩ rfl rfl
theorem Vu (c:(List (ByteArray×Int))×List ByteArray×(List (Int×Int×Bool×Int)))(s:ByteArray)(hs:SignsOk c s):FC Tryz.prog 147 [(true,[.dat Qo c.1, .dat Qr c.2.1, .dat QD c.2.2]),(false,[dS s])] [] 0 (Zk (lB (Xv c s))):=by
 refine Qy Tryz.func147 rfl rfl Tryz.ntmps147 fun O_ hO w0_ N0_ X_ h0_ f0_=> ?_
 refine w_ ?_
 refine xbx 0 ?_
 refine xbx 1 ?_
 iterate 5 refine w_ ?_
 refine lc (Xb ⟨_,_,rfl,(Qa rfl),rfl,rfl⟩ rfl) ?_
 refine lc (dP 2 [(0,1)] (UA c.2.2 s (fun a ha=>hs.at_ ha)) Qdy) ?_
 iterate 4 refine w_ ?_
 subst hO
 have e1:(!(c.2.2.any (fun a:DAr=> !Yl (bAt s a.1) (bAt s a.2.2.2))):Bool)=(Xv c s):=by
  exact QrT
 exact Qe (Res.one rfl (Qb rfl)) (by rw[e1] <;> rfl) rfl
theorem XV (c:(List (ByteArray×Int))×List ByteArray×(List (Int×Int×Bool×Int)))(s:ByteArray)(hs:SignsOk c s):FC Tryz.prog 149 [(true,[.dat Qo c.1, .dat Qr c.2.1, .dat QD c.2.2]),(false,[dS s])] [] 0 (Zk (lB (Xv c s))):=by
 refine Qy Tryz.func149 rfl rfl Tryz.ntmps149 fun O_ hO w0_ N0_ X_ h0_ f0_=> ?_
 refine w_ ?_
 refine xbx 0 ?_
 iterate 6 refine w_ ?_
 refine AL.fact (Qp (x:= .tmp 8) (Qa rfl)) fun hl1=> ?_
 iterate 4 refine w_ ?_
 refine Qm (fun m_ s_=>∃(k:Nat),k≤c.2.2.length∧m_=c.2.2.length - k∧(∀j,j < k→∀a,c.2.2[j]? =some a→Yl (bAt s a.1) (bAt s a.2.2.2)=true)∧s_=⟨[(1,lf (dS s)),(8,lf (.dat QD c.2.2)),(9,lI (c.2.2.length:Int)),(10,lI (k:Int))],[]⟩) ⟨0,ap _,rfl,(fun j hj=>absurd hj (b7 j)),rfl⟩ ?_ ?_
 exact wo []
 rintro m_ s_ ⟨k,hk2,hm3,hP,rfl⟩
 iterate 4 refine w_ ?_
 cases hb4:(decide ((k:Int) < (c.2.2.length:Int)))
 have hb4':=a6 hb4
 iterate 7 refine w_ ?_
 subst hO
 have e5:(true:Bool)=(Xv c s):=by
  first | exact Qq6 hP (by omega)
 exact Qe (Res.one rfl (Qb rfl)) (by rw[← e5] <;> rfl) rfl
 have hb4':=a7 hb4
 iterate 5 refine w_ ?_
 obtain ⟨x6,hx7⟩:=gx c.2.2 k
 have hatx6:=hs.at_ (a8 hx7)
 iterate 2 refine w_ ?_
 refine lc (xal 1 QA Za) ?_
 iterate 2 refine w_ ?_
 obtain ⟨c8,hc9⟩:=gs s ((x6.1).toNat)
 obtain ⟨c10,hc11⟩:=gs s ((x6.2.2.2).toNat)
 apply dW [io 14 _,io 15 _,io 16 _,io 17 _,io 18 _,io 19 _,io 20 _,io 21 _,io 22 (lB (Yl c8 c10)),io 23 _] [0,1,1,0,15,31,31,15,0,0]
 iterate 8 refine z_ ?_
 refine zz (fun _ h_=>ac (dK (Qcv c8 c10) Qk8) rfl) ?_
 refine z_ ?_
 exact zN
 cases hb12:(Yl c8 c10)
 iterate 5 refine w_ ?_
 subst hO
 have e13:(false:Bool)=(Xv c s):=by
  exact Qsn hx7 (by rw[QC ‹_›,QC ‹_›]; assumption)
 exact Qe (Res.one rfl (Qb rfl)) (by rw[← e13] <;> rfl) rfl
 iterate 6 refine w_ ?_
 refine Qc<|QE ⟨k+1,by omega,rfl,(Qnp hP hx7 (by rw[QC ‹_›,QC ‹_›]; assumption)),rfl⟩ (by omega) ?_
 exact wo []
theorem Ut (c:(List (ByteArray×Int))×List ByteArray×(List (Int×Int×Bool×Int)))(s:ByteArray)[∀c,Decidable (SgOk c)]:FC Tryz.prog 57 [(true,[.dat Qo c.1, .dat Qr c.2.1, .dat QD c.2.2]),(false,[dS s])] [] 0 (Zk (PV.tup [(false,[dB (okP c s)]),(false,[dB (decide (SignsOk c s))])])):=by
 refine Qy Tryz.func57 rfl rfl Tryz.ntmps57 fun O_ hO w0_ N0_ X_ h0_ f0_=> ?_
 refine w_ ?_
 refine xbx 0 ?_
 iterate 7 refine w_ ?_
 refine lc (dK (Qb8 c s) QjM) ?_
 iterate 2 refine w_ ?_
 cases hb1:(decide (SignsOk c s))
 have hb1':=a6 hb1
 iterate 6 refine w_ ?_
 subst hO
 have e2:(false:Bool)=(okP c s):=by
  exact Qjx ‹_›
 have e3:(false:Bool)=(decide (SignsOk c s)):=by
  exact (az ‹_›).symm
 exact Qe (QM rfl (Qb rfl) (Qb rfl)) (by rw[← e2,← e3] <;> rfl) rfl
 have hb1':=a7 hb1
 iterate 5 refine w_ ?_
 refine lc (dK (Vu c s ‹_›) Qdn) ?_
 iterate 4 refine w_ ?_
 subst hO
 have e4:(Xv c s:Bool)=(okP c s):=by
  exact Qmf ‹_›
 have e5:(true:Bool)=(decide (SignsOk c s)):=by
  exact (aI ‹_›).symm
 exact Qe (QM rfl (Qb rfl) (Qb rfl)) (by rw[e4,← e5] <;> rfl) rfl
theorem Qb7 (c:(List (ByteArray×Int))×List ByteArray×(List (Int×Int×Bool×Int)))(s:ByteArray)[∀c,Decidable (SgOk c)]:FC Tryz.prog 140 [(true,[.dat Qo c.1, .dat Qr c.2.1, .dat QD c.2.2]),(false,[dS s])] [] 0 (Zk (lB (okP c s))):=by
 refine Qy Tryz.func140 rfl rfl Tryz.ntmps140 fun O_ hO w0_ N0_ X_ h0_ f0_=> ?_
 refine w_ ?_
 refine xbx 0 ?_
 iterate 5 refine w_ ?_
 refine lc (dK (Qcy c s) Qke) ?_
 refine w_ ?_
 cases hb1:(decide (SignsOk c s))
 have hb1':=a6 hb1
 iterate 7 refine w_ ?_
 subst hO
 have e2:(false:Bool)=(okP c s):=by
  exact Qjx ‹_›
 exact Qe (Res.one rfl (Qb rfl)) (by rw[← e2] <;> rfl) rfl
 have hb1':=a7 hb1
 iterate 2 refine w_ ?_
 refine lgy rfl rfl (dK (XV c s ‹_›) KC) ?_
 iterate 4 refine w_ ?_
 subst hO
 have e3:(Xv c s:Bool)=(okP c s):=by
  exact Qmf ‹_›
 exact Qe (Res.one rfl (Qb rfl)) (by rw[e3] <;> rfl) rfl
end Go.Proofs.YtjaadeknhofhpaaGreat
