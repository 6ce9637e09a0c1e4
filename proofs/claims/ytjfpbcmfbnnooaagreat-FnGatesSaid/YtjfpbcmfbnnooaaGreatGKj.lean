/- Walks over abstract states: circuits of a state graph, both sides; drawn circuits. -/
import Derived.Test.YtjfpbcmfbnnooaaGreatGKi
import Derived.Test.YtjfpbcmfbnnooaaGreatGUa
import Derived.Test.YtjfpbcmfbnnooaaGreatGKg
import Derived.Test.YtjfpbcmfbnnooaaGreatGKl
import Derived.Test.YtjfpbcmfbnnooaaGreatGHc
set_option linter.unusedSimpArgs false
set_option linter.unusedVariables false
set_option linter.unusedSectionVars false
namespace Go.Proofs.YtjfpbcmfbnnooaaGreat
open Go.RowKit
set_option maxRecDepth 100000
set_option maxHeartbeats 4000000
section
variable [∀c,Decidable (SgOk c)]{c:DSg}{sig kind:Int}{w:Bool}{k:Nat}{gs:List DGt}
theorem Qwc:Zs c false sig=nfB c sig:=if_neg Bool.false_ne_true
theorem QgQ (h:¬(if SgOk c then YG c else ⟨#[]⟩)=YY):¬(SgOk c∧YG c=YY):=fun q=>h (by rw[if_pos q.1];exact q.2)
theorem K7 (h:¬SgOk c):¬(SgOk c∧YG c=YY):=fun q=>h q.1
theorem QgR (h:¬YG c=YY):¬(SgOk c∧YG c=YY):=fun q=>h q.2
theorem QgS (h:SgOk c)(a:(if SgOk c then YG c else ⟨#[]⟩)=YY):SgOk c∧YG c=YY:=⟨h,by rw[if_pos h] at a;exact a⟩
theorem Vp (h:¬(SgOk c∧YG c=YY)):[]=(QR c w).1∧[]=(QR c w).2∧false=decide (Q6 c w):=by
 obtain ⟨a,b⟩:=QyD (w:=w) h
 rw[a];exact ⟨rfl,rfl,b⟩
theorem Vq (d:(QD c.1 c.1.length)[k]? =some sig)(hb:Zs c w sig=false):[]=(QR c w).1∧[]=(QR c w).2∧false=decide (Q6 c w):=by
 obtain ⟨a,b⟩:=QAX d hb
 rw[a];exact ⟨rfl,rfl,b⟩
theorem Qid (h0:SgOk c∧YG c=YY)(h:GsI c w k gs)(d:(QD c.1 c.1.length).length≤k):c.1=(QR c w).1∧gs=(QR c w).2∧true=decide (Q6 c w):=by
 obtain ⟨a,b⟩:=QAY h0 h d
 rw[← a];exact ⟨rfl,rfl,b⟩
theorem QsA (a:kind=if w then 2 else 1)(h:¬kind=2):w=false:=by cases w with|false=>rfl|true=>exact absurd a h
theorem Qj6 (a:kind=if w then 2 else 1)(h:kind=2):w=true:=by cases w with|true=>rfl|false=>rw[a] at h;exact absurd h (by decide)
theorem Qzq (a:kind=if w then 2 else 1)(b:¬kind=2)(f:Qv c sig QL)(g:Qdo c sig QL=true):Zs c w sig=true∧(sig,kind,mcU c sig QL,[])=YX c w sig:=by
 have h:=QsA a b
 subst h
 obtain ⟨d,e⟩:=QA3 f
 exact ⟨d.trans g,by rw[e,a];rfl⟩
theorem Qzr (i:kind=if w then 2 else 1)(d:kind=2)(h:Qv c sig upT)(j:Qdo c sig upT=true)(a:Qv c sig QO)(b:Qdo c sig QO=true):Zs c w sig=true∧(sig,kind,mcU c sig upT,mcU c sig QO)=YX c w sig:=by
 have l:=Qj6 i d
 subst l
 obtain ⟨f,g⟩:=QuY h a
 have e:Zs c true sig=true:=by rw[g,j,b];rfl
 exact ⟨e,by rw[← Qy2 e,f,d]⟩
theorem Qsu (b:kind=if w then 2 else 1)(a:¬kind=2)(h:¬Qv c sig QL):Zs c w sig=false:=by rw[QsA b a];exact QyZ h
theorem Qsv (b:kind=if w then 2 else 1)(a:¬kind=2)(h:Qdo c sig QL=false):Zs c w sig=false:=by
 rw[QsA b a,Qwc]
 unfold nfB
 exact Bool.and_eq_false_iff.2 (.inr h)
theorem QuX:Zs c true sig=((decide (Qv c sig upT)&&decide (Qv c sig QO))&&(Qdo c sig upT&&Qdo c sig QO)):=if_pos rfl
theorem Qsw (b:kind=if w then 2 else 1)(a:kind=2)(h:¬Qv c sig upT):Zs c w sig=false:=by rw[Qj6 b a,QuX,ay h];rfl
theorem Qsx (b:kind=if w then 2 else 1)(a:kind=2)(h:Qdo c sig upT=false):Zs c w sig=false:=by rw[Qj6 b a,QuX,h];simp
theorem Qsy (b:kind=if w then 2 else 1)(a:kind=2)(h:¬Qv c sig QO):Zs c w sig=false:=by rw[Qj6 b a,QuX,ay h];simp
theorem Qsz (b:kind=if w then 2 else 1)(a:kind=2)(h:Qdo c sig QO=false):Zs c w sig=false:=by rw[Qj6 b a,QuX,h];simp
theorem QcV (h:Qv c sig upT)(a:Qv c sig QO):sig=(gcV c sig).1∧(2:Int)=(gcV c sig).2.1∧(mnV (c.1.length:Int) (Qp c sig upT).1 (Qp c sig upT).2).1=(gcV c sig).2.2.1∧(mnV (c.1.length:Int) (Qp c sig QO).1 (Qp c sig QO).2).1=(gcV c sig).2.2.2:=by
 rw[(QuY h a).1,QdX h,QdX a];exact ⟨rfl,rfl,rfl,rfl⟩
theorem Qwd (h:Qv c sig upT)(a:Qv c sig QO):Zs c true sig=((mnV (c.1.length:Int) (Qp c sig upT).1 (Qp c sig upT).2).2&&(mnV (c.1.length:Int) (Qp c sig QO).1 (Qp c sig QO).2).2):=by
 rw[(QuY h a).2,QdX h,QdX a]
theorem Qy0 (h:Qv c sig upT)(a:Qv c sig QO)(b:(mnV (c.1.length:Int) (Qp c sig upT).1 (Qp c sig upT).2).2=true):(mnV (c.1.length:Int) (Qp c sig QO).1 (Qp c sig QO).2).2=Zs c true sig:=by
 rw[Qwd h a,b];rfl
theorem Qy1 (h:Qv c sig upT)(a:Qv c sig QO)(b:(mnV (c.1.length:Int) (Qp c sig upT).1 (Qp c sig upT).2).2=false):false=Zs c true sig:=by
 rw[Qwd h a,b];rfl
theorem H7 (h:¬Qv c sig upT∨¬Qv c sig QO):(0:Int)=(gcV c sig).1∧(0:Int)=(gcV c sig).2.1∧[]=(gcV c sig).2.2.1∧[]=(gcV c sig).2.2.2∧false=Zs c true sig:=by
 rcases h with h|h
 ·rw[(Qwe h).1,(Qwe h).2];exact ⟨rfl,rfl,rfl,rfl,rfl⟩
 ·rw[(Qwf h).1,(Qwf h).2];exact ⟨rfl,rfl,rfl,rfl,rfl⟩
theorem Yz:(QR c w).1.length≤8∧(QR c w).2.length≤8:=by
 by_cases h:Q6 c w
 ·rw[QkV h]
  refine ⟨h.1.1.sigs.2.2,?_⟩
  have:=Y0 (ss:=c.1) (k:=c.1.length)
  have a:=h.1.1.sigs.2.2
  rw[aH];omega
 ·rw[Qns h];exact ⟨aL _,aL _⟩
theorem QyL {code:List UInt8}{at_ n A S:Int}(a:0≤n∧n≤8)(h:at_≤A∧A≤at_+900):at_≤(cvC code n A S).2.1∧(cvC code n A S).2.1≤at_+1000:=by
 have:=Quy code n A S a
 omega
theorem Qr1 [∀x,Decidable (ZU x)](h:ZU (QR c w)):ImP c (QR c w)∧imV c (QR c w)=true:=by
 by_cases g:Q6 c w
 ·have a:ImP c (QR c w):=⟨⟨g.1.1,h⟩,by rw[QkV g]⟩
  exact ⟨a,by unfold imV;rw[aN a,QyE g];rfl⟩
 ·rw[Qns g] at h;exact absurd h Qud
theorem Qnr (h:Q6 c w):SgOk c∧(if SgOk c then YG c else ⟨#[]⟩)=YY∧ZU (QR c w):=⟨h.1.1,by rw[if_pos h.1.1];exact h.1.2,QyG h⟩
end
theorem W9 (sig:Int)(c:ZM)[∀c,Decidable (SgOk c)]:FC Tryz.prog 49 [(false,[dI sig]),(false,[.ptr 0 0])] [bx 0 28 [.dat Ql c.1,.dat Qb c.2.1,.dat QA c.2.2]] 1 (Is (PV.tup [(true,[dI ((YX c false sig).1),dI ((YX c false sig).2.1),.dat Qb ((YX c false sig).2.2.1),.dat Qb ((YX c false sig).2.2.2)]),(false,[dB (Zs c false sig)])]) [bx 0 28 [.dat Ql c.1,.dat Qb c.2.1,.dat QA c.2.2]]):=by
 refine Qj Tryz.func49 rfl rfl Tryz.ntmps49 fun m j l a n i h=> ?_
 refine acI 0 fun _=> ?_
 refine w_ ?_
 refine lc (xal 1 ZT Xu) ?_
 refine w5 ?_
 refine lc (dK (Ul c sig) Qpe) ?_
 refine w9 ?_
 refine lc (Qk Qew ⟨_,_,rfl,(Qn rfl),⟨_,_,rfl,(Evl.ev (Qq rfl)),⟨_,_,rfl,(Qn rfl),rfl⟩⟩⟩ (au.1 rfl) rfl rfl) ?_
 refine w4 ?_
 refine AC.wk (WH (p:=1) [dI sig,dI 1,.dat Qb (nfV c sig),.dat Qb ([])] rfl ⟨_,_,rfl,.inl rfl,⟨_,_,rfl,.inl rfl,⟨_,_,rfl,.inl rfl,⟨_,_,rfl,.inr ⟨_,_,rfl,rfl⟩,rfl⟩⟩⟩⟩)<|Qe ?_
 have b:(sig:Int)=((YX c false sig).1):=by
  (rw[Qmv];done)
 have d:(1:Int)=((YX c false sig).2.1):=by
  (rw[Qmv];done)
 have e:(nfV c sig:(Qb:Ty).Den)=((YX c false sig).2.2.1):=by
  (rw[Qmv];done)
 have f:([]:(Qb:Ty).Den)=((YX c false sig).2.2.2):=by
  (rw[Qmv];done)
 have g:(nfB c sig:Bool)=(Zs c false sig):=by
  exact Qwc.symm
 exact fi_ [] j ⟨rfl,trivial⟩ (h0:=by first|(rw[← b,← d,e,f,g]<;>rfl)|rw[b,d,←e,←f,←g]|(rw[←b,←d,←e,←f,←g]<;>rfl))
theorem WT (sig:Int)(c:ZM)[∀c,Decidable (SgOk c)]:FC Tryz.prog 54 [(false,[dI sig]),(false,[.ptr 0 0])] [bx 0 28 [.dat Ql c.1,.dat Qb c.2.1,.dat QA c.2.2]] 1 (Is (PV.tup [(true,[dI ((gcV c sig).1),dI ((gcV c sig).2.1),.dat Qb ((gcV c sig).2.2.1),.dat Qb ((gcV c sig).2.2.2)]),(false,[dB (Zs c true sig)])]) [bx 0 28 [.dat Ql c.1,.dat Qb c.2.1,.dat QA c.2.2]]):=by
 refine Qj Tryz.func54 rfl rfl Tryz.ntmps54 fun I f H y J G F=> ?_
 refine acI 0 fun _=> ?_
 refine w_ ?_
 refine lc (xal 1 ZT Xu) ?_
 refine w5 ?_
 refine lc (dK (U6 c sig).frozenG Qpg) ?_
 refine w3 ?_
 refine lc (xal 2 X9 YE) ?_
 refine w6 ?_
 refine lc (dK (Um c sig).frozenG Qph) ?_
 refine w3 ?_
 refine lc (xal 3 X9 YE) ?_
 refine w8 ?_
 cases a:(decide (Qv c sig upT))
 have b:=aa a
 refine w6 ?_
 refine lc (Qk Qew rfl (au.1 rfl) rfl rfl) ?_
 refine w3 ?_
 refine AC.wk (WH (p:=1) [dI 0,dI 0,.dat Qb ([]),.dat Qb ([])] rfl ⟨_,_,rfl,.inl rfl,⟨_,_,rfl,.inl rfl,⟨_,_,rfl,.inr ⟨_,_,rfl,rfl⟩,⟨_,_,rfl,.inr ⟨_,_,rfl,rfl⟩,rfl⟩⟩⟩⟩)<|Qe ?_
 have z:(0:Int)=((gcV c sig).1):=by
  exact (H7 (.inl ‹_›)).1
 have A:(0:Int)=((gcV c sig).2.1):=by
  exact (H7 (.inl ‹_›)).2.1
 have B:([]:(Qb:Ty).Den)=((gcV c sig).2.2.1):=by
  exact (H7 (.inl ‹_›)).2.2.1
 have C:([]:(Qb:Ty).Den)=((gcV c sig).2.2.2):=by
  exact (H7 (.inl ‹_›)).2.2.2.1
 have D:(false:Bool)=(Zs c true sig):=by
  exact (H7 (.inl ‹_›)).2.2.2.2
 exact fi_ [] f ⟨rfl,trivial⟩ (h0:=by first|(rw[← z,← A,B,C,← D]<;>rfl)|rw[z,A,←B,←C,D]|(rw[←z,←A,←B,←C,←D]<;>rfl))
 have b:=ab a
 refine w4 ?_
 cases d:(decide (Qv c sig QO))
 have e:=aa d
 refine w2 ?_
 refine lc (Qk Qew rfl (au.1 rfl) rfl rfl) ?_
 refine w3 ?_
 refine AC.wk (WH (p:=1) [dI 0,dI 0,.dat Qb ([]),.dat Qb ([])] rfl ⟨_,_,rfl,.inl rfl,⟨_,_,rfl,.inl rfl,⟨_,_,rfl,.inr ⟨_,_,rfl,rfl⟩,⟨_,_,rfl,.inr ⟨_,_,rfl,rfl⟩,rfl⟩⟩⟩⟩)<|Qe ?_
 have E:(0:Int)=((gcV c sig).1):=by
  exact (H7 (.inr ‹_›)).1
 have g:(0:Int)=((gcV c sig).2.1):=by
  exact (H7 (.inr ‹_›)).2.1
 have h:([]:(Qb:Ty).Den)=((gcV c sig).2.2.1):=by
  exact (H7 (.inr ‹_›)).2.2.1
 have i:([]:(Qb:Ty).Den)=((gcV c sig).2.2.2):=by
  exact (H7 (.inr ‹_›)).2.2.2.1
 have j:(false:Bool)=(Zs c true sig):=by
  exact (H7 (.inr ‹_›)).2.2.2.2
 exact fi_ [] f ⟨rfl,trivial⟩ (h0:=by first|(rw[← E,← g,h,i,← j]<;>rfl)|rw[E,g,←h,←i,j]|(rw[←E,←g,←h,←i,←j]<;>rfl))
 have e:=ab d
 refine w5 ?_
 refine alL 34 fun _=> ?_
 refine w5 ?_
 refine lc (dK (Va (c.1.length:Int) ((Qp c sig upT).1) ((Qp c sig upT).2) (by first|(have:=(YT (by assumption:Qv c sig upT)).1;omega)) (by first|exact QfS (YT (by assumption:Qv c sig upT))|exact QfS (YT (by assumption:Qv c sig QO))) (by first|exact QaL (YT (by assumption:Qv c sig upT))|exact QaL (YT (by assumption:Qv c sig QO))) (by first|exact Qcy (YT (by assumption:Qv c sig upT))|exact Qcy (YT (by assumption:Qv c sig QO)))) Qb6) ?_
 refine w9 ?_
 refine alL 45 fun _=> ?_
 refine w5 ?_
 refine lc (dK (Va (c.1.length:Int) ((Qp c sig QO).1) ((Qp c sig QO).2) (by first|(have:=(YT (by assumption:Qv c sig upT)).1;omega)) (by first|exact QfS (YT (by assumption:Qv c sig upT))|exact QfS (YT (by assumption:Qv c sig QO))) (by first|exact QaL (YT (by assumption:Qv c sig upT))|exact QaL (YT (by assumption:Qv c sig QO))) (by first|exact Qcy (YT (by assumption:Qv c sig upT))|exact Qcy (YT (by assumption:Qv c sig QO)))) Qb6) ?_
 refine w10 ?_
 refine lc (Qk Qew ⟨_,_,rfl,(Qn rfl),⟨_,_,rfl,(Evl.ev (Qq rfl)),⟨_,_,rfl,(Qn rfl),⟨_,_,rfl,(Qn rfl),rfl⟩⟩⟩⟩ (au.1 rfl) rfl rfl) ?_
 refine w2 ?_
 cases x:((mnV (c.1.length:Int) ((Qp c sig upT).1) ((Qp c sig upT).2)).2)
 refine w6 ?_
 have l:(sig:Int)=((gcV c sig).1):=by
  exact (QcV (by assumption:Qv c sig upT) (by assumption:Qv c sig QO)).1
 have m:(2:Int)=((gcV c sig).2.1):=by
  exact (QcV (by assumption:Qv c sig upT) (by assumption:Qv c sig QO)).2.1
 have n:((mnV (c.1.length:Int) ((Qp c sig upT).1) ((Qp c sig upT).2)).1:(Qb:Ty).Den)=((gcV c sig).2.2.1):=by
  exact (QcV (by assumption:Qv c sig upT) (by assumption:Qv c sig QO)).2.2.1
 have o:((mnV (c.1.length:Int) ((Qp c sig QO).1) ((Qp c sig QO).2)).1:(Qb:Ty).Den)=((gcV c sig).2.2.2):=by
  exact (QcV (by assumption:Qv c sig upT) (by assumption:Qv c sig QO)).2.2.2
 have q:(false:Bool)=(Zs c true sig):=by
  exact Qy1 (by assumption:Qv c sig upT) (by assumption:Qv c sig QO) ‹_›
 exact fi_ [] f ⟨rfl,trivial⟩ (h0:=by first|(rw[← l,← m,n,o,← q]<;>rfl)|rw[l,m,←n,←o,q]|(rw[←l,←m,←n,←o,←q]<;>rfl))
 refine w6 ?_
 have r:(sig:Int)=((gcV c sig).1):=by
  exact (QcV (by assumption:Qv c sig upT) (by assumption:Qv c sig QO)).1
 have s:(2:Int)=((gcV c sig).2.1):=by
  exact (QcV (by assumption:Qv c sig upT) (by assumption:Qv c sig QO)).2.1
 have t:((mnV (c.1.length:Int) ((Qp c sig upT).1) ((Qp c sig upT).2)).1:(Qb:Ty).Den)=((gcV c sig).2.2.1):=by
  exact (QcV (by assumption:Qv c sig upT) (by assumption:Qv c sig QO)).2.2.1
 have u:((mnV (c.1.length:Int) ((Qp c sig QO).1) ((Qp c sig QO).2)).1:(Qb:Ty).Den)=((gcV c sig).2.2.2):=by
  exact (QcV (by assumption:Qv c sig upT) (by assumption:Qv c sig QO)).2.2.2
 have v:((mnV (c.1.length:Int) ((Qp c sig QO).1) ((Qp c sig QO).2)).2:Bool)=(Zs c true sig):=by
  exact Qy0 (by assumption:Qv c sig upT) (by assumption:Qv c sig QO) ‹_›
 exact fi_ [] f ⟨rfl,trivial⟩ (h0:=by first|(rw[← r,← s,t,u,v]<;>rfl)|rw[r,s,←t,←u,←v]|(rw[←r,←s,←t,←u,←v]<;>rfl))
theorem Qc7 (g:ZM)(c:ZM)[∀c,Decidable (SgOk c)](a:g=c):FC Tryz.prog 48 [(true,[.dat Ql g.1,.dat Qb g.2.1,.dat QA g.2.2]),(false,[.clo 49 [0]])] [bx 0 28 [.dat Ql c.1,.dat Qb c.2.1,.dat QA c.2.2]] 1 (Is (PV.tup [(true,[.ref 1,.ref 2]),(false,[dB (decide (Q6 c false))])]) [bx 0 28 [.dat Ql c.1,.dat Qb c.2.1,.dat QA c.2.2],ar 1 103 QI ((QR c false).1),(2,some (.res (zrR 90 ZT ((QR c false).2))))]):=by
 refine Qj Tryz.func48 rfl rfl Tryz.ntmps48 fun L o K x M D C=> ?_
 refine w_ ?_
 refine xbx 1 ?_
 refine lc (xal 2 Vw Yd) ?_
 refine w5 ?_
 refine lc (dK (YN g) Qb5) ?_
 refine w10 ?_
 cases f:(decide (SgOk g))
 have h:=aa f
 refine w6 ?_
 refine lc (Qk YR rfl (au.1 rfl) rfl rfl) ?_
 refine w3 ?_
 refine AC.wk (Qr 3 (p:=2) (off:=0) 103 QI rfl rfl (Fresh.of rfl) (nlr rfl))<|AC.wk (Qr 4 (p:=2) (off:=1) 90 ZT rfl rfl (Fresh.of rfl) (nlr rfl))<|AC.wk (Yk (q:=4) rfl)<|Qe ?_
 have y:(false:Bool)=(decide (Q6 c false)):=by
  exact (Vp (by rw[← a];exact K7 ‹_›)).2.2
 exact fi_ [(1,3),(2,4)] o ⟨rfl,(Qm (by exact (Vp (by rw[← a];exact K7 ‹_›)).1)),(Xi (by exact (Vp (by rw[← a];exact K7 ‹_›)).2.1)),trivial⟩ (h0:=by first|(rw[← y]<;>rfl)|rw[y]|(rw[←y]<;>rfl))
 have h:=ab f
 refine w4 ?_
 cases i:(decide ((if SgOk g then YG g else ⟨#[]⟩)=YY))
 have j:=aa i
 refine w2 ?_
 refine lc (Qk YR rfl (au.1 rfl) rfl rfl) ?_
 refine w3 ?_
 refine AC.wk (Qr 5 (p:=2) (off:=0) 103 QI rfl rfl (Fresh.of rfl) (nlr rfl))<|AC.wk (Qr 6 (p:=2) (off:=1) 90 ZT rfl rfl (Fresh.of rfl) (nlr rfl))<|AC.wk (Yk (q:=6) rfl)<|Qe ?_
 have A:(false:Bool)=(decide (Q6 c false)):=by
  exact (Vp (by rw[← a];exact QgQ ‹_›)).2.2
 exact fi_ [(1,5),(2,6)] o ⟨rfl,(Qm (by exact (Vp (by rw[← a];exact QgQ ‹_›)).1)),(Xi (by exact (Vp (by rw[← a];exact QgQ ‹_›)).2.1)),trivial⟩ (h0:=by first|(rw[← A]<;>rfl)|rw[A]|(rw[←A]<;>rfl))
 have j:=ab i
 refine w5 ?_
 refine lc (dO 7 (Z2 g.1 (by have:=(by assumption:SgOk g).sigs.2.2;omega)) QeI) ?_
 refine lc (Qk YR ⟨_,_,rfl,(Qn rfl),rfl⟩ (au.1 rfl) rfl rfl)<|lc (xal 8 Vw Yd) ?_
 refine w5 ?_
 refine lc (dO 9 (XS g (by have:=(by assumption:SgOk g).sigs.2.2;omega)) Hr) ?_
 refine w4 ?_
 refine AC.wk (Qr 10 (p:=8) (off:=1) 90 ZT rfl rfl (Fresh.of rfl) (nlr rfl))<|AC.wk (Yk (q:=10) rfl) ?_
 refine Qu (fun u v=>∃(k:Nat) (gs:List (Int×Int×List ByteArray×List ByteArray)),k≤(QD g.1 g.1.length).length∧u=(QD g.1 g.1.length).length - k∧(GsI c false k gs)∧v=⟨[(1,lf (.clo 49 [0])),(4,lP 2 0),(8,lP 8 0),(30,lR 9),(31,lI ((QD g.1 g.1.length).length:Int)),(32,lI (k:Int))],[bx 0 28 [.dat Ql c.1,.dat Qb c.2.1,.dat QA c.2.2],bx 2 32 [.val (.slice none 0 0),.val (.slice none 0 0)],ar 7 103 QI g.1,bx 8 32 [.ref 7,.ref 11],ar 9 3 .int (QD g.1 g.1.length),(11,some (.res (zrR 90 ZT gs)))]⟩) ⟨0,([]:(YU:Ty).Den),aL _,rfl,Qxb,rfl⟩ ?_ ?_
 exact wp [(11,10)] ⟨rfl,rfl,rfl,rfl,rfl,(Xi (by first|rfl|simp)),trivial⟩
 rintro u v ⟨k,gs,H,I,d,rfl⟩
 have G:=Qmu d
 have J:=Y0 (ss:=c.1) (k:=c.1.length)
 have t:=Y0 (ss:=g.1) (k:=g.1.length)
 have E:=(by assumption:SgOk g).sigs.2.2
 have F:g.1.length=c.1.length:=by rw[a]
 refine w4 ?_
 cases l:(decide ((k:Int)<((QD g.1 g.1.length).length:Int)))
 have m:=aa l
 refine w9 ?_
 have B:(true:Bool)=(decide (Q6 c false)):=by
  exact (Qid (by rw[← a];exact QgS ‹_› ‹_›) d (by rw[← a];omega)).2.2
 exact fi_ [(1,7),(2,11)] o ⟨rfl,(Qm (by exact (congrArg (fun z=>z.1) a).trans (Qid (by rw[← a];exact QgS ‹_› ‹_›) d (by rw[← a];omega)).1)),(Xi (by exact (Qid (by rw[← a];exact QgS ‹_› ‹_›) d (by rw[← a];omega)).2.1)),trivial⟩ (h0:=by first|(rw[← B]<;>rfl)|rw[B]|(rw[←B]<;>rfl))
 have m:=ab l
 refine w6 ?_
 obtain ⟨n,b⟩:=gx (QD g.1 g.1.length) k
 refine w_ ?_
 refine alI 35 fun _=> ?_
 refine w5 ?_
 refine lc (Q3 (args0:=[(false,[dI n])]) (caps:=[0]) 12 [(0,0)] (W9 n c) Qpd rfl (Qa rfl) rfl rfl ⟨_,_,rfl,(Qn rfl),rfl⟩ ⟨rfl,trivial⟩ rfl ⟨trivial,trivial⟩ (nlr rfl)) ?_
 refine w3 ?_
 refine lc (xal 13 ZT Xu) ?_
 refine w8 ?_
 cases s:(Zs c false n)
 refine w2 ?_
 refine lc (Qk YR rfl (au.1 rfl) rfl rfl) ?_
 refine w3 ?_
 refine AC.wk (Qr 14 (p:=2) (off:=0) 103 QI rfl rfl (Fresh.of rfl) (nlr rfl))<|AC.wk (Qr 15 (p:=2) (off:=1) 90 ZT rfl rfl (Fresh.of rfl) (nlr rfl))<|AC.wk (Yk (q:=15) rfl)<|Qe ?_
 have r:(false:Bool)=(decide (Q6 c false)):=by
  exact (Vq (by rw[← a];exact b) ‹_›).2.2
 exact fi_ [(1,14),(2,15)] o ⟨rfl,(Qm (by exact (Vq (by rw[← a];exact b) ‹_›).1)),(Xi (by exact (Vq (by rw[← a];exact b) ‹_›).2.1)),trivial⟩ (h0:=by first|(rw[← r]<;>rfl)|rw[r]|(rw[←r]<;>rfl))
 refine w6 ?_
 refine lc (Wb 16 (e:=ZT) [(YX c false n)] Wn Hb Xu rfl ⟨_,_,rfl,(Qn rfl),rfl⟩ rfl (by decide) rfl (Fresh.of rfl) (nlr rfl))<|lc (Vn 17 (Qa rfl) rfl (Qa rfl) rfl (Nat.succ_pos _) Wn Qig (by first|omega|(simp only[ah,aH,ap,av,aC];omega)|(simp only[ah,aX,ap,av,aC];omega)) rfl (Fresh.of rfl) (nlr rfl)) ?_
 refine w2 ?_
 refine Qd ?_
 refine w4 ?_
 refine Qd<|QV ⟨k+1,(gs++([(YX c false n)])),by omega,rfl,(Qu0 d (by rw[← a];exact b) ‹_› (rfl)),rfl⟩ (by omega) ?_
 exact wp [(11,17)] ⟨rfl,rfl,rfl,rfl,rfl,(Xi (by first|rfl|simp)),trivial⟩
theorem Qc8 (g:ZM)(c:ZM)[∀c,Decidable (SgOk c)](a:g=c):FC Tryz.prog 48 [(true,[.dat Ql g.1,.dat Qb g.2.1,.dat QA g.2.2]),(false,[.clo 54 [0]])] [bx 0 28 [.dat Ql c.1,.dat Qb c.2.1,.dat QA c.2.2]] 1 (Is (PV.tup [(true,[.ref 1,.ref 2]),(false,[dB (decide (Q6 c true))])]) [bx 0 28 [.dat Ql c.1,.dat Qb c.2.1,.dat QA c.2.2],ar 1 103 QI ((QR c true).1),(2,some (.res (zrR 90 ZT ((QR c true).2))))]):=by
 refine Qj Tryz.func48 rfl rfl Tryz.ntmps48 fun L o K x M D C=> ?_
 refine w_ ?_
 refine xbx 1 ?_
 refine lc (xal 2 Vw Yd) ?_
 refine w5 ?_
 refine lc (dK (YN g) Qb5) ?_
 refine w10 ?_
 cases f:(decide (SgOk g))
 have h:=aa f
 refine w6 ?_
 refine lc (Qk YR rfl (au.1 rfl) rfl rfl) ?_
 refine w3 ?_
 refine AC.wk (Qr 3 (p:=2) (off:=0) 103 QI rfl rfl (Fresh.of rfl) (nlr rfl))<|AC.wk (Qr 4 (p:=2) (off:=1) 90 ZT rfl rfl (Fresh.of rfl) (nlr rfl))<|AC.wk (Yk (q:=4) rfl)<|Qe ?_
 have y:(false:Bool)=(decide (Q6 c true)):=by
  exact (Vp (by rw[← a];exact K7 ‹_›)).2.2
 exact fi_ [(1,3),(2,4)] o ⟨rfl,(Qm (by exact (Vp (by rw[← a];exact K7 ‹_›)).1)),(Xi (by exact (Vp (by rw[← a];exact K7 ‹_›)).2.1)),trivial⟩ (h0:=by first|(rw[← y]<;>rfl)|rw[y]|(rw[←y]<;>rfl))
 have h:=ab f
 refine w4 ?_
 cases i:(decide ((if SgOk g then YG g else ⟨#[]⟩)=YY))
 have j:=aa i
 refine w2 ?_
 refine lc (Qk YR rfl (au.1 rfl) rfl rfl) ?_
 refine w3 ?_
 refine AC.wk (Qr 5 (p:=2) (off:=0) 103 QI rfl rfl (Fresh.of rfl) (nlr rfl))<|AC.wk (Qr 6 (p:=2) (off:=1) 90 ZT rfl rfl (Fresh.of rfl) (nlr rfl))<|AC.wk (Yk (q:=6) rfl)<|Qe ?_
 have A:(false:Bool)=(decide (Q6 c true)):=by
  exact (Vp (by rw[← a];exact QgQ ‹_›)).2.2
 exact fi_ [(1,5),(2,6)] o ⟨rfl,(Qm (by exact (Vp (by rw[← a];exact QgQ ‹_›)).1)),(Xi (by exact (Vp (by rw[← a];exact QgQ ‹_›)).2.1)),trivial⟩ (h0:=by first|(rw[← A]<;>rfl)|rw[A]|(rw[←A]<;>rfl))
 have j:=ab i
 refine w5 ?_
 refine lc (dO 7 (Z2 g.1 (by have:=(by assumption:SgOk g).sigs.2.2;omega)) QeI) ?_
 refine lc (Qk YR ⟨_,_,rfl,(Qn rfl),rfl⟩ (au.1 rfl) rfl rfl)<|lc (xal 8 Vw Yd) ?_
 refine w5 ?_
 refine lc (dO 9 (XS g (by have:=(by assumption:SgOk g).sigs.2.2;omega)) Hr) ?_
 refine w4 ?_
 refine AC.wk (Qr 10 (p:=8) (off:=1) 90 ZT rfl rfl (Fresh.of rfl) (nlr rfl))<|AC.wk (Yk (q:=10) rfl) ?_
 refine Qu (fun u v=>∃(k:Nat) (gs:List (Int×Int×List ByteArray×List ByteArray)),k≤(QD g.1 g.1.length).length∧u=(QD g.1 g.1.length).length - k∧(GsI c true k gs)∧v=⟨[(1,lf (.clo 54 [0])),(4,lP 2 0),(8,lP 8 0),(30,lR 9),(31,lI ((QD g.1 g.1.length).length:Int)),(32,lI (k:Int))],[bx 0 28 [.dat Ql c.1,.dat Qb c.2.1,.dat QA c.2.2],bx 2 32 [.val (.slice none 0 0),.val (.slice none 0 0)],ar 7 103 QI g.1,bx 8 32 [.ref 7,.ref 11],ar 9 3 .int (QD g.1 g.1.length),(11,some (.res (zrR 90 ZT gs)))]⟩) ⟨0,([]:(YU:Ty).Den),aL _,rfl,Qxb,rfl⟩ ?_ ?_
 exact wp [(11,10)] ⟨rfl,rfl,rfl,rfl,rfl,(Xi (by first|rfl|simp)),trivial⟩
 rintro u v ⟨k,gs,H,I,d,rfl⟩
 have G:=Qmu d
 have J:=Y0 (ss:=c.1) (k:=c.1.length)
 have t:=Y0 (ss:=g.1) (k:=g.1.length)
 have E:=(by assumption:SgOk g).sigs.2.2
 have F:g.1.length=c.1.length:=by rw[a]
 refine w4 ?_
 cases l:(decide ((k:Int)<((QD g.1 g.1.length).length:Int)))
 have m:=aa l
 refine w9 ?_
 have B:(true:Bool)=(decide (Q6 c true)):=by
  exact (Qid (by rw[← a];exact QgS ‹_› ‹_›) d (by rw[← a];omega)).2.2
 exact fi_ [(1,7),(2,11)] o ⟨rfl,(Qm (by exact (congrArg (fun z=>z.1) a).trans (Qid (by rw[← a];exact QgS ‹_› ‹_›) d (by rw[← a];omega)).1)),(Xi (by exact (Qid (by rw[← a];exact QgS ‹_› ‹_›) d (by rw[← a];omega)).2.1)),trivial⟩ (h0:=by first|(rw[← B]<;>rfl)|rw[B]|(rw[←B]<;>rfl))
 have m:=ab l
 refine w6 ?_
 obtain ⟨n,b⟩:=gx (QD g.1 g.1.length) k
 refine w_ ?_
 refine alI 35 fun _=> ?_
 refine w5 ?_
 refine lc (Q3 (args0:=[(false,[dI n])]) (caps:=[0]) 12 [(0,0)] (WT n c) Qpf rfl (Qa rfl) rfl rfl ⟨_,_,rfl,(Qn rfl),rfl⟩ ⟨rfl,trivial⟩ rfl ⟨trivial,trivial⟩ (nlr rfl)) ?_
 refine w3 ?_
 refine lc (xal 13 ZT Xu) ?_
 refine w8 ?_
 cases s:(Zs c true n)
 refine w2 ?_
 refine lc (Qk YR rfl (au.1 rfl) rfl rfl) ?_
 refine w3 ?_
 refine AC.wk (Qr 14 (p:=2) (off:=0) 103 QI rfl rfl (Fresh.of rfl) (nlr rfl))<|AC.wk (Qr 15 (p:=2) (off:=1) 90 ZT rfl rfl (Fresh.of rfl) (nlr rfl))<|AC.wk (Yk (q:=15) rfl)<|Qe ?_
 have r:(false:Bool)=(decide (Q6 c true)):=by
  exact (Vq (by rw[← a];exact b) ‹_›).2.2
 exact fi_ [(1,14),(2,15)] o ⟨rfl,(Qm (by exact (Vq (by rw[← a];exact b) ‹_›).1)),(Xi (by exact (Vq (by rw[← a];exact b) ‹_›).2.1)),trivial⟩ (h0:=by first|(rw[← r]<;>rfl)|rw[r]|(rw[←r]<;>rfl))
 refine w6 ?_
 refine lc (Wb 16 (e:=ZT) [(gcV c n)] Wn Hb Xu rfl ⟨_,_,rfl,(Qn rfl),rfl⟩ rfl (by decide) rfl (Fresh.of rfl) (nlr rfl))<|lc (Vn 17 (Qa rfl) rfl (Qa rfl) rfl (Nat.succ_pos _) Wn Qig (by first|omega|(simp only[ah,aH,ap,av,aC];omega)|(simp only[ah,aX,ap,av,aC];omega)) rfl (Fresh.of rfl) (nlr rfl)) ?_
 refine w2 ?_
 refine Qd ?_
 refine w4 ?_
 refine Qd<|QV ⟨k+1,(gs++([(gcV c n)])),by omega,rfl,(Qu0 d (by rw[← a];exact b) ‹_› (Qy2 ‹_›)),rfl⟩ (by omega) ?_
 exact wp [(11,17)] ⟨rfl,rfl,rfl,rfl,rfl,(Xi (by first|rfl|simp)),trivial⟩
theorem VX (c:ZM)[∀c,Decidable (SgOk c)]:FC Tryz.prog 8 [(true,[.dat Ql c.1,.dat Qb c.2.1,.dat QA c.2.2])] [] 0 (Is (PV.tup [(true,[.ref 0,.ref 1]),(false,[dB (decide (Q6 c false))])]) [ar 0 103 QI ((QR c false).1),(1,some (.res (zrR 90 ZT ((QR c false).2))))]):=by
 refine Qj Tryz.func8 rfl rfl Tryz.ntmps8 fun g e f a h d b=> ?_
 refine w_ ?_
 refine xbx 0 ?_
 refine lc (xal 1 Vw Yd) ?_
 refine w4 ?_
 refine lc (Q1 ⟨_,_,rfl,(Qa rfl),rfl,rfl⟩ rfl) ?_
 refine lc (dP 2 [] (Qc7 c c rfl) QgZ) ?_
 refine w6 ?_
 exact fi_ [(0,3),(1,4)] e ⟨rfl,rfl,trivial⟩
theorem Vr (c:ZM)[∀c,Decidable (SgOk c)]:FC Tryz.prog 10 [(true,[.dat Ql c.1,.dat Qb c.2.1,.dat QA c.2.2])] [] 0 (Is (PV.tup [(true,[.ref 0,.ref 1]),(false,[dB (decide (Q6 c true))])]) [ar 0 103 QI ((QR c true).1),(1,some (.res (zrR 90 ZT ((QR c true).2))))]):=by
 refine Qj Tryz.func10 rfl rfl Tryz.ntmps10 fun g e f a h d b=> ?_
 refine w_ ?_
 refine xbx 0 ?_
 refine lc (xal 1 Vw Yd) ?_
 refine w4 ?_
 refine lc (Q1 ⟨_,_,rfl,(Qa rfl),rfl,rfl⟩ rfl) ?_
 refine lc (dP 2 [] (Qc8 c c rfl) QgZ) ?_
 refine w6 ?_
 exact fi_ [(0,3),(1,4)] e ⟨rfl,rfl,trivial⟩
theorem Jc (c:ZM)(kind:Int)(w:Bool)[∀c,Decidable (SgOk c)](h0:SgOk c∧YG c=YY)(d:kind=if w then 2 else 1):FC Tryz.prog 53 [(true,[.dat Ql c.1,.dat Qb c.2.1,.dat QA c.2.2]),(false,[dI kind])] [] 0 (Is (PV.tup [(true,[.ref 0,.ref 1]),(false,[dB (decide (Q6 c w))])]) [ar 0 103 QI ((QR c w).1),(1,some (.res (zrR 90 ZT ((QR c w).2))))]):=by
 have M:=h0.1.sigs.2.2
 refine Qj Tryz.func53 rfl rfl Tryz.ntmps53 fun S j R I T L K=> ?_
 refine acI 1 fun _=> ?_
 refine w_ ?_
 refine xbx 0 ?_
 refine lc (xal 1 Vw Yd) ?_
 refine w3 ?_
 refine lc (dBs 2 (e:=QI) WO) ?_
 refine w2 ?_
 refine lc (Zi 3 (Qa rfl) rfl (Evl.rep (Qa rfl)) rfl QcH Hp (by first|omega|(simp only[ah,aH,ap,av,aC];omega)|(simp only[ah,aX,ap,av,aC];omega)) rfl (Fresh.of rfl) (nlr rfl))<|lc (Qk YR ⟨_,_,rfl,(Qn rfl),rfl⟩ (au.1 rfl) rfl rfl)<|lc (xal 4 Vw Yd) ?_
 refine w5 ?_
 refine alL 25 fun _=> ?_
 refine w6 ?_
 refine lc (dK (Je c (by have:=h0.1.sigs.2.2;omega)).frozen QeK) ?_
 refine alL 28 fun _=> ?_
 refine w4 ?_
 refine AC.wk (Qr 5 (p:=4) (off:=1) 90 ZT rfl rfl (Fresh.of rfl) (nlr rfl))<|AC.wk (Yk (q:=5) rfl) ?_
 refine Qu (fun G H=>∃(k:Nat) (gs:List (Int×Int×List ByteArray×List ByteArray)),k≤(QD c.1 c.1.length).length∧G=(QD c.1 c.1.length).length - k∧(GsI c w k gs)∧H=⟨[(1,lI kind),(2,lP 0 0),(4,lP 1 0),(6,lP 4 0),(7,lI (c.1.length:Int)),(28,lf (.dat Qs (QD c.1 c.1.length))),(29,lI ((QD c.1 c.1.length).length:Int)),(30,lI (k:Int))],[bx 0 28 [.dat Ql c.1,.dat Qb c.2.1,.dat QA c.2.2],bx 1 32 [.val (.slice none 0 0),.val (.slice none 0 0)],ar 3 103 QI (([])++c.1),bx 4 32 [.ref 3,.ref 6],(6,some (.res (zrR 90 ZT gs)))]⟩) ⟨0,([]:(YU:Ty).Den),aL _,rfl,Qxb,rfl⟩ ?_ ?_
 exact wp [(6,5)] ⟨rfl,rfl,rfl,rfl,(Xi (by first|rfl|simp)),trivial⟩
 rintro G H ⟨k,gs,O,P,r,rfl⟩
 have N:=Qmu r
 have Q:=Y0 (ss:=c.1) (k:=c.1.length)
 refine w4 ?_
 cases u:(decide ((k:Int)<((QD c.1 c.1.length).length:Int)))
 have v:=aa u
 refine w9 ?_
 have J:(true:Bool)=(decide (Q6 c w)):=by
  exact (Qid h0 r (by omega)).2.2
 exact fi_ [(0,3),(1,6)] j ⟨(Qm (by exact (Qid h0 r (by omega)).1)),(Xi (by exact (Qid h0 r (by omega)).2.1)),trivial⟩ (h0:=by first|(rw[← J]<;>rfl)|rw[J]|(rw[←J]<;>rfl))
 have v:=ab u
 refine w5 ?_
 obtain ⟨b,a⟩:=gx (QD c.1 c.1.length) k
 refine w2 ?_
 refine alI 33 fun _=> ?_
 refine w5 ?_
 refine lc (Qk Qew ⟨_,_,rfl,(Qn rfl),⟨_,_,rfl,(Qn rfl),rfl⟩⟩ (au.1 rfl) rfl rfl)<|lc (xal 7 ZT Xu) ?_
 refine w5 ?_
 refine lc (dK (Jp c b) Qld) ?_
 refine w3 ?_
 refine lc (xal 8 X9 YE) ?_
 refine w8 ?_
 cases f:(decide (kind=2))
 have l:=aa f
 refine w8 ?_
 refine lc (dK (Xl (c.1.length:Int) ((Qp c b QL).1) ((Qp c b QL).2)) Qal) ?_
 refine w11 ?_
 cases g:(decide (Qv c b QL))
 have m:=aa g
 refine w6 ?_
 refine lc (Qk YR rfl (au.1 rfl) rfl rfl) ?_
 refine w3 ?_
 refine AC.wk (Qr 9 (p:=1) (off:=0) 103 QI rfl rfl (Fresh.of rfl) (nlr rfl))<|AC.wk (Qr 10 (p:=1) (off:=1) 90 ZT rfl rfl (Fresh.of rfl) (nlr rfl))<|AC.wk (Yk (q:=10) rfl)<|Qe ?_
 have x:(false:Bool)=(decide (Q6 c w)):=by
  exact (Vq a (Qsu d ‹_› ‹_›)).2.2
 exact fi_ [(0,9),(1,10)] j ⟨(Qm (by exact (Vq a (Qsu d ‹_› ‹_›)).1)),(Xi (by exact (Vq a (Qsu d ‹_› ‹_›)).2.1)),trivial⟩ (h0:=by first|(rw[← x]<;>rfl)|rw[x]|(rw[←x]<;>rfl))
 have m:=ab g
 refine w4 ?_
 cases D:(mcB (c.1.length:Int) ((Qp c b QL).1) ((Qp c b QL).2))
 refine w2 ?_
 refine lc (Qk YR rfl (au.1 rfl) rfl rfl) ?_
 refine w3 ?_
 refine AC.wk (Qr 11 (p:=1) (off:=0) 103 QI rfl rfl (Fresh.of rfl) (nlr rfl))<|AC.wk (Qr 12 (p:=1) (off:=1) 90 ZT rfl rfl (Fresh.of rfl) (nlr rfl))<|AC.wk (Yk (q:=12) rfl)<|Qe ?_
 have y:(false:Bool)=(decide (Q6 c w)):=by
  exact (Vq a (Qsv d ‹_› ‹_›)).2.2
 exact fi_ [(0,11),(1,12)] j ⟨(Qm (by exact (Vq a (Qsv d ‹_› ‹_›)).1)),(Xi (by exact (Vq a (Qsv d ‹_› ‹_›)).2.1)),trivial⟩ (h0:=by first|(rw[← y]<;>rfl)|rw[y]|(rw[←y]<;>rfl))
 refine w12 ?_
 have s:(decide (kind=2))=false:=f
 try rw[s]
 refine w2 ?_
 refine AC.wk (WH (p:=7) [dI b,dI kind,.dat Qb (mcV (c.1.length:Int) ((Qp c b QL).1) ((Qp c b QL).2)),.dat Qb ([])] rfl ⟨_,_,rfl,.inl rfl,⟨_,_,rfl,.inl rfl,⟨_,_,rfl,.inl rfl,⟨_,_,rfl,.inr ⟨_,_,rfl,rfl⟩,rfl⟩⟩⟩⟩) ?_
 refine w4 ?_
 refine lc (Wb 13 (e:=ZT) [(b,kind,mcV (c.1.length:Int) ((Qp c b QL).1) ((Qp c b QL).2),([]:(Qb:Ty).Den))] Wn Hb Xu rfl ⟨_,_,rfl,(Qn rfl),rfl⟩ rfl (by decide) rfl (Fresh.of rfl) (nlr rfl))<|lc (Vn 14 (Qa rfl) rfl (Qa rfl) rfl (Nat.succ_pos _) Wn Qig (by first|omega|(simp only[ah,aH,ap,av,aC];omega)|(simp only[ah,aX,ap,av,aC];omega)) rfl (Fresh.of rfl) (nlr rfl)) ?_
 refine w2 ?_
 refine Qd ?_
 refine w4 ?_
 refine Qd<|QV ⟨k+1,(gs++([(b,kind,mcV (c.1.length:Int) ((Qp c b QL).1) ((Qp c b QL).2),([]:(Qb:Ty).Den))])),by omega,rfl,(by exact Qu0 r a (Qzq d ‹_› ‹_› ‹_›).1 (Qzq d ‹_› ‹_› ‹_›).2),rfl⟩ (by omega) ?_
 exact wp [(6,14)] ⟨rfl,rfl,rfl,rfl,(Xi (by first|rfl|simp)),trivial⟩
 have l:=ab f
 refine w4 ?_
 refine lc (dK (Ke c b) Qle) ?_
 refine w12 ?_
 refine lc (dK (Xl (c.1.length:Int) ((Qp c b upT).1) ((Qp c b upT).2)) Qal) ?_
 refine w11 ?_
 cases h:(decide (Qv c b upT))
 have n:=aa h
 refine w6 ?_
 refine lc (Qk YR rfl (au.1 rfl) rfl rfl) ?_
 refine w3 ?_
 refine AC.wk (Qr 15 (p:=1) (off:=0) 103 QI rfl rfl (Fresh.of rfl) (nlr rfl))<|AC.wk (Qr 16 (p:=1) (off:=1) 90 ZT rfl rfl (Fresh.of rfl) (nlr rfl))<|AC.wk (Yk (q:=16) rfl)<|Qe ?_
 have z:(false:Bool)=(decide (Q6 c w)):=by
  exact (Vq a (Qsw d ‹_› ‹_›)).2.2
 exact fi_ [(0,15),(1,16)] j ⟨(Qm (by exact (Vq a (Qsw d ‹_› ‹_›)).1)),(Xi (by exact (Vq a (Qsw d ‹_› ‹_›)).2.1)),trivial⟩ (h0:=by first|(rw[← z]<;>rfl)|rw[z]|(rw[←z]<;>rfl))
 have n:=ab h
 refine w4 ?_
 cases E:(mcB (c.1.length:Int) ((Qp c b upT).1) ((Qp c b upT).2))
 refine w2 ?_
 refine lc (Qk YR rfl (au.1 rfl) rfl rfl) ?_
 refine w3 ?_
 refine AC.wk (Qr 17 (p:=1) (off:=0) 103 QI rfl rfl (Fresh.of rfl) (nlr rfl))<|AC.wk (Qr 18 (p:=1) (off:=1) 90 ZT rfl rfl (Fresh.of rfl) (nlr rfl))<|AC.wk (Yk (q:=18) rfl)<|Qe ?_
 have A:(false:Bool)=(decide (Q6 c w)):=by
  exact (Vq a (Qsx d ‹_› ‹_›)).2.2
 exact fi_ [(0,17),(1,18)] j ⟨(Qm (by exact (Vq a (Qsx d ‹_› ‹_›)).1)),(Xi (by exact (Vq a (Qsx d ‹_› ‹_›)).2.1)),trivial⟩ (h0:=by first|(rw[← A]<;>rfl)|rw[A]|(rw[←A]<;>rfl))
 refine w12 ?_
 have t:(decide (kind=2))=true:=f
 try rw[t]
 refine w4 ?_
 refine lc (dK (Uo c b) Qlf) ?_
 refine w3 ?_
 refine lc (xal 19 X9 YE) ?_
 refine w9 ?_
 refine lc (dK (Xl (c.1.length:Int) ((Qp c b QO).1) ((Qp c b QO).2)) Qal) ?_
 refine w11 ?_
 cases i:(decide (Qv c b QO))
 have o:=aa i
 refine w6 ?_
 refine lc (Qk YR rfl (au.1 rfl) rfl rfl) ?_
 refine w3 ?_
 refine AC.wk (Qr 20 (p:=1) (off:=0) 103 QI rfl rfl (Fresh.of rfl) (nlr rfl))<|AC.wk (Qr 21 (p:=1) (off:=1) 90 ZT rfl rfl (Fresh.of rfl) (nlr rfl))<|AC.wk (Yk (q:=21) rfl)<|Qe ?_
 have B:(false:Bool)=(decide (Q6 c w)):=by
  exact (Vq a (Qsy d ‹_› ‹_›)).2.2
 exact fi_ [(0,20),(1,21)] j ⟨(Qm (by exact (Vq a (Qsy d ‹_› ‹_›)).1)),(Xi (by exact (Vq a (Qsy d ‹_› ‹_›)).2.1)),trivial⟩ (h0:=by first|(rw[← B]<;>rfl)|rw[B]|(rw[←B]<;>rfl))
 have o:=ab i
 refine w4 ?_
 cases F:(mcB (c.1.length:Int) ((Qp c b QO).1) ((Qp c b QO).2))
 refine w2 ?_
 refine lc (Qk YR rfl (au.1 rfl) rfl rfl) ?_
 refine w3 ?_
 refine AC.wk (Qr 22 (p:=1) (off:=0) 103 QI rfl rfl (Fresh.of rfl) (nlr rfl))<|AC.wk (Qr 23 (p:=1) (off:=1) 90 ZT rfl rfl (Fresh.of rfl) (nlr rfl))<|AC.wk (Yk (q:=23) rfl)<|Qe ?_
 have C:(false:Bool)=(decide (Q6 c w)):=by
  exact (Vq a (Qsz d ‹_› ‹_›)).2.2
 exact fi_ [(0,22),(1,23)] j ⟨(Qm (by exact (Vq a (Qsz d ‹_› ‹_›)).1)),(Xi (by exact (Vq a (Qsz d ‹_› ‹_›)).2.1)),trivial⟩ (h0:=by first|(rw[← C]<;>rfl)|rw[C]|(rw[←C]<;>rfl))
 refine w11 ?_
 refine lc (Wb 24 (e:=ZT) [(b,kind,mcV (c.1.length:Int) ((Qp c b upT).1) ((Qp c b upT).2),mcV (c.1.length:Int) ((Qp c b QO).1) ((Qp c b QO).2))] Wn Hb Xu rfl ⟨_,_,rfl,(Qn rfl),rfl⟩ rfl (by decide) rfl (Fresh.of rfl) (nlr rfl))<|lc (Vn 25 (Qa rfl) rfl (Qa rfl) rfl (Nat.succ_pos _) Wn Qig (by first|omega|(simp only[ah,aH,ap,av,aC];omega)|(simp only[ah,aX,ap,av,aC];omega)) rfl (Fresh.of rfl) (nlr rfl)) ?_
 refine w2 ?_
 refine Qd ?_
 refine w4 ?_
 refine Qd<|QV ⟨k+1,(gs++([(b,kind,mcV (c.1.length:Int) ((Qp c b upT).1) ((Qp c b upT).2),mcV (c.1.length:Int) ((Qp c b QO).1) ((Qp c b QO).2))])),by omega,rfl,(by exact Qu0 r a (Qzr d ‹_› ‹_› ‹_› ‹_› ‹_›).1 (Qzr d ‹_› ‹_› ‹_› ‹_› ‹_›).2),rfl⟩ (by omega) ?_
 exact wp [(6,25)] ⟨rfl,rfl,rfl,rfl,(Xi (by first|rfl|simp)),trivial⟩
theorem ZO (c:ZM)[∀c,Decidable (SgOk c)]:FC Tryz.prog 9 [(true,[.dat Ql c.1,.dat Qb c.2.1,.dat QA c.2.2])] [] 0 (Is (PV.tup [(true,[.ref 0,.ref 1]),(false,[dB (decide (Q6 c false))])]) [ar 0 103 QI ((QR c false).1),(1,some (.res (zrR 90 ZT ((QR c false).2))))]):=by
 refine Qj Tryz.func9 rfl rfl Tryz.ntmps9 fun l d j e m i h=> ?_
 refine w_ ?_
 refine xbx 0 ?_
 refine lc (xal 1 Vw Yd) ?_
 refine w5 ?_
 refine lc (dK (Wg c) Hq) ?_
 refine w2 ?_
 cases a:(decide (SgOk c))
 have b:=aa a
 refine w7 ?_
 refine lc (Qk YR rfl (au.1 rfl) rfl rfl) ?_
 refine w3 ?_
 refine AC.wk (Qr 2 (p:=1) (off:=0) 103 QI rfl rfl (Fresh.of rfl) (nlr rfl))<|AC.wk (Qr 3 (p:=1) (off:=1) 90 ZT rfl rfl (Fresh.of rfl) (nlr rfl))<|AC.wk (Yk (q:=3) rfl)<|Qe ?_
 have f:(false:Bool)=(decide (Q6 c false)):=by
  exact (Vp (K7 ‹_›)).2.2
 exact fi_ [(0,2),(1,3)] d ⟨(Qm (by exact (Vp (K7 ‹_›)).1)),(Xi (by exact (Vp (K7 ‹_›)).2.1)),trivial⟩ (h0:=by first|(rw[← f]<;>rfl)|rw[f]|(rw[←f]<;>rfl))
 have b:=ab a
 refine w_ ?_
 refine lgy rfl rfl (dK (H5 c (by assumption:SgOk c).w) Qg0) ?_
 refine w3 ?_
 refine cn_ (fun _ _=> ?_) fun _ _=> ?_
 refine w3 ?_
 refine lc (dG 4 (Jc c 1 false ⟨by assumption,by assumption⟩ rfl) Qg1) ?_
 refine w6 ?_
 exact fi_ [(0,4),(1,5)] d ⟨rfl,rfl,trivial⟩
 refine w_ ?_
 refine lc (Qk YR rfl (au.1 rfl) rfl rfl) ?_
 refine w3 ?_
 refine AC.wk (Qr 6 (p:=1) (off:=0) 103 QI rfl rfl (Fresh.of rfl) (nlr rfl))<|AC.wk (Qr 7 (p:=1) (off:=1) 90 ZT rfl rfl (Fresh.of rfl) (nlr rfl))<|AC.wk (Yk (q:=7) rfl)<|Qe ?_
 have g:(false:Bool)=(decide (Q6 c false)):=by
  exact (Vp (QgR ‹_›)).2.2
 exact fi_ [(0,6),(1,7)] d ⟨(Qm (by exact (Vp (QgR ‹_›)).1)),(Xi (by exact (Vp (QgR ‹_›)).2.1)),trivial⟩ (h0:=by first|(rw[← g]<;>rfl)|rw[g]|(rw[←g]<;>rfl))
theorem Yl (c:ZM)[∀c,Decidable (SgOk c)]:FC Tryz.prog 11 [(true,[.dat Ql c.1,.dat Qb c.2.1,.dat QA c.2.2])] [] 0 (Is (PV.tup [(true,[.ref 0,.ref 1]),(false,[dB (decide (Q6 c true))])]) [ar 0 103 QI ((QR c true).1),(1,some (.res (zrR 90 ZT ((QR c true).2))))]):=by
 refine Qj Tryz.func11 rfl rfl Tryz.ntmps11 fun l d j e m i h=> ?_
 refine w_ ?_
 refine xbx 0 ?_
 refine lc (xal 1 Vw Yd) ?_
 refine w5 ?_
 refine lc (dK (Wg c) Hq) ?_
 refine w2 ?_
 cases a:(decide (SgOk c))
 have b:=aa a
 refine w7 ?_
 refine lc (Qk YR rfl (au.1 rfl) rfl rfl) ?_
 refine w3 ?_
 refine AC.wk (Qr 2 (p:=1) (off:=0) 103 QI rfl rfl (Fresh.of rfl) (nlr rfl))<|AC.wk (Qr 3 (p:=1) (off:=1) 90 ZT rfl rfl (Fresh.of rfl) (nlr rfl))<|AC.wk (Yk (q:=3) rfl)<|Qe ?_
 have f:(false:Bool)=(decide (Q6 c true)):=by
  exact (Vp (K7 ‹_›)).2.2
 exact fi_ [(0,2),(1,3)] d ⟨(Qm (by exact (Vp (K7 ‹_›)).1)),(Xi (by exact (Vp (K7 ‹_›)).2.1)),trivial⟩ (h0:=by first|(rw[← f]<;>rfl)|rw[f]|(rw[←f]<;>rfl))
 have b:=ab a
 refine w_ ?_
 refine lgy rfl rfl (dK (H5 c (by assumption:SgOk c).w) Qg0) ?_
 refine w3 ?_
 refine cn_ (fun _ _=> ?_) fun _ _=> ?_
 refine w3 ?_
 refine lc (dG 4 (Jc c 2 true ⟨by assumption,by assumption⟩ rfl) Qg1) ?_
 refine w6 ?_
 exact fi_ [(0,4),(1,5)] d ⟨rfl,rfl,trivial⟩
 refine w_ ?_
 refine lc (Qk YR rfl (au.1 rfl) rfl rfl) ?_
 refine w3 ?_
 refine AC.wk (Qr 6 (p:=1) (off:=0) 103 QI rfl rfl (Fresh.of rfl) (nlr rfl))<|AC.wk (Qr 7 (p:=1) (off:=1) 90 ZT rfl rfl (Fresh.of rfl) (nlr rfl))<|AC.wk (Yk (q:=7) rfl)<|Qe ?_
 have g:(false:Bool)=(decide (Q6 c true)):=by
  exact (Vp (QgR ‹_›)).2.2
 exact fi_ [(0,6),(1,7)] d ⟨(Qm (by exact (Vp (QgR ‹_›)).1)),(Xi (by exact (Vp (QgR ‹_›)).2.1)),trivial⟩ (h0:=by first|(rw[← g]<;>rfl)|rw[g]|(rw[←g]<;>rfl))
theorem Wr (code:List UInt8)(at_:Int)(sd:Int)[∀s,Decidable (StgOk s)][∀s,Decidable (Y8 s)][∀c,Decidable (SgOk c)](ha:0≤at_∧at_≤600000000):FC Tryz.prog 73 [(false,[.ptr 0 0])] [bx 0 86 [.dat QS code,dI at_,.val (.int .u64 sd)]] 1 (Ex (fun x:(DSg×DCk)×Int×Int=>x.1.2.2.length≤8∧(at_≤x.2.1∧x.2.1≤at_+1000)) (fun x:(DSg×DCk)×Int×Int=>PV.tup [(true,[.dat Ql x.1.1.1,.dat Qb x.1.1.2.1,.dat QA x.1.1.2.2]),(true,[.dat Ql x.1.2.1,.dat YU x.1.2.2])]) (fun x:(DSg×DCk)×Int×Int=>[bx 0 86 [.dat QS code,dI x.2.1,.val (.int .u64 x.2.2)]])):=by
 refine Qj Tryz.func73 rfl rfl Tryz.ntmps73 fun O_ V a0 R X_ T S=> ?_
 refine w_ ?_
 refine lc (xal 1 Hd Y3)<|lc (xal 2 Vw Yd) ?_
 refine w3 ?_
 refine Ys 3 [(0,0)] (Vl code at_ sd (by omega)) Qg8 e1_ ⟨rfl,trivial⟩ rfl (fun _=>rfl) (fun _=>⟨trivial,(Fresh.of rfl),(Fresh.of rfl),(Fresh.of rfl),trivial⟩) (nlr rfl) fun h Z=>lc (xal 7 Hd Y3) ?_
 refine w2 ?_
 refine YC<|AC.wk (QT (p:=7) (off:=0) (q:=4) rfl rfl rfl)<|AC.wk (QT (p:=7) (off:=1) (q:=5) rfl rfl rfl)<|AC.wk (QT (p:=7) (off:=2) (q:=6) rfl rfl rfl) ?_
 refine w2 ?_
 refine lc (dG 8 (ZO h.1) Qbi) ?_
 refine w3 ?_
 refine lc (xal 10 Vw Yd) ?_
 refine w3 ?_
 refine Qi3 (fun M=>∃(o:(List (ByteArray×Int))×List ByteArray×(List (Int×Int×Bool×Int))) (g:List (ByteArray×Int)) (a:List (Int×Int×List ByteArray×List ByteArray)) (b:Int) (d:Int),(g.length≤8∧a.length≤8)∧(at_≤b∧b≤at_+90)∧M=⟨[(0,lP 0 0),(2,lP 1 0),(3,lP 2 0),(4,lP 7 0),(5,lP 10 0)],[bx 0 86 [.dat QS code,dI b,.val (.int .u64 d)],bx 1 28 [.val (.slice none 0 0),.val (.slice none 0 0),.val (.slice none 0 0)],bx 2 32 [.val (.slice none 0 0),.val (.slice none 0 0)],bx 7 28 [.dat Ql o.1,.dat Qb o.2.1,.dat QA o.2.2],bx 10 32 [.ref 11,.ref 12],ar 11 103 QI g,(12,some (.res (zrR 90 ZT a)))]⟩) ?_ fun E=> ?_
 rintro M ⟨o,g,a,b,d,t,hb,rfl⟩
 refine QaW (fun M=>∃(r:List (Int×Int×List ByteArray×List ByteArray)) (F:Int) (N:Int),(r.length≤8)∧(at_≤F∧F≤at_+1000)∧M=⟨[(2,lP 1 0),(3,lP 2 0),(4,lP 7 0),(5,lP 10 0)],[bx 0 86 [.dat QS code,dI F,.val (.int .u64 N)],bx 1 28 [.val (.slice none 0 0),.val (.slice none 0 0),.val (.slice none 0 0)],bx 2 32 [.val (.slice none 0 0),.val (.slice none 0 0)],bx 7 28 [.dat Ql o.1,.dat Qb o.2.1,.dat QA o.2.2],bx 10 32 [.ref 11,.ref 13],ar 11 103 QI g,(13,some (.res (zrR 90 ZT r)))]⟩) ?_ fun A=> ?_
 rintro M ⟨r,F,N,U,hc,rfl⟩
 refine AC.wk (QT (p:=10) (off:=0) (q:=11) rfl rfl rfl)<|AC.wk (Qjs (p:=10) (off:=1) (q:=13) rfl rfl rfl) ?_
 apply dW (i2 97 _ _ [⟨none,lf (.val undef),[bx 1 28 [.dat Ql o.1,.dat Qb o.2.1,.dat QA o.2.2]]⟩,⟨none,lf (.val undef),[bx 2 32 [.dat Ql g,.dat YU r]]⟩]) [0,1,2,0]
 exact y4
 refine w_ ?_
 subst V
 refine Zh (x:=(((o.1,(o.2.1,o.2.2)),(g,r)),(F,N))) [(0,0)] ?_ (XR rfl (Rs.cell rfl rfl XJ rfl) (Rs.cell rfl rfl Qgf rfl)) rfl ⟨rfl,trivial⟩ rfl rfl
 (dsimp only;exact ⟨U,by omega⟩)
 refine w3 ?_
 have W:=ZP code b d 4
 refine lc (dP 14 [] (We code b d 4 (by omega)) Qb9) ?_
 refine w_ ?_
 cases G:(decide (pkV code b d 4=0))
 have H:=aa G
 refine w8 ?_
 refine XH (A _ ⟨a,(pkA 4 b),(pkS code b d 4),(by exact t.2),(by omega),rfl⟩) ?_
 exact wo [(13,12)]
 have H:=ab G
 refine w2 ?_
 refine lgy rfl rfl (QbT (Qa rfl) rfl rfl Wn) ?_
 refine w3 ?_
 refine cd_ (fun _ _=> ?_) fun _ _=> ?_
 refine w_ ?_
 refine XH (A _ ⟨a,(pkA 4 b),(pkS code b d 4),(by exact t.2),(by omega),rfl⟩) ?_
 exact wo [(13,12)]
 refine w4 ?_
 refine lc (QbT (Qa rfl) rfl rfl Wn) ?_
 have X:=ZP code (pkA 4 b) (pkS code b d 4) (a.length:Int)
 refine lc (dP 15 [] (QF code (pkA 4 b) (pkS code b d 4) (a.length:Int) (by omega)) Zy) ?_
 refine w4 ?_
 have Y:=ZP code (pkA (a.length:Int) (pkA 4 b)) (pkS code (pkA 4 b) (pkS code b d 4) (a.length:Int)) 4
 refine lc (dP 16 [] (QF code (pkA (a.length:Int) (pkA 4 b)) (pkS code (pkA 4 b) (pkS code b d 4) (a.length:Int)) 4 (by omega)) Zy) ?_
 refine w6 ?_
 refine cd_ (fun _ _=> ?_) fun _ _=> ?_
 refine w4 ?_
 refine cd_ (fun _ _=> ?_) fun _ _=> ?_
 refine w4 ?_
 refine cd_ (fun _ _=> ?_) fun _ _=> ?_
 refine w4 ?_
 refine cd_ (fun _ _=> ?_) fun _ _=> ?_
 refine w2 ?_
 refine XH (A _ ⟨a,(pkA 4 (pkA (a.length:Int) (pkA 4 b))),(pkS code (pkA (a.length:Int) (pkA 4 b)) (pkS code (pkA 4 b) (pkS code b d 4) (a.length:Int)) 4),(by exact t.2),(by omega),rfl⟩) ?_
 exact wo [(13,12)]
 obtain ⟨i,I⟩:=gx a ((pkV code (pkA 4 b) (pkS code b d 4) (a.length:Int)).toNat)
 apply dV (i7 87 _ _ _ _ _ _ _ [⟨some 94,lR 18,[bx 0 86 [.dat QS code,dI ((cvC code (g.length:Int) (pkA 4 (pkA (a.length:Int) (pkA 4 b))) (pkS code (pkA (a.length:Int) (pkA 4 b)) (pkS code (pkA 4 b) (pkS code b d 4) (a.length:Int)) 4)).2.1),.val (.int .u64 ((cvC code (g.length:Int) (pkA 4 (pkA (a.length:Int) (pkA 4 b))) (pkS code (pkA (a.length:Int) (pkA 4 b)) (pkS code (pkA 4 b) (pkS code b d 4) (a.length:Int)) 4)).2.2))],ar 18 9 .str ((cvC code (g.length:Int) (pkA 4 (pkA (a.length:Int) (pkA 4 b))) (pkS code (pkA (a.length:Int) (pkA 4 b)) (pkS code (pkA 4 b) (pkS code b d 4) (a.length:Int)) 4)).1),(0,none)]⟩,io 95 (lf (.ept 12 4 ((pkV code (pkA 4 b) (pkS code b d 4) (a.length:Int)).toNat) 0)),io 96 (lf (.ept 12 4 ((pkV code (pkA 4 b) (pkS code b d 4) (a.length:Int)).toNat) 3)),⟨none,lf (.val undef),[(12,some (.res (zrR 90 ZT (a.set ((pkV code (pkA 4 b) (pkS code b d 4) (a.length:Int)).toNat) (i.1,i.2.1,i.2.2.1,(cvC code (g.length:Int) (pkA 4 (pkA (a.length:Int) (pkA 4 b))) (pkS code (pkA (a.length:Int) (pkA 4 b)) (pkS code (pkA 4 b) (pkS code b d 4) (a.length:Int)) 4)).1))))),(18,none)]⟩]) [0,0,3,7,15,15,15,7,0,0,0]
 refine z7 ?_
 refine zz (fun _ f=>ac (dP 17 [] (Qfn code (pkA 4 (pkA (a.length:Int) (pkA 4 b))) (pkS code (pkA (a.length:Int) (pkA 4 b)) (pkS code (pkA 4 b) (pkS code b d 4) (a.length:Int)) 4) (g.length:Int) (by omega) (by omega)) QeP) rfl) ?_
 refine zz (fun _ f=>ac (Ut (e:=ZT) (f.v rfl) (f.en 12 rfl) (f.v rfl) Wn Hb rfl (by omega) (by omega)) rfl)<|zz (fun _ f=>ac (ZV (f.v rfl) QrV (by rw[(f.en 12 rfl)];rfl) rfl) rfl)<|zz (fun _ f=>ac (Qa2 (e:=ZT) (z':=(i.1,i.2.1,i.2.2.1,(cvC code (g.length:Int) (pkA 4 (pkA (a.length:Int) (pkA 4 b))) (pkS code (pkA (a.length:Int) (pkA 4 b)) (pkS code (pkA 4 b) (pkS code b d 4) (a.length:Int)) 4)).1)) (f.v rfl) (f.n 12 rfl) I (f.v rfl) (f.n 18 rfl) rfl QaS rfl rfl) rfl) ?_
 exact zN
 refine w_ ?_
 refine XH (A _ ⟨(a.set ((pkV code (pkA 4 b) (pkS code b d 4) (a.length:Int)).toNat) (i.1,i.2.1,i.2.2.1,(cvC code (g.length:Int) (pkA 4 (pkA (a.length:Int) (pkA 4 b))) (pkS code (pkA (a.length:Int) (pkA 4 b)) (pkS code (pkA 4 b) (pkS code b d 4) (a.length:Int)) 4)).1)),((cvC code (g.length:Int) (pkA 4 (pkA (a.length:Int) (pkA 4 b))) (pkS code (pkA (a.length:Int) (pkA 4 b)) (pkS code (pkA 4 b) (pkS code b d 4) (a.length:Int)) 4)).2.1),((cvC code (g.length:Int) (pkA 4 (pkA (a.length:Int) (pkA 4 b))) (pkS code (pkA (a.length:Int) (pkA 4 b)) (pkS code (pkA 4 b) (pkS code b d 4) (a.length:Int)) 4)).2.2),(by (rw[aD];exact t.2)),(by exact QyL ⟨bV _,Int.ofNat_le.2 t.1⟩ (by omega)),rfl⟩) ?_
 exact wp [(13,12)] ⟨rfl,rfl,rfl,rfl,rfl,rfl,(Xi (by first|rfl|simp)),trivial⟩
 have O:=ZP code (pkA 4 (pkA (a.length:Int) (pkA 4 b))) (pkS code (pkA (a.length:Int) (pkA 4 b)) (pkS code (pkA 4 b) (pkS code b d 4) (a.length:Int)) 4) 4
 obtain ⟨j,J⟩:=gx a ((pkV code (pkA 4 b) (pkS code b d 4) (a.length:Int)).toNat)
 apply dV (i4 78 _ _ _ _ [⟨some 82,lI (pkV code (pkA 4 (pkA (a.length:Int) (pkA 4 b))) (pkS code (pkA (a.length:Int) (pkA 4 b)) (pkS code (pkA 4 b) (pkS code b d 4) (a.length:Int)) 4) 4),[bx 0 86 [.dat QS code,dI (pkA 4 (pkA 4 (pkA (a.length:Int) (pkA 4 b)))),.val (.int .u64 (pkS code (pkA 4 (pkA (a.length:Int) (pkA 4 b))) (pkS code (pkA (a.length:Int) (pkA 4 b)) (pkS code (pkA 4 b) (pkS code b d 4) (a.length:Int)) 4) 4))],(0,none)]⟩,io 83 (lf (.ept 12 4 ((pkV code (pkA 4 b) (pkS code b d 4) (a.length:Int)).toNat) 0)),io 84 (lf (.ept 12 4 ((pkV code (pkA 4 b) (pkS code b d 4) (a.length:Int)).toNat) 0)),⟨none,lf (.val undef),[(12,some (.res (zrR 90 ZT (a.set ((pkV code (pkA 4 b) (pkS code b d 4) (a.length:Int)).toNat) (pkV code (pkA 4 (pkA (a.length:Int) (pkA 4 b))) (pkS code (pkA (a.length:Int) (pkA 4 b)) (pkS code (pkA 4 b) (pkS code b d 4) (a.length:Int)) 4) 4,j.2.1,j.2.2.1,j.2.2.2)))))]⟩]) [0,0,3,7,7,0,0,0]
 refine z4 ?_
 refine zz (fun _ f=>ac (dP 19 [] (QF code (pkA 4 (pkA (a.length:Int) (pkA 4 b))) (pkS code (pkA (a.length:Int) (pkA 4 b)) (pkS code (pkA 4 b) (pkS code b d 4) (a.length:Int)) 4) 4 (by omega)) Zy) rfl) ?_
 refine zz (fun _ f=>ac (Ut (e:=ZT) (f.v rfl) (f.en 12 rfl) (f.v rfl) Wn Hb rfl (by omega) (by omega)) rfl)<|zz (fun _ f=>ac (ZV (f.v rfl) QrS (by rw[(f.en 12 rfl)];rfl) rfl) rfl)<|zz (fun _ f=>ac (QcP (e:=ZT) (z':=(pkV code (pkA 4 (pkA (a.length:Int) (pkA 4 b))) (pkS code (pkA (a.length:Int) (pkA 4 b)) (pkS code (pkA 4 b) (pkS code b d 4) (a.length:Int)) 4) 4,j.2.1,j.2.2.1,j.2.2.2)) (f.v rfl) (f.n 12 rfl) J (f.w rfl) rfl Wl rfl rfl) rfl) ?_
 exact zN
 refine w_ ?_
 refine XH (A _ ⟨(a.set ((pkV code (pkA 4 b) (pkS code b d 4) (a.length:Int)).toNat) (pkV code (pkA 4 (pkA (a.length:Int) (pkA 4 b))) (pkS code (pkA (a.length:Int) (pkA 4 b)) (pkS code (pkA 4 b) (pkS code b d 4) (a.length:Int)) 4) 4,j.2.1,j.2.2.1,j.2.2.2)),(pkA 4 (pkA 4 (pkA (a.length:Int) (pkA 4 b)))),(pkS code (pkA 4 (pkA (a.length:Int) (pkA 4 b))) (pkS code (pkA (a.length:Int) (pkA 4 b)) (pkS code (pkA 4 b) (pkS code b d 4) (a.length:Int)) 4) 4),(by (rw[aD];exact t.2)),(by omega),rfl⟩) ?_
 exact wp [(13,12)] ⟨rfl,rfl,rfl,rfl,rfl,rfl,(Xi (by first|rfl|simp)),trivial⟩
 have P:=ZP code (pkA 4 (pkA (a.length:Int) (pkA 4 b))) (pkS code (pkA (a.length:Int) (pkA 4 b)) (pkS code (pkA 4 b) (pkS code b d 4) (a.length:Int)) 4) 4
 obtain ⟨l,K⟩:=gx a ((pkV code (pkA 4 b) (pkS code b d 4) (a.length:Int)).toNat)
 apply dV (i4 69 _ _ _ _ [⟨some 73,lI (pkV code (pkA 4 (pkA (a.length:Int) (pkA 4 b))) (pkS code (pkA (a.length:Int) (pkA 4 b)) (pkS code (pkA 4 b) (pkS code b d 4) (a.length:Int)) 4) 4),[bx 0 86 [.dat QS code,dI (pkA 4 (pkA 4 (pkA (a.length:Int) (pkA 4 b)))),.val (.int .u64 (pkS code (pkA 4 (pkA (a.length:Int) (pkA 4 b))) (pkS code (pkA (a.length:Int) (pkA 4 b)) (pkS code (pkA 4 b) (pkS code b d 4) (a.length:Int)) 4) 4))],(0,none)]⟩,io 74 (lf (.ept 12 4 ((pkV code (pkA 4 b) (pkS code b d 4) (a.length:Int)).toNat) 0)),io 75 (lf (.ept 12 4 ((pkV code (pkA 4 b) (pkS code b d 4) (a.length:Int)).toNat) 1)),⟨none,lf (.val undef),[(12,some (.res (zrR 90 ZT (a.set ((pkV code (pkA 4 b) (pkS code b d 4) (a.length:Int)).toNat) (l.1,pkV code (pkA 4 (pkA (a.length:Int) (pkA 4 b))) (pkS code (pkA (a.length:Int) (pkA 4 b)) (pkS code (pkA 4 b) (pkS code b d 4) (a.length:Int)) 4) 4,l.2.2.1,l.2.2.2)))))]⟩]) [0,0,3,7,7,0,0,0]
 refine z4 ?_
 refine zz (fun _ f=>ac (dP 20 [] (QF code (pkA 4 (pkA (a.length:Int) (pkA 4 b))) (pkS code (pkA (a.length:Int) (pkA 4 b)) (pkS code (pkA 4 b) (pkS code b d 4) (a.length:Int)) 4) 4 (by omega)) Zy) rfl) ?_
 refine zz (fun _ f=>ac (Ut (e:=ZT) (f.v rfl) (f.en 12 rfl) (f.v rfl) Wn Hb rfl (by omega) (by omega)) rfl)<|zz (fun _ f=>ac (ZV (f.v rfl) QrT (by rw[(f.en 12 rfl)];rfl) rfl) rfl)<|zz (fun _ f=>ac (QcP (e:=ZT) (z':=(l.1,pkV code (pkA 4 (pkA (a.length:Int) (pkA 4 b))) (pkS code (pkA (a.length:Int) (pkA 4 b)) (pkS code (pkA 4 b) (pkS code b d 4) (a.length:Int)) 4) 4,l.2.2.1,l.2.2.2)) (f.v rfl) (f.n 12 rfl) K (f.w rfl) rfl Wl rfl rfl) rfl) ?_
 exact zN
 refine w_ ?_
 refine XH (A _ ⟨(a.set ((pkV code (pkA 4 b) (pkS code b d 4) (a.length:Int)).toNat) (l.1,pkV code (pkA 4 (pkA (a.length:Int) (pkA 4 b))) (pkS code (pkA (a.length:Int) (pkA 4 b)) (pkS code (pkA 4 b) (pkS code b d 4) (a.length:Int)) 4) 4,l.2.2.1,l.2.2.2)),(pkA 4 (pkA 4 (pkA (a.length:Int) (pkA 4 b)))),(pkS code (pkA 4 (pkA (a.length:Int) (pkA 4 b))) (pkS code (pkA (a.length:Int) (pkA 4 b)) (pkS code (pkA 4 b) (pkS code b d 4) (a.length:Int)) 4) 4),(by (rw[aD];exact t.2)),(by omega),rfl⟩) ?_
 exact wp [(13,12)] ⟨rfl,rfl,rfl,rfl,rfl,rfl,(Xi (by first|rfl|simp)),trivial⟩
 obtain ⟨m,L⟩:=gx a ((pkV code (pkA 4 b) (pkS code b d 4) (a.length:Int)).toNat)
 apply dV (i7 57 _ _ _ _ _ _ _ [⟨some 64,lR 22,[bx 0 86 [.dat QS code,dI ((cvC code (g.length:Int) (pkA 4 (pkA (a.length:Int) (pkA 4 b))) (pkS code (pkA (a.length:Int) (pkA 4 b)) (pkS code (pkA 4 b) (pkS code b d 4) (a.length:Int)) 4)).2.1),.val (.int .u64 ((cvC code (g.length:Int) (pkA 4 (pkA (a.length:Int) (pkA 4 b))) (pkS code (pkA (a.length:Int) (pkA 4 b)) (pkS code (pkA 4 b) (pkS code b d 4) (a.length:Int)) 4)).2.2))],ar 22 9 .str ((cvC code (g.length:Int) (pkA 4 (pkA (a.length:Int) (pkA 4 b))) (pkS code (pkA (a.length:Int) (pkA 4 b)) (pkS code (pkA 4 b) (pkS code b d 4) (a.length:Int)) 4)).1),(0,none)]⟩,io 65 (lf (.ept 12 4 ((pkV code (pkA 4 b) (pkS code b d 4) (a.length:Int)).toNat) 0)),io 66 (lf (.ept 12 4 ((pkV code (pkA 4 b) (pkS code b d 4) (a.length:Int)).toNat) 2)),⟨none,lf (.val undef),[(12,some (.res (zrR 90 ZT (a.set ((pkV code (pkA 4 b) (pkS code b d 4) (a.length:Int)).toNat) (m.1,m.2.1,(cvC code (g.length:Int) (pkA 4 (pkA (a.length:Int) (pkA 4 b))) (pkS code (pkA (a.length:Int) (pkA 4 b)) (pkS code (pkA 4 b) (pkS code b d 4) (a.length:Int)) 4)).1,m.2.2.2))))),(22,none)]⟩]) [0,0,3,7,15,15,15,7,0,0,0]
 refine z7 ?_
 refine zz (fun _ f=>ac (dP 21 [] (Qfn code (pkA 4 (pkA (a.length:Int) (pkA 4 b))) (pkS code (pkA (a.length:Int) (pkA 4 b)) (pkS code (pkA 4 b) (pkS code b d 4) (a.length:Int)) 4) (g.length:Int) (by omega) (by omega)) QeP) rfl) ?_
 refine zz (fun _ f=>ac (Ut (e:=ZT) (f.v rfl) (f.en 12 rfl) (f.v rfl) Wn Hb rfl (by omega) (by omega)) rfl)<|zz (fun _ f=>ac (ZV (f.v rfl) QrU (by rw[(f.en 12 rfl)];rfl) rfl) rfl)<|zz (fun _ f=>ac (Qa2 (e:=ZT) (z':=(m.1,m.2.1,(cvC code (g.length:Int) (pkA 4 (pkA (a.length:Int) (pkA 4 b))) (pkS code (pkA (a.length:Int) (pkA 4 b)) (pkS code (pkA 4 b) (pkS code b d 4) (a.length:Int)) 4)).1,m.2.2.2)) (f.v rfl) (f.n 12 rfl) L (f.v rfl) (f.n 22 rfl) rfl QaS rfl rfl) rfl) ?_
 exact zN
 refine w_ ?_
 refine XH (A _ ⟨(a.set ((pkV code (pkA 4 b) (pkS code b d 4) (a.length:Int)).toNat) (m.1,m.2.1,(cvC code (g.length:Int) (pkA 4 (pkA (a.length:Int) (pkA 4 b))) (pkS code (pkA (a.length:Int) (pkA 4 b)) (pkS code (pkA 4 b) (pkS code b d 4) (a.length:Int)) 4)).1,m.2.2.2)),((cvC code (g.length:Int) (pkA 4 (pkA (a.length:Int) (pkA 4 b))) (pkS code (pkA (a.length:Int) (pkA 4 b)) (pkS code (pkA 4 b) (pkS code b d 4) (a.length:Int)) 4)).2.1),((cvC code (g.length:Int) (pkA 4 (pkA (a.length:Int) (pkA 4 b))) (pkS code (pkA (a.length:Int) (pkA 4 b)) (pkS code (pkA 4 b) (pkS code b d 4) (a.length:Int)) 4)).2.2),(by (rw[aD];exact t.2)),(by exact QyL ⟨bV _,Int.ofNat_le.2 t.1⟩ (by omega)),rfl⟩) ?_
 exact wp [(13,12)] ⟨rfl,rfl,rfl,rfl,rfl,rfl,(Xi (by first|rfl|simp)),trivial⟩
 refine w5 ?_
 cases u:(decide (Q6 h.1 false))
 have B:=aa u
 refine w7 ?_
 refine lc (dG 23 (Yl h.1) Qb4) ?_
 refine w11 ?_
 cases y:(decide (Q6 h.1 true))
 have C:=aa y
 refine w2 ?_
 refine lc (dK (QM tx4 tx5 tx2 tx6 (by decide+kernel) (by decide+kernel)).frozenG Zk) ?_
 refine lc (xal 25 Qkz Vx) ?_
 refine w4 ?_
 refine lc (dK (Zm (Qt tx4 tx5 tx2 tx6)).frozenG WA) ?_
 refine w7 ?_
 refine lc (dG 26 (ZO ((sgV (Qt tx4 tx5 tx2 tx6)).1)) Qbi) ?_
 refine w5 ?_
 refine XH (E _ ⟨((sgV (Qt tx4 tx5 tx2 tx6)).1),((QR ((sgV (Qt tx4 tx5 tx2 tx6)).1) false).1),((QR ((sgV (Qt tx4 tx5 tx2 tx6)).1) false).2),h.2.1,h.2.2,Yz,(by omega),rfl⟩) ?_
 exact wp [(11,26),(12,27)] ⟨rfl,rfl,rfl,rfl,rfl,(Qm (by first|rfl|simp)),(Xi (by first|rfl|simp)),trivial⟩
 have C:=ab y
 refine w2 ?_
 refine XH (E _ ⟨h.1,((QR h.1 true).1),((QR h.1 true).2),h.2.1,h.2.2,Yz,(by omega),rfl⟩) ?_
 exact wp [(11,23),(12,24)] ⟨rfl,rfl,rfl,rfl,rfl,(Qm (by first|rfl|simp)),(Xi (by first|rfl|simp)),trivial⟩
 have B:=ab u
 refine w_ ?_
 have Q:=ZP code h.2.1 h.2.2 2
 refine lgy rfl rfl (dP 28 [] (We code h.2.1 h.2.2 2 (by omega)) Qb9) ?_
 refine w2 ?_
 refine cd_ (fun _ _=> ?_) fun _ _=> ?_
 refine w8 ?_
 refine XH (E _ ⟨h.1,((QR h.1 false).1),((QR h.1 false).2),(pkA 2 h.2.1),(pkS code h.2.1 h.2.2 2),Yz,(by omega),rfl⟩) ?_
 exact wp [(11,8),(12,9)] ⟨rfl,rfl,rfl,rfl,rfl,(Qm (by first|rfl|simp)),(Xi (by first|rfl|simp)),trivial⟩
 refine w2 ?_
 refine lc (dG 29 (Yl h.1) Qb4) ?_
 refine w11 ?_
 cases z:(decide (Q6 h.1 true))
 have D:=aa z
 refine w2 ?_
 refine lc (dK (QM tx4 tx5 tx2 tx6 (by decide+kernel) (by decide+kernel)).frozenG Zk) ?_
 refine lc (xal 31 Qkz Vx) ?_
 refine w4 ?_
 refine lc (dK (Zm (Qt tx4 tx5 tx2 tx6)).frozenG WA) ?_
 refine w7 ?_
 refine lc (dG 32 (ZO ((sgV (Qt tx4 tx5 tx2 tx6)).1)) Qbi) ?_
 refine w5 ?_
 refine XH (E _ ⟨((sgV (Qt tx4 tx5 tx2 tx6)).1),((QR ((sgV (Qt tx4 tx5 tx2 tx6)).1) false).1),((QR ((sgV (Qt tx4 tx5 tx2 tx6)).1) false).2),(pkA 2 h.2.1),(pkS code h.2.1 h.2.2 2),Yz,(by omega),rfl⟩) ?_
 exact wp [(11,32),(12,33)] ⟨rfl,rfl,rfl,rfl,rfl,(Qm (by first|rfl|simp)),(Xi (by first|rfl|simp)),trivial⟩
 have D:=ab z
 refine w2 ?_
 refine XH (E _ ⟨h.1,((QR h.1 true).1),((QR h.1 true).2),(pkA 2 h.2.1),(pkS code h.2.1 h.2.2 2),Yz,(by omega),rfl⟩) ?_
 exact wp [(11,29),(12,30)] ⟨rfl,rfl,rfl,rfl,rfl,(Qm (by first|rfl|simp)),(Xi (by first|rfl|simp)),trivial⟩
theorem KX (code:List UInt8)[∀s,Decidable (StgOk s)][∀s,Decidable (Y8 s)][∀c,Decidable (SgOk c)]:FC Tryz.prog 16 [(false,[.dat QS code])] [] 0 (Ex (fun x:DSg×DCk=>x.2.2.length≤8) (fun x:DSg×DCk=>PV.tup [(true,[.dat Ql x.1.1,.dat Qb x.1.2.1,.dat QA x.1.2.2]),(true,[.dat Ql x.2.1,.dat YU x.2.2])]) (fun x:DSg×DCk=>[])):=by
 refine Qj Tryz.func16 rfl rfl Tryz.ntmps16 fun j f i b l e d=> ?_
 refine w_ ?_
 refine lc (xal 0 Hd Y3)<|lc (xal 1 Vw Yd) ?_
 refine w3 ?_
 refine lc (Ju [.val (.slice none 0 0),dI 0,.val (.int .u64 0)] (Qh6 (offs:=[(0,1),(1,1),(2,1)]) (zs:=[.slice none 0 0,.int .i64 0,.int .u64 0]) Tryz.underlying86 (by kernel_rfl) (by kernel_rfl)) (fun _ _ _=>⟨_,_,rfl,rfl,⟨_,_,rfl,(Wu _ _ _ .int).one rfl,⟨_,_,rfl,rfl,rfl⟩⟩⟩) ⟨_,_,rfl,(Qn rfl),rfl⟩ (au.1 rfl) rfl rfl) ?_
 refine xbx 2 ?_
 refine w4 ?_
 refine Ys 3 [(0,2)] (Wr code 0 0 (by omega)) Qg4 e1_ ⟨rfl,trivial⟩ rfl (fun _=>rfl) (fun _=>⟨trivial,trivial⟩) (nlr rfl) fun a h=> ?_
 refine w6 ?_
 subst f
 refine Zh (x:=((a.1.1.1,(a.1.1.2.1,a.1.1.2.2)),(a.1.2.1,a.1.2.2))) [] ?_ (XR rfl (Rs.cell rfl rfl XJ rfl) (Rs.cell rfl rfl Qgf rfl)) rfl trivial rfl rfl
 (have g:=‹_≤8∧_›;exact g.1)
theorem V4 (code:List UInt8)[∀s,Decidable (StgOk s)][∀s,Decidable (Y8 s)][∀c,Decidable (SgOk c)]:FC Tryz.prog 78 [(false,[.dat QS code])] [] 0 (Ex (fun x:DCk=>x.2.length≤8) (fun x:DCk=>ag [.dat Ql x.1,.dat YU x.2]) (fun x:DCk=>[])):=by
 refine Qj Tryz.func78 rfl rfl Tryz.ntmps78 fun j f i b l e d=> ?_
 refine w_ ?_
 refine lc (xal 0 Vw Yd) ?_
 refine w3 ?_
 refine lc (Ju [.val (.slice none 0 0),dI 0,.val (.int .u64 0)] (Qh6 (offs:=[(0,1),(1,1),(2,1)]) (zs:=[.slice none 0 0,.int .i64 0,.int .u64 0]) Tryz.underlying86 (by kernel_rfl) (by kernel_rfl)) (fun _ _ _=>⟨_,_,rfl,rfl,⟨_,_,rfl,(Wu _ _ _ .int).one rfl,⟨_,_,rfl,rfl,rfl⟩⟩⟩) ⟨_,_,rfl,(Qn rfl),rfl⟩ (au.1 rfl) rfl rfl) ?_
 refine xbx 1 ?_
 refine w4 ?_
 refine Ys 2 [(0,1)] (Wr code 0 0 (by omega)) Qg4 e1_ ⟨rfl,trivial⟩ rfl (fun _=>rfl) (fun _=>⟨trivial,trivial⟩) (nlr rfl) fun a h=> ?_
 refine w3 ?_
 refine lc (xal 3 Hd Y3)<|lc (xal 4 Vw Yd) ?_
 refine w8 ?_
 subst f
 refine Zh (x:=(a.1.2.1,a.1.2.2)) [] ?_ (Res.one rfl (Rs.cell rfl rfl Qgf rfl)) rfl trivial rfl rfl
 (have g:=‹_≤8∧_›;exact g.1)
theorem Un (code:List UInt8)[∀s,Decidable (StgOk s)][∀s,Decidable (Y8 s)][∀c,Decidable (SgOk c)]:FC Tryz.prog 18 [(false,[.dat QS code])] [] 0 (Ex (fun x:DCk=>x.2.length≤8) (fun x:DCk=>ag [.dat Ql x.1,.dat YU x.2]) (fun x:DCk=>[])):=by
 refine Qj Tryz.func18 rfl rfl Tryz.ntmps18 fun i f h b j e d=> ?_
 refine w_ ?_
 refine lc (xal 0 Vw Yd) ?_
 refine w3 ?_
 refine Ys 1 [] (V4 code) Qps e1_ trivial rfl (fun _=>rfl) (fun _=>trivial) (nlr rfl) fun a g=> ?_
 refine w3 ?_
 subst f
 refine Zh (x:=(a.1,a.2)) [] ?_ (Res.one rfl (Rs.cell rfl rfl Qgf rfl)) rfl trivial rfl rfl
 assumption
theorem WC (code:List UInt8)[∀s,Decidable (StgOk s)][∀s,Decidable (Y8 s)]:FC Tryz.prog 7 [(false,[.dat QS code])] [] 0 (Ex (fun x:DSg=>x.1.length≤8) (fun x:DSg=>ag [.dat Ql x.1,.dat Qb x.2.1,.dat QA x.2.2]) (fun x:DSg=>[])):=by
 refine Qj Tryz.func7 rfl rfl Tryz.ntmps7 fun j f i b l e d=> ?_
 refine w_ ?_
 refine lc (xal 0 Hd Y3) ?_
 refine w3 ?_
 refine lc (Ju [.val (.slice none 0 0),dI 0,.val (.int .u64 0)] (Qh6 (offs:=[(0,1),(1,1),(2,1)]) (zs:=[.slice none 0 0,.int .i64 0,.int .u64 0]) Tryz.underlying86 (by kernel_rfl) (by kernel_rfl)) (fun _ _ _=>⟨_,_,rfl,rfl,⟨_,_,rfl,(Wu _ _ _ .int).one rfl,⟨_,_,rfl,rfl,rfl⟩⟩⟩) ⟨_,_,rfl,(Qn rfl),rfl⟩ (au.1 rfl) rfl rfl) ?_
 refine xbx 1 ?_
 refine w4 ?_
 refine Ys 2 [(0,1)] (JS code 0 0 (by omega)) Qpc e1_ ⟨rfl,trivial⟩ rfl (fun _=>rfl) (fun _=>⟨trivial,trivial⟩) (nlr rfl) fun a h=> ?_
 refine w3 ?_
 subst f
 refine Zh (x:=(a.1.1,(a.1.2.1,a.1.2.2))) [] ?_ (Res.one rfl (Rs.cell rfl rfl XJ rfl)) rfl trivial rfl rfl
 (have g:=‹_≤8∧_›;exact g.1)
theorem WX (a:Qgs)(b:Qgs)(h:a=b):FC Tryz.prog 12 [(true,[.dat Ql a.1,.dat YU a.2]),(true,[.dat Ql b.1,.dat YU b.2])] [] 0 (QK (lB true)):=by
 have R:a.1=b.1:=by rw[h]
 have S:a.2=b.2:=by rw[h]
 have G:a.1.length=b.1.length:=by rw[h]
 have H:a.2.length=b.2.length:=by rw[h]
 refine Qj Tryz.func12 rfl rfl Tryz.ntmps12 fun U s T O V Q P=> ?_
 refine w_ ?_
 refine xbx 0 ?_
 refine xbx 1 ?_
 refine w6 ?_
 refine alL 10 fun G=> ?_
 refine w3 ?_
 refine alL 13 fun H=> ?_
 refine w3 ?_
 cases u:(!decide ((a.1.length:Int)=(b.1.length:Int)))
 have v:((a.1.length:Int)=(b.1.length:Int)):=Qz u
 refine w2 ?_
 refine alL 18 fun _=> ?_
 refine w3 ?_
 refine alL 21 fun _=> ?_
 refine w4 ?_
 refine cn_ (fun _ _=> ?_) fun _ _=> ?_
 refine w5 ?_
 refine alL 26 fun _=> ?_
 refine w4 ?_
 refine lp0 a.1.length (fun k=>⟨[(2,lP 0 0),(3,lP 1 0),(27,lI (a.1.length:Int)),(28,lI (k:Int))],[bx 0 32 [.dat Ql a.1,.dat YU a.2],bx 1 32 [.dat Ql b.1,.dat YU b.2]]⟩) ?_ fun k _=> ?_
 exact wo []
 refine w4 ?_
 cases x:(decide ((k:Int)<(a.1.length:Int)))
 have y:=aa x
 refine w7 ?_
 refine alL 44 fun _=> ?_
 refine w4 ?_
 refine lp0 a.2.length (fun i=>⟨[(2,lP 0 0),(3,lP 1 0),(45,lI (a.2.length:Int)),(46,lI (i:Int))],[bx 0 32 [.dat Ql a.1,.dat YU a.2],bx 1 32 [.dat Ql b.1,.dat YU b.2]]⟩) ?_ fun i _=> ?_
 exact wo []
 refine w4 ?_
 cases g:(decide ((i:Int)<(a.2.length:Int)))
 have n:=aa g
 refine w7 ?_
 exact fe_ s
 have n:=ab g
 refine w8 ?_
 obtain ⟨e,A⟩:=gx a.2 i
 have I:=A
 obtain ⟨f,B⟩:=gx b.2 i
 have J:=B
 have d:e=f:=cN (I.symm.trans ((congrArg (fun l=>l[i]?) S).trans J))
 apply dW (i9 49 _ _ _ _ _ _ _ _ _ [io 58 _,⟨some 7,lP 2 0,[bx 2 90 [dI 0,dI 0,.val (.slice none 0 0),.val (.slice none 0 0)]]⟩,⟨some 8,lP 3 0,[bx 3 90 [dI 0,dI 0,.val (.slice none 0 0),.val (.slice none 0 0)]]⟩,⟨none,lf (.val undef),[bx 2 90 [dI e.1,dI e.2.1,.dat Qb e.2.2.1,.dat Qb e.2.2.2]]⟩,⟨none,lf (.val undef),[bx 3 90 [dI f.1,dI f.2.1,.dat Qb f.2.2.1,.dat Qb f.2.2.2]]⟩]) [0,0,3,0,0,31,31,127,31,31,1023,2047,992,0]
 refine z10 ?_
 refine zz (fun _ t=>ac (XW 2 ZT Xu rfl rfl (t.fr 2 rfl) (nlr rfl)) rfl)<|zz (fun _ t=>ac (XW 3 ZT Xu rfl rfl (t.fr 3 rfl) (nlr rfl)) rfl) ?_
 exact y2
 refine w3 ?_
 refine alI 60 fun _=> ?_
 refine w2 ?_
 refine alI 62 fun _=> ?_
 refine w2 ?_
 cases j:(!decide (e.1=f.1))
 have o:(e.1=f.1):=Qz j
 refine w7 ?_
 cases m:(!decide (e.2.1=f.2.1))
 have r:(e.2.1=f.2.1):=Qz m
 refine w4 ?_
 refine lgy rfl rfl (dK (Uy e.2.2.1 f.2.2.1 (by first|exact congrArg (fun z=>z.2.2.1) d|exact congrArg (fun z=>z.2.2.2) d)) Qg2) ?_
 refine w7 ?_
 refine lgy rfl rfl (dK (Uy e.2.2.2 f.2.2.2 (by first|exact congrArg (fun z=>z.2.2.1) d|exact congrArg (fun z=>z.2.2.2) d)) Qg2) ?_
 refine w9 ?_
 refine Qd ?_
 refine l0_ ?_
 exact wo []
 have r:¬(e.2.1=f.2.1):=QG m
 refine w16 ?_
 refine w4 ?_
 refine Qe<|fqB s ?_
 ·(exfalso;subst d;simp_all;done)
 have o:¬(e.1=f.1):=QG j
 refine w16 ?_
 refine w11 ?_
 refine Qe<|fqB s ?_
 ·(exfalso;subst d;simp_all;done)
 have y:=ab x
 refine w8 ?_
 obtain ⟨E,C⟩:=gx a.1 k
 have K:=C
 obtain ⟨F,D⟩:=gx b.1 k
 have L:=D
 have M:E=F:=cN (K.symm.trans ((congrArg (fun l=>l[k]?) R).trans L))
 apply dW (i9 31 _ _ _ _ _ _ _ _ _ [io 40 _,io 41 (lB (!(Ty.beq QI E F)))]) [0,0,3,0,0,31,31,127,31,31,0]
 refine z10 ?_
 refine zz (fun _ t=>ac (QbV Qij Qih (t.w rfl) (t.w rfl) (p:=E) (q:=F) rfl rfl rfl) rfl) ?_
 exact zN
 cases N:(Ty.beq QI E F)
 refine w4 ?_
 refine Qe<|fqB s ?_
 ·(exfalso;subst M;simp_all [Qjr];done)
 refine w6 ?_
 refine Qd ?_
 refine l0_ ?_
 exact wo []
 refine w3 ?_
 refine Qe<|fqB s ?_
 (exfalso;omega)
 have v:¬((a.1.length:Int)=(b.1.length:Int)):=QG u
 refine w13 ?_
 refine Qe<|fqB s ?_
 (exfalso;omega)
theorem Qdb (code:List UInt8)(b:List UInt8):FC Tryz.prog 3 [(false,[.dat QS code]),(false,[.dat QS b])] [] 0 (QK (lB true)):=by
 classical
 refine Qj Tryz.func3 rfl rfl Tryz.ntmps3 fun O_ d b2 a0 X_ a2 a1=> ?_
 refine w7 ?_
 refine lc (dK (QjN code b) QrH) ?_
 refine w_ ?_
 refine cd_ (fun _ _=> ?_) fun _ _=> ?_
 refine w3 ?_
 refine Ys 0 [] (WC code) QrI e1_ trivial rfl (fun _=>rfl) (fun _=>trivial) (nlr rfl) fun a a8=>lc (xal 0 Hd Y3) ?_
 refine w4 ?_
 refine lc (dK (KC 1 (VX a) rfl) QrJ) ?_
 refine w3 ?_
 refine lc (xal 1 Vw Yd) ?_
 refine w5 ?_
 refine lc (dK (KC 1 (ZO a) rfl) Qbi) ?_
 refine w3 ?_
 refine lc (xal 2 Vw Yd) ?_
 refine w5 ?_
 refine lc (dK (KC 1 (Vr a) rfl) Qo6) ?_
 refine w3 ?_
 refine lc (xal 3 Vw Yd) ?_
 refine w5 ?_
 refine lc (dK (KC 1 (Yl a) rfl) Qb4) ?_
 refine w3 ?_
 refine lc (xal 4 Vw Yd) ?_
 refine w7 ?_
 refine lc (Z0 (Qa rfl) (Qa rfl) rfl Y7) ?_
 refine w_ ?_
 cases a6:((decide (Q6 a false))==(decide (Q6 a false)))
 refine w16 ?_
 refine w5 ?_
 refine Qe<|fqB d ?_
 ·(exfalso;simp_all;done)
 refine w2 ?_
 refine lgy rfl rfl (dK (WX (QR a false) (QR a false) rfl) QgX) ?_
 refine w5 ?_
 refine lgy rfl rfl (Z0 (Qa rfl) (Qa rfl) rfl Y7) ?_
 refine w2 ?_
 cases a7:((decide (Q6 a true))==(decide (Q6 a true)))
 refine w10 ?_
 refine Qe<|fqB d ?_
 ·(exfalso;simp_all;done)
 refine w2 ?_
 refine lgy rfl rfl (dK (WX (QR a true) (QR a true) rfl) QgX) ?_
 refine w6 ?_
 refine YC ?_
 have a4:=fun h:Q6 a false=>Qnr h
 have a5:=fun h:Q6 a true=>Qnr h
 refine w3 ?_
 refine lc (Wb 5 (e:=Vw) [(QR a false),(QR a true)] Qtx Qgf Yd rfl ⟨_,_,rfl,(Qn rfl),⟨_,_,rfl,(Qn rfl),rfl⟩⟩ rfl (by decide) rfl (Fresh.of rfl) (nlr rfl))<|lc (QbT (Qa rfl) rfl rfl Qtx) ?_
 refine w3 ?_
 refine AC.wk (Wk.thawR (i:=78) (q:=5) rfl rfl) ?_
 refine lp0 (([(QR a false),(QR a true)]).length) (fun k=>⟨[(1,lf (.dat QS b)),(5,lP 0 0),(6,lP 1 0),(7,lB (decide (Q6 a false))),(10,lP 3 0),(11,lB (decide (Q6 a true))),(78,lf (.dat (.sl 32 (.pr (.sl 103 (.pr .str .int)) (.sl 90 (.pr .int (.pr .int (.pr (.sl 9 .str) (.sl 9 .str))))))) ([(QR a false),(QR a true)]))),(79,lI (([(QR a false),(QR a true)]).length:Int)),(80,lI (k:Int))],[bx 0 28 [.dat Ql a.1,.dat Qb a.2.1,.dat QA a.2.2],bx 1 32 [.dat Ql ((QR a false).1),.dat YU ((QR a false).2)],bx 3 32 [.dat Ql ((QR a true).1),.dat YU ((QR a true).2)]]⟩) ?_ fun k _=> ?_
 exact wo []
 have a3:([(QR a false),(QR a true)]:List DCk).length=2:=rfl
 refine w4 ?_
 cases Q:(decide ((k:Int)<(([(QR a false),(QR a true)]).length:Int)))
 have R:=aa Q
 refine w3 ?_
 refine Qi3 (fun Z=>Z=⟨[(1,lf (.dat QS b))],[]⟩) ?_ fun S=> ?_
 rintro Z rfl
 refine w2 ?_
 refine Ys 6 [] (KX b) Qo7 e1_ trivial rfl (fun _=>rfl) (fun _=>trivial) (nlr rfl) fun f a9=> ?_
 refine w3 ?_
 refine lc (xal 6 Hd Y3)<|lc (xal 7 Vw Yd) ?_
 refine w6 ?_
 refine lc (dK (VY f.1 f.2 (by first|omega|exact bh Yz.2 (by decide))) QgY) ?_
 refine w9 ?_
 refine lc (dK (QaD f.1 f.2 (by first|omega|exact bh Yz.2 (by decide))) Qo8) ?_
 refine w8 ?_
 refine Ys 8 [] (Un b) Qo9 e1_ trivial rfl (fun _=>rfl) (fun _=>trivial) (nlr rfl) fun T b0=>lc (xal 8 Vw Yd) ?_
 refine w4 ?_
 refine lc (dK (Jl T (by omega)) Qpa) ?_
 refine w8 ?_
 refine lc (dK (Jo T (by omega)) Qpb) ?_
 refine w9 ?_
 refine lc (X0 (Qa rfl) (Qa rfl) rfl Y7) ?_
 refine w_ ?_
 cases U:((decide (ImP f.1 f.2))==(decide (ImP f.1 f.2)))
 refine w16 ?_
 refine Qe<|fqB d ?_
 ·(exfalso;simp_all;done)
 refine w2 ?_
 refine lgy rfl rfl (X0 (Qa rfl) (Qa rfl) rfl Y7) ?_
 refine w2 ?_
 cases V:((imV f.1 f.2)==(imV f.1 f.2))
 refine w11 ?_
 refine Qe<|fqB d ?_
 ·(exfalso;simp_all;done)
 refine w2 ?_
 refine lgy rfl rfl (X0 (Qa rfl) (Qa rfl) rfl Y7) ?_
 refine w2 ?_
 cases W:((decide (ZU T))==(decide (ZU T)))
 refine w6 ?_
 refine Qe<|fqB d ?_
 ·(exfalso;simp_all;done)
 refine w6 ?_
 refine Qe<|fqB d ?_
 ·(simp;done)
 refine w2 ?_
 refine lc (dK (YN a) Qb5) ?_
 refine w10 ?_
 cases j:(decide (Q6 a false))
 have D:=aa j
 refine w3 ?_
 refine Qh rfl rfl rfl ?_ rfl
 refine Qh rfl rfl rfl ?_ rfl
 refine w2 ?_
 refine Qh rfl rfl rfl ?_ rfl
 refine Qh rfl rfl rfl ?_ rfl
 refine Qh rfl rfl rfl ?_ rfl
 refine w5 ?_
 cases l:(decide (Q6 a true))
 have E:=aa l
 refine w8 ?_
 refine XH (S _ rfl) ?_
 exact wo []
 have E:=ab l
 refine w_ ?_
 refine lgy rfl rfl (dK (Zv (QR a true) (by first|omega|exact bh Yz.2 (by decide))) VB) ?_
 refine w4 ?_
 cases m:(decide (ZU (QR a true)))
 have F:=aa m
 refine w4 ?_
 refine Qe<|fqB d ?_
 ·(exfalso;simp_all;done)
 have F:=ab m
 refine w2 ?_
 refine XH (S _ rfl) ?_
 exact wo []
 have D:=ab j
 refine w3 ?_
 cases n:(decide (SgOk a))
 have G:=aa n
 refine w12 ?_
 refine Qh rfl rfl rfl ?_ rfl
 refine Qh rfl rfl rfl ?_ rfl
 refine Qh rfl rfl rfl ?_ rfl
 refine w7 ?_
 refine Qe<|fqB d ?_
 ·(exfalso;simp_all;done)
 have G:=ab n
 refine w4 ?_
 cases o:(decide ((if SgOk a then YG a else ⟨#[]⟩)=YY))
 have H:=aa o
 refine w8 ?_
 refine Qh rfl rfl rfl ?_ rfl
 refine Qh rfl rfl rfl ?_ rfl
 refine Qh rfl rfl rfl ?_ rfl
 refine w7 ?_
 refine Qe<|fqB d ?_
 ·(exfalso;simp_all;done)
 have H:=ab o
 refine w_ ?_
 refine lgy rfl rfl (dK (Zv (QR a false) (by first|omega|exact bh Yz.2 (by decide))) VB) ?_
 refine w4 ?_
 cases p:(decide (ZU (QR a false)))
 have I:=aa p
 refine w2 ?_
 refine Qh rfl rfl rfl ?_ rfl
 refine Qh rfl rfl rfl ?_ rfl
 refine Qh rfl rfl rfl ?_ rfl
 refine w7 ?_
 refine Qe<|fqB d ?_
 ·(exfalso;simp_all;done)
 have I:=ab p
 refine w2 ?_
 cases r:(decide (Q6 a true))
 have J:=aa r
 refine w8 ?_
 refine XH (S _ rfl) ?_
 exact wo []
 have J:=ab r
 refine w_ ?_
 refine lgy rfl rfl (dK (Zv (QR a true) (by first|omega|exact bh Yz.2 (by decide))) VB) ?_
 refine w4 ?_
 cases s:(decide (ZU (QR a true)))
 have K:=aa s
 refine w4 ?_
 refine Qe<|fqB d ?_
 ·(exfalso;simp_all;done)
 have K:=ab s
 refine w2 ?_
 refine XH (S _ rfl) ?_
 exact wo []
 have R:=ab Q
 refine w5 ?_
 obtain ⟨y,A⟩:=gx ([(QR a false),(QR a true)]) k
 have b1:y.2.length≤8:=by rcases aJ.1 (ae A) with e|e <;> first|(rw[aF] at e;subst e;exact Yz.2)|(subst e;exact Yz.2)
 have g:ZU y→ImP a y∧imV a y=true:=fun h=>by rcases aJ.1 (ae A) with e|e <;> first|(rw[aF] at e;subst e;exact Qr1 h)|(subst e;exact Qr1 h)
 refine w2 ?_
 refine lc (xal 9 Vw Yd) ?_
 refine w5 ?_
 refine lc (dK (Zv y (by first|omega|exact bh Yz.2 (by decide))) VB) ?_
 refine w2 ?_
 cases t:(decide (ZU y))
 have L:=aa t
 refine w6 ?_
 refine Qd ?_
 refine l0_ ?_
 exact wo []
 have L:=ab t
 refine w5 ?_
 refine lc (dK (VY a y (by first|omega|exact bh Yz.2 (by decide))) QgY) ?_
 refine w9 ?_
 cases u:(decide (Q6 a false))
 have M:=aa u
 refine w3 ?_
 cases v:(decide (Q6 a true))
 have N:=aa v
 refine w3 ?_
 refine Qh rfl rfl rfl ?_ rfl
 refine Qh rfl rfl rfl ?_ rfl
 refine w9 ?_
 refine Qd ?_
 refine l0_ ?_
 exact wo []
 have N:=ab v
 refine w3 ?_
 cases x:(decide (ImP a y))
 have O:=aa x
 refine w9 ?_
 refine Qe<|fqB d ?_
 ·(exfalso;obtain ⟨B,C⟩:=g ‹_›;simp_all;done)
 have O:=ab x
 refine w5 ?_
 cases X:(imV a y)
 refine w4 ?_
 refine Qe<|fqB d ?_
 ·(exfalso;obtain ⟨B,C⟩:=g ‹_›;simp_all;done)
 refine w6 ?_
 refine Qd ?_
 refine l0_ ?_
 exact wo []
 have M:=ab u
 refine w6 ?_
 cases z:(decide (ImP a y))
 have P:=aa z
 refine w9 ?_
 refine Qe<|fqB d ?_
 ·(exfalso;obtain ⟨B,C⟩:=g ‹_›;simp_all;done)
 have P:=ab z
 refine w5 ?_
 cases Y:(imV a y)
 refine w4 ?_
 refine Qe<|fqB d ?_
 ·(exfalso;obtain ⟨B,C⟩:=g ‹_›;simp_all;done)
 refine w6 ?_
 refine Qd ?_
 refine l0_ ?_
 exact wo []
 refine w4 ?_
 exact fe_ d
end Go.Proofs.YtjfpbcmfbnnooaaGreat
