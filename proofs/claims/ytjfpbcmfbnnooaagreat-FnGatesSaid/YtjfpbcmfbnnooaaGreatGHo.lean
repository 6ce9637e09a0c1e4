/- Walks over abstract states: next-state sets and values, both sides; covers at a code (third part). -/
import Derived.Test.YtjfpbcmfbnnooaaGreatGHg
import Derived.Test.YtjfpbcmfbnnooaaGreatGHc
import Derived.Test.YtjfpbcmfbnnooaaGreatGDm
import Derived.Test.YtjfpbcmfbnnooaaGreatGDf
import Derived.Test.YtjfpbcmfbnnooaaGreatGWz
set_option linter.unusedSimpArgs false
set_option linter.unusedVariables false
set_option linter.unusedSectionVars false
namespace Go.Proofs.YtjfpbcmfbnnooaaGreat
open Go.RowKit
set_option maxRecDepth 100000
set_option maxHeartbeats 4000000
section
variable [∀c,Decidable (SgOk c)]{c:DSg}{k:Nat}{w way code:ByteArray}{u:UInt8}{sig q n:Int}{l:List ByteArray}{x:Qy}
def Qp (c:DSg)(sig:Int)(way:ByteArray):DOn:=if Qv c sig way then XF c sig way else ([],[])
abbrev UF (c:DSg)(sig:Int):Prop:=SgOk c∧(0≤sig∧sig≤(c.1.length:Int) - 1)∧XN c sig=false
theorem Qx3 (h:UF c sig)(a:OOk (c.1.length:Int) (XF c sig way).1 (XF c sig way).2):Qv c sig way:=⟨h,a⟩
theorem Qc0 (h:¬UF c sig):¬Qv c sig way:=fun g=>h g.1
theorem Qtv (a:¬OOk (c.1.length:Int) (XF c sig way).1 (XF c sig way).2):¬Qv c sig way:=fun g=>a g.2
theorem Qgh (h:Qv c sig way):Qp c sig way=XF c sig way:=if_pos h
theorem Qgg (h:¬Qv c sig way):Qp c sig way=([],[]):=if_neg h
theorem QhI (h:UF c sig):QaP c (fun q=>nsB c sig q) (fun q=> !(nsB c sig q))=Qp c sig QL:=by
 unfold QaP Qp
 rw[← QhQ]
 by_cases g:Yo c (fun q=>nsB c sig q) (fun q=> !(nsB c sig q))
 ·rw[if_pos g,if_pos ⟨h,Qd8.2 g⟩]
 ·rw[if_neg g,if_neg fun a=>g (Qd8.1 a.2)]
theorem QmY (h:UF c sig):decide (Yo c (fun q=>nsB c sig q) (fun q=> !(nsB c sig q)))=decide (Qv c sig QL):=bF.2 ⟨fun g=>⟨h,Qd8.2 g⟩,fun g=>Qd8.1 g.2⟩
def nvB (c:DSg)(code:ByteArray)(sig:Int):Bool:=decide (Qv c sig QL)&&(WE (Qp c sig QL).1 code||WE (Qp c sig QL).2 code)
def nvV (c:DSg)(code:ByteArray)(sig:Int):Bool:=nvB c code sig&&WE (Qp c sig QL).1 code
end
theorem U8 (c:ZM)(sig:Int)[∀c,Decidable (SgOk c)]:FC Tryz.prog 194 [(true,[.dat Ql c.1,.dat Qb c.2.1,.dat QA c.2.2]),(false,[dI sig])] [] 0 (QK (lB (decide (SgOk c∧(0≤sig∧sig≤(c.1.length:Int) - 1)∧XN c sig=false)))):=by
 refine Qj Tryz.func194 rfl rfl Tryz.ntmps194 fun m e j f o i h=> ?_
 refine acI 1 fun _=> ?_
 refine w_ ?_
 refine xbx 0 ?_
 refine w5 ?_
 refine lc (dK (Qbp c sig) QlQ) ?_
 refine w_ ?_
 cases a:(decide (SgOk c∧0≤sig∧sig≤(c.1.length:Int) - 1))
 have b:=aa a
 refine w10 ?_
 refine Qe<|fqB e ?_
 exact (ay fun g=>absurd (⟨g.1,g.2.1⟩:SgOk c∧(0≤sig∧sig≤(c.1.length:Int) - 1)) ‹_›).symm
 have b:=ab a
 refine w3 ?_
 obtain ⟨p,d⟩:=gx c.1 ((sig).toNat)
 refine w7 ?_
 refine Qe<|fqB e ?_
 exact Qwo (‹SgOk c∧_›).1 (‹SgOk c∧_›).2 d
theorem Vc (c:ZM)(sig:Int)(way:ByteArray)[∀c,Decidable (SgOk c)]:FC Tryz.prog 206 [(true,[.dat Ql c.1,.dat Qb c.2.1,.dat QA c.2.2]),(false,[dI sig]),(false,[dS way])] [] 0 (QK (PV.tup [(true,[.dat Qb ((Qp c sig way).1),.dat Qb ((Qp c sig way).2)]),(false,[dB (decide (Qv c sig way))])])):=by
 refine Qj Tryz.func206 rfl rfl Tryz.ntmps206 fun C m B o D A z=> ?_
 refine acI 1 fun _=> ?_
 refine w_ ?_
 refine xbx 0 ?_
 refine lc (xal 1 X9 YE) ?_
 refine w6 ?_
 refine lc (dK (Qcl c sig) QlT) ?_
 refine w2 ?_
 cases a:(decide (SgOk c∧(0≤sig∧sig≤(c.1.length:Int) - 1)∧XN c sig=false))
 have b:=aa a
 refine w2 ?_
 refine lc (Qk JF rfl (au.1 rfl) rfl rfl) ?_
 refine w3 ?_
 refine AC.wk (WH (p:=1) [.dat Qb ([]),.dat Qb ([])] rfl ⟨_,_,rfl,.inr ⟨_,_,rfl,rfl⟩,⟨_,_,rfl,.inr ⟨_,_,rfl,rfl⟩,rfl⟩⟩)<|Qe ?_
 have r:([]:(Qb:Ty).Den)=((Qp c sig way).1):=by
  (rw[Qgg (Qc0 ‹_›)];done)
 have s:([]:(Qb:Ty).Den)=((Qp c sig way).2):=by
  (rw[Qgg (Qc0 ‹_›)];done)
 have t:(false:Bool)=(decide (Qv c sig way)):=by
  exact (ay (Qc0 ‹_›)).symm
 exact fr_ m (e:=by first|(rw[r,s,← t]<;>rfl)|rw[←r,←s,t])
 have b:=ab a
 refine w6 ?_
 refine lc (dK (Qde c sig way (by assumption:UF c sig).1 (by assumption:UF c sig).2.1) QlU) ?_
 refine lc (xal 2 X9 YE) ?_
 refine w6 ?_
 refine alL 19 fun _=> ?_
 refine w5 ?_
 refine lc (dK (Ja (c.1.length:Int) ((XF c sig way).1) ((XF c sig way).2)) Qe7) ?_
 refine w2 ?_
 cases d:(decide (OOk (c.1.length:Int) ((XF c sig way).1) ((XF c sig way).2)))
 have f:=aa d
 refine w2 ?_
 refine lc (Qk JF rfl (au.1 rfl) rfl rfl) ?_
 refine w3 ?_
 refine AC.wk (WH (p:=1) [.dat Qb ([]),.dat Qb ([])] rfl ⟨_,_,rfl,.inr ⟨_,_,rfl,rfl⟩,⟨_,_,rfl,.inr ⟨_,_,rfl,rfl⟩,rfl⟩⟩)<|Qe ?_
 have v:([]:(Qb:Ty).Den)=((Qp c sig way).1):=by
  (rw[Qgg (Qtv ‹_›)];done)
 have y:([]:(Qb:Ty).Den)=((Qp c sig way).2):=by
  (rw[Qgg (Qtv ‹_›)];done)
 have g:(false:Bool)=(decide (Qv c sig way)):=by
  exact (ay (Qtv ‹_›)).symm
 exact fr_ m (e:=by first|(rw[v,y,← g]<;>rfl)|rw[←v,←y,g])
 have f:=ab d
 refine w8 ?_
 have h:((XF c sig way).1:(Qb:Ty).Den)=((Qp c sig way).1):=by
  (rw[Qgh (Qx3 ‹_› ‹_›)];done)
 have i:((XF c sig way).2:(Qb:Ty).Den)=((Qp c sig way).2):=by
  (rw[Qgh (Qx3 ‹_› ‹_›)];done)
 have j:(true:Bool)=(decide (Qv c sig way)):=by
  exact (aN (Qx3 ‹_› ‹_›)).symm
 exact fr_ m (e:=by first|(rw[h,i,← j]<;>rfl)|rw[←h,←i,j])
theorem Jp (c:ZM)(sig:Int)[∀c,Decidable (SgOk c)]:FC Tryz.prog 131 [(true,[.dat Ql c.1,.dat Qb c.2.1,.dat QA c.2.2]),(false,[dI sig])] [] 0 (QK (PV.tup [(true,[.dat Qb ((Qp c sig QL).1),.dat Qb ((Qp c sig QL).2)]),(false,[dB (decide (Qv c sig QL))])])):=by
 refine Qj Tryz.func131 rfl rfl Tryz.ntmps131 fun m i j a o h g=> ?_
 refine acI 1 fun _=> ?_
 refine w_ ?_
 refine xbx 0 ?_
 refine lc (xal 1 X9 YE) ?_
 refine w5 ?_
 refine lc (dK (Vc c sig (⟨#[110,101,120,116]⟩:ByteArray)) Qaq) ?_
 refine w6 ?_
 have b:((Qp c sig (⟨#[110,101,120,116]⟩:ByteArray)).1:(Qb:Ty).Den)=((Qp c sig QL).1):=by
  rfl
 have d:((Qp c sig (⟨#[110,101,120,116]⟩:ByteArray)).2:(Qb:Ty).Den)=((Qp c sig QL).2):=by
  rfl
 have f:(decide (Qv c sig (⟨#[110,101,120,116]⟩:ByteArray)):Bool)=(decide (Qv c sig QL)):=by
  rfl
 exact fr_ i (e:=by first|(rw[b,d,f]<;>rfl)|rw[←b,←d,←f])
theorem Jm (c:ZM)(sig:Int)[∀c,Decidable (SgOk c)]:FC Tryz.prog 121 [(true,[.dat Ql c.1,.dat Qb c.2.1,.dat QA c.2.2]),(false,[dI sig])] [] 0 (Is (PV.tup [(true,[.ref 0,.ref 1]),(false,[dB (decide (Qv c sig QL))])]) [ar 0 9 .str ((Qp c sig QL).1),ar 1 9 .str ((Qp c sig QL).2)]):=by
 refine Qj Tryz.func121 rfl rfl Tryz.ntmps121 fun m d j e o i h=> ?_
 refine acI 1 fun _=> ?_
 refine w_ ?_
 refine xbx 0 ?_
 refine xbx 1 ?_
 refine lc (xal 2 X9 YE) ?_
 refine w6 ?_
 refine lc (dK (U8 c sig) QeV) ?_
 refine w2 ?_
 cases a:(decide (SgOk c∧(0≤sig∧sig≤(c.1.length:Int) - 1)∧XN c sig=false))
 have b:=aa a
 refine w2 ?_
 refine lc (Qk JF rfl (au.1 rfl) rfl rfl) ?_
 refine w3 ?_
 refine AC.wk (Qr 3 (p:=2) (off:=0) 9 .str rfl rfl (Fresh.of rfl) (nlr rfl))<|AC.wk (Qr 4 (p:=2) (off:=1) 9 .str rfl rfl (Fresh.of rfl) (nlr rfl))<|Qe ?_
 have f:(false:Bool)=(decide (Qv c sig QL)):=by
  exact (ay (Qc0 ‹_›)).symm
 exact fi_ [(0,3),(1,4)] d ⟨(Qm (by (rw[Qgg (Qc0 ‹_›)];done))),(Qm (by (rw[Qgg (Qc0 ‹_›)];done))),trivial⟩ (h0:=by first|(rw[← f]<;>rfl)|rw[f])
 have b:=ab a
 refine w4 ?_
 refine lc (Q1 ⟨_,_,rfl,(Qa rfl),rfl,⟨_,_,rfl,(Qa rfl),rfl,rfl⟩⟩ rfl)<|lc (Q1 ⟨_,_,rfl,(Qa rfl),rfl,⟨_,_,rfl,(Qa rfl),rfl,rfl⟩⟩ rfl) ?_
 refine lc (dP 5 [] (Qfs c c sig (by assumption:UF c sig).1 (by assumption:UF c sig).2.1 rfl) QeW) ?_
 refine w6 ?_
 have g:(decide (Yo c (fun q=>nsB c sig q) (fun q=> !(nsB c sig q))):Bool)=(decide (Qv c sig QL)):=by
  exact QmY ‹_›
 exact fi_ [(0,7),(1,8)] d ⟨(Qm (by (rw[QhI ‹_›];done))),(Qm (by (rw[QhI ‹_›];done))),trivial⟩ (h0:=by first|(rw[g]<;>rfl)|rw[←g])
def ccP (l:List ByteArray)(code:ByteArray):Prop:=Z1 (code.size:Int) l∧Jt code (code.size:Int)
instance (l:List ByteArray) (code:ByteArray):Decidable (ccP l code):=inferInstanceAs (Decidable (_∧_))
def ccV (l:List ByteArray)(code:ByteArray):Bool:=decide (ccP l code)&&l.any fun c=>QZ c code
def QBV (n:Int)(l:List ByteArray):List ByteArray:=(QeC n.toNat).filter fun x=>l.any fun c=>QZ c x
def cdK (n:Int)(l:List ByteArray)(k:Nat):List ByteArray:=((QeC n.toNat).take k).filter fun x=>l.any fun c=>QZ c x
section
variable {l:List ByteArray}{c x code:ByteArray}{n:Int}{k:Nat}
end
theorem Uy (a:List ByteArray)(b:List ByteArray)(h:a=b):FC Tryz.prog 58 [(false,[.dat Qb a]),(false,[.dat Qb b])] [] 0 (QK (lB true)):=by
 have s:a.length=b.length:=by rw[h]
 refine Qj Tryz.func58 rfl rfl Tryz.ntmps58 fun v i u p w r q=> ?_
 refine w6 ?_
 refine alL 6 fun _=> ?_
 refine w2 ?_
 refine alL 8 fun _=> ?_
 refine w3 ?_
 refine cn_ (fun _ _=> ?_) fun _ _=> ?_
 refine w4 ?_
 refine alL 11 fun _=> ?_
 refine w4 ?_
 refine lp0 a.length (fun k=>⟨[(0,lf (.dat Qb a)),(1,lf (.dat Qb b)),(12,lI (a.length:Int)),(13,lI (k:Int))],[]⟩) ?_ fun k _=> ?_
 exact wo []
 refine w4 ?_
 cases f:(decide ((k:Int)<(a.length:Int)))
 have g:=aa f
 refine w7 ?_
 exact fe_ i
 have g:=ab f
 refine w8 ?_
 obtain ⟨j,t⟩:=gx a k
 obtain ⟨m,o⟩:=gx b k
 apply dW (i9 16 _ _ _ _ _ _ _ _ _ []) [0,1,0,0,15,31,15,15,0]
 exact y9
 cases d:(!decide (j=m))
 have e:(j=m):=Qz d
 refine w6 ?_
 refine Qd ?_
 refine l0_ ?_
 exact wo []
 have e:¬(j=m):=QG d
 refine w4 ?_
 refine Qe<|fqB i ?_
 ·(subst h;exfalso;simp_all;done)
 refine w3 ?_
 refine Qe<|fqB i ?_
 ·(subst h;exfalso;simp_all;done)
theorem Qie (l:List ByteArray)(b:Nat)(h:(l.all fun x=>decide (x.size≤b))=true)(i:Nat):((l[i]?).getD ByteArray.empty).size≤b:=by
 cases a:l[i]? with
 | none=>exact aL _
 | some x=>exact ab (au.1 h x (ae a))
abbrev B01:List ByteArray:=[⟨#[48]⟩,⟨#[49]⟩]
def c1G (code:List UInt8):Nat→ByteArray×Int×Int→ByteArray×Int×Int
 | 0,st=>st
 | k+1,st=>c1G code k (st.1++(B01[(pkV code st.2.1 st.2.2 (B01.length:Int)).toNat]?).getD ByteArray.empty,pkA (B01.length:Int) st.2.1,pkS code st.2.1 st.2.2 (B01.length:Int))
def c1V (code:List UInt8)(n at_ sd:Int):ByteArray×Int×Int:=c1G code n.toNat (⟨#[]⟩,at_,sd)
theorem QAN {l:List ByteArray}{x:ByteArray}{b:Nat}(h:∀c∈l,c.size≤b)(e:x.size≤b):∀c∈l++[x],c.size≤b:=fun c d=>by
 rcases aQ.1 d with a|a
 ·exact h c a
 ·rw[aF] at a;subst a;exact e
def QBH (x b:ByteArray)(i:Int):ByteArray:=(x.extract 0 i.toNat++b)++x.extract (i+1).toNat x.size
abbrev QBD:ByteArray:=⟨#[45,45,45,45,45,45,45,45]⟩
section
variable {l:List ByteArray}{c x y b c0:ByteArray}{n i:Int}{m k j:Nat}
end
abbrev upT:ByteArray:=⟨#[117,112]⟩
abbrev QO:ByteArray:=⟨#[100,111,119,110]⟩
def mOn (c:DSg)(sig:Int)(fr:UInt8)(k:Int):Bool:=decide (bAt (Ya c k) sig=fr)&&QW c k sig
def mOf (c:DSg)(sig:Int)(fr:UInt8)(k:Int):Bool:= !(decide (bAt (Ya c k) sig=fr)==QW c k sig)
section
variable {c:DSg}{f g f2 g2:Int→Bool}{k:Nat}{w way:ByteArray}{u fr:UInt8}{sig q:Int}
theorem QsC (h:c.2.1[q.toNat]? =some w)(a:w[sig.toNat]? =some u):bAt (Ya c q) sig=u:=by rw[Xf h,QY a]
theorem Qzm (hb:bAt (Ya c q) sig=u)(h:u=fr):QW c q sig=mOn c sig fr q:=by unfold mOn;rw[hb,aN h];rfl
theorem Qzl (hb:bAt (Ya c q) sig=u)(h:¬u=fr):false=mOn c sig fr q:=by unfold mOn;rw[hb,ay h];rfl
theorem Qzk (hb:bAt (Ya c q) sig=u):(!(decide (u=fr)==QW c q sig))=mOf c sig fr q:=by unfold mOf;rw[hb]
theorem Qke (h:∀i:Nat,i<k→f (i:Int)=g (i:Int)):pkL c f k=pkL c g k:=by
 induction k with
 | zero=>rfl
 | succ k b=>
  have e:=b fun i d=>h i (by omega)
  have a:=h k (by omega)
  unfold pkL rg at e ⊢
  rw[bO,List.filterMap_append,List.filterMap_append,e]
  congr 1
  simp only[List.filterMap_cons,List.filterMap_nil,pkF,a]
theorem Qf9 (a:∀i:Nat,i<c.2.1.length→f (i:Int)=f2 (i:Int))(b:∀i:Nat,i<c.2.1.length→g (i:Int)=g2 (i:Int)):Ku c f g=Ku c f2 g2:=by unfold Ku;rw[Qke a,Qke b]
theorem Qnj (h:SgOk c)(j:0≤sig∧sig≤(c.1.length:Int) - 1)(d:k<c.2.1.length):bAt (Ya c (k:Int)) sig=48∨bAt (Ya c (k:Int)) sig=49:=by
 have i:c.2.1[((k:Int)).toNat]? =some c.2.1[k]:=ao d
 have b:=h.codes _ (cH d)
 have a:sig.toNat<(c.2.1[k]).size:=by have:=b.2;omega
 obtain ⟨u,e⟩:∃u,(c.2.1[k])[sig.toNat]? =some u:=⟨_,dk (c.2.1[k]) sig.toNat a⟩
 rw[QsC i e]
 exact b.1 u (ae (KZ (k:=sig.toNat) e))
theorem QiF (e:SgOk c)(d:0≤sig∧sig≤(c.1.length:Int) - 1):Ku c (mOn c sig 48) (mOf c sig 48)=XF c sig upT:=by
 have b:¬upT=(⟨#[100,111,119,110]⟩:ByteArray):=by decide
 refine Qf9 (fun i a=> ?_) fun i a=> ?_ <;> simp only[mOn,mOf,wOn,wOf,QaT,if_neg b,if_true] <;> rcases Qnj e d a with h|h <;> rw[h] <;> cases QW c (i:Int) sig <;> rfl
theorem QiD (d:SgOk c)(b:0≤sig∧sig≤(c.1.length:Int) - 1):Ku c (mOn c sig 49) (mOf c sig 49)=XF c sig QO:=by
 refine Qf9 (fun i a=> ?_) fun i a=> ?_ <;> simp only[mOn,mOf,wOn,wOf,QaT,if_true] <;> rcases Qnj d b a with h|h <;> rw[h] <;> cases QW c (i:Int) sig <;> rfl
theorem Qs6 [∀c,Decidable (SgOk c)](h:UF c sig)(e:Ku c f g=XF c sig way):QaP c f g=Qp c sig way∧decide (Yo c f g)=decide (Qv c sig way):=by
 have b:Yo c f g↔Yo c (wOn c sig way) (wOf c sig way):=by unfold Yo;rw[e];rfl
 unfold QaP Qp
 rw[e]
 by_cases a:Yo c f g
 ·rw[if_pos a,if_pos ⟨h,b.1 a⟩];exact ⟨rfl,bF.2 ⟨fun _=>⟨h,b.1 a⟩,fun _=>a⟩⟩
 ·rw[if_neg a,if_neg fun g2=>a (b.2 g2.2)];exact ⟨rfl,bF.2 ⟨fun g2=>absurd g2 a,fun g2=>b.2 g2.2⟩⟩
end
theorem JP (k:Int)(c:ZM)(sig:Int)(fr:UInt8)(i:SgOk c)(D:0≤sig∧sig≤(c.1.length:Int) - 1)(E:0≤k∧k<(c.2.1.length:Int)):FC Tryz.prog 209 [(false,[dI k]),(false,[.ptr 0 0]),(false,[.ptr 1 0]),(false,[.ptr 2 0])] [bx 0 28 [.dat Ql c.1,.dat Qb c.2.1,.dat QA c.2.2],bx 1 3 [dI sig],bx 2 5 [.dat .u8 fr]] 3 (Is (lB (mOn c sig fr k)) [bx 0 28 [.dat Ql c.1,.dat Qb c.2.1,.dat QA c.2.2],bx 1 3 [dI sig],bx 2 5 [.dat .u8 fr]]):=by
 have t:=i.some_
 have s:=i.few
 have C:=i.sigs.2.2
 refine Qj Tryz.func209 rfl rfl Tryz.ntmps209 fun A l z m B r p=> ?_
 refine acI 0 fun _=> ?_
 refine w3 ?_
 obtain ⟨w,h⟩:=gx c.2.1 ((k).toNat)
 have x:=h
 have y:=(i.codes _ (ae h)).2
 obtain ⟨u,j⟩:=gs w ((sig).toNat)
 have e:=QsC x j
 cases a:(decide (u=fr))
 have d:=aa a
 apply dW (i8 6 _ _ _ _ _ _ _ _ (io 14 (lB false)::i6 15 _ _ _ _ _ _ [io 5 _])) [0,0,3,0,0,31,0,127,0,0,0,1024,3072,0,0,0]
 refine z8 ?_
 refine zz (fun _ b=>ac (Q9 (a) (Q8 (b.v rfl) (b.v rfl) rfl)) rfl) ?_
 exact y7
 refine w_ ?_
 have n:(false:Bool)=(mOn c sig fr k):=by
  exact Qzl e ‹_›
 exact fi_ [] l ⟨rfl,rfl,rfl,trivial⟩ (h0:=by first|(rw[← n]<;>rfl)|rw[n])
 have d:=ab a
 apply dW (i8 6 _ _ _ _ _ _ _ _ (io 14 (lB true)::i4 15 _ _ _ _ [io 19 (lB (QW c k sig)),io 20 _,io 5 _])) [0,0,3,0,0,31,0,127,0,0,0,1024,3072,0,0,0]
 refine z8 ?_
 refine zz (fun _ b=>ac (Q9 (a) (Q8 (b.v rfl) (b.v rfl) rfl)) rfl) ?_
 refine z4 ?_
 refine zz (fun _ b=>day rfl (b.k rfl) (dK (Y4 c k sig) Ht) rfl) ?_
 exact y2
 refine w_ ?_
 have o:(QW c k sig:Bool)=(mOn c sig fr k):=by
  exact Qzm e ‹_›
 exact fi_ [] l ⟨rfl,rfl,rfl,trivial⟩ (h0:=by first|(rw[o]<;>rfl)|rw[←o])
theorem WV (k:Int)(c:ZM)(sig:Int)(fr:UInt8)(b:SgOk c)(A:0≤sig∧sig≤(c.1.length:Int) - 1)(B:0≤k∧k<(c.2.1.length:Int)):FC Tryz.prog 210 [(false,[dI k]),(false,[.ptr 0 0]),(false,[.ptr 1 0]),(false,[.ptr 2 0])] [bx 0 28 [.dat Ql c.1,.dat Qb c.2.1,.dat QA c.2.2],bx 1 3 [dI sig],bx 2 5 [.dat .u8 fr]] 3 (Is (lB (mOf c sig fr k)) [bx 0 28 [.dat Ql c.1,.dat Qb c.2.1,.dat QA c.2.2],bx 1 3 [dI sig],bx 2 5 [.dat .u8 fr]]):=by
 have p:=b.some_
 have o:=b.few
 have z:=b.sigs.2.2
 refine Qj Tryz.func210 rfl rfl Tryz.ntmps210 fun x n t i y m l=> ?_
 refine acI 0 fun _=> ?_
 refine w3 ?_
 obtain ⟨w,a⟩:=gx c.2.1 ((k).toNat)
 have r:=a
 have s:=(b.codes _ (ae a)).2
 obtain ⟨u,h⟩:=gs w ((sig).toNat)
 have e:=QsC r h
 apply dW (i9 6 _ _ _ _ _ _ _ _ _ (i3 15 _ _ _ [io 18 (lB (QW c k sig)),io 19 (lB (!((decide (u=fr))==(QW c k sig)))),io 5 _])) [0,0,3,0,0,31,0,127,0,511,1023,2047,511,0,0]
 refine z12 ?_
 refine zz (fun _ d=>ac (dK (Y4 c k sig) Ht) rfl) ?_
 refine zz (fun _ d=>ac (Z0 (d.v rfl) (d.v rfl) rfl Y7) rfl) ?_
 exact y1
 refine w_ ?_
 have j:(!((decide (u=fr))==(QW c k sig)):Bool)=(mOf c sig fr k):=by
  first|exact Qzk e
 exact fi_ [] n ⟨rfl,rfl,rfl,trivial⟩ (h0:=by first|(rw[j]<;>rfl)|rw[←j])
theorem Qgt (g:ZM)(c:ZM)(sig:Int)(fr:UInt8)(n:SgOk c)(y:0≤sig∧sig≤(c.1.length:Int) - 1)(m:g=c):FC Tryz.prog 195 [(true,[.dat Ql g.1,.dat Qb g.2.1,.dat QA g.2.2]),(false,[.clo 209 [0,1,2]]),(false,[.clo 210 [0,1,2]])] [bx 0 28 [.dat Ql c.1,.dat Qb c.2.1,.dat QA c.2.2],bx 1 3 [dI sig],bx 2 5 [.dat .u8 fr]] 3 (Is (PV.tup [(true,[.ref 3,.ref 4]),(false,[dB (decide (Yo c (mOn c sig fr) (mOf c sig fr)))])]) [bx 0 28 [.dat Ql c.1,.dat Qb c.2.1,.dat QA c.2.2],bx 1 3 [dI sig],bx 2 5 [.dat .u8 fr],ar 3 9 .str ((QaP c (mOn c sig fr) (mOf c sig fr)).1),ar 4 9 .str ((QaP c (mOn c sig fr) (mOf c sig fr)).2)]):=by
 have P:=n.some_
 have L:=n.few
 have U:=n.sigs.2.2
 have M:g.2.1.length=c.2.1.length:=by rw[m]
 have i:g.1.length=c.1.length:=by rw[m]
 refine Qj Tryz.func195 rfl rfl Tryz.ntmps195 fun S z R F T J I=> ?_
 refine w_ ?_
 refine xbx 3 ?_
 refine lc (xal 4 X9 YE) ?_
 refine w3 ?_
 refine lc (Qk JF rfl (au.1 rfl) rfl rfl)<|lc (xal 5 X9 YE) ?_
 refine w6 ?_
 refine alL 13 fun _=> ?_
 refine w4 ?_
 refine AC.wk (Qr 6 (p:=5) (off:=0) 9 .str rfl rfl (Fresh.of rfl) (nlr rfl))<|AC.wk (Qr 8 (p:=5) (off:=1) 9 .str rfl rfl (Fresh.of rfl) (nlr rfl)) ?_
 refine Qu (fun D E=>∃(k:Nat) (b:List ByteArray) (a:List ByteArray),k≤g.2.1.length∧D=g.2.1.length - k∧(b=pkL c (mOn c sig fr) k)∧(a=pkL c (mOf c sig fr) k)∧E=⟨[(1,lf (.clo 209 [0,1,2])),(2,lf (.clo 210 [0,1,2])),(3,lP 3 0),(6,lP 4 0),(7,lB false),(8,lP 5 0),(13,lf (.dat Qb g.2.1)),(14,lI (g.2.1.length:Int)),(15,lI (k:Int))],[bx 0 28 [.dat Ql c.1,.dat Qb c.2.1,.dat QA c.2.2],bx 1 3 [dI sig],bx 2 5 [.dat .u8 fr],bx 3 28 [.dat Ql g.1,.dat Qb g.2.1,.dat QA g.2.2],bx 4 98 [.val (.slice none 0 0),.val (.slice none 0 0)],bx 5 98 [.ref 7,.ref 9],ar 7 9 .str b,ar 9 9 .str a]⟩) ⟨0,([]:(Qb:Ty).Den),([]:(Qb:Ty).Den),aL _,rfl,rfl,rfl,rfl⟩ ?_ ?_
 exact wp [(7,6),(9,8)] ⟨rfl,rfl,rfl,rfl,rfl,rfl,(Qm (by first|rfl|simp)),(Qm (by first|rfl|simp)),trivial⟩
 rintro D E ⟨k,b,a,N,O,d,h,rfl⟩
 have Q:b.length≤k:=by rw[d];exact Qf0
 have K:a.length≤k:=by rw[h];exact Qf0
 refine w4 ?_
 cases o:(decide ((k:Int)<(g.2.1.length:Int)))
 have r:=aa o
 refine w6 ?_
 refine lc (dP 10 [(0,7)] (JQ b (by omega)) VS) ?_
 refine w4 ?_
 refine lc (dP 11 [(0,9)] (JQ a (by omega)) VS) ?_
 refine w_ ?_
 apply dW (i2 45 _ _ [⟨some 47,lR 12,[ar 12 9 .str (Zp (Zd b)),(7,none)]⟩,io 48 (lP 5 1),io 49 (lR 9),⟨some 50,lR 13,[ar 13 9 .str (Zp (Zd a)),(9,none)]⟩,io 51 (lP 5 0),⟨none,lf (.val undef),[bx 5 98 [.ref 12,.ref 9]]⟩,io 52 _,⟨none,lf (.val undef),[bx 5 98 [.ref 12,.ref 13]]⟩]) [0,0,0,7,7,0,32,0,0,0]
 refine z2 ?_
 refine zz (fun _ j=>ac (dP 12 [(0,7)] (Za (Zd b) (by rw[Z8];omega)) VT) rfl) ?_
 refine z2 ?_
 refine zz (fun _ j=>ac (dP 13 [(0,9)] (Za (Zd a) (by rw[Z8];omega)) VT) rfl) ?_
 refine z_ ?_
 refine zz (fun _ j=>ac (ZA (j.v rfl) (j.en 5 rfl) (j.w rfl) (by simp only[Zj,Kq,bt,bW];rw[(j.en 12 rfl)];rfl) QaS rfl) rfl) ?_
 refine z_ ?_
 refine zz (fun _ j=>ac (ZA (j.v rfl) (j.en 5 rfl) (j.w rfl) (by simp only[Zj,Kq,bt,bW];rw[(j.en 13 rfl)];rfl) QaS rfl) rfl) ?_
 exact zN
 refine w4 ?_
 refine alL 54 fun _=> ?_
 refine w5 ?_
 refine lc (dB_ (Xk (g.1.length:Int) (Zp (Zd b)) (Zp (Zd a))) Qao) ?_
 refine w2 ?_
 cases s:(decide (OOk (g.1.length:Int) (Zp (Zd b)) (Zp (Zd a))))
 have t:=aa s
 refine w2 ?_
 refine lc (Qk JF rfl (au.1 rfl) rfl rfl) ?_
 refine w3 ?_
 refine AC.wk (Qr 14 (p:=4) (off:=0) 9 .str rfl rfl (Fresh.of rfl) (nlr rfl))<|AC.wk (Qr 15 (p:=4) (off:=1) 9 .str rfl rfl (Fresh.of rfl) (nlr rfl))<|Qe ?_
 have G:(false:Bool)=(decide (Yo c (mOn c sig fr) (mOf c sig fr))):=by
  exact (ay (QhE ‹_› i d h (by omega) (by omega))).symm
 exact fi_ [(3,14),(4,15)] z ⟨rfl,rfl,rfl,(Qm (by (rw[QiO (QhE ‹_› i d h (by omega) (by omega))];done))),(Qm (by (rw[QiO (QhE ‹_› i d h (by omega) (by omega))];done))),trivial⟩ (h0:=by first|(rw[← G]<;>rfl)|rw[G])
 have t:=ab s
 refine w8 ?_
 have H:(true:Bool)=(decide (Yo c (mOn c sig fr) (mOf c sig fr))):=by
  exact (aN (QhF ‹_› i d h (by omega) (by omega))).symm
 exact fi_ [(3,12),(4,13)] z ⟨rfl,rfl,rfl,(Qm (by exact QzY (QhF ‹_› i d h (by omega) (by omega)) d (by omega) (by omega))),(Qm (by exact QzZ (QhF ‹_› i d h (by omega) (by omega)) h (by omega) (by omega))),trivial⟩ (h0:=by first|(rw[← H]<;>rfl)|rw[H])
 have r:=ab o
 refine w6 ?_
 obtain ⟨w,x⟩:=gx g.2.1 k
 have l:c.2.1[k]? =some w:=by rw[← m];exact x
 refine w9 ?_
 refine lc (Q3 (args0:=[(false,[dI (k:Int)])]) (caps:=[0,1,2]) 16 [(0,0),(1,1),(2,2)] (JP (k:Int) c sig fr n y (by omega)) QlC rfl (Qa rfl) rfl rfl ⟨_,_,rfl,(Qn rfl),rfl⟩ ⟨rfl,rfl,rfl,trivial⟩ rfl ⟨trivial,trivial,trivial,trivial⟩ (nlr rfl)) ?_
 refine w_ ?_
 cases A:(mOn c sig fr (k:Int))
 refine w5 ?_
 refine lc (Q3 (args0:=[(false,[dI (k:Int)])]) (caps:=[0,1,2]) 19 [(0,0),(1,1),(2,2)] (WV (k:Int) c sig fr n y (by omega)) QeZ rfl (Qa rfl) rfl rfl ⟨_,_,rfl,(Qn rfl),rfl⟩ ⟨rfl,rfl,rfl,trivial⟩ rfl ⟨trivial,trivial,trivial,trivial⟩ (nlr rfl)) ?_
 refine w_ ?_
 cases B:(mOf c sig fr (k:Int))
 refine w6 ?_
 refine Qd<|QV ⟨k+1,b,a,by omega,rfl,(by rw[d];first|exact QcC l ‹_› | exact QcB ‹_›),(by rw[h];first|exact QcC l ‹_› | exact QcB ‹_›),rfl⟩ (by omega) ?_
 exact wo []
 refine w5 ?_
 refine lc (dBs 22 (e:= .str) Z3) ?_
 refine lc (dA 23 YW) ?_
 refine w2 ?_
 refine Qd ?_
 refine w4 ?_
 refine Qd<|QV ⟨k+1,b,(a++([w])),by omega,rfl,(by rw[d];first|exact QcC l ‹_› | exact QcB ‹_›),(by rw[h];first|exact QcC l ‹_› | exact QcB ‹_›),rfl⟩ (by omega) ?_
 exact wp [(9,23)] ⟨rfl,rfl,rfl,rfl,rfl,rfl,rfl,(Qm (by first|rfl|simp)),trivial⟩
 refine w5 ?_
 refine lc (dBs 24 (e:= .str) Z3) ?_
 refine lc (dA 25 YW) ?_
 refine w6 ?_
 refine lc (Q3 (args0:=[(false,[dI (k:Int)])]) (caps:=[0,1,2]) 26 [(0,0),(1,1),(2,2)] (WV (k:Int) c sig fr n y (by omega)) QeZ rfl (Qa rfl) rfl rfl ⟨_,_,rfl,(Qn rfl),rfl⟩ ⟨rfl,rfl,rfl,trivial⟩ rfl ⟨trivial,trivial,trivial,trivial⟩ (nlr rfl)) ?_
 refine w_ ?_
 cases C:(mOf c sig fr (k:Int))
 refine w6 ?_
 refine Qd<|QV ⟨k+1,(b++([w])),a,by omega,rfl,(by rw[d];first|exact QcC l ‹_› | exact QcB ‹_›),(by rw[h];first|exact QcC l ‹_› | exact QcB ‹_›),rfl⟩ (by omega) ?_
 exact wp [(7,25)] ⟨rfl,rfl,rfl,rfl,rfl,rfl,(Qm (by first|rfl|simp)),rfl,trivial⟩
 refine w5 ?_
 refine lc (dBs 29 (e:= .str) Z3) ?_
 refine lc (dA 30 YW) ?_
 refine w2 ?_
 refine Qd ?_
 refine w4 ?_
 refine Qd<|QV ⟨k+1,(b++([w])),(a++([w])),by omega,rfl,(by rw[d];first|exact QcC l ‹_› | exact QcB ‹_›),(by rw[h];first|exact QcC l ‹_› | exact QcB ‹_›),rfl⟩ (by omega) ?_
 exact wp [(7,25),(9,30)] ⟨rfl,rfl,rfl,rfl,rfl,rfl,(Qm (by first|rfl|simp)),(Qm (by first|rfl|simp)),trivial⟩
theorem V2 (c:ZM)(sig:Int)(fr:UInt8)[∀c,Decidable (SgOk c)]:FC Tryz.prog 135 [(true,[.dat Ql c.1,.dat Qb c.2.1,.dat QA c.2.2]),(false,[dI sig]),(false,[.dat .u8 fr])] [] 0 (Is (PV.tup [(true,[.ref 0,.ref 1]),(false,[dB (decide (UF c sig∧Yo c (mOn c sig fr) (mOf c sig fr)))])]) [ar 0 9 .str ((if UF c sig then QaP c (mOn c sig fr) (mOf c sig fr) else ([],[])).1),ar 1 9 .str ((if UF c sig then QaP c (mOn c sig fr) (mOf c sig fr) else ([],[])).2)]):=by
 refine Qj Tryz.func135 rfl rfl Tryz.ntmps135 fun n d m e o l j=> ?_
 refine acI 1 fun _=> ?_
 refine w_ ?_
 refine xbx 0 ?_
 refine xbx 1 ?_
 refine xbx 2 ?_
 refine lc (xal 3 X9 YE) ?_
 refine w6 ?_
 refine lc (dK (U8 c sig) QeV) ?_
 refine w2 ?_
 cases a:(decide (SgOk c∧(0≤sig∧sig≤(c.1.length:Int) - 1)∧XN c sig=false))
 have b:=aa a
 refine w2 ?_
 refine lc (Qk JF rfl (au.1 rfl) rfl rfl) ?_
 refine w3 ?_
 refine AC.wk (Qr 4 (p:=3) (off:=0) 9 .str rfl rfl (Fresh.of rfl) (nlr rfl))<|AC.wk (Qr 5 (p:=3) (off:=1) 9 .str rfl rfl (Fresh.of rfl) (nlr rfl))<|Qe ?_
 have h:(false:Bool)=(decide (UF c sig∧Yo c (mOn c sig fr) (mOf c sig fr))):=by
  exact (ay fun g=>absurd g.1 ‹_›).symm
 exact fi_ [(0,4),(1,5)] d ⟨(Qm (by (rw[if_neg ‹_›];done))),(Qm (by (rw[if_neg ‹_›];done))),trivial⟩ (h0:=by first|(rw[← h]<;>rfl)|rw[h])
 have b:=ab a
 refine w3 ?_
 refine lc (Q1 ⟨_,_,rfl,(Qa rfl),rfl,⟨_,_,rfl,(Qa rfl),rfl,⟨_,_,rfl,(Qa rfl),rfl,rfl⟩⟩⟩ rfl) ?_
 refine w3 ?_
 refine lc (Q1 ⟨_,_,rfl,(Qa rfl),rfl,⟨_,_,rfl,(Qa rfl),rfl,⟨_,_,rfl,(Qa rfl),rfl,rfl⟩⟩⟩ rfl) ?_
 refine w6 ?_
 refine lc (dP 6 [] (Qgt c c sig fr (by assumption:UF c sig).1 (by assumption:UF c sig).2.1 rfl) QeW) ?_
 refine w6 ?_
 have i:(decide (Yo c (mOn c sig fr) (mOf c sig fr)):Bool)=(decide (UF c sig∧Yo c (mOn c sig fr) (mOf c sig fr))):=by
  exact bF.2 ⟨fun g=>⟨by assumption,g⟩,fun g=>g.2⟩
 exact fi_ [(0,9),(1,10)] d ⟨(Qm (by (rw[if_pos ‹_›];done))),(Qm (by (rw[if_pos ‹_›];done))),trivial⟩ (h0:=by first|(rw[i]<;>rfl)|rw[←i])
theorem Qcw [∀c,Decidable (SgOk c)]{c:DSg}{f g:Int→Bool}{sig:Int}{way:ByteArray}(e:SgOk c→0≤sig∧sig≤(c.1.length:Int) - 1→Ku c f g=XF c sig way):(if UF c sig then QaP c f g else ([],[]))=Qp c sig way∧decide (UF c sig∧Yo c f g)=decide (Qv c sig way):=by
 by_cases h:UF c sig
 ·obtain ⟨a,b⟩:=Qs6 h (e h.1 h.2.1)
  rw[if_pos h,a,← b]
  exact ⟨rfl,bF.2 ⟨fun g=>g.2,fun g=>⟨h,g⟩⟩⟩
 ·rw[if_neg h,Qgg (Qc0 h),ay fun g=>h g.1,ay (Qc0 h)];exact ⟨rfl,rfl⟩
theorem U6 (c:ZM)(sig:Int)[∀c,Decidable (SgOk c)]:FC Tryz.prog 55 [(true,[.dat Ql c.1,.dat Qb c.2.1,.dat QA c.2.2]),(false,[dI sig])] [] 0 (Is (PV.tup [(true,[.ref 0,.ref 1]),(false,[dB (decide (Qv c sig upT))])]) [ar 0 9 .str ((Qp c sig upT).1),ar 1 9 .str ((Qp c sig upT).2)]):=by
 refine Qj Tryz.func55 rfl rfl Tryz.ntmps55 fun m j l d n i h=> ?_
 refine acI 1 fun _=> ?_
 refine w_ ?_
 refine xbx 0 ?_
 refine lc (xal 1 X9 YE) ?_
 refine w5 ?_
 refine lc (Qad 2 (V2 c sig 48) QeL ⟨_,_,rfl,(Qn rfl),⟨_,_,rfl,(Qn rfl),⟨_,_,rfl,(Evl.ev (QJ 48 rfl)),rfl⟩⟩⟩ rfl rfl ⟨Fresh.of rfl,Fresh.of rfl,trivial⟩ (nlr rfl)) ?_
 refine w6 ?_
 have e:(decide (UF c sig∧Yo c (mOn c sig 48) (mOf c sig 48)):Bool)=(decide (Qv c sig upT)):=by
  exact (Qcw fun a b=>QiF a b).2
 exact fi_ [(0,2),(1,3)] j ⟨(Qm (by exact congrArg Prod.fst (Qcw fun a b=>QiF a b).1)),(Qm (by exact congrArg Prod.snd (Qcw fun a b=>QiF a b).1)),trivial⟩ (h0:=by first|(rw[e]<;>rfl)|rw[←e])
theorem Ke (c:ZM)(sig:Int)[∀c,Decidable (SgOk c)]:FC Tryz.prog 132 [(true,[.dat Ql c.1,.dat Qb c.2.1,.dat QA c.2.2]),(false,[dI sig])] [] 0 (QK (PV.tup [(true,[.dat Qb ((Qp c sig upT).1),.dat Qb ((Qp c sig upT).2)]),(false,[dB (decide (Qv c sig upT))])])):=by
 refine Qj Tryz.func132 rfl rfl Tryz.ntmps132 fun n l m a o j i=> ?_
 refine acI 1 fun _=> ?_
 refine w_ ?_
 refine xbx 0 ?_
 refine lc (xal 1 X9 YE) ?_
 refine w5 ?_
 refine lc (dK (Vc c sig (⟨#[117,112]⟩:ByteArray)) Qaq) ?_
 refine w6 ?_
 have b:((Qp c sig (⟨#[117,112]⟩:ByteArray)).1:(Qb:Ty).Den)=((Qp c sig upT).1):=by
  rfl
 have d:((Qp c sig (⟨#[117,112]⟩:ByteArray)).2:(Qb:Ty).Den)=((Qp c sig upT).2):=by
  rfl
 have h:(decide (Qv c sig (⟨#[117,112]⟩:ByteArray)):Bool)=(decide (Qv c sig upT)):=by
  rfl
 exact fr_ l (e:=by first|(rw[b,d,h]<;>rfl)|rw[←b,←d,←h])
theorem Um (c:ZM)(sig:Int)[∀c,Decidable (SgOk c)]:FC Tryz.prog 56 [(true,[.dat Ql c.1,.dat Qb c.2.1,.dat QA c.2.2]),(false,[dI sig])] [] 0 (Is (PV.tup [(true,[.ref 0,.ref 1]),(false,[dB (decide (Qv c sig QO))])]) [ar 0 9 .str ((Qp c sig QO).1),ar 1 9 .str ((Qp c sig QO).2)]):=by
 refine Qj Tryz.func56 rfl rfl Tryz.ntmps56 fun m j l d n i h=> ?_
 refine acI 1 fun _=> ?_
 refine w_ ?_
 refine xbx 0 ?_
 refine lc (xal 1 X9 YE) ?_
 refine w5 ?_
 refine lc (Qad 2 (V2 c sig 49) QeL ⟨_,_,rfl,(Qn rfl),⟨_,_,rfl,(Qn rfl),⟨_,_,rfl,(Evl.ev (QJ 49 rfl)),rfl⟩⟩⟩ rfl rfl ⟨Fresh.of rfl,Fresh.of rfl,trivial⟩ (nlr rfl)) ?_
 refine w6 ?_
 have e:(decide (UF c sig∧Yo c (mOn c sig 49) (mOf c sig 49)):Bool)=(decide (Qv c sig QO)):=by
  exact (Qcw fun a b=>QiD a b).2
 exact fi_ [(0,2),(1,3)] j ⟨(Qm (by exact congrArg Prod.fst (Qcw fun a b=>QiD a b).1)),(Qm (by exact congrArg Prod.snd (Qcw fun a b=>QiD a b).1)),trivial⟩ (h0:=by first|(rw[e]<;>rfl)|rw[←e])
theorem Uo (c:ZM)(sig:Int)[∀c,Decidable (SgOk c)]:FC Tryz.prog 134 [(true,[.dat Ql c.1,.dat Qb c.2.1,.dat QA c.2.2]),(false,[dI sig])] [] 0 (QK (PV.tup [(true,[.dat Qb ((Qp c sig QO).1),.dat Qb ((Qp c sig QO).2)]),(false,[dB (decide (Qv c sig QO))])])):=by
 refine Qj Tryz.func134 rfl rfl Tryz.ntmps134 fun n l m a o j i=> ?_
 refine acI 1 fun _=> ?_
 refine w_ ?_
 refine xbx 0 ?_
 refine lc (xal 1 X9 YE) ?_
 refine w5 ?_
 refine lc (dK (Vc c sig (⟨#[100,111,119,110]⟩:ByteArray)) Qaq) ?_
 refine w6 ?_
 have b:((Qp c sig (⟨#[100,111,119,110]⟩:ByteArray)).1:(Qb:Ty).Den)=((Qp c sig QO).1):=by
  rfl
 have d:((Qp c sig (⟨#[100,111,119,110]⟩:ByteArray)).2:(Qb:Ty).Den)=((Qp c sig QO).2):=by
  rfl
 have h:(decide (Qv c sig (⟨#[100,111,119,110]⟩:ByteArray)):Bool)=(decide (Qv c sig QO)):=by
  rfl
 exact fr_ l (e:=by first|(rw[b,d,h]<;>rfl)|rw[←b,←d,←h])
def UJ (cube:ByteArray)(codes:List ByteArray):Bool:=codes.any fun c=>QZ cube c
def Qdp (cube:ByteArray)(off:List ByteArray)(i:Nat):Bool:=decide (bAt cube (i:Int)=45)||UJ (Kt cube (i:Int) ⟨#[45]⟩) off
def Qdq (cube:ByteArray)(off:List ByteArray):Bool:=(List.range cube.size).all (Qdp cube off)
def prB (on off:List ByteArray)(x:ByteArray):Bool:=UJ x on&&(!(UJ x off)&&Qdq x off)
def cuF (c:ByteArray):List ByteArray:=[c++⟨#[45]⟩,c++⟨#[48]⟩,c++⟨#[49]⟩]
def Zx:Nat→List ByteArray
 | 0=>[⟨#[]⟩]
 | n+1=>(Zx n).flatMap cuF
def Q2 (n:Int)(on off:List ByteArray):List ByteArray:=(Zx n.toNat).filter (prB on off)
def QcY (n:Int)(on off:List ByteArray)(k:Nat):List ByteArray:=((Zx n.toNat).take k).filter (prB on off)
section
variable {n m:Int}{k j:Nat}{c x cube:ByteArray}{l on off codes:List ByteArray}{u:UInt8}
theorem QkY:(l.flatMap cuF).length=3*l.length:=by
 induction l with
 | nil=>rfl
 | cons x l a=>rw[List.flatMap_cons,ah,a,av];show 3+_=_;omega
theorem QkZ {n:Nat}:(Zx n).length=3 ^ n:=by
 induction n with
 | zero=>rfl
 | succ n a=>rw[Zx,QkY,a,Nat.pow_succ];omega
theorem KJ {n:Nat}(h:n≤8):(Zx n).length≤6561:=by rw[QkZ];exact Nat.pow_le_pow_right (by decide) h
theorem Qny (a:l[k]? =some x):(l.take k).flatMap cuF++[x++⟨#[45]⟩,x++⟨#[48]⟩,x++⟨#[49]⟩]=(l.take (k+1)).flatMap cuF:=by
 rw[QE a,cB];simp[cuF]
theorem Qrt {n:Nat}(h:(Zx n).length≤j):((Zx n).take j).flatMap cuF=Zx (n+1):=by rw[aP h];rfl
theorem Xg:∀{n:Nat} {x:ByteArray},x∈Zx n→x.size=n
 | 0,x,h=>by rw[Zx,aF] at h;subst h;rfl
 | n+1,x,h=>by
  rw[Zx,cp] at h
  obtain ⟨c,a,h⟩:=h
  have:=Xg a
  simp only[cuF,aJ,bN,or_false] at h
  rcases h with rfl|rfl|rfl <;> rw[ax,this] <;> rfl
theorem QsR (d:k<cube.size)(e:cube[((k:Int)).toNat]? =some u)(a:¬u=45)(b:UJ (Kt cube (k:Int) ⟨#[45]⟩) off=false):false=Qdq cube off:=by
 symm;unfold Qdq;rw[List.all_eq_false]
 exact ⟨k,bH.2 d,by unfold Qdp;rw[QY e,b];simp[a]⟩
theorem Qoo (a:∀j,j<k→Qdp cube off j=true)(d:cube.size≤k):true=Qdq cube off:=by
 symm;unfold Qdq;rw[au]
 exact fun j b=>a j (ba (bH.1 b) d)
theorem QbH (a:∀j,j<k→Qdp cube off j=true)(h:Qdp cube off k=true):∀j,j<k+1→Qdp cube off j=true:=fun j b=>by
 by_cases e:j=k
 ·subst e;exact h
 ·exact a j (by omega)
theorem Qon (a:cube[((k:Int)).toNat]? =some u)(h:u=45):Qdp cube off k=true:=by unfold Qdp;rw[QY a,h];rfl
theorem Qom (h:UJ (Kt cube (k:Int) ⟨#[45]⟩) off=true):Qdp cube off k=true:=by unfold Qdp;rw[h];simp
theorem QoD (b:(k:Int)<(cube.size:Int))(h:∀c∈off,cube.size≤c.size):∀c∈off,(Kt cube (k:Int) ⟨#[45]⟩).size≤c.size:=fun c a=>by
 rw[QcE (by omega) (by omega) rfl];exact h c a
theorem Qd3 (a:(Zx n.toNat)[k]? =some x)(h:prB on off x=true):QcY n on off k++[x]=QcY n on off (k+1):=Qik a h
theorem XU (a:(Zx n.toNat)[k]? =some x)(h:prB on off x=false):QcY n on off k=QcY n on off (k+1):=Qmo a h
theorem Qvq (h:n≤8):(QcY n on off k).length≤6561:=bh (cq ..) (bh (List.length_take_le' ..) (KJ (by omega)))
theorem QpX (h:(Zx n.toNat).length≤k):QcY n on off k=Q2 n on off:=by unfold QcY Q2;rw[aP h]
theorem Qvp (a:UJ x on=true)(b:UJ x off=false)(d:Qdq x off=true):prB on off x=true:=by unfold prB;rw[a,b,d];rfl
theorem Qkf (a:UJ x on=false):prB on off x=false:=by unfold prB;rw[a];rfl
theorem Qkg (a:UJ x off=true):prB on off x=false:=by unfold prB;rw[a];simp
theorem Qoi (a:Qdq x off=false):prB on off x=false:=by unfold prB;rw[a];simp
end
theorem Qce (code:ByteArray)(cube:ByteArray)(f:cube.size≤code.size):FC Tryz.prog 268 [(false,[dS code]),(false,[.ptr 0 0])] [bx 0 9 [dS cube]] 1 (Is (lB (QZ cube code)) [bx 0 9 [dS cube]]):=by
 refine Qj Tryz.func268 rfl rfl Tryz.ntmps268 fun h e g a i d b=> ?_
 refine w6 ?_
 refine lc (dK (Xy cube code f) KO) ?_
 refine w3 ?_
 exact fi_ [] e ⟨rfl,trivial⟩
theorem U1 (l:List ByteArray)(cube:ByteArray)(s:∀c∈l,cube.size≤c.size):FC Tryz.prog 223 [(false,[.dat Qb l]),(false,[.clo 268 [0]])] [bx 0 9 [dS cube]] 1 (Is (lI (Zf (fun c=>QZ cube c) l)) [bx 0 9 [dS cube]]):=by
 refine Qj Tryz.func223 rfl rfl Tryz.ntmps223 fun v g t h w q p=> ?_
 refine w6 ?_
 refine alL 6 fun _=> ?_
 refine w4 ?_
 refine lpK l.length (fun k=>NoneTo (fun c=>QZ cube c) l k) (fun k=>⟨[(0,lf (.dat Qb l)),(1,lf (.clo 268 [0])),(7,lI (l.length:Int)),(8,lI (k:Int))],[bx 0 9 [dS cube]]⟩) (NoneTo.zero) ?_ fun k _ a=> ?_
 exact wo []
 refine w4 ?_
 cases d:(decide ((k:Int)<(l.length:Int)))
 have e:=aa d
 refine w7 ?_
 have i:((-1):Int)=(Zf (fun c=>QZ cube c) l):=by
  first|exact (a.no (by omega)).symm
 exact fi_ [] g ⟨rfl,trivial⟩ (h0:=by first|(rw[← i]<;>rfl)|rw[i])
 have e:=ab d
 refine w12 ?_
 obtain ⟨f,b⟩:=gx l k
 refine w2 ?_
 refine lc (Q3 (args0:=[(false,[dS f])]) (caps:=[0]) 1 [(0,0)] (Qce f cube (s _ (ae b))) QlV rfl (Qa rfl) rfl rfl ⟨_,_,rfl,(Qn rfl),rfl⟩ ⟨rfl,trivial⟩ rfl ⟨trivial,trivial⟩ (nlr rfl)) ?_
 refine w_ ?_
 cases r:(QZ cube f)
 refine w6 ?_
 refine Qd ?_
 refine lK_ (a.step b ‹_›) ?_
 exact wo []
 refine w6 ?_
 have o:((k:Int):Int)=(Zf (fun c=>QZ cube c) l):=by
  exact (a.at b ‹_›).symm
 exact fi_ [] g ⟨rfl,trivial⟩ (h0:=by first|(rw[o]<;>rfl)|rw[←o])
theorem VV (l:List ByteArray)(cube:ByteArray)(g:∀c∈l,cube.size≤c.size):FC Tryz.prog 142 [(false,[.dat Qb l]),(false,[.clo 268 [0]])] [bx 0 9 [dS cube]] 1 (Is (lB (l.any (fun c=>QZ cube c))) [bx 0 9 [dS cube]]):=by
 refine Qj Tryz.func142 rfl rfl Tryz.ntmps142 fun i f h a o e d=> ?_
 refine w6 ?_
 refine lc (dP 1 [] (U1 l cube g) WB) ?_
 refine w4 ?_
 have b:(decide (0≤(Zf (fun c=>QZ cube c) l)):Bool)=(l.any (fun c=>QZ cube c)):=by
  exact Xm _ _
 exact fi_ [] f ⟨rfl,trivial⟩ (h0:=by first|(rw[b]<;>rfl)|rw[←b])
theorem VZ (cube:ByteArray)(codes:List ByteArray)(a:∀c∈codes,cube.size≤c.size):FC Tryz.prog 214 [(false,[dS cube]),(false,[.dat Qb codes])] [] 0 (QK (lB (!(UJ cube codes)))):=by
 refine Qj Tryz.func214 rfl rfl Tryz.ntmps214 fun h f g b i e d=> ?_
 refine w_ ?_
 refine xbx 0 ?_
 refine w4 ?_
 refine lc (Q1 ⟨_,_,rfl,(Qa rfl),rfl,rfl⟩ rfl) ?_
 refine lc (dP 1 [] (VV codes cube a) KL) ?_
 refine w3 ?_
 refine Qe<|fqB f ?_
 rfl
theorem V7 (cube:ByteArray)(codes:List ByteArray)(f:∀c∈codes,cube.size≤c.size):FC Tryz.prog 310 [(false,[dS cube]),(false,[.dat Qb codes])] [] 0 (QK (lB (UJ cube codes))):=by
 refine Qj Tryz.func310 rfl rfl Tryz.ntmps310 fun s g r i t p o=> ?_
 refine w6 ?_
 refine alL 7 fun _=> ?_
 refine w4 ?_
 refine lpK codes.length (fun k=>NoneTo (fun c=>QZ cube c) codes k) (fun k=>⟨[(0,lf (dS cube)),(7,lf (.dat Qb codes)),(8,lI (codes.length:Int)),(9,lI (k:Int))],[]⟩) (NoneTo.zero) ?_ fun k _ e=> ?_
 exact wo []
 refine w4 ?_
 cases b:(decide ((k:Int)<(codes.length:Int)))
 have d:=aa b
 refine w6 ?_
 refine Qe<|fqB g ?_
 first|exact (e.any_no (by omega)).symm
 have d:=ab b
 refine w5 ?_
 obtain ⟨h,a⟩:=gx codes k
 refine w7 ?_
 refine lc (dK (V5 cube h (f _ (ae a))) Qau) ?_
 refine w_ ?_
 cases q:(QZ cube h)
 refine w6 ?_
 refine Qd ?_
 refine lK_ (e.step a ‹_›) ?_
 exact wo []
 refine w4 ?_
 refine Qe<|fqB g ?_
 exact (bu.2 ⟨_,ae a,by assumption⟩).symm
theorem Qc9 (cube:ByteArray)(off:List ByteArray)(i:∀c∈off,cube.size≤c.size)(B:cube.size≤1000):FC Tryz.prog 215 [(false,[dS cube]),(false,[.dat Qb off])] [] 0 (QK (lB (Qdq cube off))):=by
 refine Qj Tryz.func215 rfl rfl Tryz.ntmps215 fun z o y p A r q=> ?_
 refine w6 ?_
 refine alS 6 fun _=> ?_
 refine lc (Q5 (Qa rfl) rfl Zo) ?_
 refine w3 ?_
 refine lpK cube.size (fun k=>∀j,j<k→Qdp cube off j=true) (fun k=>⟨[(0,lf (dS cube)),(1,lf (.dat Qb off)),(7,lI (cube.size:Int)),(8,lI (k:Int))],[]⟩) ((fun j w=>absurd w (aV j))) ?_ fun k _ g=> ?_
 exact wo []
 refine w4 ?_
 cases d:(decide ((k:Int)<(cube.size:Int)))
 have e:=aa d
 refine w6 ?_
 refine Qe<|fqB o ?_
 exact Qoo g (by omega)
 have e:=ab d
 refine w8 ?_
 obtain ⟨c4,t⟩:=gs cube (((k:Int)).toNat)
 cases b:(!decide (c4=45))
 have f:(c4=45):=Qz b
 apply dW (i3 11 _ _ _ (io 14 (lB false)::i9 15 _ _ _ _ _ _ _ _ _ (i4 24 _ _ _ _ []))) [0,1,0,0,0,0,32,0,0,480,992,992,480,0,16352,0,0]
 refine z3 ?_
 refine zz (fun _ a=>ac (Q9 (J2 (QbF b)) (QP (a.v rfl) (QJ 45 rfl) rfl)) rfl) ?_
 exact y13
 refine w6 ?_
 refine Qd ?_
 refine lK_ ((QbH g (by first|exact Qon ‹_› ‹_› | exact Qom ‹_›))) ?_
 exact wo []
 have f:¬(c4=45):=QG b
 apply dW (i3 11 _ _ _ (io 14 (lB true)::i3 15 _ _ _ (io 18 (lf (dS (cube.extract 0 ((k:Int)).toNat)))::io 19 (lf (dS ((cube.extract 0 ((k:Int)).toNat)++(⟨#[45]⟩:ByteArray))))::i3 20 _ _ _ [io 23 (lf (dS (cube.extract ((k:Int)+1).toNat cube.size))),io 24 (lf (dS (((cube.extract 0 ((k:Int)).toNat)++(⟨#[45]⟩:ByteArray))++(cube.extract ((k:Int)+1).toNat cube.size)))),io 25 _,io 26 (lB (!(UJ (((cube.extract 0 ((k:Int)).toNat)++(⟨#[45]⟩:ByteArray))++(cube.extract ((k:Int)+1).toNat cube.size)) off))),io 27 _]))) [0,1,0,0,0,0,32,0,0,480,992,992,480,0,16352,0,0]
 refine z3 ?_
 refine zz (fun _ a=>ac (Q9 (J2 (QbF b)) (QP (a.v rfl) (QJ 45 rfl) rfl)) rfl) ?_
 refine z3 ?_
 refine zz (fun _ a=>day rfl (a.k rfl) (show Does _ _ _ _ (St.put _ 18 (lf (dS (cube.extract 0 ((k:Int)).toNat)))) from Zb (l:=none) (h:=(some (k:Int))) (a.v rfl) (by exact trivial) (by exact (a.v rfl)) Zo rfl (by first|omega|(simp only[ak,aj];omega)) (by first|omega|(simp only[ak,aj];omega)) (by first|omega|(simp only[ak,aj];omega))) rfl)<|zz (fun _ a=>day rfl (a.k rfl) (Qw (a.v rfl) (Evl.str rfl) rfl (by first|omega|(simp only[ax,aT,Q4];omega))) rfl) ?_
 refine z3 ?_
 refine zz (fun _ a=>day rfl (a.k rfl) (show Does _ _ _ _ (St.put _ 23 (lf (dS (cube.extract ((k:Int)+1).toNat cube.size)))) from Zb (l:=(some ((k:Int)+1))) (h:=none) (a.v rfl) (by exact (a.v rfl)) (by exact trivial) Zo rfl (by first|omega|(simp only[ak,aj];omega)) (by first|omega|(simp only[ak,aj];omega)) (by first|omega|(simp only[ak,aj];omega))) rfl)<|zz (fun _ a=>day rfl (a.k rfl) (Qw (a.v rfl) (a.v rfl) rfl (by first|omega|(simp only[ax,aT,Q4];omega))) rfl) ?_
 refine z_ ?_
 refine zz (fun _ a=>day rfl (a.k rfl) (dK (VZ (((cube.extract 0 ((k:Int)).toNat)++(⟨#[45]⟩:ByteArray))++(cube.extract ((k:Int)+1).toNat cube.size)) off (QoD (k:=k) (by omega) i)) Qar) rfl) ?_
 exact y1
 cases s:(UJ (((cube.extract 0 ((k:Int)).toNat)++(⟨#[45]⟩:ByteArray))++(cube.extract ((k:Int)+1).toNat cube.size)) off)
 refine w4 ?_
 refine Qe<|fqB o ?_
 exact QsR (k:=k) (by omega) ‹_› ‹_› ‹_›
 refine w6 ?_
 refine Qd ?_
 refine lK_ ((QbH g (by first|exact Qon ‹_› ‹_› | exact Qom ‹_›))) ?_
 exact wo []
theorem Qck (cube:ByteArray)(off:List ByteArray)(g:∀c∈off,cube.size≤c.size)(y:cube.size≤1000):FC Tryz.prog 311 [(false,[dS cube]),(false,[.dat Qb off])] [] 0 (QK (lB (Qdq cube off))):=by
 refine Qj Tryz.func311 rfl rfl Tryz.ntmps311 fun v h t i w p o=> ?_
 refine w8 ?_
 refine lpK cube.size (fun k=>∀j,j<k→Qdp cube off j=true) (fun k=>⟨[(0,lf (dS cube)),(1,lf (.dat Qb off)),(5,lI (k:Int))],[]⟩) ((fun j s=>absurd s (aV j))) ?_ fun k _ f=> ?_
 exact wo []
 refine w4 ?_
 refine alS 7 fun _=> ?_
 refine lc (Q5 (Qa rfl) rfl Zo) ?_
 refine w2 ?_
 cases a:(decide ((k:Int)<(cube.size:Int)))
 have b:=aa a
 refine w6 ?_
 refine Qe<|fqB h ?_
 exact Qoo f (by omega)
 have b:=ab a
 refine w7 ?_
 obtain ⟨c4,r⟩:=gs cube (((k:Int)).toNat)
 refine w_ ?_
 refine lc (QP (Qa rfl) (QJ 45 rfl) rfl) ?_
 refine w_ ?_
 cases d:(!decide (c4=45))
 have e:(c4=45):=Qz d
 refine w15 ?_
 refine Qd ?_
 refine lK_ ((QbH f (by first|exact Qon ‹_› ‹_› | exact Qom ‹_›))) ?_
 exact wo []
 have e:¬(c4=45):=QG d
 refine w2 ?_
 refine lgy rfl rfl (dK (WK cube (k:Int) (⟨#[45]⟩:ByteArray) (by omega) ⟨by omega,by decide⟩) KN) ?_
 refine w_ ?_
 refine lgy rfl rfl (dK (V7 (Kt cube (k:Int) (⟨#[45]⟩:ByteArray)) off (QoD (k:=k) (by omega) g)) Qax) ?_
 refine w3 ?_
 cases q:(UJ (Kt cube (k:Int) (⟨#[45]⟩:ByteArray)) off)
 refine w4 ?_
 refine Qe<|fqB h ?_
 exact QsR (k:=k) (by omega) ‹_› ‹_› ‹_›
 refine w7 ?_
 refine Qd ?_
 refine lK_ ((QbH f (by first|exact Qon ‹_› ‹_› | exact Qom ‹_›))) ?_
 exact wo []
theorem Qcc (n:Int)(I:0≤n∧n≤8):FC Tryz.prog 212 [(false,[dI n])] [] 0 (Xv 9 .str (Zx n.toNat)):=by
 refine Qj Tryz.func212 rfl rfl Tryz.ntmps212 fun E y D t F w v=> ?_
 refine acI 0 fun _=> ?_
 refine w4 ?_
 refine lc (dBs 0 (e:= .str) Z3) ?_
 refine w8 ?_
 refine Qu (fun r s=>∃(b:Int) (a:List ByteArray),r=(n - b).toNat∧(0≤b∧b≤n)∧(a=Zx b.toNat)∧s=⟨[(2,lf (.val (.slice none 0 0))),(3,lR 1),(8,lI n),(9,lI b)],[ar 1 9 .str a]⟩) ⟨0,[(⟨#[]⟩:ByteArray)],rfl,by omega,rfl,rfl⟩ ?_ ?_
 exact wp [(1,0)] ⟨(Qm (by first|rfl|simp)),trivial⟩
 rintro r s ⟨b,a,C,H,d,rfl⟩
 have z:a.length≤6561:=by rw[d];exact KJ (n:=b.toNat) (by omega)
 refine w4 ?_
 cases f:(decide (b<n))
 have g:=aa f
 refine w7 ?_
 refine Qe<|fo_ y ?_
 ·(rw[d,show b=n by omega];done)
 have g:=ab f
 refine w5 ?_
 refine lc (dBs 2 (e:= .str) Z3) ?_
 refine w9 ?_
 refine lp0 a.length (fun j=>⟨[(2,lf (.val (.slice none 0 0))),(3,lR 1),(4,lR 3),(8,lI n),(9,lI b),(10,lB true),(12,lR 1),(13,lI (a.length:Int)),(14,lI (j:Int))],[ar 1 9 .str a,ar 3 9 .str (((a).take j).flatMap cuF)]⟩) ?_ fun j _=> ?_
 exact wp [(3,2)] ⟨rfl,(Qm (rfl)),trivial⟩
 have A:=QkY (l:=(a).take j)
 have B:((a).take j).length≤(a).length:=by simp only[ap];omega
 refine w4 ?_
 cases h:(decide ((j:Int)<(a.length:Int)))
 have i:=aa h
 refine w6 ?_
 refine Qd ?_
 refine w4 ?_
 refine Qd<|QV ⟨(b+1),(((a).take j).flatMap cuF),rfl,by omega,(by rw[d] at*;rw[Qrt (by omega),show (b+1).toNat=b.toNat+1 by omega]),rfl⟩ (by omega) ?_
 exact wp [(1,3)] ⟨(Qm (by first|rfl|simp)),trivial⟩
 have i:=ab h
 refine w6 ?_
 obtain ⟨G,o⟩:=gx a j
 have p:=o
 have q:=Xg (d▸ae o)
 refine w6 ?_
 refine lc (Qw (Qa rfl) (Evl.str rfl) rfl (by first|omega|(simp only[ax,Q4];omega))) ?_
 refine w_ ?_
 refine lc (Qw (Qa rfl) (Evl.str rfl) rfl (by first|omega|(simp only[ax,Q4];omega))) ?_
 refine w_ ?_
 refine lc (Qw (Qa rfl) (Evl.str rfl) rfl (by first|omega|(simp only[ax,Q4];omega))) ?_
 refine lc (dBs 4 (e:= .str) Z3) ?_
 refine lc (dA 5 YW) ?_
 refine w_ ?_
 refine Qd ?_
 refine w4 ?_
 refine Qd ?_
 refine l0_ ?_
 exact wp [(3,5)] ⟨rfl,(Qm ((Qny p))),trivial⟩
theorem Qci (n:Int)(I:0≤n∧n≤8):FC Tryz.prog 309 [(false,[dI n])] [] 0 (Xv 9 .str (Zx n.toNat)):=by
 refine Qj Tryz.func309 rfl rfl Tryz.ntmps309 fun E y D t F w v=> ?_
 refine acI 0 fun _=> ?_
 refine w4 ?_
 refine lc (dBs 0 (e:= .str) Z3) ?_
 refine w4 ?_
 refine Qu (fun r s=>∃(b:Int) (a:List ByteArray),r=b.toNat∧(0≤b∧b≤n)∧(a=Zx (n - b).toNat)∧s=⟨[(0,lI b),(2,lf (.val (.slice none 0 0))),(3,lR 1)],[ar 1 9 .str a]⟩) ⟨n,[(⟨#[]⟩:ByteArray)],rfl,by omega,(by rw[show (n - n).toNat=0 by omega];rfl),rfl⟩ ?_ ?_
 exact wp [(1,0)] ⟨(Qm (by first|rfl|simp)),trivial⟩
 rintro r s ⟨b,a,C,H,d,rfl⟩
 have z:a.length≤6561:=by rw[d];exact KJ (n:=(n - b).toNat) (by omega)
 refine w5 ?_
 cases f:(decide (0<b))
 have g:=aa f
 refine w7 ?_
 refine Qe<|fo_ y ?_
 ·(rw[d,show b=0 by omega,Int.sub_zero];done)
 have g:=ab f
 refine w14 ?_
 refine AC.wk (Wk.nilS 2 4 9 .str rfl (Fresh.of rfl) (nlr rfl)) ?_
 refine lp0 a.length (fun j=>⟨[(0,lI b),(2,lf (.val (.slice none 0 0))),(3,lR 1),(4,lR 3),(8,lI b),(9,lB true),(12,lR 1),(13,lI (a.length:Int)),(14,lI (j:Int))],[ar 1 9 .str a,ar 3 9 .str (((a).take j).flatMap cuF)]⟩) ?_ fun j _=> ?_
 exact wp [(3,2)] ⟨rfl,(Qm (rfl)),trivial⟩
 have A:=QkY (l:=(a).take j)
 have B:((a).take j).length≤(a).length:=by simp only[ap];omega
 refine w4 ?_
 cases h:(decide ((j:Int)<(a.length:Int)))
 have i:=aa h
 refine w6 ?_
 refine Qd ?_
 refine w5 ?_
 refine Qd<|QV ⟨(b - 1),(((a).take j).flatMap cuF),rfl,by omega,(by rw[d] at*;rw[Qrt (by omega),show (n - (b - 1)).toNat=(n - b).toNat+1 by omega]),rfl⟩ (by omega) ?_
 exact wp [(1,3)] ⟨(Qm (by first|rfl|simp)),trivial⟩
 have i:=ab h
 refine w6 ?_
 obtain ⟨G,o⟩:=gx a j
 have p:=o
 have q:=Xg (d▸ae o)
 refine w6 ?_
 refine lc (Qw (Qa rfl) (Evl.str rfl) rfl (by first|omega|(simp only[ax,Q4];omega))) ?_
 refine w_ ?_
 refine lc (Qw (Qa rfl) (Evl.str rfl) rfl (by first|omega|(simp only[ax,Q4];omega))) ?_
 refine w_ ?_
 refine lc (Qw (Qa rfl) (Evl.str rfl) rfl (by first|omega|(simp only[ax,Q4];omega))) ?_
 refine lc (dBs 4 (e:= .str) Z3) ?_
 refine lc (dA 5 YW) ?_
 refine w_ ?_
 refine Qd ?_
 refine w4 ?_
 refine Qd ?_
 refine l0_ ?_
 exact wp [(3,5)] ⟨rfl,(Qm ((Qny p))),trivial⟩
end Go.Proofs.YtjfpbcmfbnnooaaGreat
