/- Walks over abstract states: the candidate insertions and the best one, both sides. -/
import Derived.Test.YtgpdhgadmjfokaaGreatBUg
import Derived.Test.YtgpdhgadmjfokaaGreatBAy
import Derived.Test.YtgpdhgadmjfokaaGreatBAv
import Derived.Test.YtgpdhgadmjfokaaGreatBStr
import Derived.Test.YtgpdhgadmjfokaaGreatProg
import Derived.KernelRfl
import Derived.Test.YtgpdhgadmjfokaaGreatBVa
import Derived.Test.YtgpdhgadmjfokaaGreatBWk
import Derived.Test.YtgpdhgadmjfokaaGreatBAl
set_option linter.unusedSimpArgs false
set_option linter.unusedVariables false
set_option linter.unusedSectionVars false
namespace Go.Proofs.YtgpdhgadmjfokaaGreat
open Go.RowKit
set_option maxRecDepth 100000
set_option maxHeartbeats 4000000
abbrev Z0:=(Int×Bool)×Int×Bool
def Q0 (k:Nat):List (Int×Bool):=(List.range k).flatMap fun i=>[(((i:Nat):Int),false),(((i:Nat):Int),true)]
section
variable {k:Nat}
theorem WX:(Q0 k).length=2*k:=by
 unfold Q0
 induction k with
 | zero=>rfl
 | succ k d=>rw[ce,List.flatMap_append,ae,d]; simp; omega
theorem QfD:Q0 k++[(((k:Nat):Int),false),(((k:Nat):Int),true)]=Q0 (k+1):=by
 unfold Q0
 rw[ce,List.flatMap_append]; simp
end
section
variable [∀c,Decidable (SgOk c)][∀s,Decidable (Zx s)]{c:DSg}{a b:Int×Bool}{i j k n:Nat}{x:Z0}{L:List (Int×Bool)}
def isX (c:DSg)(a b:Int×Bool):Bool:= !decide (a=b)&&(Zo c (a,b)).2
def KD (c:DSg)(a:Int×Bool)(l:List (Int×Bool)):List Z0:=(l.filter fun b=>isX c a b).map fun b=>(a,b)
def Qa5 (c:DSg)(L l:List (Int×Bool)):List Z0:=l.flatMap fun a=>KD c a L
abbrev QF (c:DSg):List Z0:=Qa5 c (Q0 c.1.length) (Q0 c.1.length)
abbrev V7 (c:DSg)(l:List Z0):List (Z0×DSg):=l.map fun x=>(x,(Zo c x).1)
theorem J4 (d:L[i]? =some b)(h:Ty.beq Qy a b=true):KD c a (L.take i)=KD c a (L.take (i+1)):=by
 rw[Qwh,aU] at h
 unfold KD
 rw[QG d,bf,bj]; simp[isX,h]
theorem Hp (d:L[i]? =some b)(h:(Zo c (a,b)).2=false):KD c a (L.take i)=KD c a (L.take (i+1)):=by
 unfold KD
 rw[QG d,bf,bj]; simp[isX,h]
theorem QdM (e:L[i]? =some b)(d:Ty.beq Qy a b=false)(h:(Zo c (a,b)).2=true):KD c a (L.take i)++[(a,b)]=KD c a (L.take (i+1)):=by
 rw[Qwh,bH] at d
 unfold KD
 rw[QG e,bf,bj]; simp[isX,h,d]
theorem QjZ (d:L[k]? =some a):Qa5 c L (L.take k)++KD c a L=Qa5 c L (L.take (k+1)):=by
 unfold Qa5
 rw[QG d,List.flatMap_append]; simp
theorem Qiu:(KD c a L).length≤L.length:=by unfold KD; rw[aC]; exact bX ..
theorem QtC {l:List (Int×Bool)}:(Qa5 c L l).length≤l.length*L.length:=by
 unfold Qa5
 induction l with
 | nil=>simp
 | cons a l d=>
  rw[dp,ae,aj,Nat.succ_mul]
  have:=Qiu (c:=c) (a:=a) (L:=L)
  omega
theorem Qdm (h:c.1.length≤8)(l:List (Int×Bool))(e:l.length≤16):(Qa5 c (Q0 c.1.length) l).length≤256:=by
 have d:=QtC (c:=c) (L:=Q0 c.1.length) (l:=l)
 rw[WX] at d
 have:l.length*(2*c.1.length)≤16*16:=Nat.mul_le_mul e (by omega)
 omega
theorem Qvk (h:x∈Qa5 c L L):(x.1∈L∧x.2∈L)∧¬x.1=x.2∧(Zo c x).2=true:=by
 unfold Qa5 at h
 obtain ⟨a,f,h⟩:=List.mem_flatMap.1 h
 unfold KD at h
 obtain ⟨b,e,rfl⟩:=aR.1 h
 rw[bO] at e
 have d:=e.2
 unfold isX at d
 simp only[aL,bL,bH] at d
 exact ⟨⟨f,e.1⟩,d.1,d.2⟩
theorem Qki (h:b∈Q0 k):0≤b.1∧b.1≤(k:Int) - 1:=by
 unfold Q0 at h
 obtain ⟨i,d,h⟩:=List.mem_flatMap.1 h
 rw[cr] at d
 simp only[aD,cJ,or_false] at h
 rcases h with rfl | rfl <;> (simp only; omega)
theorem Qhn (m:SgOk c)(h:x∈QF c):QjP c x∧(Zo c x).2=true:=by
 obtain ⟨⟨d,e⟩,f,g⟩:=Qvk h
 exact ⟨⟨⟨⟨m,Qki d⟩,Qki e⟩,f⟩,g⟩
theorem Qb4 (l:List Z0):(V7 c l).length=l.length:=aC ..
theorem Qtn {l:List Z0}{y:Z0×DSg}(h:(V7 c l)[i]? =some y):∃x,l[i]? =some x∧y=(x,(Zo c x).1):=by
 simp only[bc,co] at h
 obtain ⟨x,d,e⟩:=h
 exact ⟨x,d,e.symm⟩
def HE (c:DSg)(x:Z0):Int:=((Zt (Zo c x).1).length:Int)
def QjE (c:DSg)(x:Z0):Int:=((Zo c x).1.2.1.length:Int)
def QjL (c:DSg)(m:Option Z0)(x:Z0):Option Z0:=match m with
 | none=>some x
 | some y=>if HE c x < HE c y∨(HE c x=HE c y∧QjE c x < QjE c y) then some x else some y
def oC (c:DSg):Option Z0→Z0×DSg
 | some x=>(x,(Zo c x).1)
 | none=>(((0,false),0,false),([],[],[]))
def oF (c:DSg)(d:Int):Option Z0→Int
 | some x=>HE c x
 | none=>d
def oS (c:DSg):Option Z0→Int
 | some x=>QjE c x
 | none=>0
def QZ (c:DSg)(l:List Z0):Option Z0:=l.foldl (QjL c) none
def Zi (c:DSg)(l:List Z0):Z0:=(QZ c l).getD ((0,false),0,false)
def QX (c:DSg)(l:List Z0):Z0×DSg:=oC c (QZ c l)
def Xc (c:DSg)(l:List Z0):Int:=oF c 0 (QZ c l)
def VA (c:DSg)(l:List Z0):Int:=oF c (-1) (QZ c l)
def Ja (c:DSg)(l:List Z0):Int:=oS c (QZ c l)
theorem Qei {l:List Z0}(d:l[k]? =some x):QZ c (l.take (k+1))=QjL c (QZ c (l.take k)) x:=by
 unfold QZ
 rw[QG d,bm]; rfl
theorem QnX (x:Z0):0≤HE c x:=cp _
theorem Qhf {l:List Z0}:VA c l < 0↔QZ c l=none:=by
 unfold VA
 cases h:QZ c l with
 | none=>simp[oF]
 | some y=>have:=QnX (c:=c) y; simp[oF]; omega
theorem Qbz {l:List Z0}(e:l[k]? =some x)(h:QZ c (l.take k)=none∨HE c x < Xc c (l.take k)∨(HE c x=Xc c (l.take k)∧QjE c x < Ja c (l.take k))):QZ c (l.take (k+1))=some x:=by
 rw[Qei e]
 unfold Xc Ja at h
 cases d:QZ c (l.take k) with
 | none=>rfl
 | some y=>
  rw[d] at h
  exact if_pos (h.resolve_left (by simp))
theorem QiY {l:List Z0}(e:l[k]? =some x)(h0:¬QZ c (l.take k)=none)(h:¬(HE c x < Xc c (l.take k)∨(HE c x=Xc c (l.take k)∧QjE c x < Ja c (l.take k)))):QZ c (l.take (k+1))=QZ c (l.take k):=by
 rw[Qei e]
 unfold Xc Ja at h
 cases d:QZ c (l.take k) with
 | none=>exact absurd d h0
 | some y=>
  rw[d] at h
  exact if_neg h
theorem JP {l:List Z0}{m:Option Z0}(h:QZ c l=m):Zi c l=m.getD ((0,false),0,false)∧QX c l=oC c m∧Xc c l=oF c 0 m∧VA c l=oF c (-1) m∧Ja c l=oS c m:=by
 subst h; exact ⟨rfl,rfl,rfl,rfl,rfl⟩
theorem Qoa {l:List Z0}(h:¬VA c l < 0):Xc c l=VA c l:=by
 unfold VA at h
 unfold Xc VA
 cases d:QZ c l with
 | none=>rw[d] at h; simp[oF] at h
 | some y=>rfl
theorem QoL {l:List Z0}(h:¬QZ c l=none):((QX c l).2.2.1.length:Int)=Ja c l:=by
 unfold QX Ja
 cases d:QZ c l with
 | none=>exact absurd d h
 | some y=>rfl
theorem Qun {l:List Z0}:(QX c l).1=Zi c l:=by
 unfold QX Zi
 cases d:QZ c l <;> rfl
theorem Qd8 (g:SgOk c)(h:x∈QF c):XG c x=HE c x∧VW c x=QjE c x∧VB c x=true:=by
 obtain ⟨e,f⟩:=Qhn g h
 have d:=QaM e f
 exact ⟨if_pos d,if_pos d,d⟩
theorem QgR (d:SgOk c)(h:x∈QF c):SgOk (Zo c x).1:=Qsn (Qhn d h).2
def QzZ (c:DSg):Z0:=if SgOk c then Zi c (QF c) else ((0,false),0,false)
def Qz1 (c:DSg):Bool:=decide (SgOk c)&&(QZ c (QF c)).isSome
section
variable {l:List Z0}{y cand:Z0×DSg}{few st:Int}{fnd:Bool}{bx:Z0}
theorem Qis (g:l[k]? =some x)(t:y=(x,(Zo c x).1))(s:cand=QX c (l.take k)∧few=Xc c (l.take k)∧fnd=(QZ c (l.take k)).isSome)
 (h:fnd=false∨((Zt y.2).length:Int) < few∨(((Zt y.2).length:Int)=few∧(y.2.2.1.length:Int) < (cand.2.2.1.length:Int))):
 y=QX c (l.take (k+1))∧((Zt y.2).length:Int)=Xc c (l.take (k+1))∧true=(QZ c (l.take (k+1))).isSome:=by
 obtain ⟨p,q,r⟩:=s
 subst t
 have f:QZ c (l.take (k+1))=some x:=by
  by_cases d:QZ c (l.take k)=none
  ·exact Qbz g (.inl d)
  ·refine Qbz g (.inr ?_)
   rw[q,p,QoL d] at h
   rcases h with h | h
   ·rw[r] at h; cases e:QZ c (l.take k) with
    | none=>exact absurd e d
    | some z=>rw[e] at h; cases h
   ·exact h
 obtain ⟨_,m,o,_,_⟩:=JP f
 exact ⟨m.symm,o.symm,by rw[f]; rfl⟩
theorem Qnj (r:l[k]? =some x)(s:y=(x,(Zo c x).1))(q:cand=QX c (l.take k)∧few=Xc c (l.take k)∧fnd=(QZ c (l.take k)).isSome)
 (h0:fnd=true) (h1:¬((Zt y.2).length:Int) < few) (h2:¬(((Zt y.2).length:Int)=few∧(y.2.2.1.length:Int) < (cand.2.2.1.length:Int))):
 cand=QX c (l.take (k+1))∧few=Xc c (l.take (k+1))∧true=(QZ c (l.take (k+1))).isSome:=by
 obtain ⟨e,f,g⟩:=q
 subst s
 have d:¬QZ c (l.take k)=none:=fun h=>by rw[g,h] at h0; cases h0
 have m:QZ c (l.take (k+1))=QZ c (l.take k):=QiY r d fun h=>by
  rw[f] at h1 h2
  rw[e,QoL d] at h2
  rcases h with h | h
  ·exact h1 h
  ·exact h2 h
 obtain ⟨_,o,p,_,_⟩:=JP m
 refine ⟨e.trans ?_,f.trans ?_,by rw[m,← g,h0]⟩
 ·rw[o]; rfl
 ·rw[p]; rfl
theorem Qin (u:SgOk c)(s:x∈QF c)(f:l[k]? =some x)(r:bx=Zi c (l.take k)∧few=VA c (l.take k)∧st=Ja c (l.take k))
 (h:few < 0∨XG c x < few∨(XG c x=few∧VW c x < st)):x=Zi c (l.take (k+1))∧XG c x=VA c (l.take (k+1))∧VW c x=Ja c (l.take (k+1)):=by
 obtain ⟨v,p,q⟩:=r
 obtain ⟨c1,c2,_⟩:=Qd8 u s
 rw[c1,c2] at h ⊢
 have t:QZ c (l.take (k+1))=some x:=by
  by_cases d:QZ c (l.take k)=none
  ·exact Qbz f (.inl d)
  ·have e:¬VA c (l.take k) < 0:=fun h=>d (Qhf.1 h)
   refine Qbz f (.inr ?_)
   rw[Qoa e]
   rw[p,q] at h
   exact h.resolve_left e
 obtain ⟨g,_,_,m,o⟩:=JP t
 exact ⟨g.symm,m.symm,o.symm⟩
theorem Qov (t:SgOk c)(r:x∈QF c)(u:l[k]? =some x)(q:bx=Zi c (l.take k)∧few=VA c (l.take k)∧st=Ja c (l.take k))
 (h0:¬few < 0) (h1:¬XG c x < few) (h2':¬(XG c x=few∧VW c x < st)):bx=Zi c (l.take (k+1))∧few=VA c (l.take (k+1))∧st=Ja c (l.take (k+1)):=by
 obtain ⟨p,d,f⟩:=q
 obtain ⟨c1,c2,_⟩:=Qd8 t r
 rw[c1] at h1
 rw[c1,c2] at h2'
 have e:¬QZ c (l.take k)=none:=fun h=>by rw[d] at h0; exact h0 (Qhf.2 h)
 have s:QZ c (l.take (k+1))=QZ c (l.take k):=QiY u e fun h=>by
  rw[Qoa (by rw[← d]; exact h0),← d,← f] at h
  rcases h with h | h
  ·exact h1 h
  ·exact h2' h
 obtain ⟨g,_,_,m,o⟩:=JP s
 refine ⟨p.trans ?_,d.trans ?_,f.trans ?_⟩
 ·rw[g]; rfl
 ·rw[m]; rfl
 ·rw[o]; rfl
theorem JB:decide (0≤VA c l)=(QZ c l).isSome:=by
 cases h:QZ c l with
 | none=>unfold VA; rw[h]; rfl
 | some y=>unfold VA; rw[h]; exact aQ (QnX y)
theorem Qfk {P:List (Z0×DSg)}(e:L[i]? =some b)(d:Ty.beq Qy a b=false)(h:(Zo c (a,b)).2=true):(P++V7 c (KD c a (L.take i)))++[((a,b),(Zo c (a,b)).1)]=P++V7 c (KD c a (L.take (i+1))):=by
 rw[← QdM e d h,V7,V7,bj,aP]; rfl
end
end
theorem UU (c:ZB)(t:c.1.length≤100000):FC Tryz.prog 335 [(true,[.dat Ql c.1, .dat Qm c.2.1, .dat Qu c.2.2])] [] 0 (YJ 86 Qy (Q0 c.1.length)):=by
 refine Qt Tryz.func335 rfl rfl Tryz.ntmps335 fun r o q g s m h=> ?_
 refine w_ ?_
 refine xbx 0 ?_
 refine w3 ?_
 refine lc (dBs 1 (e:=Qy) Y8) ?_
 refine w6 ?_
 refine alL 7 fun _=> ?_
 refine w4 ?_
 refine lp0 c.1.length (fun k=>⟨[(2,lf (.val (.slice none 0 0))),(3,lR 2),(8,lI (c.1.length:Int)),(9,lI (k:Int))],[ar 2 86 Qy (Q0 k)]⟩) ?_ fun k _=> ?_
 exact wp [(2,1)] ⟨(Qe (rfl)),trivial⟩
 have p:=WX (k:=k)
 refine w4 ?_
 cases d:(decide ((k:Int) < (c.1.length:Int)))
 have f:=aa d
 refine w7 ?_
 refine Qd<|fo_ o ?_
 (congr 1; omega)
 have f:=ab d
 refine w11 ?_
 refine lc (Qg Ws ⟨_,_,rfl,(Qo rfl),⟨_,_,rfl,(Evl.ev Ze),rfl⟩⟩ (au.1 rfl) rfl rfl) ?_
 refine w_ ?_
 refine lc (Qg Ws ⟨_,_,rfl,(Qo rfl),⟨_,_,rfl,(Evl.ev Ze),rfl⟩⟩ (au.1 rfl) rfl rfl) ?_
 refine lc (dBs 3 (e:=Qy) Y8 (hab:=by exact ⟨_,_,_,_,rfl,⟨[dI (k:Int)],[dB false],_,_,_,_,rfl,rfl,⟨rfl,rfl⟩,⟨rfl,rfl⟩,rfl⟩,⟨_,_,_,_,rfl,⟨[dI (k:Int)],[dB true],_,_,_,_,rfl,rfl,⟨rfl,rfl⟩,⟨rfl,rfl⟩,rfl⟩,⟨rfl,rfl⟩,rfl⟩,rfl⟩)) ?_
 refine lc (dA 4 Qag) ?_
 refine w_ ?_
 refine Qb ?_
 refine w4 ?_
 refine Qb ?_
 refine l0_ ?_
 exact wp [(2,4)] ⟨(Qe (QfD)),trivial⟩
theorem Up (c:ZB)(t:c.1.length≤100000):FC Tryz.prog 338 [(true,[.dat Ql c.1, .dat Qm c.2.1, .dat Qu c.2.2])] [] 0 (YJ 86 Qy (Q0 c.1.length)):=by
 refine Qt Tryz.func338 rfl rfl Tryz.ntmps338 fun r o q g s m h=> ?_
 refine w_ ?_
 refine xbx 0 ?_
 refine w9 ?_
 refine alL 6 fun _=> ?_
 refine w4 ?_
 refine AC.wk (Wk.nilS 1 3 86 Qy rfl (Fresh.of rfl) (nlr rfl)) ?_
 refine lp0 c.1.length (fun k=>⟨[(2,lf (.val (.slice none 0 0))),(3,lR 2),(7,lI (c.1.length:Int)),(8,lI (k:Int))],[ar 2 86 Qy (Q0 k)]⟩) ?_ fun k _=> ?_
 exact wp [(2,1)] ⟨(Qe (rfl)),trivial⟩
 have p:=WX (k:=k)
 refine w4 ?_
 cases d:(decide ((k:Int) < (c.1.length:Int)))
 have f:=aa d
 refine w7 ?_
 refine Qd<|fo_ o ?_
 (congr 1; omega)
 have f:=ab d
 refine w11 ?_
 refine lc (Qg Ws ⟨_,_,rfl,(Qo rfl),rfl⟩ (au.1 rfl) rfl rfl) ?_
 refine w_ ?_
 refine lc (Qg Ws ⟨_,_,rfl,(Qo rfl),⟨_,_,rfl,(Evl.ev Ze),rfl⟩⟩ (au.1 rfl) rfl rfl) ?_
 refine lc (dBs 3 (e:=Qy) Y8 (hab:=by exact ⟨_,_,_,_,rfl,⟨[dI (k:Int)],[dB false],_,_,_,_,rfl,rfl,⟨rfl,rfl⟩,⟨rfl,rfl⟩,rfl⟩,⟨_,_,_,_,rfl,⟨[dI (k:Int)],[dB true],_,_,_,_,rfl,rfl,⟨rfl,rfl⟩,⟨rfl,rfl⟩,rfl⟩,⟨rfl,rfl⟩,rfl⟩,rfl⟩)) ?_
 refine lc (dA 4 Qag) ?_
 refine w_ ?_
 refine Qb ?_
 refine w4 ?_
 refine Qb ?_
 refine l0_ ?_
 exact wp [(2,4)] ⟨(Qe (QfD)),trivial⟩
theorem Qam (c:ZB)[∀c,Decidable (SgOk c)][∀s,Decidable (Zx s)](z:SgOk c):FC Tryz.prog 231 [(true,[.dat Ql c.1, .dat Qm c.2.1, .dat Qu c.2.2])] [] 0 (YJ 143 QhR (V7 c (QF c))):=by
 have r:=z.sigs.2.2
 have F:=WX (k:=c.1.length)
 have o:=Qdm (c:=c) r
 refine Qt Tryz.func231 rfl rfl Tryz.ntmps231 fun M D K A N C B=> ?_
 refine w_ ?_
 refine xbx 0 ?_
 refine w3 ?_
 refine lc (dBs 1 (e:=QhR) KM) ?_
 refine w5 ?_
 refine lc (dK (UU c (by omega)).frozen QfE) ?_
 refine alL 12 fun _=> ?_
 refine w4 ?_
 refine lp0 ((Q0 c.1.length).length) (fun k=>⟨[(1,lP 0 0),(2,lf (.val (.slice none 0 0))),(3,lR 2),(12,lf (.dat YQ (Q0 c.1.length))),(13,lI ((Q0 c.1.length).length:Int)),(14,lI (k:Int))],[bx 0 27 [.dat Ql c.1, .dat Qm c.2.1, .dat Qu c.2.2],ar 2 143 QhR (V7 c (Qa5 c (Q0 c.1.length) ((Q0 c.1.length).take k)))]⟩) ?_ fun k _=> ?_
 exact wp [(2,1)] ⟨rfl,(Qe (rfl)),trivial⟩
 have t:((Q0 c.1.length).take k).length≤16:=by simp only[ap]; omega
 have E:=o _ t
 have I:=Qb4 (c:=c) (Qa5 c (Q0 c.1.length) ((Q0 c.1.length).take k))
 refine w4 ?_
 cases f:(decide ((k:Int) < ((Q0 c.1.length).length:Int)))
 have g:=aa f
 refine w7 ?_
 refine Qd<|fo_ D ?_
 ·(rw[QH (by omega)]; done)
 have g:=ab f
 refine w5 ?_
 obtain ⟨a,u⟩:=gx (Q0 c.1.length) k
 refine w2 ?_
 refine lc (xal 3 Qy Y8) ?_
 refine w4 ?_
 refine lc (dK (UU c (by omega)).frozen QfE) ?_
 refine alL 19 fun _=> ?_
 refine w4 ?_
 refine lp0 ((Q0 c.1.length).length) (fun i=>⟨[(1,lP 0 0),(2,lf (.val (.slice none 0 0))),(3,lR 4),(5,lP 3 0),(12,lf (.dat YQ (Q0 c.1.length))),(13,lI ((Q0 c.1.length).length:Int)),(14,lI (k:Int)),(15,lB true),(16,lf (.elt Qy a 0)),(17,ag [dI a.1,dB a.2]),(18,ag [.dat Ql c.1, .dat Qm c.2.1, .dat Qu c.2.2]),(19,lf (.dat YQ (Q0 c.1.length))),(20,lI ((Q0 c.1.length).length:Int)),(21,lI (i:Int))],[bx 0 27 [.dat Ql c.1, .dat Qm c.2.1, .dat Qu c.2.2],bx 3 86 [dI a.1,dB a.2],ar 4 143 QhR (V7 c (Qa5 c (Q0 c.1.length) ((Q0 c.1.length).take k))++V7 c (KD c a ((Q0 c.1.length).take i)))]⟩) ?_ fun i _=> ?_
 exact wp [(4,2)] ⟨rfl,rfl,(Qe ((bq _).symm)),trivial⟩
 have J:=Qb4 (c:=c) (KD c a ((Q0 c.1.length).take i))
 have G:=Qiu (c:=c) (a:=a) (L:=(Q0 c.1.length).take i)
 have H:((Q0 c.1.length).take i).length≤16:=by simp only[ap]; omega
 refine w4 ?_
 cases h:(decide ((i:Int) < ((Q0 c.1.length).length:Int)))
 have m:=aa h
 refine w6 ?_
 refine Qb ?_
 refine l0_ ?_
 exact wp [(2,4)] ⟨rfl,(Qe ((by rw[QH (l:=Q0 c.1.length) (k:=i) (by omega),← QjZ u,V7,V7,V7,bj]))),trivial⟩
 have m:=ab h
 refine w5 ?_
 obtain ⟨b,d⟩:=gx (Q0 c.1.length) i
 refine w2 ?_
 refine lc (xal 5 Qy Y8) ?_
 refine w6 ?_
 refine lc (J2 K7 Qar (Qo rfl) (Qo rfl) (p:=a) (q:=b) rfl rfl rfl) ?_
 refine w_ ?_
 cases v:(Ty.beq Qy a b)
 refine w6 ?_
 refine lc (Qg Qdr ⟨_,_,rfl,(Qo rfl),⟨_,_,rfl,(Qo rfl),rfl⟩⟩ (au.1 rfl) rfl rfl) ?_
 refine lc (dG 6 (QfV c (a,b) z) QkN) ?_
 refine w3 ?_
 refine lc (xal 9 X2 ZC) ?_
 refine w6 ?_
 cases w:((Zo c (a,b)).2)
 refine w6 ?_
 refine Qb ?_
 refine l0_ ?_
 exact wp [] ⟨rfl,rfl,(Qe (by first | exact Qfk d ‹_› ‹_› | rw[J4 d ‹_›] | rw[Hp d ‹_›])),trivial⟩
 refine w5 ?_
 refine lc (Qg Qdr ⟨_,_,rfl,(Qo rfl),⟨_,_,rfl,(Qo rfl),rfl⟩⟩ (au.1 rfl) rfl rfl) ?_
 refine w_ ?_
 refine lc (Qg QnV ⟨_,_,rfl,(Qo rfl),⟨_,_,rfl,(Qo rfl),rfl⟩⟩ (au.1 rfl) rfl rfl) ?_
 refine lc (dBs 10 (e:=QhR) KM (hab:=by exact ⟨_,_,_,_,rfl,⟨[dI a.1,dB a.2,dI b.1,dB b.2],[.ref 6, .ref 7, .ref 8],_,_,_,_,rfl,rfl,⟨[dI a.1,dB a.2],[dI b.1,dB b.2],_,_,_,_,rfl,rfl,⟨[dI a.1],[dB a.2],_,_,_,_,rfl,rfl,⟨rfl,rfl⟩,⟨rfl,rfl⟩,rfl⟩,⟨[dI b.1],[dB b.2],_,_,_,_,rfl,rfl,⟨rfl,rfl⟩,⟨rfl,rfl⟩,rfl⟩,rfl⟩,⟨[.ref 6],[.ref 7, .ref 8],_,_,_,_,rfl,rfl,(.inl ⟨_,rfl,rfl,rfl⟩),⟨[.ref 7],[.ref 8],_,_,_,_,rfl,rfl,(.inl ⟨_,rfl,rfl,rfl⟩),(.inl ⟨_,rfl,rfl,rfl⟩),rfl⟩,rfl⟩,rfl⟩,⟨rfl,rfl⟩,rfl⟩)) ?_
 refine lc (dA 11 QuP) ?_
 refine w_ ?_
 refine Qb ?_
 refine w4 ?_
 refine Qb ?_
 refine l0_ ?_
 exact wp [(4,11)] ⟨rfl,rfl,(Qe (by first | exact Qfk d ‹_› ‹_› | rw[J4 d ‹_›] | rw[Hp d ‹_›])),trivial⟩
 refine w6 ?_
 refine Qb ?_
 refine l0_ ?_
 exact wp [] ⟨rfl,rfl,(Qe (by first | exact Qfk d ‹_› ‹_› | rw[J4 d ‹_›] | rw[Hp d ‹_›])),trivial⟩
theorem Qan (c:ZB)[∀c,Decidable (SgOk c)][∀s,Decidable (Zx s)](z:SgOk c):FC Tryz.prog 233 [(true,[.dat Ql c.1, .dat Qm c.2.1, .dat Qu c.2.2])] [] 0 (YJ 141 Ys (QF c)):=by
 have r:=z.sigs.2.2
 have F:=WX (k:=c.1.length)
 have o:=Qdm (c:=c) r
 refine Qt Tryz.func233 rfl rfl Tryz.ntmps233 fun J D I A K C B=> ?_
 refine w_ ?_
 refine xbx 0 ?_
 refine w8 ?_
 refine lc (dK (Up c (by omega)).frozen Qfb) ?_
 refine alL 11 fun _=> ?_
 refine w4 ?_
 refine AC.wk (Wk.nilS 1 3 141 Ys rfl (Fresh.of rfl) (nlr rfl)) ?_
 refine lp0 ((Q0 c.1.length).length) (fun k=>⟨[(1,lP 0 0),(2,lf (.val (.slice none 0 0))),(3,lR 2),(11,lf (.dat YQ (Q0 c.1.length))),(12,lI ((Q0 c.1.length).length:Int)),(13,lI (k:Int))],[bx 0 27 [.dat Ql c.1, .dat Qm c.2.1, .dat Qu c.2.2],ar 2 141 Ys (Qa5 c (Q0 c.1.length) ((Q0 c.1.length).take k))]⟩) ?_ fun k _=> ?_
 exact wp [(2,1)] ⟨rfl,(Qe (rfl)),trivial⟩
 have t:((Q0 c.1.length).take k).length≤16:=by simp only[ap]; omega
 have E:=o _ t
 refine w4 ?_
 cases f:(decide ((k:Int) < ((Q0 c.1.length).length:Int)))
 have g:=aa f
 refine w7 ?_
 refine Qd<|fo_ D ?_
 ·(rw[QH (by omega)]; done)
 have g:=ab f
 refine w5 ?_
 obtain ⟨a,u⟩:=gx (Q0 c.1.length) k
 refine w2 ?_
 refine lc (xal 3 Qy Y8) ?_
 refine w4 ?_
 refine lc (dK (Up c (by omega)).frozen Qfb) ?_
 refine alL 18 fun _=> ?_
 refine w4 ?_
 refine lp0 ((Q0 c.1.length).length) (fun i=>⟨[(1,lP 0 0),(2,lf (.val (.slice none 0 0))),(3,lR 4),(5,lP 3 0),(11,lf (.dat YQ (Q0 c.1.length))),(12,lI ((Q0 c.1.length).length:Int)),(13,lI (k:Int)),(14,lB true),(15,lf (.elt Qy a 0)),(16,ag [dI a.1,dB a.2]),(17,ag [.dat Ql c.1, .dat Qm c.2.1, .dat Qu c.2.2]),(18,lf (.dat YQ (Q0 c.1.length))),(19,lI ((Q0 c.1.length).length:Int)),(20,lI (i:Int))],[bx 0 27 [.dat Ql c.1, .dat Qm c.2.1, .dat Qu c.2.2],bx 3 86 [dI a.1,dB a.2],ar 4 141 Ys (Qa5 c (Q0 c.1.length) ((Q0 c.1.length).take k)++KD c a ((Q0 c.1.length).take i))]⟩) ?_ fun i _=> ?_
 exact wp [(4,2)] ⟨rfl,rfl,(Qe ((bq _).symm)),trivial⟩
 have G:=Qiu (c:=c) (a:=a) (L:=(Q0 c.1.length).take i)
 have H:((Q0 c.1.length).take i).length≤16:=by simp only[ap]; omega
 refine w4 ?_
 cases h:(decide ((i:Int) < ((Q0 c.1.length).length:Int)))
 have m:=aa h
 refine w6 ?_
 refine Qb ?_
 refine l0_ ?_
 exact wp [(2,4)] ⟨rfl,(Qe ((by rw[QH (l:=Q0 c.1.length) (k:=i) (by omega),QjZ u]))),trivial⟩
 have m:=ab h
 refine w5 ?_
 obtain ⟨b,d⟩:=gx (Q0 c.1.length) i
 refine w2 ?_
 refine lc (xal 5 Qy Y8) ?_
 refine w6 ?_
 refine lc (J2 K7 Qar (Qo rfl) (Qo rfl) (p:=a) (q:=b) rfl rfl rfl) ?_
 refine w_ ?_
 cases v:(Ty.beq Qy a b)
 refine w6 ?_
 refine lc (Qg Qdr ⟨_,_,rfl,(Qo rfl),⟨_,_,rfl,(Qo rfl),rfl⟩⟩ (au.1 rfl) rfl rfl) ?_
 refine lc (dG 6 (Vr c (a,b) z) Qaz) ?_
 refine w3 ?_
 refine lc (xal 9 X2 ZC) ?_
 refine w6 ?_
 cases w:((Zo c (a,b)).2)
 refine w6 ?_
 refine Qb ?_
 refine l0_ ?_
 exact wp [] ⟨rfl,rfl,(Qe (by first | rw[aP,QdM d ‹_› ‹_›] | rw[J4 d ‹_›] | rw[Hp d ‹_›])),trivial⟩
 refine w5 ?_
 refine lc (Qg Qdr ⟨_,_,rfl,(Qo rfl),⟨_,_,rfl,(Qo rfl),rfl⟩⟩ (au.1 rfl) rfl rfl) ?_
 refine lc (dBs 10 (e:=Ys) VE (hab:=by exact ⟨_,_,_,_,rfl,⟨[dI a.1,dB a.2],[dI b.1,dB b.2],_,_,_,_,rfl,rfl,⟨[dI a.1],[dB a.2],_,_,_,_,rfl,rfl,⟨rfl,rfl⟩,⟨rfl,rfl⟩,rfl⟩,⟨[dI b.1],[dB b.2],_,_,_,_,rfl,rfl,⟨rfl,rfl⟩,⟨rfl,rfl⟩,rfl⟩,rfl⟩,⟨rfl,rfl⟩,rfl⟩)) ?_
 refine lc (dA 11 QhX) ?_
 refine w_ ?_
 refine Qb ?_
 refine w4 ?_
 refine Qb ?_
 refine l0_ ?_
 exact wp [(4,11)] ⟨rfl,rfl,(Qe (by first | rw[aP,QdM d ‹_› ‹_›] | rw[J4 d ‹_›] | rw[Hp d ‹_›])),trivial⟩
 refine w6 ?_
 refine Qb ?_
 refine l0_ ?_
 exact wp [] ⟨rfl,rfl,(Qe (by first | rw[aP,QdM d ‹_› ‹_›] | rw[J4 d ‹_›] | rw[Hp d ‹_›])),trivial⟩
theorem Qdc (c:ZB)[∀c,Decidable (SgOk c)][∀s,Decidable (Zx s)](w:SgOk c):FC Tryz.prog 118 [(true,[.dat Ql c.1, .dat Qm c.2.1, .dat Qu c.2.2])] [] 0 (Q7 (PV.tup [(true,[dI (((Zi c (QF c)).1).1),dB (((Zi c (QF c)).1).2),dI (((Zi c (QF c)).2).1),dB (((Zi c (QF c)).2).2)]),(false,[dB ((QZ c (QF c)).isSome)])])):=by
 have C:=w.sigs.2.2
 have R:=WX (k:=c.1.length)
 have B:=Qdm (c:=c) C
 have P:(QF c).length≤256:=B (Q0 c.1.length) (by omega)
 refine Qt Tryz.func118 rfl rfl Tryz.ntmps118 fun U O T F V N M=> ?_
 refine w_ ?_
 refine xbx 0 ?_
 refine lc (xal 1 Ys VE) ?_
 refine w3 ?_
 refine lc (xal 2 Ys VE) ?_
 refine w8 ?_
 refine lc (dK (Qan c w).frozen Qmk) ?_
 refine alL 13 fun _=> ?_
 refine w4 ?_
 refine QL (fun D E=>∃(k:Nat) (bx:(Int×Bool)×(Int×Bool)) (few:Int) (st:Int),k≤(QF c).length∧D=(QF c).length - k∧(bx=Zi c ((QF c).take k)∧few=VA c ((QF c).take k)∧st=Ja c ((QF c).take k))∧E=⟨[(1,lP 0 0),(2,lP 1 0),(3,lB false),(4,lP 2 0),(5,lI few),(6,lI st),(13,lf (.dat Qk5 (QF c))),(14,lI ((QF c).length:Int)),(15,lI (k:Int))],[(0,some (.box 27 [.dat Ql c.1, .dat Qm c.2.1, .dat Qu c.2.2])),(1,some (.box 141 [dI 0,dB false,dI 0,dB false])),(2,some (.box 141 [dI bx.1.1,dB bx.1.2,dI bx.2.1,dB bx.2.2]))]⟩) ⟨0,((0,false),(0,false)),(-1),0,aS _,rfl,⟨rfl,rfl,rfl⟩,rfl⟩ ?_ ?_
 exact wo []
 rintro D E ⟨k,bx,few,st,Q,S,d,rfl⟩
 refine w4 ?_
 cases z:(decide ((k:Int) < ((QF c).length:Int)))
 have A:=aa z
 refine w11 ?_
 have G:(bx.1.1:Int)=(((Zi c (QF c)).1).1):=by
  (rw[QH (by omega)] at d; first | rw[d.1] | (rw[d.2.1]; exact JB))
 have H:(bx.1.2:Bool)=(((Zi c (QF c)).1).2):=by
  (rw[QH (by omega)] at d; first | rw[d.1] | (rw[d.2.1]; exact JB))
 have I:(bx.2.1:Int)=(((Zi c (QF c)).2).1):=by
  (rw[QH (by omega)] at d; first | rw[d.1] | (rw[d.2.1]; exact JB))
 have J:(bx.2.2:Bool)=(((Zi c (QF c)).2).2):=by
  (rw[QH (by omega)] at d; first | rw[d.1] | (rw[d.2.1]; exact JB))
 have K:(decide (0≤few):Bool)=((QZ c (QF c)).isSome):=by
  (rw[QH (by omega)] at d; first | rw[d.1] | (rw[d.2.1]; exact JB))
 exact fr_ O (e:=by rw[G,H,I,J,K] <;> rfl)
 have A:=ab z
 refine w5 ?_
 obtain ⟨x,f⟩:=gx (QF c) k
 have h:=ah f
 refine w2 ?_
 refine lc (xal 3 Ys VE) ?_
 refine w5 ?_
 refine lc (dK (WK c x) Qe4) ?_
 refine w12 ?_
 cases m:(decide (few < 0))
 have r:=aa m
 refine w5 ?_
 cases o:(decide ((XG c x) < few))
 have t:=aa o
 refine w4 ?_
 cases p:(decide ((XG c x)=few))
 have u:=aa p
 refine w12 ?_
 refine Qb<|Q2 ⟨k+1,bx,few,st,by omega,rfl,(by exact Qov w h f d ‹_› ‹_› (fun g=>absurd g.1 ‹_›)),rfl⟩ (by omega) ?_
 exact wo []
 have u:=ab p
 refine w6 ?_
 cases q:(decide ((VW c x) < st))
 have v:=aa q
 refine w6 ?_
 refine Qb<|Q2 ⟨k+1,bx,few,st,by omega,rfl,(by exact Qov w h f d ‹_› ‹_› (fun g=>absurd g.2 ‹_›)),rfl⟩ (by omega) ?_
 exact wo []
 have v:=ab q
 refine w12 ?_
 refine Qb ?_
 refine w4 ?_
 refine Qb<|Q2 ⟨k+1,x,(XG c x),(VW c x),by omega,rfl,(by exact Qin w h f d (.inr (.inr ⟨by assumption,by assumption⟩))),rfl⟩ (by omega) ?_
 exact wo []
 have t:=ab o
 refine w4 ?_
 refine Qi rfl rfl rfl ?_ rfl
 refine Qi rfl rfl rfl ?_ rfl
 refine Qi rfl rfl rfl ?_ rfl
 refine w15 ?_
 refine Qb ?_
 refine w4 ?_
 refine Qb<|Q2 ⟨k+1,x,(XG c x),(VW c x),by omega,rfl,(by exact Qin w h f d (.inr (.inl ‹_›))),rfl⟩ (by omega) ?_
 exact wo []
 have r:=ab m
 refine w9 ?_
 refine Qi rfl rfl rfl ?_ rfl
 refine Qi rfl rfl rfl ?_ rfl
 refine Qi rfl rfl rfl ?_ rfl
 refine w15 ?_
 refine Qb ?_
 refine w4 ?_
 refine Qb<|Q2 ⟨k+1,x,(XG c x),(VW c x),by omega,rfl,(by exact Qin w h f d (.inl ‹_›)),rfl⟩ (by omega) ?_
 exact wo []
end Go.Proofs.YtgpdhgadmjfokaaGreat
namespace Go.Proofs.YtgpdhgadmjfokaaGreat
open Go.RowKit
attribute [local irreducible] TF
abbrev Qff:Type:=Zb×Zb
abbrev Qxv:Ty:= .pr Qb2 Qb2
end Go.Proofs.YtgpdhgadmjfokaaGreat
namespace Go.Proofs.YtgpdhgadmjfokaaGreat
open Go.RowKit
set_option maxRecDepth 100000
set_option maxHeartbeats 4000000
@[reducible] def QvI:(Qff)→Int→(Qff)×Int:=fun _ k=>(((k,decide ((k+1) % 3=0)),(k+1+1,decide ((k+1+1+1) % 3=0))),k+1+1+1+1)
end Go.Proofs.YtgpdhgadmjfokaaGreat
namespace Go.Proofs.YtgpdhgadmjfokaaGreat
open Go.RowKit
set_option maxRecDepth 100000
set_option maxHeartbeats 4000000
def inv (h:Int)(a:DAr):Bool:=decide (a.2.1= -1)||decide (a.2.1=h)
inductive Ch (rs:List DAr) (h:Int) (S:Int→Prop):Int→Prop
  | base {u:Int}:S u→Ch rs h S u
  | step {a:DAr}:Ch rs h S a.1→a∈rs→inv h a=true→Ch rs h S a.2.2.2
def stS (h:Int)(S:List Int)(a:DAr):List Int:=if inv h a=true∧a.1∈S then Z9 ltI a.2.2.2 S else S
def stP (h:Int)(rs:List DAr)(S:List Int):List Int:=rs.foldl (stS h) S
def stN (h:Int)(rs:List DAr):Nat→List Int→List Int
 | 0,S=>S
 | k+1,S=>stP h rs (stN h rs k S)
def stl (c:DSg)(h:Int)(S:List Int):List Int:=stN h c.2.2 c.2.1.length S
@[reducible] def Srt (S:List Int):Prop:=S.Pairwise fun x y=>ltI x y=true
section
variable {rs as_:List DAr}{a:DAr}{h:Int}{S T_:List Int}{P Q:Int→Prop}{u v:Int}{n k:Nat}
theorem Ch.mono (e:∀u,P u→Ch rs h Q u)(k:Ch rs h P u):Ch rs h Q u:=by
 induction k with
 | base b=>exact e _ b
 | step _ c d f=>exact .step f c d
theorem Ch.congr (b:∀u,P u↔Q u):Ch rs h P u↔Ch rs h Q u:=⟨Ch.mono fun _ k=> .base ((b _).1 k),Ch.mono fun _ k=> .base ((b _).2 k)⟩
theorem Qol (b:u∈S):u∈stS h S a:=by
 unfold stS; split
 ·exact YB.2 (.inr b)
 ·exact b
theorem Qiq (b:u∈S):u∈stP h as_ S:=by
 induction as_ generalizing S with
 | nil=>exact b
 | cons a l c=>exact c (Qol b)
theorem Qt7 (b:u∈S):u∈stN h rs k S:=by
 induction k with
 | zero=>exact b
 | succ k c=>exact Qiq c
theorem QuE (b:Srt S):Srt (stS h S a):=by
 unfold stS; split
 ·exact Kh Xb b
 ·exact b
theorem Qnz (b:Srt S):Srt (stP h as_ S):=by
 induction as_ generalizing S with
 | nil=>exact b
 | cons a l c=>exact c (QuE b)
theorem QbG (b:Srt S):Srt (stN h rs k S):=by
 induction k with
 | zero=>exact b
 | succ k c=>exact Qnz c
theorem QwG (c:∀a∈as_,a∈rs)(d:∀u∈S,Ch rs h P u):∀u∈stP h as_ S,Ch rs h P u:=by
 induction as_ generalizing S with
 | nil=>exact d
 | cons a l i=>
  refine i (fun b g=>c b (aw _ g)) fun u e=> ?_
  unfold stS at e
  split at e
  ·rename_i f
   rcases YB.1 e with rfl | h2
   ·exact .step (d _ f.2) (c a (ax ..)) f.1
   ·exact d _ h2
  ·exact d _ e
theorem QrG (b:∀u∈S,Ch rs h P u):∀u∈stN h rs k S,Ch rs h P u:=by
 induction k with
 | zero=>exact b
 | succ k c=>exact QwG (fun _ h=>h) c
theorem Qur (c:a∈as_)(hi:inv h a=true)(d:a.1∈S):a.2.2.2∈stP h as_ S:=by
 induction as_ generalizing S with
 | nil=>cases c
 | cons b l e=>
  rcases aD.1 c with rfl | c
  ·refine Qiq (as_:=l) ?_
   unfold stS; rw[if_pos ⟨hi,d⟩]
   exact YB.2 (.inl rfl)
  ·exact e c (Qol d)
theorem Qcw (b:Srt S):S.Nodup:=b.imp fun h e=>by subst e; simp[ltI] at h
theorem KQ {α:Type}[DecidableEq α]:∀{l m:List α},l.Nodup→(∀x∈l,x∈m)→l.length≤m.length
 | [],_,_,_=>aS _
 | a :: l,m,hn,hs=>by
  obtain ⟨d,f⟩:=bn.1 hn
  have b:=hs a (ax ..)
  have g:=KQ (m:=m.erase a) f fun x c=>(List.mem_erase_of_ne (fun e=>d (by rw[← e]; exact c))).2 (hs x (aw _ c))
  rw[List.length_erase_of_mem b] at g
  have:=List.length_pos_of_mem b
  rw[aj]; omega
theorem QtW (i:Srt S)(b:∀u∈S,0≤u∧u < (n:Int)):S.length≤n:=by
 have c:(S.map Int.toNat).Nodup:=by
  unfold List.Nodup
  rw[cK]
  exact (Qcw i).imp_of_mem fun f g h e=>h (by have:=b _ f; have:=b _ g; omega)
 have d:(S.map Int.toNat) ⊆ List.range n:=fun x l=>by
  obtain ⟨u,j,rfl⟩:=aR.1 l
  have:=b u j
  exact cr.2 (by omega)
 have:=KQ c d
 rwa [aC,List.length_range] at this
theorem QuM (f:∀a∈rs,0≤a.2.2.2∧a.2.2.2 < (n:Int))(e:∀u∈S,0≤u∧u < (n:Int)):∀u∈stN h rs k S,0≤u∧u < (n:Int):=by
 have d:∀u,Ch rs h (fun v=>v∈S) u→0≤u∧u < (n:Int):=fun u c=>by
  induction c with
  | base b=>exact e _ b
  | step _ b _ _=>exact f _ b
 exact fun u c=>d u (QrG (P:=fun v=>v∈S) (fun v g=> .base g) u c)
theorem QxG (e:Srt S)(i:Srt T_)(b:∀u∈S,u∈T_):T_=S∨S.length < T_.length:=by
 by_cases d:∀x∈T_,x∈S
 ·exact .inl (Xb.ext i e fun x=>⟨d x,b x⟩)
 ·obtain ⟨x,j⟩:=Classical.not_forall.1 d
  obtain ⟨f,g⟩:=Classical.not_imp.1 j
  have:=KQ (l:=x :: S) (m:=T_) (bn.2 ⟨g,Qcw e⟩) fun y c=>by
   rcases aD.1 c with rfl | c
   ·exact f
   ·exact b y c
  rw[aj] at this
  exact .inr this
theorem QnF (c:Srt S)(b:stP h rs (stN h rs k S)=stN h rs k S):∀j,stN h rs (k+j) S=stN h rs k S
 | 0=>rfl
 | j+1=>by rw[← bY,stN,QnF c b j,b]
theorem Qr9 (c:Srt S):(∃j,j < k∧stP h rs (stN h rs j S)=stN h rs j S)∨S.length+k≤(stN h rs k S).length:=by
 induction k with
 | zero=>exact .inr (aO _)
 | succ k f=>
  rcases f with ⟨j,d,b⟩ | d
  ·exact .inl ⟨j,by omega,b⟩
  ·rcases QxG (QbG (h:=h) (rs:=rs) (k:=k) c) (Qnz (QbG c)) (fun u e=>Qiq (h:=h) (as_:=rs) e) with b | b
   ·exact .inl ⟨k,by omega,b⟩
   ·right; rw[stN]; omega
theorem QkC (f:Srt S)(p:∀a∈rs,0≤a.2.2.2∧a.2.2.2 < (n:Int))(o:∀u∈S,0≤u∧u < (n:Int)):∀u,u∈stN h rs n S↔Ch rs h (fun v=>v∈S) u:=by
 have m:stP h rs (stN h rs n S)=stN h rs n S:=by
  rcases Qr9 (rs:=rs) (h:=h) (k:=n) f with ⟨j,e,c⟩ | e
  ·have b:=QnF f c (n - j)
   rw[show j+(n - j)=n by omega] at b
   rw[b,c]
  ·have c:=QtW (QbG (h:=h) (rs:=rs) (k:=n) f) (QuM p o)
   have b:S=[]:=cj (by omega)
   subst b
   have g:∀(l:List DAr),stP h l []=[]:=fun l=>by
    induction l with
    | nil=>rfl
    | cons a l d=>show stP h l (stS h [] a)=[]; rw[show stS h [] a=[] from if_neg (by simp)]; exact d
   have i:∀k,stN h rs k []=[]:=fun k=>by
    induction k with
    | zero=>rfl
    | succ k d=>rw[stN,d,g]
   rw[i,g]
 refine fun u=>⟨QrG (fun v r=> .base r) u,fun q=> ?_⟩
 induction q with
 | base e=>exact Qt7 e
 | step _ c b d=>rw[← m]; exact Qur c b d
def clA (rs:List DAr)(h u:Int)(out:List Int):List Int:=rs.foldl (fun out a=>if a.1=u∧inv h a=true∧¬a.2.2.2∈out then out++[a.2.2.2] else out) out
def clL (rs:List DAr)(h:Int):Nat→Nat→List Int→List Int
 | 0,_,out=>out
 | f+1,k,out=>match out[k]? with
  | none=>out
  | some u=>clL rs h f (k+1) (clA rs h u out)
theorem Qbr:∃r,clA as_ h u S=S++r:=by
 unfold clA
 induction as_ generalizing S with
 | nil=>exact ⟨[],(bq _).symm⟩
 | cons a l b=>
  rw[aT]
  split
  ·obtain ⟨r,c⟩:=b (S:=S++[a.2.2.2])
   exact ⟨a.2.2.2 :: r,by rw[c,aP]; rfl⟩
  ·exact b
theorem Qqn (b:S.Nodup):(clA as_ h u S).Nodup:=by
 unfold clA
 induction as_ generalizing S with
 | nil=>exact b
 | cons a l d=>
  rw[aT]
  split
  ·rename_i f
   exact d (aV.2 ⟨b,by simp,fun x g y c e=>by rw[aB] at c; subst c; subst e; exact f.2.2 g⟩)
  ·exact d b
theorem Qwz (c:∀a∈as_,a∈rs)(i:Ch rs h P u)(e:∀v∈S,Ch rs h P v):∀v∈clA as_ h u S,Ch rs h P v:=by
 unfold clA
 induction as_ generalizing S with
 | nil=>exact e
 | cons a l j=>
  rw[aT]
  refine j (fun b g=>c b (aw _ g)) ?_
  split
  ·rename_i f
   intro v d
   rcases aE.1 d with d | d
   ·exact e v d
   ·rw[aB] at d; subst d
    exact .step (by rw[f.1]; exact i) (c a (ax ..)) f.2.1
  ·exact e
theorem Quq (d:a∈as_)(hi:inv h a=true)(i:a.1=u):a.2.2.2∈clA as_ h u S:=by
 induction as_ generalizing S with
 | nil=>cases d
 | cons b l e=>
  rcases aD.1 d with rfl | d
  ·unfold clA
   rw[aT]
   split
   ·obtain ⟨r,c⟩:=Qbr (as_:=l) (h:=h) (u:=u) (S:=S++[a.2.2.2])
    unfold clA at c
    rw[c]; simp
   ·rename_i f
    obtain ⟨r,c⟩:=Qbr (as_:=l) (h:=h) (u:=u) (S:=S)
    unfold clA at c
    rw[c]
    exact aG _ (cG fun g=>f ⟨i,hi,g⟩)
  ·unfold clA at e ⊢
   rw[aT]; exact e d
structure ClI (rs:List DAr) (h:Int) (P:Int→Prop) (k:Nat) (out:List Int):Prop where
  nod:out.Nodup
  ch:∀v∈out,Ch rs h P v
  bas:∀v,P v→v∈out
  don:∀(j:Nat) w,j < k→out[j]? =some w→∀a∈rs,a.1=w→inv h a=true→a.2.2.2∈out
  le:k≤out.length
theorem ClI.zero (e:S.Nodup)(c:∀v,P v↔v∈S):ClI rs h P 0 S:=⟨e,fun v b=> .base ((c v).2 b),fun v b=>(c v).1 b,fun j w d=>absurd d (bi _),aS _⟩
theorem ClI.step {out:List Int}(g:ClI rs h P k out)(f:out[k]? =some u):ClI rs h P (k+1) (clA rs h u out):=by
 obtain ⟨r,c⟩:=Qbr (as_:=rs) (h:=h) (u:=u) (S:=out)
 have o:=(ai.1 f).1
 refine ⟨Qqn g.nod,Qwz (fun _ h=>h) (g.ch u (ah f)) g.ch,fun v p=>by rw[c]; exact aG _ (g.bas v p),fun j w q b a i e l=> ?_,by rw[c,ae]; omega⟩
 by_cases m:j=k
 ·subst m
  have b:out[j]? =some w:=by rw[c,ba o] at b; exact b
  rw[f] at b; cases b
  exact Quq i l e
 ·have d:j < out.length:=by omega
  rw[c,ba d] at b
  rw[c]; exact aG _ (g.don j w (by omega) b a i e l)
theorem ClI.end_ {out:List Int}(g:ClI rs h P k out)(l:out.length≤k):∀v,v∈out↔Ch rs h P v:=by
 refine fun v=>⟨g.ch v,fun f=> ?_⟩
 induction f with
 | base c=>exact g.bas _ c
 | step _ d e i=>
  obtain ⟨j,b⟩:=aM.1 i
  exact g.don j _ (by have:=(ai.1 b).1; omega) b _ d rfl e
end
def QfY (b:UInt8):Bool:=b==43||b==45
def sgB (up:Bool):ByteArray:=if up=true then ⟨#[43]⟩ else ⟨#[45]⟩
def wdA (c:DSg)(a:DAr):ByteArray:=((c.1[a.2.1.toNat]?).getD (ByteArray.empty,0)).1++sgB a.2.2.1
def tl (t:ByteArray):List UInt8:=t.data.toList
def Qvu (l:List UInt8):Prop:=l=[]∨∃l0 s,l=l0++[s]∧QfY s=true
theorem QhT (s t:ByteArray):tl (s++t)=tl s++tl t:=by simp[tl]
theorem Qsg {s t:ByteArray}(h:tl s=tl t):s=t:=by
 cases s; cases t; simp only[tl] at h; congr; exact Array.toList_inj.1 h
theorem QqO {T d N c:List UInt8}(h:Qvu T)(i:Qvu d)(k:∀b∈N,QfY b=false)(m:∀b∈c,QfY b=false)(e:T++N=d++c):T=d∧N=c:=by
 have g:∀{T N:List UInt8},Qvu T→(∀b∈N,QfY b=false)→((T++N).reverse.takeWhile fun b=> !QfY b)=N.reverse:=fun {T N} h k=>by
  rw[List.reverse_append,List.takeWhile_append_of_pos (fun b l=>by rw[k b (List.mem_reverse.1 l)]; rfl)]
  rcases h with rfl | ⟨l0,s,rfl,hs⟩
  ·simp
  ·rw[List.reverse_append,List.reverse_singleton,List.singleton_append,List.takeWhile_cons,hs]; simp
 have f:=g h k
 rw[e,g i m] at f
 have j:=List.reverse_inj.1 f
 subst j
 exact ⟨List.append_cancel_right e,rfl⟩
end Go.Proofs.YtgpdhgadmjfokaaGreat
namespace Go.Proofs.YtgpdhgadmjfokaaGreat
open Go.RowKit
set_option maxRecDepth 100000
set_option maxHeartbeats 4000000
inductive Tr (c:DSg) (h:Int):Nat→ByteArray→Int→Prop
  | zero:Tr c h 0 ByteArray.empty 0
  | still {n:Nat} {t:ByteArray} {a:DAr}:Tr c h n t a.1→a∈c.2.2→inv h a=true→Tr c h n t a.2.2.2
  | word {n:Nat} {t:ByteArray} {a:DAr}:Tr c h n t a.1→a∈c.2.2→inv h a=false→Tr c h (n+1) (t++wdA c a) a.2.2.2
@[reducible] def DTx:=ByteArray×List Int×Int
@[reducible] def DLv:=List (ByteArray×List Int)
def Vs (c:DSg)(h:Int)(L:DLv)(s:ByteArray)(v:Int):Prop:=∃q∈L,∃a∈c.2.2,inv h a=false∧a.1∈q.2∧s=q.1++wdA c a∧v=a.2.2.2
structure Lev (c:DSg) (h:Int) (n:Nat) (K:DLv):Prop where
  nod:K.Pairwise fun p q=>p.1≠q.1
  mem:∀p∈K,(∃u,u∈p.2)∧∀u,u∈p.2↔Tr c h n p.1 u
  all:∀t u,Tr c h n t u→∃p∈K,p.1=t
section
variable {c:DSg}{h:Int}{n m:Nat}{s t:ByteArray}{u v:Int}{K L M:DLv}{a:DAr}
theorem Tr.ch {P:Int→Prop}(f:∀u,P u→Tr c h n t u)(k:Ch c.2.2 h P u):Tr c h n t u:=by
 induction k with
 | base b=>exact f _ b
 | step _ d e g=>exact .still g d e
theorem K6:Tr c h 0 t u↔t=ByteArray.empty∧Ch c.2.2 h (fun v=>v=0) u:=by
 constructor
 ·intro k
  generalize e:0=n at k
  induction k with
  | zero=>exact ⟨rfl, .base rfl⟩
  | still _ d f b=>exact ⟨(b e).1, .step (b e).2 d f⟩
  | word=>cases e
 ·rintro ⟨rfl,k⟩
  exact Tr.ch (fun u g=>by subst g; exact .zero) k
theorem QtD:Tr c h (n+1) s u↔Ch c.2.2 h (fun v=>∃t,∃a∈c.2.2,inv h a=false∧Tr c h n t a.1∧s=t++wdA c a∧v=a.2.2.2) u:=by
 constructor
 ·intro k
  generalize e:n+1=m at k
  induction k with
  | zero=>cases e
  | still _ b d j=>exact .step (j e) b d
  | word f b d=>
   cases e
   exact .base ⟨_,_,b,d,f,rfl,rfl⟩
 ·exact Tr.ch fun u ⟨t,a,f,b,d,g,i⟩=>by subst g; subst i; exact .word d f b
theorem Lev.vs (g:Lev c h n L):Vs c h L s v↔∃t,∃a∈c.2.2,inv h a=false∧Tr c h n t a.1∧s=t++wdA c a∧v=a.2.2.2:=by
 constructor
 ·rintro ⟨q,d,a,e,f,b,i,j⟩
  exact ⟨q.1,a,e,f,((g.mem q d).2 _).1 b,i,j⟩
 ·rintro ⟨t,a,e,f,b,i,j⟩
  obtain ⟨q,d,rfl⟩:=g.all t _ b
  exact ⟨q,d,a,e,f,((g.mem q d).2 _).2 b,i,j⟩
theorem Lev.next (g:Lev c h n L)(l:M.Pairwise fun p q=>p.1≠q.1)(f:∀p∈M,(∃v,Vs c h L p.1 v)∧∀u,u∈p.2↔Ch c.2.2 h (fun v=>Vs c h L p.1 v) u)(k:∀s v,Vs c h L s v→∃p∈M,p.1=s):Lev c h (n+1) M:=by
 have e:∀s u,Ch c.2.2 h (fun v=>Vs c h L s v) u↔Tr c h (n+1) s u:=fun s u=>(Ch.congr fun _=>g.vs).trans QtD.symm
 refine ⟨l,fun p i=>⟨?_,fun u=>((f p i).2 u).trans (e _ _)⟩,fun t u o=> ?_⟩
 ·obtain ⟨v,j⟩:=(f p i).1
  exact ⟨v,((f p i).2 v).2 (.base j)⟩
 ·have b:=(e t u).2 o
  have d:∃v,Vs c h L t v:=by
   induction b with
   | base d=>exact ⟨_,d⟩
   | step b _ _ r=>exact r ((e _ _).1 b)
  obtain ⟨v,j⟩:=d
  exact k t v j
def HK:List DTx→DTx→List DTx
 | [],x=>[x]
 | y :: l,x=>if y.1=x.1∧y.2.2=x.2.2 then (y.1,x.2.1.foldl (fun s k=>Z9 ltI k s) y.2.1,y.2.2) :: l else y :: HK l x
def arT (c:DSg)(h:Int)(x:DTx)(out:List DTx)(a:DAr):List DTx:=if inv h a=false∧a.1∈x.2.1 then HK out (x.1++wdA c a,[a.2.2.2],x.2.2+1) else out
def Qvi (c:DSg)(h:Int)(as_:List DAr)(x:DTx)(out:List DTx):List DTx:=as_.foldl (arT c h x) out
def Qo5 (c:DSg)(h:Int)(L:List DTx)(out:List DTx):List DTx:=L.foldl (fun out x=>Qvi c h c.2.2 x out) out
def QxB (c:DSg)(h:Int)(y:DTx):DTx:=(y.1,stl c h y.2.1,y.2.2)
def Qxc (c:DSg)(h:Int)(L:List DTx):List DTx:=(Qo5 c h L []).map (QxB c h)
def Uj (c:DSg)(h:Int):Nat→List DTx
 | 0=>[(ByteArray.empty,stl c h [0],0)]
 | n+1=>Qxc c h (Uj c h n)
def unT (L:List DTx):DLv:=L.map fun x=>(x.1,x.2.1)
structure OT (m:Int) (V:ByteArray→Int→Prop) (out:List DTx):Prop where
  many:∀y∈out,y.2.2=m
  nod:out.Pairwise fun p q=>p.1≠q.1
  srt:∀y∈out,Srt y.2.1
  mem:∀y∈out,∀v,v∈y.2.1↔V y.1 v
  wit:∀y∈out,∃v,V y.1 v
  all:∀s v,V s v→∃y∈out,y.1=s
theorem OT.congr {i:Int}{V W:ByteArray→Int→Prop}{out:List DTx}(g:OT i V out)(e:∀s v,V s v↔W s v):OT i W out:=
 ⟨g.many,g.nod,g.srt,fun y d v=>(g.mem y d v).trans (e _ _),fun y d=>(g.wit y d).imp fun v b=>(e _ _).1 b,fun s v b=>g.all s v ((e _ _).2 b)⟩
theorem Qkn {i:Int}:∀{out:List DTx} {y:DTx},(∀y∈out,y.2.2=i)→(out.Pairwise fun p q=>p.1≠q.1)→(y∈HK out (s,[v],i)↔(y∈out∧y.1≠s)∨(∃z∈out,z.1=s∧y=(z.1,Z9 ltI v z.2.1,z.2.2))∨((∀z∈out,z.1≠s)∧y=(s,[v],i)))
 | [],y,_,_=>by simp[HK]
 | z :: l,y,hm,hn=>by
  obtain ⟨r,w⟩:=bt.1 hn
  have o:=hm z (ax ..)
  rw[HK]
  by_cases e:z.1=s
  ·rw[if_pos ⟨e,o⟩]
   have A:∀x∈l,x.1≠s:=fun x d g=>r x d (e.trans g.symm)
   simp only[aT,cv,aD]
   constructor
   ·rintro (rfl | j)
    ·exact .inr (.inl ⟨z, .inl rfl,e,rfl⟩)
    ·exact .inl ⟨.inr j,A y j⟩
   ·rintro (⟨rfl | j,b⟩ | ⟨x,rfl | d,b,rfl⟩ | ⟨f,_⟩)
    ·exact absurd e b
    ·exact .inr j
    ·exact .inl rfl
    ·exact absurd b (A x d)
    ·exact absurd e (f z (.inl rfl))
  ·rw[if_neg (fun g=>e g.1)]
   have B:=Qkn (out:=l) (y:=y) (fun x d=>hm x (aw _ d)) w
   rw[aD,B]
   simp only[aD]
   constructor
   ·rintro (rfl | ⟨f,b⟩ | ⟨x,d,b,k⟩ | ⟨f,b⟩)
    ·exact .inl ⟨.inl rfl,e⟩
    ·exact .inl ⟨.inr f,b⟩
    ·exact .inr (.inl ⟨x, .inr d,b,k⟩)
    ·exact .inr (.inr ⟨fun x d=>by rcases d with rfl | d; exact e; exact f x d,b⟩)
   ·rintro (⟨rfl | f,b⟩ | ⟨x,rfl | d,b,k⟩ | ⟨f,b⟩)
    ·exact .inl rfl
    ·exact .inr (.inl ⟨f,b⟩)
    ·exact absurd b e
    ·exact .inr (.inr (.inl ⟨x,d,b,k⟩))
    ·exact .inr (.inr (.inr ⟨fun x d=>f x (.inr d),b⟩))
theorem QjU {i:Int}{x:DTx}:∀{out:List DTx},∀y∈HK out x,y.1=x.1∨∃z∈out,z.1=y.1
 | [],y,hy=>by rw[HK,aB] at hy; subst hy; exact .inl rfl
 | z :: l,y,hy=>by
  rw[HK] at hy
  split at hy
  ·rcases aD.1 hy with rfl | hy
   ·exact .inr ⟨z,ax ..,rfl⟩
   ·exact .inr ⟨y,aw _ hy,rfl⟩
  ·rcases aD.1 hy with rfl | hy
   ·exact .inr ⟨y,ax ..,rfl⟩
   ·rcases QjU (i:=i) y hy with b | ⟨w,d,b⟩
    ·exact .inl b
    ·exact .inr ⟨w,aw _ d,b⟩
theorem QiH {i:Int}{x:DTx}(e:x.2.2=i):∀{out:List DTx},(∀y∈out,y.2.2=i)→(out.Pairwise fun p q=>p.1≠q.1)→(HK out x).Pairwise fun p q=>p.1≠q.1
 | [],_,_=>cy ..
 | z :: l,hm,hn=>by
  obtain ⟨b,d⟩:=bt.1 hn
  have j:=hm z (ax ..)
  rw[HK]
  split
  ·exact bt.2 ⟨fun y k=>b y k,d⟩
  ·rename_i o
   refine bt.2 ⟨fun y k=> ?_,QiH e (fun x e=>hm x (aw _ e)) d⟩
   rcases QjU (i:=i) y k with f | ⟨w,r,f⟩
   ·exact fun g=>o ⟨g.trans f,j.trans e.symm⟩
   ·rw[← f]; exact b w r
theorem OT.step {i:Int}{V:ByteArray→Int→Prop}{out:List DTx}(g:OT i V out):OT i (fun s' f=>V s' f∨(s'=s∧f=v)) (HK out (s,[v],i)):=by
 have l:=fun y=>Qkn (s:=s) (v:=v) (y:=y) g.many g.nod
 have p:∀z∈out,z.1=s→∀f,f∈Z9 ltI v z.2.1↔V s f∨f=v:=fun z b e f=>by
  rw[YB,g.mem z b f,e]; exact Or.comm
 refine ⟨fun y o=> ?_,QiH rfl g.many g.nod,fun y o=> ?_,fun y o f=> ?_,fun y o=> ?_,fun s' f q=> ?_⟩
 ·rcases (l y).1 o with j | ⟨z,b,d,rfl⟩ | ⟨_,rfl⟩
  ·exact g.many y j.1
  ·exact g.many z b
  ·rfl
 ·rcases (l y).1 o with j | ⟨z,b,d,rfl⟩ | ⟨_,rfl⟩
  ·exact g.srt y j.1
  ·exact Kh Xb (g.srt z b)
  ·exact cy ..
 ·rcases (l y).1 o with j | ⟨z,b,d,rfl⟩ | ⟨j,rfl⟩
  ·rw[g.mem y j.1]; exact ⟨.inl,fun k=>k.resolve_right fun e=>j.2 e.1⟩
  ·show f∈Z9 ltI v z.2.1↔_
   rw[p z b d,d]
   exact ⟨fun k=>k.imp id fun e=>⟨rfl,e⟩,fun k=>k.imp id fun e=>e.2⟩
  ·show f∈[v]↔_
   rw[aB]
   refine ⟨fun e=> .inr ⟨rfl,e⟩,fun k=>k.elim (fun k=> ?_) fun k=>k.2⟩
   obtain ⟨z,b,e⟩:=g.all _ _ k
   exact absurd e (j z b)
 ·rcases (l y).1 o with j | ⟨z,b,d,rfl⟩ | ⟨_,rfl⟩
  ·exact (g.wit y j.1).imp fun _=> .inl
  ·exact ⟨v, .inr ⟨d,rfl⟩⟩
  ·exact ⟨v, .inr ⟨rfl,rfl⟩⟩
 ·by_cases e:s'=s
  ·subst e
   by_cases k:∃z∈out,z.1=s'
   ·obtain ⟨z,b,d⟩:=k
    exact ⟨_,(l _).2 (.inr (.inl ⟨z,b,d,rfl⟩)),d⟩
   ·exact ⟨_,(l _).2 (.inr (.inr ⟨fun z b d=>k ⟨z,b,d⟩,rfl⟩)),rfl⟩
  ·obtain ⟨z,b,d⟩:=g.all s' f (q.resolve_right fun k=>e k.1)
   exact ⟨z,(l _).2 (.inl ⟨b,by rw[d]; exact e⟩),d⟩
theorem QhN {i:Int}{x:DTx}(d:x.2.2+1=i):∀(as_:List DAr) {V:ByteArray→Int→Prop} {out:List DTx},OT i V out→OT i (fun s v=>V s v∨∃a∈as_,inv h a=false∧a.1∈x.2.1∧s=x.1++wdA c a∧v=a.2.2.2) (Qvi c h as_ x out)
 | [],V,out,g=>g.congr fun s v=>by simp
 | a :: l,V,out,g=>by
  show OT i _ (Qvi c h l x (arT c h x out a))
  unfold arT
  split
  ·rename_i b
   rw[d]
   refine (QhN d l g.step).congr fun s v=> ?_
   simp only[aD,exists_eq_or_imp,or_assoc]
   exact or_congr_right (or_congr_left ⟨fun k=>⟨b.1,b.2,k⟩,fun k=>k.2.2⟩)
  ·rename_i b
   refine (QhN d l g).congr fun s v=> ?_
   simp only[aD,exists_eq_or_imp]
   exact or_congr_right ⟨.inr,fun k=>k.resolve_left fun k=>b ⟨k.1,k.2.1⟩⟩
theorem Qos {i:Int}:∀(L:List DTx) {V:ByteArray→Int→Prop} {out:List DTx},(∀x∈L,x.2.2+1=i)→OT i V out→OT i (fun s v=>V s v∨Vs c h (unT L) s v) (Qo5 c h L out)
 | [],V,out,_,g=>g.congr fun s v=>by simp[Vs,unT]
 | x :: l,V,out,hm,g=>by
  refine (Qos l (fun y b=>hm y (aw _ b)) (QhN (hm x (ax ..)) c.2.2 g)).congr fun s v=> ?_
  simp only[Vs,unT,be,aD,exists_eq_or_imp,or_assoc]
theorem QrI {i:Int}{L:List DTx}(b:∀x∈L,x.2.2+1=i):OT i (Vs c h (unT L)) (Qo5 c h L []):=
 (Qos L b (V:=fun _ _=>False) ⟨by simp,bF,by simp,by simp,by simp,by simp⟩).congr fun s v=>by simp
end
end Go.Proofs.YtgpdhgadmjfokaaGreat
