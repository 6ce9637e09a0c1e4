/- Walks over abstract states: the candidate insertions and the best one, both sides. -/
import Derived.Test.YtndabgcpnmeeoaaGreatPUg
import Derived.Test.YtndabgcpnmeeoaaGreatPBp
import Derived.Test.YtndabgcpnmeeoaaGreatPAg
import Derived.Test.YtndabgcpnmeeoaaGreatPApp
import Derived.Test.YtndabgcpnmeeoaaGreatPUe
import Derived.Test.YtndabgcpnmeeoaaGreatPWz
import Derived.Test.YtndabgcpnmeeoaaGreatPWv
set_option linter.unusedSimpArgs false
set_option linter.unusedVariables false
set_option linter.unusedSectionVars false
namespace Go.Proofs.YtndabgcpnmeeoaaGreat
open Go.RowKit
set_option maxRecDepth 100000
set_option maxHeartbeats 4000000
abbrev Z3:=(Int×Bool)×Int×Bool
def Q2 (k:Nat):List (Int×Bool):=(List.range k).flatMap fun i=>[(((i:Nat):Int),false),(((i:Nat):Int),true)]
section
variable {k:Nat}
theorem WZ:(Q2 k).length=2*k:=by
 unfold Q2
 induction k with
 | zero=>rfl
 | succ k d=>rw[bJ,db,aj,d]; simp; omega
theorem Qgy:Q2 k++[(((k:Nat):Int),false),(((k:Nat):Int),true)]=Q2 (k+1):=by
 unfold Q2
 rw[bJ,db]; simp
end
section
variable [∀c,Decidable (SgOk c)][∀s,Decidable (Zo s)]{c:DSg}{a b:Int×Bool}{i j k n:Nat}{x:Z3}{L:List (Int×Bool)}
def isX (c:DSg)(a b:Int×Bool):Bool:= !decide (a=b)&&(Zp c (a,b)).2
def JF (c:DSg)(a:Int×Bool)(l:List (Int×Bool)):List Z3:=(l.filter fun b=>isX c a b).map fun b=>(a,b)
def QbM (c:DSg)(L l:List (Int×Bool)):List Z3:=l.flatMap fun a=>JF c a L
abbrev QQ (c:DSg):List Z3:=QbM c (Q2 c.1.length) (Q2 c.1.length)
abbrev UB (c:DSg)(l:List Z3):List (Z3×DSg):=l.map fun x=>(x,(Zp c x).1)
theorem Qaj (d:L[i]? =some b)(h:Ty.beq QF a b=true):JF c a (L.take i)=JF c a (L.take (i+1)):=by
 rw[Qv4,aQ] at h
 unfold JF
 rw[QO d,aZ,bl]; simp[isX,h]
theorem Qak (d:L[i]? =some b)(h:(Zp c (a,b)).2=false):JF c a (L.take i)=JF c a (L.take (i+1)):=by
 unfold JF
 rw[QO d,aZ,bl]; simp[isX,h]
theorem QeP (e:L[i]? =some b)(d:Ty.beq QF a b=false)(h:(Zp c (a,b)).2=true):JF c a (L.take i)++[(a,b)]=JF c a (L.take (i+1)):=by
 rw[Qv4,bE] at d
 unfold JF
 rw[QO e,aZ,bl]; simp[isX,h,d]
theorem Qkr (d:L[k]? =some a):QbM c L (L.take k)++JF c a L=QbM c L (L.take (k+1)):=by
 unfold QbM
 rw[QO d,db]; simp
theorem Qjx:(JF c a L).length≤L.length:=by unfold JF; rw[aF]; exact bK ..
theorem Que {l:List (Int×Bool)}:(QbM c L l).length≤l.length*L.length:=by
 unfold QbM
 induction l with
 | nil=>simp
 | cons a l d=>
  rw[de,aj,au,Nat.succ_mul]
  have:=Qjx (c:=c) (a:=a) (L:=L)
  omega
theorem QeA (h:c.1.length≤8)(l:List (Int×Bool))(e:l.length≤16):(QbM c (Q2 c.1.length) l).length≤256:=by
 have d:=Que (c:=c) (L:=Q2 c.1.length) (l:=l)
 rw[WZ] at d
 have:l.length*(2*c.1.length)≤16*16:=cY e (by omega)
 omega
theorem Quf (h:x∈QbM c L L):(x.1∈L∧x.2∈L)∧¬x.1=x.2∧(Zp c x).2=true:=by
 unfold QbM at h
 obtain ⟨a,f,h⟩:=List.mem_flatMap.1 h
 unfold JF at h
 obtain ⟨b,e,rfl⟩:=bF.1 h
 rw[cn] at e
 have d:=e.2
 unfold isX at d
 simp only[aI,bO,bE] at d
 exact ⟨⟨f,e.1⟩,d.1,d.2⟩
theorem Qk0 (h:b∈Q2 k):0≤b.1∧b.1≤(k:Int) - 1:=by
 unfold Q2 at h
 obtain ⟨i,d,h⟩:=List.mem_flatMap.1 h
 rw[cj] at d
 simp only[aK,cO,or_false] at h
 rcases h with rfl | rfl <;> (simp only; omega)
theorem QoP (m:SgOk c)(h:x∈QQ c):Qki c x∧(Zp c x).2=true:=by
 obtain ⟨⟨d,e⟩,f,g⟩:=Quf h
 exact ⟨⟨⟨⟨m,Qk0 d⟩,Qk0 e⟩,f⟩,g⟩
theorem QdH (l:List Z3):(UB c l).length=l.length:=aF ..
theorem QtK {l:List Z3}{y:Z3×DSg}(h:(UB c l)[i]? =some y):∃x,l[i]? =some x∧y=(x,(Zp c x).1):=by
 simp only[bf,cc] at h
 obtain ⟨x,d,e⟩:=h
 exact ⟨x,d,e.symm⟩
def Qd4 (c:DSg)(x:Z3):Int:=((Zt (Zp c x).1).length:Int)
def Qp9 (c:DSg)(x:Z3):Int:=((Zp c x).1.2.1.length:Int)
def Qp4 (c:DSg)(m:Option Z3)(x:Z3):Option Z3:=match m with
 | none=>some x
 | some y=>if Qd4 c x < Qd4 c y∨(Qd4 c x=Qd4 c y∧Qp9 c x < Qp9 c y) then some x else some y
def oC (c:DSg):Option Z3→Z3×DSg
 | some x=>(x,(Zp c x).1)
 | none=>(((0,false),0,false),([],[],[]))
def oF (c:DSg)(d:Int):Option Z3→Int
 | some x=>Qd4 c x
 | none=>d
def oS (c:DSg):Option Z3→Int
 | some x=>Qp9 c x
 | none=>0
def Q1 (c:DSg)(l:List Z3):Option Z3:=l.foldl (Qp4 c) none
def Zu (c:DSg)(l:List Z3):Z3:=(Q1 c l).getD ((0,false),0,false)
def Zg (c:DSg)(l:List Z3):Z3×DSg:=oC c (Q1 c l)
def Xe (c:DSg)(l:List Z3):Int:=oF c 0 (Q1 c l)
def VM (c:DSg)(l:List Z3):Int:=oF c (-1) (Q1 c l)
def JN (c:DSg)(l:List Z3):Int:=oS c (Q1 c l)
theorem Qfo {l:List Z3}(d:l[k]? =some x):Q1 c (l.take (k+1))=Qp4 c (Q1 c (l.take k)) x:=by
 unfold Q1
 rw[QO d,bm]; rfl
theorem QoT (x:Z3):0≤Qd4 c x:=bC _
theorem QhF {l:List Z3}:VM c l < 0↔Q1 c l=none:=by
 unfold VM
 cases h:Q1 c l with
 | none=>simp[oF]
 | some y=>have:=QoT (c:=c) y; simp[oF]; omega
theorem QbL {l:List Z3}(e:l[k]? =some x)(h:Q1 c (l.take k)=none∨Qd4 c x < Xe c (l.take k)∨(Qd4 c x=Xe c (l.take k)∧Qp9 c x < JN c (l.take k))):Q1 c (l.take (k+1))=some x:=by
 rw[Qfo e]
 unfold Xe JN at h
 cases d:Q1 c (l.take k) with
 | none=>rfl
 | some y=>
  rw[d] at h
  exact if_pos (h.resolve_left (by simp))
theorem Qkj {l:List Z3}(e:l[k]? =some x)(h0:¬Q1 c (l.take k)=none)(h:¬(Qd4 c x < Xe c (l.take k)∨(Qd4 c x=Xe c (l.take k)∧Qp9 c x < JN c (l.take k)))):Q1 c (l.take (k+1))=Q1 c (l.take k):=by
 rw[Qfo e]
 unfold Xe JN at h
 cases d:Q1 c (l.take k) with
 | none=>exact absurd d h0
 | some y=>
  rw[d] at h
  exact if_neg h
theorem Hk {l:List Z3}{m:Option Z3}(h:Q1 c l=m):Zu c l=m.getD ((0,false),0,false)∧Zg c l=oC c m∧Xe c l=oF c 0 m∧VM c l=oF c (-1) m∧JN c l=oS c m:=by
 subst h; exact ⟨rfl,rfl,rfl,rfl,rfl⟩
theorem QoG {l:List Z3}(h:¬VM c l < 0):Xe c l=VM c l:=by
 unfold VM at h
 unfold Xe VM
 cases d:Q1 c l with
 | none=>rw[d] at h; simp[oF] at h
 | some y=>rfl
theorem QoF {l:List Z3}(h:¬Q1 c l=none):((Zg c l).2.2.1.length:Int)=JN c l:=by
 unfold Zg JN
 cases d:Q1 c l with
 | none=>exact absurd d h
 | some y=>rfl
theorem Qt5 {l:List Z3}:(Zg c l).1=Zu c l:=by
 unfold Zg Zu
 cases d:Q1 c l <;> rfl
theorem Qfu (g:SgOk c)(h:x∈QQ c):XJ c x=Qd4 c x∧Uk c x=Qp9 c x∧VN c x=true:=by
 obtain ⟨e,f⟩:=QoP g h
 have d:=QbO e f
 exact ⟨if_pos d,if_pos d,d⟩
theorem QhL (d:SgOk c)(h:x∈QQ c):SgOk (Zp c x).1:=QtC (QoP d h).2
def QxZ (c:DSg):Z3:=if SgOk c then Zu c (QQ c) else ((0,false),0,false)
def QxY (c:DSg):Bool:=decide (SgOk c)&&(Q1 c (QQ c)).isSome
section
variable {l:List Z3}{y cand:Z3×DSg}{few st:Int}{fnd:Bool}{bx:Z3}
theorem QiL (g:l[k]? =some x)(t:y=(x,(Zp c x).1))(s:cand=Zg c (l.take k)∧few=Xe c (l.take k)∧fnd=(Q1 c (l.take k)).isSome)
 (h:fnd=false∨((Zt y.2).length:Int) < few∨(((Zt y.2).length:Int)=few∧(y.2.2.1.length:Int) < (cand.2.2.1.length:Int))):
 y=Zg c (l.take (k+1))∧((Zt y.2).length:Int)=Xe c (l.take (k+1))∧true=(Q1 c (l.take (k+1))).isSome:=by
 obtain ⟨p,q,r⟩:=s
 subst t
 have f:Q1 c (l.take (k+1))=some x:=by
  by_cases d:Q1 c (l.take k)=none
  ·exact QbL g (.inl d)
  ·refine QbL g (.inr ?_)
   rw[q,p,QoF d] at h
   rcases h with h | h
   ·rw[r] at h; cases e:Q1 c (l.take k) with
    | none=>exact absurd e d
    | some z=>rw[e] at h; cases h
   ·exact h
 obtain ⟨_,m,o,_,_⟩:=Hk f
 exact ⟨m.symm,o.symm,by rw[f]; rfl⟩
theorem QoI (r:l[k]? =some x)(s:y=(x,(Zp c x).1))(q:cand=Zg c (l.take k)∧few=Xe c (l.take k)∧fnd=(Q1 c (l.take k)).isSome)
 (h0:fnd=true) (h1:¬((Zt y.2).length:Int) < few) (h2:¬(((Zt y.2).length:Int)=few∧(y.2.2.1.length:Int) < (cand.2.2.1.length:Int))):
 cand=Zg c (l.take (k+1))∧few=Xe c (l.take (k+1))∧true=(Q1 c (l.take (k+1))).isSome:=by
 obtain ⟨e,f,g⟩:=q
 subst s
 have d:¬Q1 c (l.take k)=none:=fun h=>by rw[g,h] at h0; cases h0
 have m:Q1 c (l.take (k+1))=Q1 c (l.take k):=Qkj r d fun h=>by
  rw[f] at h1 h2
  rw[e,QoF d] at h2
  rcases h with h | h
  ·exact h1 h
  ·exact h2 h
 obtain ⟨_,o,p,_,_⟩:=Hk m
 refine ⟨e.trans ?_,f.trans ?_,by rw[m,← g,h0]⟩
 ·rw[o]; rfl
 ·rw[p]; rfl
theorem QiQ (u:SgOk c)(s:x∈QQ c)(f:l[k]? =some x)(r:bx=Zu c (l.take k)∧few=VM c (l.take k)∧st=JN c (l.take k))
 (h:few < 0∨XJ c x < few∨(XJ c x=few∧Uk c x < st)):x=Zu c (l.take (k+1))∧XJ c x=VM c (l.take (k+1))∧Uk c x=JN c (l.take (k+1)):=by
 obtain ⟨v,p,q⟩:=r
 obtain ⟨c1,c2,_⟩:=Qfu u s
 rw[c1,c2] at h ⊢
 have t:Q1 c (l.take (k+1))=some x:=by
  by_cases d:Q1 c (l.take k)=none
  ·exact QbL f (.inl d)
  ·have e:¬VM c (l.take k) < 0:=fun h=>d (QhF.1 h)
   refine QbL f (.inr ?_)
   rw[QoG e]
   rw[p,q] at h
   exact h.resolve_left e
 obtain ⟨g,_,_,m,o⟩:=Hk t
 exact ⟨g.symm,m.symm,o.symm⟩
theorem QoN (t:SgOk c)(r:x∈QQ c)(u:l[k]? =some x)(q:bx=Zu c (l.take k)∧few=VM c (l.take k)∧st=JN c (l.take k))
 (h0:¬few < 0) (h1:¬XJ c x < few) (h2':¬(XJ c x=few∧Uk c x < st)):bx=Zu c (l.take (k+1))∧few=VM c (l.take (k+1))∧st=JN c (l.take (k+1)):=by
 obtain ⟨p,d,f⟩:=q
 obtain ⟨c1,c2,_⟩:=Qfu t r
 rw[c1] at h1
 rw[c1,c2] at h2'
 have e:¬Q1 c (l.take k)=none:=fun h=>by rw[d] at h0; exact h0 (QhF.2 h)
 have s:Q1 c (l.take (k+1))=Q1 c (l.take k):=Qkj u e fun h=>by
  rw[QoG (by rw[← d]; exact h0),← d,← f] at h
  rcases h with h | h
  ·exact h1 h
  ·exact h2' h
 obtain ⟨g,_,_,m,o⟩:=Hk s
 refine ⟨p.trans ?_,d.trans ?_,f.trans ?_⟩
 ·rw[g]; rfl
 ·rw[m]; rfl
 ·rw[o]; rfl
theorem Hj:decide (0≤VM c l)=(Q1 c l).isSome:=by
 cases h:Q1 c l with
 | none=>unfold VM; rw[h]; rfl
 | some y=>unfold VM; rw[h]; exact aL (QoT y)
theorem Qg1 {P:List (Z3×DSg)}(e:L[i]? =some b)(d:Ty.beq QF a b=false)(h:(Zp c (a,b)).2=true):(P++UB c (JF c a (L.take i)))++[((a,b),(Zp c (a,b)).1)]=P++UB c (JF c a (L.take (i+1))):=by
 rw[← QeP e d h,UB,UB,bl,aO]; rfl
end
end
theorem Ky (c:Zi)(t:c.1.length≤100000):FC Tryz.prog 505 [(true,[.dat Ql c.1, .dat Qo c.2.1, .dat Qw c.2.2])] [] 0 (YB 75 QF (Q2 c.1.length)):=by
 refine Qv Tryz.func505 rfl rfl Tryz.ntmps505 fun r o q g s m h=> ?_
 refine w_ ?_
 refine xbx 0 ?_
 refine w3 ?_
 refine lc (dBs 1 (e:=QF) VK) ?_
 refine w6 ?_
 refine alL 7 fun _=> ?_
 refine w4 ?_
 refine lp0 c.1.length (fun k=>⟨[(2,lf (.val (.slice none 0 0))),(3,lR 2),(8,lI (c.1.length:Int)),(9,lI (k:Int))],[ar 2 75 QF (Q2 k)]⟩) ?_ fun k _=> ?_
 exact wp [(2,1)] ⟨(Qe (rfl)),trivial⟩
 have p:=WZ (k:=k)
 refine w4 ?_
 cases d:(decide ((k:Int) < (c.1.length:Int)))
 have f:=aa d
 refine w7 ?_
 refine Qd<|fo_ o ?_
 (congr 1; omega)
 have f:=ab d
 refine w11 ?_
 refine lc (Qi VB ⟨_,_,rfl,(Qk rfl),⟨_,_,rfl,(Evl.ev Zb),rfl⟩⟩ (ak.1 rfl) rfl rfl) ?_
 refine w_ ?_
 refine lc (Qi VB ⟨_,_,rfl,(Qk rfl),⟨_,_,rfl,(Evl.ev Zb),rfl⟩⟩ (ak.1 rfl) rfl rfl) ?_
 refine lc (dBs 3 (e:=QF) VK (hab:=by exact ⟨_,_,_,_,rfl,⟨[dI (k:Int)],[dB false],_,_,_,_,rfl,rfl,⟨rfl,rfl⟩,⟨rfl,rfl⟩,rfl⟩,⟨_,_,_,_,rfl,⟨[dI (k:Int)],[dB true],_,_,_,_,rfl,rfl,⟨rfl,rfl⟩,⟨rfl,rfl⟩,rfl⟩,⟨rfl,rfl⟩,rfl⟩,rfl⟩)) ?_
 refine lc (dA 4 Qsf) ?_
 refine w_ ?_
 refine Qb ?_
 refine w4 ?_
 refine Qb ?_
 refine l0_ ?_
 exact wp [(2,4)] ⟨(Qe (Qgy)),trivial⟩
theorem UN (c:Zi)(t:c.1.length≤100000):FC Tryz.prog 492 [(true,[.dat Ql c.1, .dat Qo c.2.1, .dat Qw c.2.2])] [] 0 (YB 75 QF (Q2 c.1.length)):=by
 refine Qv Tryz.func492 rfl rfl Tryz.ntmps492 fun r o q g s m h=> ?_
 refine w_ ?_
 refine xbx 0 ?_
 refine w9 ?_
 refine alL 6 fun _=> ?_
 refine w4 ?_
 refine AC.wk (Wk.nilS 1 3 75 QF rfl (Fresh.of rfl) (nlr rfl)) ?_
 refine lp0 c.1.length (fun k=>⟨[(2,lf (.val (.slice none 0 0))),(3,lR 2),(7,lI (c.1.length:Int)),(8,lI (k:Int))],[ar 2 75 QF (Q2 k)]⟩) ?_ fun k _=> ?_
 exact wp [(2,1)] ⟨(Qe (rfl)),trivial⟩
 have p:=WZ (k:=k)
 refine w4 ?_
 cases d:(decide ((k:Int) < (c.1.length:Int)))
 have f:=aa d
 refine w7 ?_
 refine Qd<|fo_ o ?_
 (congr 1; omega)
 have f:=ab d
 refine w11 ?_
 refine lc (Qi VB ⟨_,_,rfl,(Qk rfl),rfl⟩ (ak.1 rfl) rfl rfl) ?_
 refine w_ ?_
 refine lc (Qi VB ⟨_,_,rfl,(Qk rfl),⟨_,_,rfl,(Evl.ev Zb),rfl⟩⟩ (ak.1 rfl) rfl rfl) ?_
 refine lc (dBs 3 (e:=QF) VK (hab:=by exact ⟨_,_,_,_,rfl,⟨[dI (k:Int)],[dB false],_,_,_,_,rfl,rfl,⟨rfl,rfl⟩,⟨rfl,rfl⟩,rfl⟩,⟨_,_,_,_,rfl,⟨[dI (k:Int)],[dB true],_,_,_,_,rfl,rfl,⟨rfl,rfl⟩,⟨rfl,rfl⟩,rfl⟩,⟨rfl,rfl⟩,rfl⟩,rfl⟩)) ?_
 refine lc (dA 4 Qsf) ?_
 refine w_ ?_
 refine Qb ?_
 refine w4 ?_
 refine Qb ?_
 refine l0_ ?_
 exact wp [(2,4)] ⟨(Qe (Qgy)),trivial⟩
theorem Qbh (c:Zi)[∀c,Decidable (SgOk c)][∀s,Decidable (Zo s)](z:SgOk c):FC Tryz.prog 416 [(true,[.dat Ql c.1, .dat Qo c.2.1, .dat Qw c.2.2])] [] 0 (YB 325 QjN (UB c (QQ c))):=by
 have r:=z.sigs.2.2
 have F:=WZ (k:=c.1.length)
 have o:=QeA (c:=c) r
 refine Qv Tryz.func416 rfl rfl Tryz.ntmps416 fun M D K A N C B=> ?_
 refine w_ ?_
 refine xbx 0 ?_
 refine w3 ?_
 refine lc (dBs 1 (e:=QjN) JM) ?_
 refine w5 ?_
 refine lc (dK (Ky c (by omega)).frozen QfV) ?_
 refine alL 12 fun _=> ?_
 refine w4 ?_
 refine lp0 ((Q2 c.1.length).length) (fun k=>⟨[(1,lP 0 0),(2,lf (.val (.slice none 0 0))),(3,lR 2),(12,lf (.dat Yq (Q2 c.1.length))),(13,lI ((Q2 c.1.length).length:Int)),(14,lI (k:Int))],[bx 0 28 [.dat Ql c.1, .dat Qo c.2.1, .dat Qw c.2.2],ar 2 325 QjN (UB c (QbM c (Q2 c.1.length) ((Q2 c.1.length).take k)))]⟩) ?_ fun k _=> ?_
 exact wp [(2,1)] ⟨rfl,(Qe (rfl)),trivial⟩
 have t:((Q2 c.1.length).take k).length≤16:=by simp only[ao]; omega
 have E:=o _ t
 have I:=QdH (c:=c) (QbM c (Q2 c.1.length) ((Q2 c.1.length).take k))
 refine w4 ?_
 cases f:(decide ((k:Int) < ((Q2 c.1.length).length:Int)))
 have g:=aa f
 refine w7 ?_
 refine Qd<|fo_ D ?_
 ·(rw[QT (by omega)]; done)
 have g:=ab f
 refine w5 ?_
 obtain ⟨a,u⟩:=gx (Q2 c.1.length) k
 refine w2 ?_
 refine lc (xal 3 QF VK) ?_
 refine w4 ?_
 refine lc (dK (Ky c (by omega)).frozen QfV) ?_
 refine alL 19 fun _=> ?_
 refine w4 ?_
 refine lp0 ((Q2 c.1.length).length) (fun i=>⟨[(1,lP 0 0),(2,lf (.val (.slice none 0 0))),(3,lR 4),(5,lP 3 0),(12,lf (.dat Yq (Q2 c.1.length))),(13,lI ((Q2 c.1.length).length:Int)),(14,lI (k:Int)),(15,lB true),(16,lf (.elt QF a 0)),(17,ag [dI a.1,dB a.2]),(18,ag [.dat Ql c.1, .dat Qo c.2.1, .dat Qw c.2.2]),(19,lf (.dat Yq (Q2 c.1.length))),(20,lI ((Q2 c.1.length).length:Int)),(21,lI (i:Int))],[bx 0 28 [.dat Ql c.1, .dat Qo c.2.1, .dat Qw c.2.2],bx 3 75 [dI a.1,dB a.2],ar 4 325 QjN (UB c (QbM c (Q2 c.1.length) ((Q2 c.1.length).take k))++UB c (JF c a ((Q2 c.1.length).take i)))]⟩) ?_ fun i _=> ?_
 exact wp [(4,2)] ⟨rfl,rfl,(Qe ((bs _).symm)),trivial⟩
 have J:=QdH (c:=c) (JF c a ((Q2 c.1.length).take i))
 have G:=Qjx (c:=c) (a:=a) (L:=(Q2 c.1.length).take i)
 have H:((Q2 c.1.length).take i).length≤16:=by simp only[ao]; omega
 refine w4 ?_
 cases h:(decide ((i:Int) < ((Q2 c.1.length).length:Int)))
 have m:=aa h
 refine w6 ?_
 refine Qb ?_
 refine l0_ ?_
 exact wp [(2,4)] ⟨rfl,(Qe ((by rw[QT (l:=Q2 c.1.length) (k:=i) (by omega),← Qkr u,UB,UB,UB,bl]))),trivial⟩
 have m:=ab h
 refine w5 ?_
 obtain ⟨b,d⟩:=gx (Q2 c.1.length) i
 refine w2 ?_
 refine lc (xal 5 QF VK) ?_
 refine w6 ?_
 refine lc (HT Qbc Qbb (Qk rfl) (Qk rfl) (p:=a) (q:=b) rfl rfl rfl) ?_
 refine w_ ?_
 cases v:(Ty.beq QF a b)
 refine w6 ?_
 refine lc (Qi Qew ⟨_,_,rfl,(Qk rfl),⟨_,_,rfl,(Qk rfl),rfl⟩⟩ (ak.1 rfl) rfl rfl) ?_
 refine lc (dG 6 (Qg9 c (a,b) z) Qnj) ?_
 refine w3 ?_
 refine lc (xal 9 XU Zr) ?_
 refine w6 ?_
 cases w:((Zp c (a,b)).2)
 refine w6 ?_
 refine Qb ?_
 refine l0_ ?_
 exact wp [] ⟨rfl,rfl,(Qe (by first | exact Qg1 d ‹_› ‹_› | rw[Qaj d ‹_›] | rw[Qak d ‹_›])),trivial⟩
 refine w5 ?_
 refine lc (Qi Qew ⟨_,_,rfl,(Qk rfl),⟨_,_,rfl,(Qk rfl),rfl⟩⟩ (ak.1 rfl) rfl rfl) ?_
 refine w_ ?_
 refine lc (Qi QoL ⟨_,_,rfl,(Qk rfl),⟨_,_,rfl,(Qk rfl),rfl⟩⟩ (ak.1 rfl) rfl rfl) ?_
 refine lc (dBs 10 (e:=QjN) JM (hab:=by exact ⟨_,_,_,_,rfl,⟨[dI a.1,dB a.2,dI b.1,dB b.2],[.ref 6, .ref 7, .ref 8],_,_,_,_,rfl,rfl,⟨[dI a.1,dB a.2],[dI b.1,dB b.2],_,_,_,_,rfl,rfl,⟨[dI a.1],[dB a.2],_,_,_,_,rfl,rfl,⟨rfl,rfl⟩,⟨rfl,rfl⟩,rfl⟩,⟨[dI b.1],[dB b.2],_,_,_,_,rfl,rfl,⟨rfl,rfl⟩,⟨rfl,rfl⟩,rfl⟩,rfl⟩,⟨[.ref 6],[.ref 7, .ref 8],_,_,_,_,rfl,rfl,(.inl ⟨_,rfl,rfl,rfl⟩),⟨[.ref 7],[.ref 8],_,_,_,_,rfl,rfl,(.inl ⟨_,rfl,rfl,rfl⟩),(.inl ⟨_,rfl,rfl,rfl⟩),rfl⟩,rfl⟩,rfl⟩,⟨rfl,rfl⟩,rfl⟩)) ?_
 refine lc (dA 11 Qum) ?_
 refine w_ ?_
 refine Qb ?_
 refine w4 ?_
 refine Qb ?_
 refine l0_ ?_
 exact wp [(4,11)] ⟨rfl,rfl,(Qe (by first | exact Qg1 d ‹_› ‹_› | rw[Qaj d ‹_›] | rw[Qak d ‹_›])),trivial⟩
 refine w6 ?_
 refine Qb ?_
 refine l0_ ?_
 exact wp [] ⟨rfl,rfl,(Qe (by first | exact Qg1 d ‹_› ‹_› | rw[Qaj d ‹_›] | rw[Qak d ‹_›])),trivial⟩
theorem Qbo (c:Zi)[∀c,Decidable (SgOk c)][∀s,Decidable (Zo s)](z:SgOk c):FC Tryz.prog 401 [(true,[.dat Ql c.1, .dat Qo c.2.1, .dat Qw c.2.2])] [] 0 (YB 314 Ws (QQ c)):=by
 have r:=z.sigs.2.2
 have F:=WZ (k:=c.1.length)
 have o:=QeA (c:=c) r
 refine Qv Tryz.func401 rfl rfl Tryz.ntmps401 fun J D I A K C B=> ?_
 refine w_ ?_
 refine xbx 0 ?_
 refine w8 ?_
 refine lc (dK (UN c (by omega)).frozen QfS) ?_
 refine alL 11 fun _=> ?_
 refine w4 ?_
 refine AC.wk (Wk.nilS 1 3 314 Ws rfl (Fresh.of rfl) (nlr rfl)) ?_
 refine lp0 ((Q2 c.1.length).length) (fun k=>⟨[(1,lP 0 0),(2,lf (.val (.slice none 0 0))),(3,lR 2),(11,lf (.dat Yq (Q2 c.1.length))),(12,lI ((Q2 c.1.length).length:Int)),(13,lI (k:Int))],[bx 0 28 [.dat Ql c.1, .dat Qo c.2.1, .dat Qw c.2.2],ar 2 314 Ws (QbM c (Q2 c.1.length) ((Q2 c.1.length).take k))]⟩) ?_ fun k _=> ?_
 exact wp [(2,1)] ⟨rfl,(Qe (rfl)),trivial⟩
 have t:((Q2 c.1.length).take k).length≤16:=by simp only[ao]; omega
 have E:=o _ t
 refine w4 ?_
 cases f:(decide ((k:Int) < ((Q2 c.1.length).length:Int)))
 have g:=aa f
 refine w7 ?_
 refine Qd<|fo_ D ?_
 ·(rw[QT (by omega)]; done)
 have g:=ab f
 refine w5 ?_
 obtain ⟨a,u⟩:=gx (Q2 c.1.length) k
 refine w2 ?_
 refine lc (xal 3 QF VK) ?_
 refine w4 ?_
 refine lc (dK (UN c (by omega)).frozen QfS) ?_
 refine alL 18 fun _=> ?_
 refine w4 ?_
 refine lp0 ((Q2 c.1.length).length) (fun i=>⟨[(1,lP 0 0),(2,lf (.val (.slice none 0 0))),(3,lR 4),(5,lP 3 0),(11,lf (.dat Yq (Q2 c.1.length))),(12,lI ((Q2 c.1.length).length:Int)),(13,lI (k:Int)),(14,lB true),(15,lf (.elt QF a 0)),(16,ag [dI a.1,dB a.2]),(17,ag [.dat Ql c.1, .dat Qo c.2.1, .dat Qw c.2.2]),(18,lf (.dat Yq (Q2 c.1.length))),(19,lI ((Q2 c.1.length).length:Int)),(20,lI (i:Int))],[bx 0 28 [.dat Ql c.1, .dat Qo c.2.1, .dat Qw c.2.2],bx 3 75 [dI a.1,dB a.2],ar 4 314 Ws (QbM c (Q2 c.1.length) ((Q2 c.1.length).take k)++JF c a ((Q2 c.1.length).take i))]⟩) ?_ fun i _=> ?_
 exact wp [(4,2)] ⟨rfl,rfl,(Qe ((bs _).symm)),trivial⟩
 have G:=Qjx (c:=c) (a:=a) (L:=(Q2 c.1.length).take i)
 have H:((Q2 c.1.length).take i).length≤16:=by simp only[ao]; omega
 refine w4 ?_
 cases h:(decide ((i:Int) < ((Q2 c.1.length).length:Int)))
 have m:=aa h
 refine w6 ?_
 refine Qb ?_
 refine l0_ ?_
 exact wp [(2,4)] ⟨rfl,(Qe ((by rw[QT (l:=Q2 c.1.length) (k:=i) (by omega),Qkr u]))),trivial⟩
 have m:=ab h
 refine w5 ?_
 obtain ⟨b,d⟩:=gx (Q2 c.1.length) i
 refine w2 ?_
 refine lc (xal 5 QF VK) ?_
 refine w6 ?_
 refine lc (HT Qbc Qbb (Qk rfl) (Qk rfl) (p:=a) (q:=b) rfl rfl rfl) ?_
 refine w_ ?_
 cases v:(Ty.beq QF a b)
 refine w6 ?_
 refine lc (Qi Qew ⟨_,_,rfl,(Qk rfl),⟨_,_,rfl,(Qk rfl),rfl⟩⟩ (ak.1 rfl) rfl rfl) ?_
 refine lc (dG 6 (VE c (a,b) z) QaY) ?_
 refine w3 ?_
 refine lc (xal 9 XU Zr) ?_
 refine w6 ?_
 cases w:((Zp c (a,b)).2)
 refine w6 ?_
 refine Qb ?_
 refine l0_ ?_
 exact wp [] ⟨rfl,rfl,(Qe (by first | rw[aO,QeP d ‹_› ‹_›] | rw[Qaj d ‹_›] | rw[Qak d ‹_›])),trivial⟩
 refine w5 ?_
 refine lc (Qi Qew ⟨_,_,rfl,(Qk rfl),⟨_,_,rfl,(Qk rfl),rfl⟩⟩ (ak.1 rfl) rfl rfl) ?_
 refine lc (dBs 10 (e:=Ws) VY (hab:=by exact ⟨_,_,_,_,rfl,⟨[dI a.1,dB a.2],[dI b.1,dB b.2],_,_,_,_,rfl,rfl,⟨[dI a.1],[dB a.2],_,_,_,_,rfl,rfl,⟨rfl,rfl⟩,⟨rfl,rfl⟩,rfl⟩,⟨[dI b.1],[dB b.2],_,_,_,_,rfl,rfl,⟨rfl,rfl⟩,⟨rfl,rfl⟩,rfl⟩,rfl⟩,⟨rfl,rfl⟩,rfl⟩)) ?_
 refine lc (dA 11 Qi3) ?_
 refine w_ ?_
 refine Qb ?_
 refine w4 ?_
 refine Qb ?_
 refine l0_ ?_
 exact wp [(4,11)] ⟨rfl,rfl,(Qe (by first | rw[aO,QeP d ‹_› ‹_›] | rw[Qaj d ‹_›] | rw[Qak d ‹_›])),trivial⟩
 refine w6 ?_
 refine Qb ?_
 refine l0_ ?_
 exact wp [] ⟨rfl,rfl,(Qe (by first | rw[aO,QeP d ‹_› ‹_›] | rw[Qaj d ‹_›] | rw[Qak d ‹_›])),trivial⟩
theorem Qeg (c:Zi)[∀c,Decidable (SgOk c)][∀s,Decidable (Zo s)](w:SgOk c):FC Tryz.prog 285 [(true,[.dat Ql c.1, .dat Qo c.2.1, .dat Qw c.2.2])] [] 0 (QY (PV.tup [(true,[dI (((Zu c (QQ c)).1).1),dB (((Zu c (QQ c)).1).2),dI (((Zu c (QQ c)).2).1),dB (((Zu c (QQ c)).2).2)]),(false,[dB ((Q1 c (QQ c)).isSome)])])):=by
 have C:=w.sigs.2.2
 have R:=WZ (k:=c.1.length)
 have B:=QeA (c:=c) C
 have P:(QQ c).length≤256:=B (Q2 c.1.length) (by omega)
 refine Qv Tryz.func285 rfl rfl Tryz.ntmps285 fun U O T F V N M=> ?_
 refine w_ ?_
 refine xbx 0 ?_
 refine lc (xal 1 Ws VY) ?_
 refine w3 ?_
 refine lc (xal 2 Ws VY) ?_
 refine w8 ?_
 refine lc (dK (Qbo c w).frozen QmY) ?_
 refine alL 13 fun _=> ?_
 refine w4 ?_
 refine QP (fun D E=>∃(k:Nat) (bx:(Int×Bool)×(Int×Bool)) (few:Int) (st:Int),k≤(QQ c).length∧D=(QQ c).length - k∧(bx=Zu c ((QQ c).take k)∧few=VM c ((QQ c).take k)∧st=JN c ((QQ c).take k))∧E=⟨[(1,lP 0 0),(2,lP 1 0),(3,lB false),(4,lP 2 0),(5,lI few),(6,lI st),(13,lf (.dat QwH (QQ c))),(14,lI ((QQ c).length:Int)),(15,lI (k:Int))],[(0,some (.box 28 [.dat Ql c.1, .dat Qo c.2.1, .dat Qw c.2.2])),(1,some (.box 314 [dI 0,dB false,dI 0,dB false])),(2,some (.box 314 [dI bx.1.1,dB bx.1.2,dI bx.2.1,dB bx.2.2]))]⟩) ⟨0,((0,false),(0,false)),(-1),0,aG _,rfl,⟨rfl,rfl,rfl⟩,rfl⟩ ?_ ?_
 exact wo []
 rintro D E ⟨k,bx,few,st,Q,S,d,rfl⟩
 refine w4 ?_
 cases z:(decide ((k:Int) < ((QQ c).length:Int)))
 have A:=aa z
 refine w11 ?_
 have G:(bx.1.1:Int)=(((Zu c (QQ c)).1).1):=by
  (rw[QT (by omega)] at d; first | rw[d.1] | (rw[d.2.1]; exact Hj))
 have H:(bx.1.2:Bool)=(((Zu c (QQ c)).1).2):=by
  (rw[QT (by omega)] at d; first | rw[d.1] | (rw[d.2.1]; exact Hj))
 have I:(bx.2.1:Int)=(((Zu c (QQ c)).2).1):=by
  (rw[QT (by omega)] at d; first | rw[d.1] | (rw[d.2.1]; exact Hj))
 have J:(bx.2.2:Bool)=(((Zu c (QQ c)).2).2):=by
  (rw[QT (by omega)] at d; first | rw[d.1] | (rw[d.2.1]; exact Hj))
 have K:(decide (0≤few):Bool)=((Q1 c (QQ c)).isSome):=by
  (rw[QT (by omega)] at d; first | rw[d.1] | (rw[d.2.1]; exact Hj))
 exact fr_ O (e:=by rw[G,H,I,J,K] <;> rfl)
 have A:=ab z
 refine w5 ?_
 obtain ⟨x,f⟩:=gx (QQ c) k
 have h:=ah f
 refine w2 ?_
 refine lc (xal 3 Ws VY) ?_
 refine w5 ?_
 refine lc (dK (WL c x) QfI) ?_
 refine w12 ?_
 cases m:(decide (few < 0))
 have r:=aa m
 refine w5 ?_
 cases o:(decide ((XJ c x) < few))
 have t:=aa o
 refine w4 ?_
 cases p:(decide ((XJ c x)=few))
 have u:=aa p
 refine w12 ?_
 refine Qb<|QW ⟨k+1,bx,few,st,by omega,rfl,(by exact QoN w h f d ‹_› ‹_› (fun g=>absurd g.1 ‹_›)),rfl⟩ (by omega) ?_
 exact wo []
 have u:=ab p
 refine w6 ?_
 cases q:(decide ((Uk c x) < st))
 have v:=aa q
 refine w6 ?_
 refine Qb<|QW ⟨k+1,bx,few,st,by omega,rfl,(by exact QoN w h f d ‹_› ‹_› (fun g=>absurd g.2 ‹_›)),rfl⟩ (by omega) ?_
 exact wo []
 have v:=ab q
 refine w12 ?_
 refine Qb ?_
 refine w4 ?_
 refine Qb<|QW ⟨k+1,x,(XJ c x),(Uk c x),by omega,rfl,(by exact QiQ w h f d (.inr (.inr ⟨by assumption,by assumption⟩))),rfl⟩ (by omega) ?_
 exact wo []
 have t:=ab o
 refine w4 ?_
 refine Qf rfl rfl rfl ?_ rfl
 refine Qf rfl rfl rfl ?_ rfl
 refine Qf rfl rfl rfl ?_ rfl
 refine w15 ?_
 refine Qb ?_
 refine w4 ?_
 refine Qb<|QW ⟨k+1,x,(XJ c x),(Uk c x),by omega,rfl,(by exact QiQ w h f d (.inr (.inl ‹_›))),rfl⟩ (by omega) ?_
 exact wo []
 have r:=ab m
 refine w9 ?_
 refine Qf rfl rfl rfl ?_ rfl
 refine Qf rfl rfl rfl ?_ rfl
 refine Qf rfl rfl rfl ?_ rfl
 refine w15 ?_
 refine Qb ?_
 refine w4 ?_
 refine Qb<|QW ⟨k+1,x,(XJ c x),(Uk c x),by omega,rfl,(by exact QiQ w h f d (.inl ‹_›)),rfl⟩ (by omega) ?_
 exact wo []
end Go.Proofs.YtndabgcpnmeeoaaGreat
namespace Go.Proofs.YtndabgcpnmeeoaaGreat
open Go.RowKit
attribute [local irreducible] TF
abbrev QeY:Type:=Zl×Zl
abbrev QwA:Ty:= .pr Yv Yv
end Go.Proofs.YtndabgcpnmeeoaaGreat
namespace Go.Proofs.YtndabgcpnmeeoaaGreat
open Go.RowKit
set_option maxRecDepth 100000
set_option maxHeartbeats 4000000
@[reducible] def Qvl:(QeY)→Int→(QeY)×Int:=fun _ k=>(((k,decide ((k+1) % 3=0)),(k+1+1,decide ((k+1+1+1) % 3=0))),k+1+1+1+1)
end Go.Proofs.YtndabgcpnmeeoaaGreat
namespace Go.Proofs.YtndabgcpnmeeoaaGreat
open Go.RowKit
set_option maxRecDepth 100000
set_option maxHeartbeats 4000000
theorem Qo7 {n:Nat}{a:List DAr}:∀{f k:Nat} {c d:List ByteArray},goS n a f k c=some d→d.length=c.length
 | 0,_,c,d,h=>by rw[goS] at h; cases h; rfl
 | f+1,k,c,d,h=>by
  rw[goS] at h
  split at h
  ·rw[Qo7 h,Qkg]
  ·cases h
section
variable [∀s,Decidable (StgOk s)]{s:Yz}
theorem Qlo (h:(sgV s).2=true):SgW (sgV s).1:=by
 unfold sgV at h ⊢
 split at h
 ·rename_i d
  rw[if_pos d]
  obtain ⟨i,k,m,_,e,r⟩:=Yj d.1
  split at h
  ·rename_i c n
   have g:=Qo7 n
   rw[aA] at g
   refine ⟨i.sigs.2.2,⟨by show 1≤c.length; omega,by show c.length≤300; omega⟩, ?_, ?_⟩
   ·show (QL _ _).length≤_
    unfold QL
    rw[aF]; omega
   ·intro a f
    refine ⟨?_, ?_⟩
    ·show InR c.length a
     rw[g]; exact Uc e a f
    ·obtain ⟨v,o,rfl⟩:=bF.1 f
     obtain ⟨_,⟨p,q⟩,_⟩:=e v o
     obtain ⟨l,b⟩:∃l,s.2.2.1[v.2.1.toNat]? =some l:=⟨_,ae (by omega)⟩
     have j:=i.labs l (ah b)
     show U7 (s.2.1.length:Int) ((Qgx s.2.2.1 v.2.1).1,(Qgx s.2.2.1 v.2.1).2)
     rw[QeI b]; exact j
  ·cases h
 ·cases h
end
end Go.Proofs.YtndabgcpnmeeoaaGreat
namespace Go.Proofs.YtndabgcpnmeeoaaGreat
open Go.RowKit
@[reducible] def Ex {X:Type} (Q:X→Prop) (pv:X→PV) (T:X→Tab):PV→Tab→Prop:=fun p T'=>∃x,Q x∧p=pv x∧T'=T x
section
variable {A:Amb}{P:Program}{s:St}{f:FuncId}{xs:List Operand}{tys:Array TypeId}{args:List (Bool×List LV)}{d:Nat}{ty:TypeId}{pos:String}{af:Array Edge}{g:Option (Nat×Bool)}{T:Tab}{k:Nat}
  {X:Type} {Qx:X→Prop} {pv:X→PV} {T':X→Tab} {ops:Array Oper} {l:List Oper} {Q:Exit→St→Prop}
end
section
variable {A:Amb}{P:Program}{s:St}{f:FuncId}{xs:List Operand}{tys:Array TypeId}{args:List (Bool×List LV)}{d:Nat}{ty T:TypeId}{pos:String}{af:Array Edge}{g:Option (Nat×Bool)}
  {X:Type} {Qx:X→Prop} {pv:X→PV} {ops:Array Oper} {l:List Oper} {Q:Exit→St→Prop} {x:Operand}
theorem Qht (j:FC P f args [] 0 (Ex Qx pv (fun _=>[])))(e:Qh P f)(i:EvLB A s xs args)(b:∀x,(pv x).tags=[])(m:∀x,(pv x).fl=true)(o:Nat.blt d A.n=true)
 (h:∀x,Qx x→AL A P ops l Q (s.put d (pv x))):AL A P ops (⟨some d, .call ⟨.value (.func f),xs.toArray,tys⟩,ty,pos,af,none⟩ :: l) Q s:=by
 refine Qrj rfl (UI A.k0 j e i ?_ ?_ ?_ (aJ _) o) fun r c=> ?_
 ·rintro p T ⟨y,_,rfl,rfl⟩; simp[YY,b y,ZS]
 ·rintro p T ⟨y,_,rfl,rfl⟩; simp[m y,Tab.fl]
 ·rintro p T ⟨y,_,rfl,rfl⟩ q a; exact absurd a (Yc q)
 ·obtain ⟨p,T,⟨y,a,rfl,rfl⟩,rfl⟩:=c
  have:=h y a
  rw[St.back,PV.ren_id (b y)]
  exact this
theorem FC.lens {E:TypeId}{e:Ty}{zs:List e.Den}(h:FC P f args [] 0 (QY (lf (.dat (.sl E e) zs)))):FC P f args [] 0 (Ex (fun v:Value=>∃B c,v= .slice B zs.length c∧zs.length≤maxLen) (fun v=>lf (.val v)) (fun _=>[])):=fun n w D j r=>
 Calls.mono (h n w D j r) fun G F t=>by
  obtain ⟨v,C,T',a,rfl,⟨rfl,rfl⟩,b,z,m,y⟩:=t
  obtain ⟨u,i,o⟩:=z
  simp only[aC,and_true] at i
  subst i
  have p:Rd a.N (.sl E e) F [v] zs:=o
  obtain ⟨B,c,q,H,I⟩:=p.rep.slv
  exact ⟨v,_,[],a,rfl,⟨v,⟨B,c,q,by omega⟩,rfl,rfl⟩,b,⟨_,rfl,rfl⟩,m,y⟩
theorem Qhy {v:Value}{n:Nat}{E:TypeId}(p:Evl A s x (.val v))(hv:∃B c,v= .slice B n c∧n≤maxLen)(o:Nat.blt d A.n=true)(b:P.underlying T=some (.slice E)):
 Does A P ⟨some d, .call ⟨.builtin .len, #[x], #[T]⟩,ty,pos,af,g⟩ s (s.put d (lf (dI n))):=
 Qq rfl o fun e a w r=>by
  obtain ⟨B,c,i,j⟩:=hv
  have h:a.eval x=v:=p e a w r
  have m:P.elem T=E:=by simp[Program.elem,b]
  refine ⟨.int .i64 n, ?_,_,rfl,Yb (by unfold maxLen at j; omega)⟩
  simp only[execOp,resolve,invoke,builtin]
  simp[av,h,i,run_len_slice w T ty B n c (by rw[m]; exact b),goInt]
end
end Go.Proofs.YtndabgcpnmeeoaaGreat
namespace Go.Proofs.YtndabgcpnmeeoaaGreat
open Go.RowKit
structure Opens (t t':Ty) (E:TypeId) (e:Ty) where
  sub:t.Den→Hdr→t'.Den
  get:t'.Den→Hdr
  put:t'.Den→List e.Den→t.Den
  val:t.Den→List e.Den
  wd:t'.wd=t.wd
  h1:∀x z,get (sub x z)=z
  h2:∀x z,put (sub x z) (val x)=x
  own:∀{w:World} {fp:List Nat} {cs:List Value} {x:t.Den},Own t w fp cs x→∃z fg fi,fp.Perm (fg++fi)∧Own t' w fg cs (sub x z)∧Own (.sl E e) w fi [hdV z] (val x)
@[reducible] def QaO (E:TypeId) (e:Ty):Opens (.sl E e) .vl E e where
 sub:=fun _ z=>z
 get:=fun z=>z
 put:=fun _ y=>y
 val:=fun x=>x
 wd:=rfl
 h1:=fun _ _=>rfl
 h2:=fun _ _=>rfl
 own:=fun h=>by
  obtain ⟨z,rfl⟩:=Qgm h
  exact ⟨z,[],_,List.Perm.refl _,⟨rfl,rfl⟩,h⟩
@[reducible] def V1 (a:Ty) {b b':Ty} {E:TypeId} {e:Ty} (o:Opens b b' E e):Opens (.pr a b) (.pr a b') E e where
 sub:=fun x z=>(x.1,o.sub x.2 z)
 get:=fun y=>o.get y.2
 put:=fun y l=>(y.1,o.put y.2 l)
 val:=fun x=>o.val x.2
 wd:=by show a.wd+b'.wd=a.wd+b.wd; rw[o.wd]
 h1:=fun x z=>o.h1 x.2 z
 h2:=fun x z=>Prod.ext rfl (o.h2 x.2 z)
 own:=fun h=>by
  obtain ⟨f1,f2,l,r,rfl,rfl,k1,k2⟩:=h
  obtain ⟨z,fg,fi,p,q1,q2⟩:=o.own k2
  exact ⟨z,f1++fg,fi,by rw[aO]; exact p.append_left f1,⟨f1,fg,l,r,rfl,rfl,k1,q1⟩,q2⟩
@[reducible] def QhC (b:Ty) {a a':Ty} {E:TypeId} {e:Ty} (o:Opens a a' E e):Opens (.pr a b) (.pr a' b) E e where
 sub:=fun x z=>(o.sub x.1 z,x.2)
 get:=fun y=>o.get y.1
 put:=fun y l=>(o.put y.1 l,y.2)
 val:=fun x=>o.val x.1
 wd:=by show a'.wd+b.wd=a.wd+b.wd; rw[o.wd]
 h1:=fun x z=>o.h1 x.1 z
 h2:=fun x z=>Prod.ext (o.h2 x.1 z) rfl
 own:=fun h=>by
  obtain ⟨f1,f2,l,r,rfl,rfl,k1,k2⟩:=h
  obtain ⟨z,fg,fi,p,q1,q2⟩:=o.own k1
  refine ⟨z,fg++f2,fi,(p.append_right f2).trans ?_,⟨fg,f2,l,r,rfl,rfl,q1,k2⟩,q2⟩
  rw[aO,aO]
  exact (List.perm_append_comm).append_left fg
section
variable {t t' e:Ty}{E E':TypeId}{w:World}
theorem Opens.list (o:Opens t t' E' e):∀{xs:List t.Den} {fp:List Nat} {cs:List Value},OwnL (Own t w) fp cs xs→
 ∃(ys:List t'.Den) (f i:List Nat),fp.Perm (f++i)∧ys.length=xs.length∧OwnL (Own t' w) f cs ys∧OwnL (Own (.sl E' e) w) i ((ys.map o.get).map hdV) ((ys.map o.get).map (rdF E' e w))∧(ys.map fun y=>o.put y (rdF E' e w (o.get y)))=xs
 | [],fp,cs,h=>⟨[],[],[],by rw[h.1]; exact List.Perm.refl _,rfl,⟨rfl,h.2⟩,⟨rfl,rfl⟩,rfl⟩
 | x :: xs,fp,cs,h=>by
  obtain ⟨B,C,c1,c2,rfl,rfl,l,m⟩:=h
  obtain ⟨z,a,b,v,k,j⟩:=o.own l
  obtain ⟨ys,f,i,p,n,q,r,u⟩:=Opens.list o m
  refine ⟨o.sub x z :: ys,a++f,b++i,(v.append p).trans ?_,by rw[au,n,au],⟨a,f,c1,c2,rfl,rfl,k,q⟩, ?_, ?_⟩
  ·rw[aO,aO]
   exact List.Perm.append_left a (List.perm_append_comm_assoc b f i)
  ·rw[br,o.h1]
   exact ⟨b,i,[hdV z],_,rfl,rfl,by rw[QgM j.rep]; exact j,r⟩
  ·rw[br,u,o.h1,QgM j.rep,o.h2]
theorem Opens.arr (o:Opens t t' E' e){xs:List t.Den}{fp:List Nat}{v:Value}(h:Own (.sl E t) w fp [v] xs):
 ∃(ys:List t'.Den) (f:Hdr→List e.Den) (a b:List Nat),fp.Perm (a++b)∧Own (.sl E t') w a [v] ys∧OwnL (Own (.sl E' e) w) b ((ys.map o.get).map hdV) ((ys.map o.get).map f)∧(ys.map fun y=>o.put y (f (o.get y)))=xs∧f none=[]:=by
 rcases h with ⟨rfl,h,rfl⟩ | ⟨g,i,j,fps,rfl,l,m,n,q,r,u⟩
 ·exact ⟨[],fun _=>[],[],[],List.Perm.refl _, .inl ⟨rfl,h,rfl⟩,⟨rfl,rfl⟩,rfl,rfl⟩
 ·obtain ⟨ys,a,b,p,k,z,B,C⟩:=o.list u
  refine ⟨ys,rdF E' e w,g :: a,b,p.cons g, .inr ⟨g,i,j,a,rfl,by rw[k]; exact l,m,by rw[k]; exact n,q,by rw[o.wd]; exact r, ?_⟩,B,C,QgM (x:=[]) (Own.rep (fp:=[]) (.inl ⟨rfl,rfl,rfl⟩))⟩
  rw[k,o.wd]; exact z
end
section
variable {A:Amb}{P:Program}{s:St}{Q:Exit→St→Prop}{c:Code}
theorem R.openS {q:Nat}(p:Nat){t t' e:Ty}{E E':TypeId}(o:Opens t t' E' e){xs:List t.Den}{a:Act}{w:World}(he:s.tab.ent q=some (.arr E t xs))(H:Fresh s p)(hk:A.k0≤p)(r:R A s a w):
 ∃(ys:List t'.Den) (f:Hdr→List e.Den),(ys.map fun y=>o.put y (f (o.get y)))=xs∧f none=[]∧R A ⟨s.tm,(p,some (.pl true (.sl E' e) (none :: ys.map o.get) f)) :: (q,some (.arr E t' ys)) :: s.tab⟩ a w:=by
 obtain ⟨v,r⟩:=r
 have J:s.tab.al q:=⟨_,he⟩
 have M:q≠p:=fun h=>H.al (h▸J)
 have hO:Own (.sl E t) w (v.f q) [v.h q] xs:=r.cx.en q _ he
 obtain ⟨ys,f,G,F,Y,h2,h3,h4,h5⟩:=o.arr hO
 have Z:(G++F).Nodup:=Y.nodup_iff.1 (r.cx.nd q J)
 obtain ⟨n1,n2,n3⟩:=bu.1 Z
 have mg:∀g∈G,g∈v.f q:=fun g j=>Y.mem_iff.2 (aT _ j)
 have mi:∀g∈F,g∈v.f q:=fun g j=>Y.mem_iff.2 (aR _ j)
 have l:∀u,Tab.al ((p,some (.pl true (.sl E' e) (none :: ys.map o.get) f)) :: (q,some (.arr E t' ys)) :: s.tab) u→u=p∨(u≠p∧s.tab.al u):=fun u ⟨x,m⟩=>by
  by_cases b:u=p
  ·exact .inl b
  ·refine .inr ⟨b, ?_⟩
   rw[Qj,if_neg b,Qj] at m
   by_cases i:u=q
   ·rw[i]; exact J
   ·rw[if_neg i] at m; exact ⟨_,m⟩
 let k:Gh:=⟨fun u=>if u=p then .slice none 0 0 else v.h u,fun u=>if u=p then F else if u=q then G else v.f u,v.N⟩
 have V:k.f q=G:=by show (if q=p then F else if q=q then G else v.f q)=G; rw[if_neg M,if_pos rfl]
 have I:k.f p=F:=if_pos rfl
 have U:∀u,u≠p→u≠q→k.f u=v.f u:=fun u b i=>by show (if u=p then F else if u=q then G else v.f u)=_; rw[if_neg b,if_neg i]
 have W:∀u,u≠p→k.h u=v.h u:=fun u b=>if_neg b
 have D:∀u,u≠p→∀g∈k.f u,g∈v.f u:=fun u b g j=>by
  by_cases i:u=q
  ·rw[i,V] at j; rw[i]; exact mg g j
  ·rwa [U u b i] at j
 have K:∀u,u≠p→s.tab.al u→∀g∈k.f u,g∉F:=fun u b n g j L=>by
  by_cases i:u=q
  ·rw[i,V] at j; exact n3 g j g L rfl
  ·rw[U u b i] at j; exact r.cx.dj u q n J i g j (mi g L)
 refine ⟨ys,f,h4,h5,k,r.step ⟨fun u x m=> ?_,fun u S C O hn g j z=> ?_,fun u C=> ?_,fun u C g j B=> ?_,r.cx.nl⟩ (fun u C=> ?_) (fun g h=>⟨h,rfl⟩) (Zk w) (fun _ _ _=>rfl) (fun g B=> .inl B) fun u C g j=> ?_⟩
 ·rw[Qj] at m
  by_cases b:u=p
  ·rw[if_pos b] at m
   cases m
   rw[b]
   refine ⟨if_pos rfl, ?_⟩
   rw[I]; exact ⟨[],F,[hdV none],_,rfl,rfl,by rw[h5]; exact .inl ⟨rfl,rfl,rfl⟩,h3⟩
  ·rw[if_neg b,Qj] at m
   by_cases i:u=q
   ·rw[if_pos i] at m
    cases m
    show Own (.sl E t') w (k.f u) [k.h u] ys
    rw[i,V,W q M]
    exact h2
   ·rw[if_neg i] at m
    refine (r.cx.en u x m).mono (fun r' a0 ha=> ?_) (fun g h=>⟨h,rfl⟩) (W u b) (U u b i) fun _ _=>rfl
    have e3:r'≠p:=fun h=>H.en u x m (h▸a0)
    rcases l r' ha with h | ⟨_,h⟩
    ·exact absurd h e3
    ·exact ⟨h,W r' e3⟩
 ·rcases l u C with b | ⟨b,n⟩
  ·rcases l S O with i | ⟨i,X⟩
   ·exact hn (b.trans i.symm)
   ·rw[b,I] at j; exact K S i X g z j
  ·rcases l S O with i | ⟨i,X⟩
   ·rw[i,I] at z; exact K u b n g j z
   ·exact r.cx.dj u S n X hn g (D u b g j) (D S i g z)
 ·rcases l u C with b | ⟨b,n⟩
  ·rw[b,I]; exact n2
  ·by_cases i:u=q
   ·rw[i,V]; exact n1
   ·rw[U u b i]; exact r.cx.nd u n
 ·rcases l u C with b | ⟨b,n⟩
  ·rw[b,I] at j; exact r.cx.no q J g (mi g j) B
  ·exact r.cx.no u n g (D u b g j) B
 ·rcases l u C with b | ⟨b,n⟩
  ·rw[b]; exact .inr ⟨H,hk⟩
  ·exact .inl ⟨n,W u b,fun _=>rfl⟩
 ·rcases l u C with b | ⟨b,n⟩
  ·rw[b,I] at j; exact .inr ⟨q,J,mi g j⟩
  ·exact .inr ⟨u,n,D u b g j⟩
theorem AC.openS {q:Nat}(p:Nat){t t' e:Ty}{E E':TypeId}(o:Opens t t' E' e){xs:List t.Den}(j:s.tab.ent q=some (.arr E t xs))(b:Fresh s p)(l:A.k0≤p)
 (k:∀(ys:List t'.Den) (vs:List Hdr) (f:Hdr→List e.Den),vs=none :: ys.map o.get→f none=[]→(ys.map fun y=>o.put y (f (o.get y)))=xs→AC A P c Q ⟨s.tm,(p,some (.pl true (.sl E' e) vs f)) :: (q,some (.arr E t' ys)) :: s.tab⟩):AC A P c Q s:=fun a w r=>by
 obtain ⟨ys,f,h,i,m⟩:=R.openS p o j b l r
 exact k ys _ f rfl i h a w m
theorem Rg.take (t:Nat){p:Nat}{E:TypeId}{e:Ty}{vs:List Hdr}{f:Hdr→List e.Den}{z:Hdr}{gh:Gh}{a:Act}{w:World}(U:s.tab.ent p=some (.pl true (.sl E e) vs f))(hz:z∈vs)(B:Fresh s t)(hk:A.k0≤t)(r:Rg A s gh a w):
 ∃gh':Gh,gh'.h t=hdV z∧(∀u,u≠t→gh'.h u=gh.h u)∧Rg A ⟨s.tm,(t,some (.arr E e (f z))) :: (p,none) :: s.tab⟩ gh' a w:=by
 have n:s.tab.al p:=⟨_,U⟩
 have a0:t≠p:=fun h=>B.al (h▸n)
 obtain ⟨_,h3⟩:=r.cx.en p _ U
 obtain ⟨G,X,m2⟩:=QgF (List.singleton_sublist.2 hz) h3
 obtain ⟨f1,Z,c1,c2,b,j,V,W⟩:=m2
 have I:Z=[]:=W.1
 have Y:c2=[]:=W.2
 rw[I,bs] at b
 rw[Y,bs] at j
 subst b
 rw[← j] at V
 have hO:Own (.sl E e) w G [hdV z] (f z):=V
 have K:∀g∈G,g∈gh.f p:=fun g i=>X.subset i
 have nv:G.Nodup:=X.nodup (r.cx.nd p n)
 have k:∀u,Tab.al ((t,some (.arr E e (f z))) :: (p,none) :: s.tab) u→u=t∨(u≠t∧u≠p∧s.tab.al u):=fun u ⟨x,l⟩=>by
  by_cases b:u=t
  ·exact .inl b
  ·rw[Qj,if_neg b,Qj] at l
   by_cases j:u=p
   ·rw[if_pos j] at l; cases l
   ·rw[if_neg j] at l; exact .inr ⟨b,j,_,l⟩
 let gh':Gh:=⟨fun u=>if u=t then hdV z else gh.h u,fun u=>if u=t then G else gh.f u,gh.N⟩
 have C:gh'.f t=G:=if_pos rfl
 have y:∀u,u≠t→gh'.f u=gh.f u:=fun u b=>if_neg b
 have J:∀u,u≠t→gh'.h u=gh.h u:=fun u b=>if_neg b
 refine ⟨gh',if_pos rfl,J,r.step ⟨fun u x l=> ?_,fun u D v H S g i m=> ?_,fun u v=> ?_,fun u v g i q=> ?_,r.cx.nl⟩ (fun u v=> ?_) (fun g h=>⟨h,rfl⟩) (Zk w) (fun _ _ _=>rfl) (fun g q=> .inl q) fun u v g i=> ?_⟩
 ·rw[Qj] at l
  by_cases b:u=t
  ·rw[if_pos b] at l
   cases l
   show Own (.sl E e) w (gh'.f u) [gh'.h u] (f z)
   rw[b,C,show gh'.h t=hdV z from if_pos rfl]
   exact hO
  ·rw[if_neg b,Qj] at l
   by_cases j:u=p
   ·rw[if_pos j] at l; cases l
   ·rw[if_neg j] at l
    refine (r.cx.en u x l).mono (fun O M ha=> ?_) (fun g h=>⟨h,rfl⟩) (J u b) (y u b) fun _ _=>rfl
    have I:O≠t:=fun h=>B.en u x l (h▸M)
    rcases k O ha with h | ⟨_,_,h⟩
    ·exact absurd h I
    ·exact ⟨h,J O I⟩
 ·rcases k u v with b | ⟨b,F,o⟩
  ·rcases k D H with j | ⟨j,R,L⟩
   ·exact S (b.trans j.symm)
   ·rw[b,C] at i; rw[y D j] at m; exact r.cx.dj p D n L (fun h=>R h.symm) g (K g i) m
  ·rcases k D H with j | ⟨j,R,L⟩
   ·rw[j,C] at m; rw[y u b] at i; exact r.cx.dj p u n o (fun h=>F h.symm) g (K g m) i
   ·rw[y u b] at i; rw[y D j] at m; exact r.cx.dj u D o L S g i m
 ·rcases k u v with b | ⟨b,F,o⟩
  ·rw[b,C]; exact nv
  ·rw[y u b]; exact r.cx.nd u o
 ·rcases k u v with b | ⟨b,F,o⟩
  ·rw[b,C] at i; exact r.cx.no p n g (K g i) q
  ·rw[y u b] at i; exact r.cx.no u o g i q
 ·rcases k u v with b | ⟨b,F,o⟩
  ·rw[b]; exact .inr ⟨B,hk⟩
  ·exact .inl ⟨o,J u b,fun _=>rfl⟩
 ·rcases k u v with b | ⟨b,F,o⟩
  ·rw[b,C] at i; exact .inr ⟨p,n,K g i⟩
  ·rw[y u b] at i; exact .inr ⟨u,o,i⟩
theorem Qfi (t:Nat){p v off:Nat}{E' E:TypeId}{e:Ty}{cs:List LV}{vs:List Hdr}{f:Hdr→List e.Den}{z:Hdr}(hv:s.tab.ent v=some (.box E' cs))(S:cs[off]? =some (.dat .vl z))(B:s.tab.ent p=some (.pl true (.sl E e) vs f))(V:z∈vs)(k:Fresh s t)(O:A.k0≤t):
 Wk A s ⟨s.tm,(v,some (.box E' (splice cs off [.ref t]))) :: (t,some (.arr E e (f z))) :: (p,none) :: s.tab⟩:=fun a w r=>by
 obtain ⟨W,r⟩:=r
 have n:v≠t:=fun h=>k.al ⟨_,h▸hv⟩
 have o:v≠p:=fun h=>by rw[h,B] at hv; cases hv
 obtain ⟨j,U,X,C⟩:=Rg.take t B V k O r
 have l:Tab.ent ((t,some (.arr E e (f z))) :: (p,none) :: s.tab) v=some (.box E' cs):=by rw[Qj,if_neg n,Qj,if_neg o]; exact hv
 obtain ⟨g,b,D,F,G,q⟩:=C.cx.en v _ l
 obtain ⟨u,H,I⟩:=q.nth S
 have J:Rd j.N .vl w [u] z:=I
 have K:[u]=[hdV z]:=J.rep
 have L:u=hdV z:=by simpa using K
 have M:LVs (Tab.al ((t,some (.arr E e (f z))) :: (p,none) :: s.tab)) j w [.ref t] [u]:=⟨u,[],rfl,fun _=>by rw[U,L],rfl⟩
 have y:=q.splice M (off:=off)
 have i:b.toList.take off++[u]++b.toList.drop (off+[u].length)=b.toList:=by
  obtain ⟨R,m⟩:=ai.1 H
  conv=>rhs; rw[← bI (off+1) b.toList,bD R,m]
  rfl
 rw[i] at y
 exact ⟨_,C.mod l (Zk w) (fun _ _ _=>rfl) ⟨g,b,D,F,G,y⟩⟩
end
section
variable {A:Amb}{P:Program}{s:St}{d:Nat}{ty T:TypeId}{pos:String}{af:Array Edge}{g:Option (Nat×Bool)}{x:Operand}
theorem Qhx {p:Nat}{E:TypeId}{e:Ty}{vs:List Hdr}{f:Hdr→List e.Den}{z:Hdr}(y:Evl A s x (.dat .vl z))(v:s.tab.ent p=some (.pl true (.sl E e) vs f))(C:z∈vs)(u:Nat.blt d A.n=true)(h:P.underlying T=some (.slice E)):
 Does A P ⟨some d, .call ⟨.builtin .len, #[x], #[T]⟩,ty,pos,af,g⟩ s (s.put d (lf (dI (f z).length))):=
 Qq rfl u fun b a w r=>by
  have j:Rd b.N .vl w [a.eval x] z:=y b a w r
  have k:[a.eval x]=[hdV z]:=j.rep
  obtain ⟨_,l⟩:=r.cx.en p _ v
  obtain ⟨D,i,_⟩:=Qaf l z C
  rw[← k] at i
  obtain ⟨B,c,m,F,o⟩:=i.rep.slv
  have q:P.elem T=E:=by simp[Program.elem,h]
  refine ⟨.int .i64 (f z).length, ?_,_,rfl,Yb (by unfold maxLen at o; omega)⟩
  simp only[execOp,resolve,invoke,builtin]
  simp[av,m,run_len_slice w T ty B (f z).length c (by rw[q]; exact h),goInt]
def ThP (s:St):List LV→List LV→Prop
 | [],ls'=>ls'=[]
 | l :: ls,ls'=>∃l' r,ls'=l' :: r∧(l=l'∨(∃q E e xs,l= .ref q∧s.tab.ent q=some (.arr E e xs)∧l'= .dat (.sl E e) xs)∨∃(p:Nat) (E:TypeId) (e:Ty) (vs:List Hdr) (f:Hdr→List e.Den) (z:Hdr),l= .dat .vl z∧s.tab.ent p=some (.pl true (.sl E e) vs f)∧z∈vs∧l'= .dat (.sl E e) (f z))∧ThP s ls r
theorem LVs.thp {gh:Gh}{a:Act}{w:World}(r:Rg A s gh a w){ls ls':List LV}{vs:List Value}(h:LVs s.tab.al gh w ls vs)(k:ThP s ls ls'):LVs (fun _=>False) ⟨gh.h,gh.f,fun g=>g < w.heap.size⟩ w ls' vs:=by
 induction ls generalizing ls' vs with
 | nil=>rw[show ls'=[] from k]; exact h
 | cons l ls C=>
  obtain ⟨v,m,rfl,i,o⟩:=h
  obtain ⟨I,J,rfl,u,y⟩:=k
  refine ⟨v,m,rfl, ?_,C o y⟩
  rcases u with rfl | ⟨q,E,e,xs,rfl,h5,rfl⟩ | ⟨p,E,e,us,f,z,rfl,h5,h6,rfl⟩
  ·exact i.mono (fun _ _ h=>h.elim) fun g b=>⟨r.cx.nl g b,rfl⟩
  ·have B:v=gh.h q:=i ⟨_,h5⟩
   have n:Own (.sl E e) w (gh.f q) [gh.h q] xs:=r.cx.en q _ h5
   rw[B]
   exact n.rd fun g b=>Own.lt n g b
  ·have D:Rd gh.N .vl w [v] z:=i
   have F:[v]=[hdV z]:=D.rep
   obtain ⟨_,G⟩:=r.cx.en p _ h5
   obtain ⟨H,j,_⟩:=Qaf G z h6
   rw[← F] at j
   exact j.rd fun g b=>Own.lt j g b
theorem Qvx {b:Bool}{ls ls':List LV}(h:Ev A s x (b,ls))(k:ThP s ls ls'):EvB A s x (b,ls'):=fun p a w r=>by
 have n:=h p a w r
 cases b with
 | true=>obtain ⟨o,f,i⟩:=n; exact ⟨o,f,i.thp r k⟩
 | false=>
  obtain ⟨l,f,i⟩:=n
  have f:ls=[l]:=f
  subst f
  obtain ⟨m,y,rfl,q,j⟩:=k
  have j:y=[]:=j
  subst j
  obtain ⟨B,z,u,v,_⟩:=LVs.thp r (ls:=[l]) (vs:=[a.eval x]) ⟨_,[],rfl,i,rfl⟩ (ls':=[m]) ⟨m,[],rfl,q,rfl⟩
  cases u
  exact ⟨m,rfl,v⟩
end
def QvA:List LV→List LV→Prop
 | [],cs'=>cs'=[]
 | l :: ls,cs'=>∃l' r,cs'=l' :: r∧(l=l'∨(l= .val (.slice none 0 0)∧l'= .dat .vl none))∧QvA ls r
theorem LVs.vls {al:Nat→Prop}{gh:Gh}{w:World}:∀{ls ls':List LV} {vs:List Value},LVs al gh w ls vs→QvA ls ls'→LVs al gh w ls' vs
 | [],_,_,h,k=>by rw[show _=[] from k]; exact h
 | l :: ls,_,_,⟨v,vs',h1,h2,h3⟩,⟨l',r,k1,k2,k3⟩=>by
  rw[k1]
  refine ⟨v,vs',h1, ?_,h3.vls k3⟩
  rcases k2 with rfl | ⟨rfl,rfl⟩
  ·exact h2
  ·have a:v= .slice none 0 0:=h2
   rw[a]
   exact Rep.rd0 (t:= .vl) (w:=w) (show _=_ from rfl) rfl
theorem QtW {A:Amb}{s:St}{p:Nat}{E':TypeId}{cs:List LV}(b:List LV)(h:s.tab.ent p=some (.box E' cs))(k:QvA cs b):Wk A s ⟨s.tm,(p,some (.box E' b)) :: s.tab⟩:=fun a w r=>by
 obtain ⟨i,r⟩:=r
 obtain ⟨g,f,j,l,m,n⟩:=r.cx.en p _ h
 exact ⟨i,r.mod h (Zk w) (fun _ _ _=>rfl) ⟨g,f,j,l,m,n.vls k⟩⟩
end Go.Proofs.YtndabgcpnmeeoaaGreat
