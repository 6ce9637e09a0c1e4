/- Walks over abstract states: valid state graphs, the program. -/
import Derived.Test.YtgpdhgadmjfokaaGreatVa
set_option linter.unusedSimpArgs false
set_option linter.unusedVariables false
set_option linter.unusedSectionVars false
namespace Go.Proofs.YtgpdhgadmjfokaaGreat
open Go.RowKit
set_option maxRecDepth 100000
set_option maxHeartbeats 4000000
section
variable {c:DSg}{a:DAr}{x y:ByteArray}{k:Nat}
theorem Qkn (h:¬(0≤a.1∧a.1≤(c.2.1.length:Int) - 1)):¬Y6 c a:=fun g=>h g.1
theorem QkO (h:¬(0≤a.2.2.2∧a.2.2.2≤(c.2.1.length:Int) - 1)):¬Y6 c a:=fun g=>h g.2.1
theorem QkG (h:¬UV (c.1.length:Int) (a.2.1,a.2.2.1)):¬Y6 c a:=fun g=>h g.2.2.1
theorem Qk2 (b:c.2.1[a.1.toNat]? =some x)(d:c.2.1[a.2.2.2.toNat]? =some y)(h:¬Fit a x y):¬Y6 c a:=fun g=>h (by have:=g.2.2.2; rwa [Wr b,Wr d] at this)
theorem QsM (b:0≤a.1∧a.1≤(c.2.1.length:Int) - 1)(d:0≤a.2.2.2∧a.2.2.2≤(c.2.1.length:Int) - 1)(e:UV (c.1.length:Int) (a.2.1,a.2.2.1))(f:c.2.1[a.1.toNat]? =some x)(g:c.2.1[a.2.2.2.toNat]? =some y)(h:Fit a x y):Y6 c a:=
 ⟨b,d,e,by rw[Wr f,Wr g]; exact h⟩
end
theorem Yb (c:Z9)[∀c,Decidable (SgOk c)]:FC Tryz.prog 106 [(true,[.dat Qj c.1, .dat Qm c.2.1, .dat Qw c.2.2])] [] 0 (Q7 (lB (decide (SgOk c)))):=by
 classical
 refine Qu Tryz.func106 rfl rfl Tryz.ntmps106 fun Y p X U Z W V=> ?_
 refine w_ ?_
 refine xbx 0 ?_
 refine w6 ?_
 refine lc (dK (Js c.1) Qjh) ?_
 refine w2 ?_
 cases E:(decide (Xb c.1))
 have F:=aa E
 refine w16 ?_
 refine w_ ?_
 refine Qe<|fqB p ?_
 exact Qnj ‹_›
 have F:=ab E
 refine w2 ?_
 refine alL 14 fun _=> ?_
 refine w_ ?_
 refine lgy rfl rfl (dK (Zd (c.2.1.length:Int) 1 300) Z3) ?_
 refine w3 ?_
 cases G:(decide (1≤(c.2.1.length:Int)∧(c.2.1.length:Int)≤300))
 have H:=aa G
 refine w10 ?_
 refine Qe<|fqB p ?_
 exact Qnm ‹_›
 have H:=ab G
 refine w2 ?_
 refine alL 21 fun _=> ?_
 refine w4 ?_
 refine cd_ (fun _ _=> ?_) fun _ _=> ?_
 refine w4 ?_
 refine alL 26 fun _=> ?_
 refine w8 ?_
 refine alL 30 fun _=> ?_
 refine w4 ?_
 refine lpK c.2.1.length (fun k=>∀j,j < k→∀x,c.2.1[j]? =some x→YH x (c.1.length:Int)) (fun k=>⟨[(1,lP 0 0),(3,lI ((c.2.1.length:Int) - 1)),(30,lf (.dat Qm c.2.1)),(31,lI (c.2.1.length:Int)),(32,lI (k:Int))],[bx 0 27 [.dat Qj c.1, .dat Qm c.2.1, .dat Qw c.2.2]]⟩) ((fun j S=>absurd S (bk j))) ?_ fun k _ D=> ?_
 exact wo []
 refine w4 ?_
 cases I:(decide ((k:Int) < (c.2.1.length:Int)))
 have J:=aa I
 refine w7 ?_
 refine alL 44 fun _=> ?_
 refine w4 ?_
 refine lpK c.2.2.length (fun i=>∀j,j < i→∀a,c.2.2[j]? =some a→Y6 c a) (fun i=>⟨[(1,lP 0 0),(3,lI ((c.2.1.length:Int) - 1)),(44,lf (.dat Qw c.2.2)),(45,lI (c.2.2.length:Int)),(46,lI (i:Int))],[bx 0 27 [.dat Qj c.1, .dat Qm c.2.1, .dat Qw c.2.2]]⟩) ((fun j S=>absurd S (bk j))) ?_ fun i _ Q=> ?_
 exact wo []
 refine w4 ?_
 cases q:(decide ((i:Int) < (c.2.2.length:Int)))
 have t:=aa q
 refine w3 ?_
 apply dW (i5 92 _ _ _ _ _ [io 97 (lf (.dat (.sl 295 (.pr .int .int)) (ZO c.2.2))),io 98 (lf (.dat QO (Jl (c.2.1.length:Int).toNat (ZO c.2.2)))),io 99 (lB ((Jl (c.2.1.length:Int).toNat (ZO c.2.2)).any (fun y=>decide ((-1)=y)))),io 100 _,io 2 _]) [0,0,0,7,7,7,0,0,0,0]
 refine z5 ?_
 refine zz (fun _ b=>ac (dK (QaF c.2.2 (by omega)).frozen Qhr) rfl) ?_
 refine zz (fun _ b=>ac (dK (J7 (c.2.1.length:Int) (ZO c.2.2) 0 (by omega) (Qcw (fun a R=>UK (YT Q (by omega) a R))) (by simp only[ZO,aE]; omega) rfl).frozen QhI) rfl) ?_
 refine zz (fun _ b=>ac (dK (ZB (Jl (c.2.1.length:Int).toNat (ZO c.2.2)) (-1)) UL) rfl) ?_
 exact y2
 refine Qe<|fqB p ?_
 exact (QnA (by omega) (Qcw (fun a R=>UK (YT Q (by omega) a R)))).trans (Qnb ‹_› ‹_› ‹_› (YT D (by omega)) (YT Q (by omega)))
 have t:=ab q
 refine w5 ?_
 obtain ⟨ar,f⟩:=gx c.2.2 i
 refine w2 ?_
 refine lc (xal 1 QG Zu) ?_
 refine w2 ?_
 cases d:(decide (0≤ar.1∧ar.1≤((c.2.1.length:Int) - 1)))
 have u:=aa d
 apply dW (i3 50 _ _ _ (io 53 (lB false) :: i9 54 _ _ _ _ _ _ _ _ _ (i9 63 _ _ _ _ _ _ _ _ _ (i9 72 _ _ _ _ _ _ _ _ _ (i9 81 _ _ _ _ _ _ _ _ _ [io 90 _]))))) [0,0,3,0,0,0,0,0,192,0,0,0,0,0,0,24576,24576,0,253952,253952,253952,0,0,0,0,0,33554432,33554432,234881024,234881024,33554432,33554432,4261412864,4261412864,17146314752,17146314752,4261412864,4261412864,0,0,0]
 refine z3 ?_
 refine zz (fun _ b=>ac (Qy (d) (dK (Zd ar.1 0 ((c.2.1.length:Int) - 1)) Z3)) rfl) ?_
 refine z16 ?_
 refine z16 ?_
 exact y5
 refine w4 ?_
 refine Qe<|fqB p ?_
 exact QbT f (by first | exact Qkn ‹_› | exact QkO ‹_› | exact QkG ‹_› | exact Qk2 (x:=l) (y:=m) ‹_› ‹_› ‹_›)
 have u:=ab d
 cases e:(decide (0≤ar.2.2.2∧ar.2.2.2≤((c.2.1.length:Int) - 1)))
 have v:=aa e
 apply dW (i3 50 _ _ _ (io 53 (lB true) :: i5 54 _ _ _ _ _ (io 59 (lB false) :: i9 60 _ _ _ _ _ _ _ _ _ (i9 69 _ _ _ _ _ _ _ _ _ (i9 78 _ _ _ _ _ _ _ _ _ (i4 87 _ _ _ _ [])))))) [0,0,3,0,0,0,0,0,192,0,0,0,0,0,0,24576,24576,0,253952,253952,253952,0,0,0,0,0,33554432,33554432,234881024,234881024,33554432,33554432,4261412864,4261412864,17146314752,17146314752,4261412864,4261412864,0,0,0]
 refine z3 ?_
 refine zz (fun _ b=>ac (Qy (d) (dK (Zd ar.1 0 ((c.2.1.length:Int) - 1)) Z3)) rfl) ?_
 refine z5 ?_
 refine zz (fun _ b=>day rfl (b.k rfl) (Qy (e) (dK (Zd ar.2.2.2 0 ((c.2.1.length:Int) - 1)) Z3)) rfl) ?_
 refine z16 ?_
 exact y15
 refine w4 ?_
 refine Qe<|fqB p ?_
 exact QbT f (by first | exact Qkn ‹_› | exact QkO ‹_› | exact QkG ‹_› | exact Qk2 (x:=l) (y:=m) ‹_› ‹_› ‹_›)
 have v:=ab e
 cases g:(decide (UV (c.1.length:Int) (ar.2.1,ar.2.2.1)))
 have z:=aa g
 apply dW (i3 50 _ _ _ (io 53 (lB true) :: i5 54 _ _ _ _ _ (io 59 (lB true) :: i7 60 _ _ _ _ _ _ _ (io 67 (ag [dI ar.2.1,dB ar.2.2.1]) :: i3 68 _ _ _ (io 71 (lB false) :: i9 72 _ _ _ _ _ _ _ _ _ (i9 81 _ _ _ _ _ _ _ _ _ [io 90 _])))))) [0,0,3,0,0,0,0,0,192,0,0,0,0,0,0,24576,24576,0,253952,253952,253952,0,0,0,0,0,33554432,33554432,234881024,234881024,33554432,33554432,4261412864,4261412864,17146314752,17146314752,4261412864,4261412864,0,0,0]
 refine z3 ?_
 refine zz (fun _ b=>ac (Qy (d) (dK (Zd ar.1 0 ((c.2.1.length:Int) - 1)) Z3)) rfl) ?_
 refine z5 ?_
 refine zz (fun _ b=>day rfl (b.k rfl) (Qy (e) (dK (Zd ar.2.2.2 0 ((c.2.1.length:Int) - 1)) Z3)) rfl) ?_
 refine z7 ?_
 refine zz (fun _ b=>day rfl (b.k rfl) (Qi Va ⟨_,_,rfl,(b.w rfl),⟨_,_,rfl,(b.w rfl),rfl⟩⟩ (aq.1 rfl) rfl rfl) rfl) ?_
 refine z3 ?_
 refine zz (fun _ b=>day rfl (b.k rfl) (Qy (g) (dK (U6 (ar.2.1,ar.2.2.1) (c.1.length:Int) (by have:=(‹Xb c.1›).2.2; omega)) Qb3)) rfl) ?_
 refine z16 ?_
 exact y3
 refine w4 ?_
 refine Qe<|fqB p ?_
 exact QbT f (by first | exact Qkn ‹_› | exact QkO ‹_› | exact QkG ‹_› | exact Qk2 (x:=l) (y:=m) ‹_› ‹_› ‹_›)
 have z:=ab g
 obtain ⟨l,M⟩:=gx c.2.1 ((ar.1).toNat)
 have O:YH l (c.1.length:Int)→l.size=c.1.length:=fun h=>by have:=h.2; omega
 have K:c.2.1.length≤k→l.size=c.1.length:=fun h=>O (YT D h _ (ai M))
 obtain ⟨m,N⟩:=gx c.2.1 ((ar.2.2.2).toNat)
 have P:YH m (c.1.length:Int)→m.size=c.1.length:=fun h=>by have:=h.2; omega
 have L:c.2.1.length≤k→m.size=c.1.length:=fun h=>P (YT D h _ (ai N))
 apply dW (i3 50 _ _ _ (io 53 (lB true) :: i5 54 _ _ _ _ _ (io 59 (lB true) :: i7 60 _ _ _ _ _ _ _ (io 67 (ag [dI ar.2.1,dB ar.2.2.1]) :: i3 68 _ _ _ (io 71 (lB true) :: i9 72 _ _ _ _ _ _ _ _ _ (i7 81 _ _ _ _ _ _ _ (io 88 (lB (decide (Fit ar l m))) :: i2 89 _ _ []))))))) [0,0,3,0,0,0,0,0,192,0,0,0,0,0,0,24576,24576,0,253952,253952,253952,0,0,0,0,0,33554432,33554432,234881024,234881024,33554432,33554432,4261412864,4261412864,17146314752,17146314752,4261412864,4261412864,0,0,0]
 refine z3 ?_
 refine zz (fun _ b=>ac (Qy (d) (dK (Zd ar.1 0 ((c.2.1.length:Int) - 1)) Z3)) rfl) ?_
 refine z5 ?_
 refine zz (fun _ b=>day rfl (b.k rfl) (Qy (e) (dK (Zd ar.2.2.2 0 ((c.2.1.length:Int) - 1)) Z3)) rfl) ?_
 refine z7 ?_
 refine zz (fun _ b=>day rfl (b.k rfl) (Qi Va ⟨_,_,rfl,(b.w rfl),⟨_,_,rfl,(b.w rfl),rfl⟩⟩ (aq.1 rfl) rfl rfl) rfl) ?_
 refine z3 ?_
 refine zz (fun _ b=>day rfl (b.k rfl) (Qy (g) (dK (U6 (ar.2.1,ar.2.2.1) (c.1.length:Int) (by have:=(‹Xb c.1›).2.2; omega)) Qb3)) rfl) ?_
 refine z16 ?_
 refine zz (fun _ b=>day rfl (b.k rfl) (dK (He ar l m (by have:=K (by omega); have:=L (by omega); omega)) QiP) rfl) ?_
 exact y2
 cases r:(decide (Fit ar l m))
 have A:=aa r
 refine w4 ?_
 refine Qe<|fqB p ?_
 exact QbT f (by first | exact Qkn ‹_› | exact QkO ‹_› | exact QkG ‹_› | exact Qk2 (x:=l) (y:=m) ‹_› ‹_› ‹_›)
 have A:=ab r
 refine w6 ?_
 refine Qc ?_
 refine lK_ ((Y1 Q f (QsM ‹_› ‹_› ‹_› (x:=l) (y:=m) ‹_› ‹_› ‹_›))) ?_
 exact wo []
 have J:=ab I
 refine w5 ?_
 obtain ⟨o,n⟩:=gx c.2.1 k
 have C:YH o (c.1.length:Int)→o.size=c.1.length:=fun h=>by have:=h.2; omega
 have T:c.2.1.length≤k→o.size=c.1.length:=fun h=>C (YT D h _ (ai n))
 refine w8 ?_
 refine alL 38 fun _=> ?_
 refine w_ ?_
 refine lc (dK (Qcf o (c.1.length:Int)) QhT) ?_
 refine w2 ?_
 cases s:(decide (YH o (c.1.length:Int)))
 have B:=aa s
 refine w4 ?_
 refine Qe<|fqB p ?_
 exact Qnq n ‹_›
 have B:=ab s
 refine w6 ?_
 refine Qc ?_
 refine lK_ ((Y1 D n ‹_›)) ?_
 exact wo []
 refine w3 ?_
 refine Qe<|fqB p ?_
 exact Qon ‹_›
end Go.Proofs.YtgpdhgadmjfokaaGreat
namespace Go.Proofs.YtgpdhgadmjfokaaGreat
open Go.RowKit
set_option maxRecDepth 100000
set_option maxHeartbeats 4000000
theorem Qb1 (s:ByteArray)[Decidable (ZF s)]:FC Tryz.prog 193 [(false,[dS s])] [] 0 (Q7 (lf (dB (decide (ZF s))))):=Qaf fun g w j h=>by
 obtain ⟨v,rfl,d⟩:=h.leaf1
 obtain ⟨rfl,f⟩:=d.str_
 exact (QcR s w f).mono fun _ _ h=>VF h
theorem Qdm (s:ByteArray)[Decidable (ZF s)]:FC Tryz.prog 198 [(false,[dS s])] [] 0 (Q7 (lf (dB (decide (ZF s))))):=Qaf fun g w j h=>by
 obtain ⟨v,rfl,d⟩:=h.leaf1
 obtain ⟨rfl,f⟩:=d.str_
 exact (QcU s w f).mono fun _ _ h=>VF h
def YF (a b:UInt8):Bool:=decide (a=b)||(decide (a=48)&&decide (b=43))||(decide (a=43)&&decide (b=49))||(decide (a=49)&&decide (b=45))||(decide (a=45)&&decide (b=48))||(decide (a=43)&&decide (b=45))||(decide (a=45)&&decide (b=43))
def Qob (s:ByteArray):Prop:=∀x∈s.toList,x=48∨x=43∨x=49∨x=45
instance (s:ByteArray):Decidable (Qob s):=inferInstanceAs (Decidable (∀x∈s.toList,x=48∨x=43∨x=49∨x=45))
def SignsOk (c:DSg)(s:ByteArray):Prop:=Qob s∧s.size=c.2.1.length∧SgOk c
instance (c:DSg) (s:ByteArray) [Decidable (SgOk c)]:Decidable (SignsOk c s):=inferInstanceAs (Decidable (_∧_))
def Y8 (c:DSg)(s:ByteArray):Bool:=c.2.2.all fun a=>YF (bAt s a.1) (bAt s a.2.2.2)
def ZP (s:ByteArray)(a:DAr):Bool:=(decide (bAt s a.1=43)&&(decide (bAt s a.2.2.2=49)||decide (bAt s a.2.2.2=45)))||(decide (bAt s a.1=45)&&(decide (bAt s a.2.2.2=48)||decide (bAt s a.2.2.2=43)))
def okP (c:DSg)(s:ByteArray)[Decidable (SgOk c)]:Bool:=decide (SignsOk c s)&&Y8 c s
theorem Vo {c:DSg}{s:ByteArray}[Decidable (SgOk c)]:okP c s=true↔SignsOk c s∧Y8 c s=true:=by unfold okP; rw[aL,aV]
theorem Qdg {c:DSg}{s:ByteArray}[Decidable (SgOk c)](h:¬SignsOk c s):false=okP c s:=by unfold okP; rw[aI h]; rfl
theorem Qfy {c:DSg}{s:ByteArray}[Decidable (SgOk c)](h:SignsOk c s):Y8 c s=okP c s:=by unfold okP; rw[aT h]; rfl
def ZT (as_:List DAr)(q:Int):List DAr:=as_.filter fun a=>decide (a.1=q)
def YZ:ByteArray:=⟨#[48,43,49,45,48]⟩
theorem ba2 {a b c d:UInt8}:(⟨#[a,b]⟩:ByteArray)=⟨#[c,d]⟩↔a=c∧b=d:=by simp[ByteArray.mk.injEq]
section
variable {a b x:UInt8}{k i:Nat}{s:ByteArray}{c:DSg}{l:List DAr}{e:DAr}{q:Int}
theorem KN (k:Nat)(h:k < 5):bAt YZ (k:Int)=[(48:UInt8),43,49,45,48][k]! :=by
 match k,h with
 | 0,_=>rfl
 | 1,_=>rfl
 | 2,_=>rfl
 | 3,_=>rfl
 | 4,_=>rfl
theorem Qn4 (g:(k:Int)+1 < 5)(d:bAt YZ (k:Int)=a)(f:bAt YZ ((k:Int)+1)=b):true=YF a b:=by
 rw[show ((k:Int)+1)=((k+1:Nat):Int) by omega,KN _ (by omega)] at f
 rw[KN _ (by omega)] at d
 subst d f
 match k,g with
 | 0,_=>rfl
 | 1,_=>rfl
 | 2,_=>rfl
 | 3,_=>rfl
 | n+4,h=>omega
theorem Qnn (h0:¬(a=48∧b=43))(g:¬(a=43∧b=49))(j:¬(a=49∧b=45))(m:¬(a=45∧b=48))(n:¬(a=43∧b=45))(o:¬(a=45∧b=43)):decide (a=b)=YF a b:=by
 have f:∀{p q:UInt8},¬(a=p∧b=q)→(decide (a=p)&&decide (b=q))=false:=fun {p q} h=>by
  rw[Bool.and_eq_false_iff,bT,bT]
  by_cases e:a=p
  ·exact .inr fun d=>h ⟨e,d⟩
  ·exact .inl e
 unfold YF
 rw[f h0,f g,f j,f m,f n,f o]
 simp
theorem QpF (r:∀j:Nat,j < k→¬(bAt YZ (j:Int)=a∧bAt YZ ((j:Int)+1)=b))(u:¬(k:Int)+1 < 5)(o:¬(a=43∧b=45))(p:¬(a=45∧b=43)):decide (a=b)=YF a b:=by
 have g:∀j:Nat,j < 4→¬([(48:UInt8),43,49,45,48][j]! =a∧[(48:UInt8),43,49,45,48][j+1]! =b):=fun j t h=>by
  refine r j (by omega) ?_
  rw[show ((j:Int)+1)=((j+1:Nat):Int) by omega,KN _ (by omega),KN _ (by omega)]
  exact h
 have d:¬(48=a∧43=b):=g 0 (by omega)
 have f:¬(43=a∧49=b):=g 1 (by omega)
 have m:¬(49=a∧45=b):=g 2 (by omega)
 have n:¬(45=a∧48=b):=g 3 (by omega)
 exact Qnn (fun h=>d ⟨h.1.symm,h.2.symm⟩) (fun h=>f ⟨h.1.symm,h.2.symm⟩) (fun h=>m ⟨h.1.symm,h.2.symm⟩) (fun h=>n ⟨h.1.symm,h.2.symm⟩) o p
theorem Qep (d:∀j:Nat,j < k→¬(bAt YZ (j:Int)=a∧bAt YZ ((j:Int)+1)=b))(h:¬(bAt YZ (k:Int)=a∧bAt YZ ((k:Int)+1)=b)):∀j:Nat,j < k+1→¬(bAt YZ (j:Int)=a∧bAt YZ ((j:Int)+1)=b):=fun j f=>by
 by_cases e:j=k
 ·subst e; exact h
 ·exact d j (by omega)
theorem Xz (g:∀j,j < k→∀x,s.toList[j]? =some x→x=48∨x=43∨x=49∨x=45)(m:s[((k:Int)).toNat]? =some x)(h:x=48∨x=43∨x=49∨x=45):∀j,j < k+1→∀x,s.toList[j]? =some x→x=48∨x=43∨x=49∨x=45:=fun j n d f=>by
 by_cases e:j=k
 ·subst e; rw[Hh m] at f; cases f; exact h
 ·exact g j (by omega) d f
theorem QgE (f:∀j,j < k→∀x,s.toList[j]? =some x→x=48∨x=43∨x=49∨x=45)(h:s.size≤k):Qob s:=fun x g=>by
 obtain ⟨j,d⟩:=aJ.1 g
 have:=(ae.1 d).1
 rw[X3] at this
 exact f j (by omega) x d
section
variable [Decidable (SignsOk c s)]
theorem QdK (d:s[((k:Int)).toNat]? =some x)(h:¬(x=48∨x=43∨x=49∨x=45)):false=decide (SignsOk c s):=(aI fun g=>h (g.1 x (ai (Hh d)))).symm
theorem Qlo (h:¬(s.size:Int)=(c.2.1.length:Int)):false=decide (SignsOk c s):=(aI fun g=>h (by rw[g.2.1])).symm
theorem QmS (h:¬SgOk c):false=decide (SignsOk c s):=(aI fun g=>h g.2.2).symm
theorem QlH [Decidable (SgOk c)](d:∀j,j < k→∀x,s.toList[j]? =some x→x=48∨x=43∨x=49∨x=45)(f:s.size≤k)(h:(s.size:Int)=(c.2.1.length:Int)):decide (SgOk c)=decide (SignsOk c s):=cV.2 ⟨fun g=>⟨QgE d f,by omega,g⟩,fun g=>g.2.2⟩
theorem QiE (d:∀j,j < k→∀x,s.toList[j]? =some x→x=48∨x=43∨x=49∨x=45)(f:s.size≤k)(g:SgOk c):decide ((s.size:Int)=(c.2.1.length:Int))=decide (SignsOk c s):=cV.2 ⟨fun h=>⟨QgE d f,by omega,g⟩,fun g=>by rw[g.2.1]⟩
end
theorem SignsOk.at_ (h:SignsOk c s)(f:e∈c.2.2):(0≤e.1∧e.1 < (s.size:Int))∧0≤e.2.2.2∧e.2.2.2 < (s.size:Int):=by
 have d:=UK (h.2.2.arcs e f)
 rw[h.2.1]
 exact d
theorem Qp2:(!(c.2.2.any fun a=> !YF (bAt s a.1) (bAt s a.2.2.2)))=Y8 c s:=by
 unfold Y8
 rw[ce,cc,cI,aq]
 constructor
 ·intro h a d; have:=h a d; simpa using this
 ·intro h a d; have:=h a d; simpa using this
theorem Qq1 (d:c.2.2[k]? =some e)(h:YF (bAt s e.1) (bAt s e.2.2.2)=false):false=Y8 c s:=by
 refine (List.all_eq_false.2 ⟨e,ai d, ?_⟩).symm
 rw[h]; decide
theorem QoI (f:∀j,j < k→∀a,c.2.2[j]? =some a→YF (bAt s a.1) (bAt s a.2.2.2)=true)(h:c.2.2.length≤k):true=Y8 c s:=(aq.2 fun a g=>by
 obtain ⟨j,d⟩:=aJ.1 g
 have:=(ae.1 d).1
 exact f j (by omega) a d).symm
theorem QlW (g:∀j,j < k→∀a,c.2.2[j]? =some a→YF (bAt s a.1) (bAt s a.2.2.2)=true)(m:c.2.2[k]? =some e)(h:YF (bAt s e.1) (bAt s e.2.2.2)=true):∀j,j < k+1→∀a,c.2.2[j]? =some a→YF (bAt s a.1) (bAt s a.2.2.2)=true:=fun j n a d=>by
 by_cases f:j=k
 ·subst f; rw[m] at d; cases d; exact h
 ·exact g j (by omega) a d
theorem Qgw (d:l[i]? =some e)(h:e.1=q):ZT (l.take i) q++[e]=ZT (l.take (i+1)) q:=by
 unfold ZT
 rw[QI d,bG]; simp[h]
theorem QkD (d:l[i]? =some e)(h:¬e.1=q):ZT (l.take i) q=ZT (l.take (i+1)) q:=by
 unfold ZT
 rw[QI d,bG]; simp[h]
theorem Hy:(ZT l q).length≤l.length:=cO ..
theorem Kv:e∈ZT l q↔e∈l∧e.1=q:=by unfold ZT; rw[cA,aV]
end
theorem Hn (a:UInt8)(b:UInt8):FC Tryz.prog 205 [(false,[.dat .u8 a]),(false,[.dat .u8 b])] [] 0 (Q7 (lB (YF a b))):=by
 refine Qu Tryz.func205 rfl rfl Tryz.ntmps205 fun A d z v B y w=> ?_
 refine w7 ?_
 refine lc (dBs 0 (e:= .u8) Qk4) ?_
 refine lc (Zk (ys:=[a,b]) (YY (Qa rfl) rfl) Z7 WR Q9 rfl) ?_
 refine w7 ?_
 cases f:(decide ((⟨#[a,b]⟩:ByteArray)=(⟨#[48,43]⟩:ByteArray)))
 have g:=aa f
 refine w5 ?_
 cases j:(decide ((⟨#[a,b]⟩:ByteArray)=(⟨#[43,49]⟩:ByteArray)))
 have m:=aa j
 refine w5 ?_
 cases n:(decide ((⟨#[a,b]⟩:ByteArray)=(⟨#[49,45]⟩:ByteArray)))
 have o:=aa n
 refine w5 ?_
 cases p:(decide ((⟨#[a,b]⟩:ByteArray)=(⟨#[45,48]⟩:ByteArray)))
 have r:=aa p
 refine w5 ?_
 cases t:(decide ((⟨#[a,b]⟩:ByteArray)=(⟨#[43,45]⟩:ByteArray)))
 have u:=aa t
 refine w5 ?_
 refine cd_ (fun _ _=> ?_) fun _ _=> ?_
 refine w8 ?_
 refine Qe<|fqB d ?_
 exact Qnn (fun h=>by have:=ba2.2 h; contradiction) (fun h=>by have:=ba2.2 h; contradiction) (fun h=>by have:=ba2.2 h; contradiction) (fun h=>by have:=ba2.2 h; contradiction) (fun h=>by have:=ba2.2 h; contradiction) (fun h=>by have:=ba2.2 h; contradiction)
 refine w3 ?_
 refine Qe<|fqB d ?_
 ·(unfold YF; simp only[ba2] at*; simp_all; done)
 have u:=ab t
 refine w6 ?_
 refine Qe<|fqB d ?_
 ·(unfold YF; simp only[ba2] at*; simp_all; done)
 have r:=ab p
 refine w6 ?_
 refine Qe<|fqB d ?_
 ·(unfold YF; simp only[ba2] at*; simp_all; done)
 have o:=ab n
 refine w6 ?_
 refine Qe<|fqB d ?_
 ·(unfold YF; simp only[ba2] at*; simp_all; done)
 have m:=ab j
 refine w6 ?_
 refine Qe<|fqB d ?_
 ·(unfold YF; simp only[ba2] at*; simp_all; done)
 have g:=ab f
 refine w6 ?_
 refine Qe<|fqB d ?_
 ·(unfold YF; simp only[ba2] at*; simp_all; done)
theorem Qa7 (a:UInt8)(b:UInt8):FC Tryz.prog 206 [(false,[.dat .u8 a]),(false,[.dat .u8 b])] [] 0 (Q7 (lB (YF a b))):=by
 have S:(⟨#[48,43,49,45,48]⟩:ByteArray).size=5:=rfl
 refine Qu Tryz.func206 rfl rfl Tryz.ntmps206 fun U C T J V N M=> ?_
 refine w6 ?_
 refine V5 (fun I=>(¬(a=43∧b=45))∧(¬(a=45∧b=43))∧I=⟨[(0,lf (.dat .u8 a)),(1,lf (.dat .u8 b)),(5,lf (dS (⟨#[48,43,49,45,48]⟩:ByteArray)))],[]⟩) ?_ fun D=> ?_
 rintro I ⟨G,H,rfl⟩
 refine w5 ?_
 refine lpK 5 (fun k=>∀j:Nat,j < k→¬(bAt YZ (j:Int)=a∧bAt YZ ((j:Int)+1)=b)) (fun k=>⟨[(0,lf (.dat .u8 a)),(1,lf (.dat .u8 b)),(5,lf (dS (⟨#[48,43,49,45,48]⟩:ByteArray))),(6,lI (k:Int))],[]⟩) ((fun j R=>absurd R (bk j))) ?_ fun k _ E=> ?_
 exact wo []
 refine w5 ?_
 refine alS 23 fun _=> ?_
 refine lc (Zq (Qa rfl) rfl Q9) ?_
 refine w2 ?_
 cases y:(decide (((k:Int)+1) < ((⟨#[48,43,49,45,48]⟩:ByteArray).size:Int)))
 have z:=aa y
 refine w9 ?_
 refine Qe<|fqB C ?_
 exact QpF E (by omega) G H
 have z:=ab y
 refine w7 ?_
 obtain ⟨K,P⟩:=gs (⟨#[48,43,49,45,48]⟩:ByteArray) (((k:Int)).toNat)
 refine w4 ?_
 cases A:(decide (K=a))
 have B:=aa A
 refine w15 ?_
 refine Qc ?_
 refine lK_ ((Qep E (fun h=>by obtain ⟨d,f⟩:=h; rw[show YZ=(⟨#[48,43,49,45,48]⟩:ByteArray) from rfl] at d f; first | (rw[Qq ‹_›] at d; contradiction) | (rw[Qq ‹_›] at f; contradiction)))) ?_
 exact wo []
 have B:=ab A
 refine w3 ?_
 obtain ⟨L,Q⟩:=gs (⟨#[48,43,49,45,48]⟩:ByteArray) (((k:Int)+1).toNat)
 refine w5 ?_
 cases n:(decide (L=b))
 have t:=aa n
 refine w7 ?_
 refine Qc ?_
 refine lK_ ((Qep E (fun h=>by obtain ⟨d,f⟩:=h; rw[show YZ=(⟨#[48,43,49,45,48]⟩:ByteArray) from rfl] at d f; first | (rw[Qq ‹_›] at d; contradiction) | (rw[Qq ‹_›] at f; contradiction)))) ?_
 exact wo []
 have t:=ab n
 refine w4 ?_
 refine Qe<|fqB C ?_
 exact Qn4 (k:=k) (by omega) ((Qq (m:=YZ) ‹_›).trans ‹_›) ((Qq (m:=YZ) ‹_›).trans ‹_›)
 refine w3 ?_
 refine lc (Qp (Qa rfl) (Qs 43 rfl) rfl) ?_
 refine w_ ?_
 cases g:(decide (a=43))
 have u:=aa g
 refine w5 ?_
 refine lgy rfl rfl (Qp (Qa rfl) (Qs 45 rfl) rfl) ?_
 refine w_ ?_
 cases o:(decide (a=45))
 have v:=aa o
 refine w7 ?_
 refine YL (D _ ⟨(fun h=>by obtain ⟨d,f⟩:=h; contradiction),(fun h=>by obtain ⟨d,f⟩:=h; contradiction),rfl⟩) ?_
 exact wo []
 have v:=ab o
 refine w_ ?_
 refine lgy rfl rfl (Qp (Qa rfl) (Qs 43 rfl) rfl) ?_
 refine w3 ?_
 refine cd_ (fun _ _=> ?_) fun _ _=> ?_
 refine w_ ?_
 refine YL (D _ ⟨(fun h=>by obtain ⟨d,f⟩:=h; contradiction),(fun h=>by obtain ⟨d,f⟩:=h; contradiction),rfl⟩) ?_
 exact wo []
 refine w3 ?_
 refine Qe<|fqB C ?_
 ·(unfold YF; simp_all; done)
 have u:=ab g
 refine w_ ?_
 refine lgy rfl rfl (Qp (Qa rfl) (Qs 45 rfl) rfl) ?_
 refine w2 ?_
 cases p:(decide (b=45))
 have w:=aa p
 refine w_ ?_
 refine lgy rfl rfl (Qp (Qa rfl) (Qs 45 rfl) rfl) ?_
 refine w_ ?_
 have r:(decide (a=45))=false:=aI fun O=>absurd ((ab (g)).symm.trans O) (by decide)
 have F:=aa r
 try rw[r]
 refine w7 ?_
 refine YL (D _ ⟨(fun h=>by obtain ⟨d,f⟩:=h; contradiction),(fun h=>by obtain ⟨d,f⟩:=h; contradiction),rfl⟩) ?_
 exact wo []
 have w:=ab p
 refine w3 ?_
 refine Qn rfl rfl rfl ?_ rfl
 refine Qn rfl rfl rfl ?_ rfl
 refine w7 ?_
 refine Qe<|fqB C ?_
 ·(unfold YF; simp_all; done)
theorem YJ (a:QeQ)(s:ByteArray)(I:0≤a.1∧a.1 < (s.size:Int))(J:0≤a.2.2.2∧a.2.2.2 < (s.size:Int)):FC Tryz.prog 92 [(true,[dI a.1,dI a.2.1,dB a.2.2.1,dI a.2.2.2]),(false,[dS s])] [] 0 (Q7 (lB (ZP s a))):=by
 refine Qu Tryz.func92 rfl rfl Tryz.ntmps92 fun G r F z H B A=> ?_
 refine acG 0 0 fun _=> ?_
 refine acG 0 1 fun _=> ?_
 refine acG 0 3 fun _=> ?_
 refine w_ ?_
 refine xbx 0 ?_
 refine w2 ?_
 obtain ⟨c4,D⟩:=gs s ((a.1).toNat)
 obtain ⟨w,E⟩:=gs s ((a.2.2.2).toNat)
 apply dW (i8 7 _ _ _ _ _ _ _ _ (i2 5 _ _ [])) [0,1,1,0,15,31,31,15,240,0]
 exact y10
 refine w2 ?_
 refine lc (Qp (Qa rfl) (Qs 43 rfl) rfl) ?_
 refine w_ ?_
 cases o:(decide (c4=43))
 have t:=aa o
 refine w3 ?_
 refine Qn rfl rfl rfl ?_ rfl
 refine Qn rfl rfl rfl ?_ rfl
 refine w4 ?_
 refine lgy rfl rfl (Qp (Qa rfl) (Qs 45 rfl) rfl) ?_
 refine w_ ?_
 cases u:(decide (c4=45))
 have v:=aa u
 refine w3 ?_
 refine Qn rfl rfl rfl ?_ rfl
 refine Qn rfl rfl rfl ?_ rfl
 refine w5 ?_
 refine Qe<|fqB r ?_
 ·(unfold ZP; rw[Qq (p:=a.1) ‹_›,Qq (p:=a.2.2.2) ‹_›]; simp_all; done)
 have v:=ab u
 refine w_ ?_
 refine lgy rfl rfl (Qp (Qa rfl) (Qs 48 rfl) rfl) ?_
 refine w_ ?_
 cases d:(decide (w=48))
 have j:=aa d
 refine w_ ?_
 refine lgy rfl rfl (Qp (Qa rfl) (Qs 43 rfl) rfl) ?_
 refine w5 ?_
 refine Qe<|fqB r ?_
 ·(unfold ZP; rw[Qq (p:=a.1) ‹_›,Qq (p:=a.2.2.2) ‹_›]; simp_all; done)
 have j:=ab d
 refine w7 ?_
 refine Qe<|fqB r ?_
 ·(unfold ZP; rw[Qq (p:=a.1) ‹_›,Qq (p:=a.2.2.2) ‹_›]; simp_all; done)
 have t:=ab o
 refine w_ ?_
 refine lgy rfl rfl (Qp (Qa rfl) (Qs 49 rfl) rfl) ?_
 refine w_ ?_
 cases f:(decide (w=49))
 have m:=aa f
 refine w_ ?_
 refine lgy rfl rfl (Qp (Qa rfl) (Qs 45 rfl) rfl) ?_
 refine w3 ?_
 cases g:(decide (w=45))
 have n:=aa g
 refine w_ ?_
 refine lgy rfl rfl (Qp (Qa rfl) (Qs 45 rfl) rfl) ?_
 refine w_ ?_
 have h:(decide (c4=45))=false:=aI fun C=>absurd ((ab (o)).symm.trans C) (by decide)
 have y:=aa h
 try rw[h]
 refine w3 ?_
 refine Qn rfl rfl rfl ?_ rfl
 refine Qn rfl rfl rfl ?_ rfl
 refine w5 ?_
 refine Qe<|fqB r ?_
 ·(unfold ZP; rw[Qq (p:=a.1) ‹_›,Qq (p:=a.2.2.2) ‹_›]; simp_all; done)
 have n:=ab g
 refine w3 ?_
 refine Qn rfl rfl rfl ?_ rfl
 refine Qn rfl rfl rfl ?_ rfl
 refine Qn rfl rfl rfl ?_ rfl
 refine Qn rfl rfl rfl ?_ rfl
 refine Qn rfl rfl rfl ?_ rfl
 refine Qn rfl rfl rfl ?_ rfl
 refine w4 ?_
 refine Qe<|fqB r ?_
 ·(unfold ZP; rw[Qq (p:=a.1) ‹_›,Qq (p:=a.2.2.2) ‹_›]; simp_all; done)
 have m:=ab f
 refine w8 ?_
 refine Qn rfl rfl rfl ?_ rfl
 refine Qn rfl rfl rfl ?_ rfl
 refine Qn rfl rfl rfl ?_ rfl
 refine Qn rfl rfl rfl ?_ rfl
 refine Qn rfl rfl rfl ?_ rfl
 refine Qn rfl rfl rfl ?_ rfl
 refine w4 ?_
 refine Qe<|fqB r ?_
 ·(unfold ZP; rw[Qq (p:=a.1) ‹_›,Qq (p:=a.2.2.2) ‹_›]; simp_all; done)
theorem X9 (s:ByteArray)(a:QeQ)(I:0≤a.1∧a.1 < (s.size:Int))(J:0≤a.2.2.2∧a.2.2.2 < (s.size:Int)):FC Tryz.prog 201 [(false,[dS s]),(true,[dI a.1,dI a.2.1,dB a.2.2.1,dI a.2.2.2])] [] 0 (Q7 (lB (ZP s a))):=by
 refine Qu Tryz.func201 rfl rfl Tryz.ntmps201 fun G r F z H B A=> ?_
 refine acG 1 0 fun _=> ?_
 refine acG 1 1 fun _=> ?_
 refine acG 1 3 fun _=> ?_
 refine w_ ?_
 refine xbx 0 ?_
 refine w2 ?_
 obtain ⟨c4,D⟩:=gs s ((a.1).toNat)
 obtain ⟨w,E⟩:=gs s ((a.2.2.2).toNat)
 apply dW (i8 7 _ _ _ _ _ _ _ _ (i2 5 _ _ [])) [0,1,1,0,15,31,31,15,240,0]
 exact y10
 refine w2 ?_
 refine lc (Qp (Qa rfl) (Qs 43 rfl) rfl) ?_
 refine w_ ?_
 cases o:(decide (c4=43))
 have t:=aa o
 refine w3 ?_
 refine Qn rfl rfl rfl ?_ rfl
 refine Qn rfl rfl rfl ?_ rfl
 refine w4 ?_
 refine lgy rfl rfl (Qp (Qa rfl) (Qs 45 rfl) rfl) ?_
 refine w_ ?_
 cases u:(decide (c4=45))
 have v:=aa u
 refine w3 ?_
 refine Qn rfl rfl rfl ?_ rfl
 refine Qn rfl rfl rfl ?_ rfl
 refine w5 ?_
 refine Qe<|fqB r ?_
 ·(unfold ZP; rw[Qq (p:=a.1) ‹_›,Qq (p:=a.2.2.2) ‹_›]; simp_all; done)
 have v:=ab u
 refine w_ ?_
 refine lgy rfl rfl (Qp (Qa rfl) (Qs 48 rfl) rfl) ?_
 refine w_ ?_
 cases d:(decide (w=48))
 have j:=aa d
 refine w_ ?_
 refine lgy rfl rfl (Qp (Qa rfl) (Qs 43 rfl) rfl) ?_
 refine w5 ?_
 refine Qe<|fqB r ?_
 ·(unfold ZP; rw[Qq (p:=a.1) ‹_›,Qq (p:=a.2.2.2) ‹_›]; simp_all; done)
 have j:=ab d
 refine w7 ?_
 refine Qe<|fqB r ?_
 ·(unfold ZP; rw[Qq (p:=a.1) ‹_›,Qq (p:=a.2.2.2) ‹_›]; simp_all; done)
 have t:=ab o
 refine w_ ?_
 refine lgy rfl rfl (Qp (Qa rfl) (Qs 49 rfl) rfl) ?_
 refine w_ ?_
 cases f:(decide (w=49))
 have m:=aa f
 refine w_ ?_
 refine lgy rfl rfl (Qp (Qa rfl) (Qs 45 rfl) rfl) ?_
 refine w3 ?_
 cases g:(decide (w=45))
 have n:=aa g
 refine w_ ?_
 refine lgy rfl rfl (Qp (Qa rfl) (Qs 45 rfl) rfl) ?_
 refine w_ ?_
 have h:(decide (c4=45))=false:=aI fun C=>absurd ((ab (o)).symm.trans C) (by decide)
 have y:=aa h
 try rw[h]
 refine w3 ?_
 refine Qn rfl rfl rfl ?_ rfl
 refine Qn rfl rfl rfl ?_ rfl
 refine w5 ?_
 refine Qe<|fqB r ?_
 ·(unfold ZP; rw[Qq (p:=a.1) ‹_›,Qq (p:=a.2.2.2) ‹_›]; simp_all; done)
 have n:=ab g
 refine w3 ?_
 refine Qn rfl rfl rfl ?_ rfl
 refine Qn rfl rfl rfl ?_ rfl
 refine Qn rfl rfl rfl ?_ rfl
 refine Qn rfl rfl rfl ?_ rfl
 refine Qn rfl rfl rfl ?_ rfl
 refine Qn rfl rfl rfl ?_ rfl
 refine w4 ?_
 refine Qe<|fqB r ?_
 ·(unfold ZP; rw[Qq (p:=a.1) ‹_›,Qq (p:=a.2.2.2) ‹_›]; simp_all; done)
 have m:=ab f
 refine w8 ?_
 refine Qn rfl rfl rfl ?_ rfl
 refine Qn rfl rfl rfl ?_ rfl
 refine Qn rfl rfl rfl ?_ rfl
 refine Qn rfl rfl rfl ?_ rfl
 refine Qn rfl rfl rfl ?_ rfl
 refine Qn rfl rfl rfl ?_ rfl
 refine w4 ?_
 refine Qe<|fqB r ?_
 ·(unfold ZP; rw[Qq (p:=a.1) ‹_›,Qq (p:=a.2.2.2) ‹_›]; simp_all; done)
theorem Zm (a:QeQ):FC Tryz.prog 220 [(true,[dI a.1,dI a.2.1,dB a.2.2.1,dI a.2.2.2])] [] 0 (Q7 (ag [dI a.2.1,dB a.2.2.1])):=by
 refine Qu Tryz.func220 rfl rfl Tryz.ntmps220 fun m h j d n g f=> ?_
 refine acG 0 0 fun _=> ?_
 refine acG 0 1 fun _=> ?_
 refine acG 0 3 fun _=> ?_
 refine w_ ?_
 refine xbx 0 ?_
 refine lc (xal 1 Qv XN) ?_
 refine w6 ?_
 refine lc (Qi Va ⟨_,_,rfl,(Qr rfl),⟨_,_,rfl,(Qr rfl),rfl⟩⟩ (aq.1 rfl) rfl rfl) ?_
 refine w3 ?_
 exact fe_ h
theorem H2 (c:Z9)(s:ByteArray)[∀c,Decidable (SgOk c)]:FC Tryz.prog 99 [(true,[.dat Qj c.1, .dat Qm c.2.1, .dat Qw c.2.2]),(false,[dS s])] [] 0 (Q7 (lB (decide (SignsOk c s)))):=by
 refine Qu Tryz.func99 rfl rfl Tryz.ntmps99 fun H A G B I D C=> ?_
 refine w_ ?_
 refine xbx 0 ?_
 refine w7 ?_
 refine lpK s.size (fun k=>∀j,j < k→∀x,s.toList[j]? =some x→x=48∨x=43∨x=49∨x=45) (fun k=>⟨[(1,lf (dS s)),(2,lP 0 0),(5,lI (k:Int))],[bx 0 27 [.dat Qj c.1, .dat Qm c.2.1, .dat Qw c.2.2]]⟩) ((fun j F=>absurd F (bk j))) ?_ fun k _ r=> ?_
 exact wo []
 refine w4 ?_
 refine alS 8 fun _=> ?_
 refine lc (Zq (Qa rfl) rfl Q9) ?_
 refine w2 ?_
 cases t:(decide ((k:Int) < (s.size:Int)))
 have u:=aa t
 refine w5 ?_
 refine alS 30 fun _=> ?_
 refine lc (Zq (Qa rfl) rfl Q9) ?_
 refine w2 ?_
 refine alL 33 fun _=> ?_
 refine w3 ?_
 cases v:(decide ((s.size:Int)=(c.2.1.length:Int)))
 have w:=aa v
 refine w5 ?_
 refine Qe<|fqB A ?_
 exact Qlo ‹_›
 have w:=ab v
 refine w_ ?_
 refine lgy rfl rfl (dK (Yb c) JC) ?_
 refine w3 ?_
 refine Qe<|fqB A ?_
 exact QlH r (by omega) ‹_›
 have u:=ab t
 refine w7 ?_
 obtain ⟨d,E⟩:=gs s (((k:Int)).toNat)
 refine w5 ?_
 refine lc (QW (Qa rfl) (Qs 48 rfl) rfl) ?_
 refine w_ ?_
 cases y:(!decide (d=48))
 have z:(d=48):=QJ y
 refine w16 ?_
 refine w3 ?_
 refine Qc ?_
 refine lK_ ((Xz r ‹_› (by first | exact .inl ‹_› | exact .inr (.inl ‹_›) | exact .inr (.inr (.inl ‹_›)) | exact .inr (.inr (.inr ‹_›))))) ?_
 exact wo []
 have z:¬(d=48):=QU y
 refine w_ ?_
 refine lgy rfl rfl (QW (Qa rfl) (Qs 43 rfl) rfl) ?_
 refine w2 ?_
 cases f:(!decide (d=43))
 have n:(d=43):=QJ f
 refine w15 ?_
 refine Qc ?_
 refine lK_ ((Xz r ‹_› (by first | exact .inl ‹_› | exact .inr (.inl ‹_›) | exact .inr (.inr (.inl ‹_›)) | exact .inr (.inr (.inr ‹_›))))) ?_
 exact wo []
 have n:¬(d=43):=QU f
 refine w_ ?_
 refine lgy rfl rfl (QW (Qa rfl) (Qs 49 rfl) rfl) ?_
 refine w2 ?_
 cases g:(!decide (d=49))
 have o:(d=49):=QJ g
 refine w11 ?_
 refine Qc ?_
 refine lK_ ((Xz r ‹_› (by first | exact .inl ‹_› | exact .inr (.inl ‹_›) | exact .inr (.inr (.inl ‹_›)) | exact .inr (.inr (.inr ‹_›))))) ?_
 exact wo []
 have o:¬(d=49):=QU g
 refine w_ ?_
 refine lgy rfl rfl (QW (Qa rfl) (Qs 45 rfl) rfl) ?_
 refine w2 ?_
 cases m:(!decide (d=45))
 have p:(d=45):=QJ m
 refine w7 ?_
 refine Qc ?_
 refine lK_ ((Xz r ‹_› (by first | exact .inl ‹_› | exact .inr (.inl ‹_›) | exact .inr (.inr (.inl ‹_›)) | exact .inr (.inr (.inr ‹_›))))) ?_
 exact wo []
 have p:¬(d=45):=QU m
 refine w4 ?_
 refine Qe<|fqB A ?_
 exact QdK (k:=k) ‹_› (by rintro (h | h | h | h) <;> contradiction)
theorem UQ (c:Z9)(s:ByteArray)[∀c,Decidable (SgOk c)]:FC Tryz.prog 101 [(true,[.dat Qj c.1, .dat Qm c.2.1, .dat Qw c.2.2]),(false,[dS s])] [] 0 (Q7 (lB (decide (SignsOk c s)))):=by
 refine Qu Tryz.func101 rfl rfl Tryz.ntmps101 fun H A G B I D C=> ?_
 refine w_ ?_
 refine xbx 0 ?_
 refine w7 ?_
 refine lpK s.size (fun k=>∀j,j < k→∀x,s.toList[j]? =some x→x=48∨x=43∨x=49∨x=45) (fun k=>⟨[(1,lf (dS s)),(2,lP 0 0),(5,lI (k:Int))],[bx 0 27 [.dat Qj c.1, .dat Qm c.2.1, .dat Qw c.2.2]]⟩) ((fun j F=>absurd F (bk j))) ?_ fun k _ r=> ?_
 exact wo []
 refine w4 ?_
 refine alS 7 fun _=> ?_
 refine lc (Zq (Qa rfl) rfl Q9) ?_
 refine w2 ?_
 cases t:(decide ((k:Int) < (s.size:Int)))
 have u:=aa t
 refine w5 ?_
 refine lc (dK (Zz c) Yy) ?_
 refine w_ ?_
 cases v:(decide (SgOk c))
 have w:=aa v
 refine w9 ?_
 refine Qe<|fqB A ?_
 exact QmS ‹_›
 have w:=ab v
 refine w_ ?_
 refine alS 37 fun _=> ?_
 refine lgy rfl rfl (Zq (Qa rfl) rfl Q9) ?_
 refine w2 ?_
 refine alL 40 fun _=> ?_
 refine w5 ?_
 refine Qe<|fqB A ?_
 exact QiE r (by omega) ‹_›
 have u:=ab t
 refine w7 ?_
 obtain ⟨d,E⟩:=gs s (((k:Int)).toNat)
 refine w_ ?_
 refine lc (QW (Qa rfl) (Qs 48 rfl) rfl) ?_
 refine w_ ?_
 cases y:(!decide (d=48))
 have z:(d=48):=QJ y
 refine w16 ?_
 refine w9 ?_
 refine Qc ?_
 refine lK_ ((Xz r ‹_› (by first | exact .inl ‹_› | exact .inr (.inl ‹_›) | exact .inr (.inr (.inl ‹_›)) | exact .inr (.inr (.inr ‹_›))))) ?_
 exact wo []
 have z:¬(d=48):=QU y
 refine w3 ?_
 refine lgy rfl rfl (QW (Qa rfl) (Qs 43 rfl) rfl) ?_
 refine w2 ?_
 cases f:(!decide (d=43))
 have n:(d=43):=QJ f
 refine w16 ?_
 refine w3 ?_
 refine Qc ?_
 refine lK_ ((Xz r ‹_› (by first | exact .inl ‹_› | exact .inr (.inl ‹_›) | exact .inr (.inr (.inl ‹_›)) | exact .inr (.inr (.inr ‹_›))))) ?_
 exact wo []
 have n:¬(d=43):=QU f
 refine w3 ?_
 refine lgy rfl rfl (QW (Qa rfl) (Qs 49 rfl) rfl) ?_
 refine w2 ?_
 cases g:(!decide (d=49))
 have o:(d=49):=QJ g
 refine w13 ?_
 refine Qc ?_
 refine lK_ ((Xz r ‹_› (by first | exact .inl ‹_› | exact .inr (.inl ‹_›) | exact .inr (.inr (.inl ‹_›)) | exact .inr (.inr (.inr ‹_›))))) ?_
 exact wo []
 have o:¬(d=49):=QU g
 refine w3 ?_
 refine lgy rfl rfl (QW (Qa rfl) (Qs 45 rfl) rfl) ?_
 refine w2 ?_
 cases m:(!decide (d=45))
 have p:(d=45):=QJ m
 refine w7 ?_
 refine Qc ?_
 refine lK_ ((Xz r ‹_› (by first | exact .inl ‹_› | exact .inr (.inl ‹_›) | exact .inr (.inr (.inl ‹_›)) | exact .inr (.inr (.inr ‹_›))))) ?_
 exact wo []
 have p:¬(d=45):=QU m
 refine w4 ?_
 refine Qe<|fqB A ?_
 exact QdK (k:=k) ‹_› (by rintro (h | h | h | h) <;> contradiction)
theorem UX (a:QeQ)(s:ByteArray)(u:0≤a.1∧a.1 < (s.size:Int))(v:0≤a.2.2.2∧a.2.2.2 < (s.size:Int)):FC Tryz.prog 204 [(true,[dI a.1,dI a.2.1,dB a.2.2.1,dI a.2.2.2]),(false,[.ptr 0 0])] [bx 0 9 [dS s]] 1 (Is (lB (!YF (bAt s a.1) (bAt s a.2.2.2))) [bx 0 9 [dS s]]):=by
 refine Qu Tryz.func204 rfl rfl Tryz.ntmps204 fun r m p f t j h=> ?_
 refine acG 0 0 fun _=> ?_
 refine acG 0 1 fun _=> ?_
 refine acG 0 3 fun _=> ?_
 refine w_ ?_
 refine xbx 1 ?_
 refine w2 ?_
 obtain ⟨c4,n⟩:=gs s ((a.1).toNat)
 obtain ⟨d,o⟩:=gs s ((a.2.2.2).toNat)
 apply dW (i8 4 _ _ _ _ _ _ _ _ [io 12 (lB (YF c4 d)),io 13 _,io 3 _]) [0,1,1,0,15,31,31,15,0,0,0]
 refine z8 ?_
 refine zz (fun _ w=>ac (dK (Hn c4 d) Qi7) rfl) ?_
 exact y2
 refine w_ ?_
 have g:(!(YF c4 d):Bool)=(!YF (bAt s a.1) (bAt s a.2.2.2)):=by
  (rw[Qq ‹_›,Qq ‹_›])
 exact fi_ [] m ⟨rfl,trivial⟩ (h0:=by rw[g] <;> rfl)
theorem UT (l:Qml)(s:ByteArray)(n:∀a∈l,(0≤a.1∧a.1 < (s.size:Int))∧0≤a.2.2.2∧a.2.2.2 < (s.size:Int)):FC Tryz.prog 313 [(false,[.dat Qw l]),(false,[.clo 204 [0]])] [bx 0 9 [dS s]] 1 (Is (lI (ZD (fun a:DAr=> !YF (bAt s a.1) (bAt s a.2.2.2)) l)) [bx 0 9 [dS s]]):=by
 refine Qu Tryz.func313 rfl rfl Tryz.ntmps313 fun y m w o z u t=> ?_
 refine w6 ?_
 refine alL 6 fun _=> ?_
 refine w4 ?_
 refine lpK l.length (fun k=>NoneTo (fun a:DAr=> !YF (bAt s a.1) (bAt s a.2.2.2)) l k) (fun k=>⟨[(0,lf (.dat Qw l)),(1,lf (.clo 204 [0])),(7,lI (l.length:Int)),(8,lI (k:Int))],[bx 0 9 [dS s]]⟩) (NoneTo.zero) ?_ fun k _ f=> ?_
 exact wo []
 refine w4 ?_
 cases h:(decide ((k:Int) < (l.length:Int)))
 have j:=aa h
 refine w7 ?_
 have p:((-1):Int)=(ZD (fun a:DAr=> !YF (bAt s a.1) (bAt s a.2.2.2)) l):=by
  first | exact (f.no (by omega)).symm
 exact fi_ [] m ⟨rfl,trivial⟩ (h0:=by rw[← p] <;> rfl)
 have j:=ab h
 refine w12 ?_
 obtain ⟨g,d⟩:=gx l k
 refine w2 ?_
 refine lc (W8 (args0:=[(true,[dI g.1,dI g.2.1,dB g.2.2.1,dI g.2.2.2])]) (caps:=[0]) 1 [(0,0)] (UX g s (n _ (ai d)).1 (n _ (ai d)).2) Qi4 rfl (Qa rfl) rfl rfl ⟨_,_,rfl,(Qr rfl),rfl⟩ ⟨rfl,trivial⟩ rfl ⟨trivial,trivial⟩ (nlr rfl)) ?_
 refine w_ ?_
 cases v:(YF (bAt s g.1) (bAt s g.2.2.2))
 refine w6 ?_
 have r:((k:Int):Int)=(ZD (fun a:DAr=> !YF (bAt s a.1) (bAt s a.2.2.2)) l):=by
  exact (f.at d (by simp[*])).symm
 exact fi_ [] m ⟨rfl,trivial⟩ (h0:=by rw[r] <;> rfl)
 refine w6 ?_
 refine Qc ?_
 refine lK_ (f.step d (by simp[*])) ?_
 exact wo []
theorem VA (l:Qml)(s:ByteArray)(m:∀a∈l,(0≤a.1∧a.1 < (s.size:Int))∧0≤a.2.2.2∧a.2.2.2 < (s.size:Int)):FC Tryz.prog 203 [(false,[.dat Qw l]),(false,[.clo 204 [0]])] [bx 0 9 [dS s]] 1 (Is (lB (l.any (fun a:DAr=> !YF (bAt s a.1) (bAt s a.2.2.2)))) [bx 0 9 [dS s]]):=by
 refine Qu Tryz.func203 rfl rfl Tryz.ntmps203 fun o j n d p h g=> ?_
 refine w6 ?_
 refine lc (dP 1 [] (UT l s m) Qda) ?_
 refine w4 ?_
 have f:(decide (0≤(ZD (fun a:DAr=> !YF (bAt s a.1) (bAt s a.2.2.2)) l)):Bool)=(l.any (fun a:DAr=> !YF (bAt s a.1) (bAt s a.2.2.2))):=by
  exact Uf _ _
 exact fi_ [] j ⟨rfl,trivial⟩ (h0:=by rw[f] <;> rfl)
theorem Jb (c:Z9)(s:ByteArray)(m:SignsOk c s):FC Tryz.prog 100 [(true,[.dat Qj c.1, .dat Qm c.2.1, .dat Qw c.2.2]),(false,[dS s])] [] 0 (Q7 (lB (Y8 c s))):=by
 refine Qu Tryz.func100 rfl rfl Tryz.ntmps100 fun o h n d p g f=> ?_
 refine w_ ?_
 refine xbx 0 ?_
 refine xbx 1 ?_
 refine w5 ?_
 refine lc (Wh ⟨_,_,rfl,(Qa rfl),rfl,rfl⟩ rfl) ?_
 refine lc (dP 2 [(0,1)] (VA c.2.2 s (fun a j=>m.at_ j)) Qjl) ?_
 refine w3 ?_
 refine Qe<|fqB h ?_
 exact Qp2
theorem YA (c:Z9)(s:ByteArray)(B:SignsOk c s):FC Tryz.prog 102 [(true,[.dat Qj c.1, .dat Qm c.2.1, .dat Qw c.2.2]),(false,[dS s])] [] 0 (Q7 (lB (Y8 c s))):=by
 refine Qu Tryz.func102 rfl rfl Tryz.ntmps102 fun D o C u E w v=> ?_
 refine w_ ?_
 refine xbx 0 ?_
 refine w6 ?_
 refine alL 8 fun _=> ?_
 refine w4 ?_
 refine lpK c.2.2.length (fun k=>∀j,j < k→∀a,c.2.2[j]? =some a→YF (bAt s a.1) (bAt s a.2.2.2)=true) (fun k=>⟨[(1,lf (dS s)),(8,lf (.dat Qw c.2.2)),(9,lI (c.2.2.length:Int)),(10,lI (k:Int))],[]⟩) ((fun j A=>absurd A (bk j))) ?_ fun k _ p=> ?_
 exact wo []
 refine w4 ?_
 cases f:(decide ((k:Int) < (c.2.2.length:Int)))
 have g:=aa f
 refine w6 ?_
 refine Qe<|fqB o ?_
 first | exact QoI p (by omega)
 have g:=ab f
 refine w5 ?_
 obtain ⟨t,d⟩:=gx c.2.2 k
 have n:=B.at_ (ai d)
 refine w2 ?_
 refine lc (xal 1 QG Zu) ?_
 refine w2 ?_
 obtain ⟨h,y⟩:=gs s ((t.1).toNat)
 obtain ⟨m,z⟩:=gs s ((t.2.2.2).toNat)
 apply dW (i8 14 _ _ _ _ _ _ _ _ [io 22 (lB (YF h m)),io 23 _]) [0,1,1,0,15,31,31,15,0,0]
 refine z8 ?_
 refine zz (fun _ F=>ac (dK (Qa7 h m) Qic) rfl) ?_
 exact y1
 cases r:(YF h m)
 refine w4 ?_
 refine Qe<|fqB o ?_
 exact Qq1 d (by rw[Qq ‹_›,Qq ‹_›]; assumption)
 refine w6 ?_
 refine Qc ?_
 refine lK_ ((QlW p d (by rw[Qq ‹_›,Qq ‹_›]; assumption))) ?_
 exact wo []
theorem Ye (c:Z9)(s:ByteArray)[∀c,Decidable (SgOk c)]:FC Tryz.prog 19 [(true,[.dat Qj c.1, .dat Qm c.2.1, .dat Qw c.2.2]),(false,[dS s])] [] 0 (Q7 (PV.tup [(false,[dB (okP c s)]),(false,[dB (decide (SignsOk c s))])])):=by
 refine Qu Tryz.func19 rfl rfl Tryz.ntmps19 fun u g t h v r p=> ?_
 refine w_ ?_
 refine xbx 0 ?_
 refine w7 ?_
 refine lc (dK (H2 c s) Qk7) ?_
 refine w2 ?_
 cases d:(decide (SignsOk c s))
 have f:=aa d
 refine w6 ?_
 have j:(false:Bool)=(okP c s):=by
  exact Qdg ‹_›
 have m:(false:Bool)=(decide (SignsOk c s)):=by
  exact (aI ‹_›).symm
 exact fr_ g (e:=by rw[← j,← m] <;> rfl)
 have f:=ab d
 refine w5 ?_
 refine lc (dK (Jb c s ‹_›) QhR) ?_
 refine w4 ?_
 have n:(Y8 c s:Bool)=(okP c s):=by
  exact Qfy ‹_›
 have o:(true:Bool)=(decide (SignsOk c s)):=by
  exact (aT ‹_›).symm
 exact fr_ g (e:=by rw[n,← o] <;> rfl)
theorem Wb (c:Z9)(s:ByteArray)[∀c,Decidable (SgOk c)]:FC Tryz.prog 93 [(true,[.dat Qj c.1, .dat Qm c.2.1, .dat Qw c.2.2]),(false,[dS s])] [] 0 (Q7 (lB (okP c s))):=by
 refine Qu Tryz.func93 rfl rfl Tryz.ntmps93 fun o g n h p m j=> ?_
 refine w_ ?_
 refine xbx 0 ?_
 refine w5 ?_
 refine lc (dK (UQ c s) Qcu) ?_
 refine w_ ?_
 cases d:(decide (SignsOk c s))
 have f:=aa d
 refine w6 ?_
 refine Qe<|fqB g ?_
 exact Qdg ‹_›
 have f:=ab d
 refine w2 ?_
 refine lgy rfl rfl (dK (YA c s ‹_›) W2) ?_
 refine w3 ?_
 refine Qe<|fqB g ?_
 exact Qfy ‹_›
end Go.Proofs.YtgpdhgadmjfokaaGreat
