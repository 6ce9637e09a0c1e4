/- Walks over abstract states: valid state graphs, the program. -/
import Derived.Test.YtgpdhgadmjfokaaGreatBVa
set_option linter.unusedSimpArgs false
set_option linter.unusedVariables false
set_option linter.unusedSectionVars false
namespace Go.Proofs.YtgpdhgadmjfokaaGreat
open Go.RowKit
set_option maxRecDepth 100000
set_option maxHeartbeats 4000000
section
variable {c:DSg}{a:DAr}{x y:ByteArray}{k:Nat}
theorem QoH (h:¬(0≤a.1∧a.1≤(c.2.1.length:Int) - 1)):¬XF c a:=fun g=>h g.1
theorem Qnr (h:¬(0≤a.2.2.2∧a.2.2.2≤(c.2.1.length:Int) - 1)):¬XF c a:=fun g=>h g.2.1
theorem Qni (h:¬Ka (c.1.length:Int) (a.2.1,a.2.2.1)):¬XF c a:=fun g=>h g.2.2.1
theorem QoI (b:c.2.1[a.1.toNat]? =some x)(d:c.2.1[a.2.2.2.toNat]? =some y)(h:¬Fit a x y):¬XF c a:=fun g=>h (by have:=g.2.2.2; rwa [Vh b,Vh d] at this)
theorem Qxk (b:0≤a.1∧a.1≤(c.2.1.length:Int) - 1)(d:0≤a.2.2.2∧a.2.2.2≤(c.2.1.length:Int) - 1)(e:Ka (c.1.length:Int) (a.2.1,a.2.2.1))(f:c.2.1[a.1.toNat]? =some x)(g:c.2.1[a.2.2.2.toNat]? =some y)(h:Fit a x y):XF c a:=
 ⟨b,d,e,by rw[Vh f,Vh g]; exact h⟩
end
theorem Zw (c:ZB)[∀c,Decidable (SgOk c)]:FC Tryz.prog 106 [(true,[.dat Ql c.1, .dat Qm c.2.1, .dat Qu c.2.2])] [] 0 (Q7 (lB (decide (SgOk c)))):=by
 classical
 refine Qt Tryz.func106 rfl rfl Tryz.ntmps106 fun Y p X U Z W V=> ?_
 refine w_ ?_
 refine xbx 0 ?_
 refine w6 ?_
 refine lc (dK (H0 c.1) Qmn) ?_
 refine w2 ?_
 cases E:(decide (XK c.1))
 have F:=aa E
 refine w16 ?_
 refine w_ ?_
 refine Qd<|fqB p ?_
 exact QsV ‹_›
 have F:=ab E
 refine w2 ?_
 refine alL 14 fun _=> ?_
 refine w_ ?_
 refine lgy rfl rfl (dK (Zh (c.2.1.length:Int) 1 300) Yh) ?_
 refine w3 ?_
 cases G:(decide (1≤(c.2.1.length:Int)∧(c.2.1.length:Int)≤300))
 have H:=aa G
 refine w10 ?_
 refine Qd<|fqB p ?_
 exact QsX ‹_›
 have H:=ab G
 refine w2 ?_
 refine alL 21 fun _=> ?_
 refine w4 ?_
 refine cd_ (fun _ _=> ?_) fun _ _=> ?_
 refine w4 ?_
 refine alL 26 fun _=> ?_
 refine w8 ?_
 refine alL 30 fun _=> ?_
 refine w4 ?_
 refine lpK c.2.1.length (fun k=>∀j,j < k→∀x,c.2.1[j]? =some x→Xd x (c.1.length:Int)) (fun k=>⟨[(1,lP 0 0),(3,lI ((c.2.1.length:Int) - 1)),(30,lf (.dat Qm c.2.1)),(31,lI (c.2.1.length:Int)),(32,lI (k:Int))],[bx 0 27 [.dat Ql c.1, .dat Qm c.2.1, .dat Qu c.2.2]]⟩) ((fun j S=>absurd S (bi j))) ?_ fun k _ D=> ?_
 exact wo []
 refine w4 ?_
 cases I:(decide ((k:Int) < (c.2.1.length:Int)))
 have J:=aa I
 refine w7 ?_
 refine alL 44 fun _=> ?_
 refine w4 ?_
 refine lpK c.2.2.length (fun i=>∀j,j < i→∀a,c.2.2[j]? =some a→XF c a) (fun i=>⟨[(1,lP 0 0),(3,lI ((c.2.1.length:Int) - 1)),(44,lf (.dat Qu c.2.2)),(45,lI (c.2.2.length:Int)),(46,lI (i:Int))],[bx 0 27 [.dat Ql c.1, .dat Qm c.2.1, .dat Qu c.2.2]]⟩) ((fun j S=>absurd S (bi j))) ?_ fun i _ Q=> ?_
 exact wo []
 refine w4 ?_
 cases q:(decide ((i:Int) < (c.2.2.length:Int)))
 have t:=aa q
 refine w3 ?_
 apply dW (i5 92 _ _ _ _ _ [io 97 (lf (.dat (.sl 295 (.pr .int .int)) (Ya c.2.2))),io 98 (lf (.dat QA (HO (c.2.1.length:Int).toNat (Ya c.2.2)))),io 99 (lB ((HO (c.2.1.length:Int).toNat (Ya c.2.2)).any (fun y=>decide ((-1)=y)))),io 100 _,io 2 _]) [0,0,0,7,7,7,0,0,0,0]
 refine z5 ?_
 refine zz (fun _ b=>ac (dK (Qct c.2.2 (by omega)).frozen QkD) rfl) ?_
 refine zz (fun _ b=>ac (dK (QbN (c.2.1.length:Int) (Ya c.2.2) 0 (by omega) (Qfz (fun a R=>XE (Xx Q (by omega) a R))) (by simp only[Ya,aC]; omega) rfl).frozen QmM) rfl) ?_
 refine zz (fun _ b=>ac (dK (Zp (HO (c.2.1.length:Int).toNat (Ya c.2.2)) (-1)) VT) rfl) ?_
 exact y2
 refine Qd<|fqB p ?_
 exact (Qrw (by omega) (Qfz (fun a R=>XE (Xx Q (by omega) a R)))).trans (QsN ‹_› ‹_› ‹_› (Xx D (by omega)) (Xx Q (by omega)))
 have t:=ab q
 refine w5 ?_
 obtain ⟨ar,f⟩:=gx c.2.2 i
 refine w2 ?_
 refine lc (xal 1 Qs Zg) ?_
 refine w2 ?_
 cases d:(decide (0≤ar.1∧ar.1≤((c.2.1.length:Int) - 1)))
 have u:=aa d
 apply dW (i3 50 _ _ _ (io 53 (lB false) :: i9 54 _ _ _ _ _ _ _ _ _ (i9 63 _ _ _ _ _ _ _ _ _ (i9 72 _ _ _ _ _ _ _ _ _ (i9 81 _ _ _ _ _ _ _ _ _ [io 90 _]))))) [0,0,3,0,0,0,0,0,192,0,0,0,0,0,0,24576,24576,0,253952,253952,253952,0,0,0,0,0,33554432,33554432,234881024,234881024,33554432,33554432,4261412864,4261412864,17146314752,17146314752,4261412864,4261412864,0,0,0]
 refine z3 ?_
 refine zz (fun _ b=>ac (QC (d) (dK (Zh ar.1 0 ((c.2.1.length:Int) - 1)) Yh)) rfl) ?_
 refine z16 ?_
 refine z16 ?_
 exact y5
 refine w4 ?_
 refine Qd<|fqB p ?_
 exact Qfq f (by first | exact QoH ‹_› | exact Qnr ‹_› | exact Qni ‹_› | exact QoI (x:=l) (y:=m) ‹_› ‹_› ‹_›)
 have u:=ab d
 cases e:(decide (0≤ar.2.2.2∧ar.2.2.2≤((c.2.1.length:Int) - 1)))
 have v:=aa e
 apply dW (i3 50 _ _ _ (io 53 (lB true) :: i5 54 _ _ _ _ _ (io 59 (lB false) :: i9 60 _ _ _ _ _ _ _ _ _ (i9 69 _ _ _ _ _ _ _ _ _ (i9 78 _ _ _ _ _ _ _ _ _ (i4 87 _ _ _ _ [])))))) [0,0,3,0,0,0,0,0,192,0,0,0,0,0,0,24576,24576,0,253952,253952,253952,0,0,0,0,0,33554432,33554432,234881024,234881024,33554432,33554432,4261412864,4261412864,17146314752,17146314752,4261412864,4261412864,0,0,0]
 refine z3 ?_
 refine zz (fun _ b=>ac (QC (d) (dK (Zh ar.1 0 ((c.2.1.length:Int) - 1)) Yh)) rfl) ?_
 refine z5 ?_
 refine zz (fun _ b=>day rfl (b.k rfl) (QC (e) (dK (Zh ar.2.2.2 0 ((c.2.1.length:Int) - 1)) Yh)) rfl) ?_
 refine z16 ?_
 exact y15
 refine w4 ?_
 refine Qd<|fqB p ?_
 exact Qfq f (by first | exact QoH ‹_› | exact Qnr ‹_› | exact Qni ‹_› | exact QoI (x:=l) (y:=m) ‹_› ‹_› ‹_›)
 have v:=ab e
 cases g:(decide (Ka (c.1.length:Int) (ar.2.1,ar.2.2.1)))
 have z:=aa g
 apply dW (i3 50 _ _ _ (io 53 (lB true) :: i5 54 _ _ _ _ _ (io 59 (lB true) :: i7 60 _ _ _ _ _ _ _ (io 67 (ag [dI ar.2.1,dB ar.2.2.1]) :: i3 68 _ _ _ (io 71 (lB false) :: i9 72 _ _ _ _ _ _ _ _ _ (i9 81 _ _ _ _ _ _ _ _ _ [io 90 _])))))) [0,0,3,0,0,0,0,0,192,0,0,0,0,0,0,24576,24576,0,253952,253952,253952,0,0,0,0,0,33554432,33554432,234881024,234881024,33554432,33554432,4261412864,4261412864,17146314752,17146314752,4261412864,4261412864,0,0,0]
 refine z3 ?_
 refine zz (fun _ b=>ac (QC (d) (dK (Zh ar.1 0 ((c.2.1.length:Int) - 1)) Yh)) rfl) ?_
 refine z5 ?_
 refine zz (fun _ b=>day rfl (b.k rfl) (QC (e) (dK (Zh ar.2.2.2 0 ((c.2.1.length:Int) - 1)) Yh)) rfl) ?_
 refine z7 ?_
 refine zz (fun _ b=>day rfl (b.k rfl) (Qg Ws ⟨_,_,rfl,(b.w rfl),⟨_,_,rfl,(b.w rfl),rfl⟩⟩ (au.1 rfl) rfl rfl) rfl) ?_
 refine z3 ?_
 refine zz (fun _ b=>day rfl (b.k rfl) (QC (g) (dK (Ju (ar.2.1,ar.2.2.1) (c.1.length:Int) (by have:=(‹XK c.1›).2.2; omega)) QeT)) rfl) ?_
 refine z16 ?_
 exact y3
 refine w4 ?_
 refine Qd<|fqB p ?_
 exact Qfq f (by first | exact QoH ‹_› | exact Qnr ‹_› | exact Qni ‹_› | exact QoI (x:=l) (y:=m) ‹_› ‹_› ‹_›)
 have z:=ab g
 obtain ⟨l,M⟩:=gx c.2.1 ((ar.1).toNat)
 have O:Xd l (c.1.length:Int)→l.size=c.1.length:=fun h=>by have:=h.2; omega
 have K:c.2.1.length≤k→l.size=c.1.length:=fun h=>O (Xx D h _ (ah M))
 obtain ⟨m,N⟩:=gx c.2.1 ((ar.2.2.2).toNat)
 have P:Xd m (c.1.length:Int)→m.size=c.1.length:=fun h=>by have:=h.2; omega
 have L:c.2.1.length≤k→m.size=c.1.length:=fun h=>P (Xx D h _ (ah N))
 apply dW (i3 50 _ _ _ (io 53 (lB true) :: i5 54 _ _ _ _ _ (io 59 (lB true) :: i7 60 _ _ _ _ _ _ _ (io 67 (ag [dI ar.2.1,dB ar.2.2.1]) :: i3 68 _ _ _ (io 71 (lB true) :: i9 72 _ _ _ _ _ _ _ _ _ (i7 81 _ _ _ _ _ _ _ (io 88 (lB (decide (Fit ar l m))) :: i2 89 _ _ []))))))) [0,0,3,0,0,0,0,0,192,0,0,0,0,0,0,24576,24576,0,253952,253952,253952,0,0,0,0,0,33554432,33554432,234881024,234881024,33554432,33554432,4261412864,4261412864,17146314752,17146314752,4261412864,4261412864,0,0,0]
 refine z3 ?_
 refine zz (fun _ b=>ac (QC (d) (dK (Zh ar.1 0 ((c.2.1.length:Int) - 1)) Yh)) rfl) ?_
 refine z5 ?_
 refine zz (fun _ b=>day rfl (b.k rfl) (QC (e) (dK (Zh ar.2.2.2 0 ((c.2.1.length:Int) - 1)) Yh)) rfl) ?_
 refine z7 ?_
 refine zz (fun _ b=>day rfl (b.k rfl) (Qg Ws ⟨_,_,rfl,(b.w rfl),⟨_,_,rfl,(b.w rfl),rfl⟩⟩ (au.1 rfl) rfl rfl) rfl) ?_
 refine z3 ?_
 refine zz (fun _ b=>day rfl (b.k rfl) (QC (g) (dK (Ju (ar.2.1,ar.2.2.1) (c.1.length:Int) (by have:=(‹XK c.1›).2.2; omega)) QeT)) rfl) ?_
 refine z16 ?_
 refine zz (fun _ b=>day rfl (b.k rfl) (dK (Qbe ar l m (by have:=K (by omega); have:=L (by omega); omega)) QmH) rfl) ?_
 exact y2
 cases r:(decide (Fit ar l m))
 have A:=aa r
 refine w4 ?_
 refine Qd<|fqB p ?_
 exact Qfq f (by first | exact QoH ‹_› | exact Qnr ‹_› | exact Qni ‹_› | exact QoI (x:=l) (y:=m) ‹_› ‹_› ‹_›)
 have A:=ab r
 refine w6 ?_
 refine Qb ?_
 refine lK_ ((YP Q f (Qxk ‹_› ‹_› ‹_› (x:=l) (y:=m) ‹_› ‹_› ‹_›))) ?_
 exact wo []
 have J:=ab I
 refine w5 ?_
 obtain ⟨o,n⟩:=gx c.2.1 k
 have C:Xd o (c.1.length:Int)→o.size=c.1.length:=fun h=>by have:=h.2; omega
 have T:c.2.1.length≤k→o.size=c.1.length:=fun h=>C (Xx D h _ (ah n))
 refine w8 ?_
 refine alL 38 fun _=> ?_
 refine w_ ?_
 refine lc (dK (Qed o (c.1.length:Int)) Qlx) ?_
 refine w2 ?_
 cases s:(decide (Xd o (c.1.length:Int)))
 have B:=aa s
 refine w4 ?_
 refine Qd<|fqB p ?_
 exact Qtz n ‹_›
 have B:=ab s
 refine w6 ?_
 refine Qb ?_
 refine lK_ ((YP D n ‹_›)) ?_
 exact wo []
 refine w3 ?_
 refine Qd<|fqB p ?_
 exact Qq4 ‹_›
end Go.Proofs.YtgpdhgadmjfokaaGreat
namespace Go.Proofs.YtgpdhgadmjfokaaGreat
open Go.RowKit
set_option maxRecDepth 100000
set_option maxHeartbeats 4000000
theorem Qd5 (s:ByteArray)[Decidable (Zx s)]:FC Tryz.prog 193 [(false,[dS s])] [] 0 (Q7 (lf (dB (decide (Zx s))))):=QbW fun g w j h=>by
 obtain ⟨v,rfl,d⟩:=h.leaf1
 obtain ⟨rfl,f⟩:=d.str_
 exact (Qeo s w f).mono fun _ _ h=>UY h
theorem QeD (s:ByteArray)[Decidable (Zx s)]:FC Tryz.prog 198 [(false,[dS s])] [] 0 (Q7 (lf (dB (decide (Zx s))))):=QbW fun g w j h=>by
 obtain ⟨v,rfl,d⟩:=h.leaf1
 obtain ⟨rfl,f⟩:=d.str_
 exact (Qe1 s w f).mono fun _ _ h=>UY h
def Y9 (a b:UInt8):Bool:=decide (a=b)||(decide (a=48)&&decide (b=43))||(decide (a=43)&&decide (b=49))||(decide (a=49)&&decide (b=45))||(decide (a=45)&&decide (b=48))||(decide (a=43)&&decide (b=45))||(decide (a=45)&&decide (b=43))
def Qq7 (s:ByteArray):Prop:=∀x∈s.toList,x=48∨x=43∨x=49∨x=45
instance (s:ByteArray):Decidable (Qq7 s):=inferInstanceAs (Decidable (∀x∈s.toList,x=48∨x=43∨x=49∨x=45))
def SignsOk (c:DSg)(s:ByteArray):Prop:=Qq7 s∧s.size=c.2.1.length∧SgOk c
instance (c:DSg) (s:ByteArray) [Decidable (SgOk c)]:Decidable (SignsOk c s):=inferInstanceAs (Decidable (_∧_))
def Xg (c:DSg)(s:ByteArray):Bool:=c.2.2.all fun a=>Y9 (bAt s a.1) (bAt s a.2.2.2)
def ZS (s:ByteArray)(a:DAr):Bool:=(decide (bAt s a.1=43)&&(decide (bAt s a.2.2.2=49)||decide (bAt s a.2.2.2=45)))||(decide (bAt s a.1=45)&&(decide (bAt s a.2.2.2=48)||decide (bAt s a.2.2.2=43)))
def okP (c:DSg)(s:ByteArray)[Decidable (SgOk c)]:Bool:=decide (SignsOk c s)&&Xg c s
theorem QdF {c:DSg}{s:ByteArray}[Decidable (SgOk c)]:okP c s=true↔SignsOk c s∧Xg c s=true:=by unfold okP; rw[aL,aU]
theorem QkK {c:DSg}{s:ByteArray}[Decidable (SgOk c)](h:¬SignsOk c s):false=okP c s:=by unfold okP; rw[aH h]; rfl
theorem Qoc {c:DSg}{s:ByteArray}[Decidable (SgOk c)](h:SignsOk c s):Xg c s=okP c s:=by unfold okP; rw[aQ h]; rfl
def Yf (as_:List DAr)(q:Int):List DAr:=as_.filter fun a=>decide (a.1=q)
def Xn:ByteArray:=⟨#[48,43,49,45,48]⟩
theorem ba2 {a b c d:UInt8}:(⟨#[a,b]⟩:ByteArray)=⟨#[c,d]⟩↔a=c∧b=d:=by simp[ByteArray.mk.injEq]
section
variable {a b x:UInt8}{k i:Nat}{s:ByteArray}{c:DSg}{l:List DAr}{e:DAr}{q:Int}
theorem JZ (k:Nat)(h:k < 5):bAt Xn (k:Int)=[(48:UInt8),43,49,45,48][k]! :=by
 match k,h with
 | 0,_=>rfl
 | 1,_=>rfl
 | 2,_=>rfl
 | 3,_=>rfl
 | 4,_=>rfl
theorem Qti (g:(k:Int)+1 < 5)(d:bAt Xn (k:Int)=a)(f:bAt Xn ((k:Int)+1)=b):true=Y9 a b:=by
 rw[show ((k:Int)+1)=((k+1:Nat):Int) by omega,JZ _ (by omega)] at f
 rw[JZ _ (by omega)] at d
 subst d f
 match k,g with
 | 0,_=>rfl
 | 1,_=>rfl
 | 2,_=>rfl
 | 3,_=>rfl
 | n+4,h=>omega
theorem QsT (h0:¬(a=48∧b=43))(g:¬(a=43∧b=49))(j:¬(a=49∧b=45))(m:¬(a=45∧b=48))(n:¬(a=43∧b=45))(o:¬(a=45∧b=43)):decide (a=b)=Y9 a b:=by
 have f:∀{p q:UInt8},¬(a=p∧b=q)→(decide (a=p)&&decide (b=q))=false:=fun {p q} h=>by
  rw[Bool.and_eq_false_iff,bH,bH]
  by_cases e:a=p
  ·exact .inr fun d=>h ⟨e,d⟩
  ·exact .inl e
 unfold Y9
 rw[f h0,f g,f j,f m,f n,f o]
 simp
theorem QuL (r:∀j:Nat,j < k→¬(bAt Xn (j:Int)=a∧bAt Xn ((j:Int)+1)=b))(u:¬(k:Int)+1 < 5)(o:¬(a=43∧b=45))(p:¬(a=45∧b=43)):decide (a=b)=Y9 a b:=by
 have g:∀j:Nat,j < 4→¬([(48:UInt8),43,49,45,48][j]! =a∧[(48:UInt8),43,49,45,48][j+1]! =b):=fun j t h=>by
  refine r j (by omega) ?_
  rw[show ((j:Int)+1)=((j+1:Nat):Int) by omega,JZ _ (by omega),JZ _ (by omega)]
  exact h
 have d:¬(48=a∧43=b):=g 0 (by omega)
 have f:¬(43=a∧49=b):=g 1 (by omega)
 have m:¬(49=a∧45=b):=g 2 (by omega)
 have n:¬(45=a∧48=b):=g 3 (by omega)
 exact QsT (fun h=>d ⟨h.1.symm,h.2.symm⟩) (fun h=>f ⟨h.1.symm,h.2.symm⟩) (fun h=>m ⟨h.1.symm,h.2.symm⟩) (fun h=>n ⟨h.1.symm,h.2.symm⟩) o p
theorem Qf7 (d:∀j:Nat,j < k→¬(bAt Xn (j:Int)=a∧bAt Xn ((j:Int)+1)=b))(h:¬(bAt Xn (k:Int)=a∧bAt Xn ((k:Int)+1)=b)):∀j:Nat,j < k+1→¬(bAt Xn (j:Int)=a∧bAt Xn ((j:Int)+1)=b):=fun j f=>by
 by_cases e:j=k
 ·subst e; exact h
 ·exact d j (by omega)
theorem Wc (g:∀j,j < k→∀x,s.toList[j]? =some x→x=48∨x=43∨x=49∨x=45)(m:s[((k:Int)).toNat]? =some x)(h:x=48∨x=43∨x=49∨x=45):∀j,j < k+1→∀x,s.toList[j]? =some x→x=48∨x=43∨x=49∨x=45:=fun j n d f=>by
 by_cases e:j=k
 ·subst e; rw[Hx m] at f; cases f; exact h
 ·exact g j (by omega) d f
theorem QiU (f:∀j,j < k→∀x,s.toList[j]? =some x→x=48∨x=43∨x=49∨x=45)(h:s.size≤k):Qq7 s:=fun x g=>by
 obtain ⟨j,d⟩:=aM.1 g
 have:=(ai.1 d).1
 rw[X9] at this
 exact f j (by omega) x d
section
variable [Decidable (SignsOk c s)]
theorem Qhd (d:s[((k:Int)).toNat]? =some x)(h:¬(x=48∨x=43∨x=49∨x=45)):false=decide (SignsOk c s):=(aH fun g=>h (g.1 x (ah (Hx d)))).symm
theorem Qo4 (h:¬(s.size:Int)=(c.2.1.length:Int)):false=decide (SignsOk c s):=(aH fun g=>h (by rw[g.2.1])).symm
theorem QpT (h:¬SgOk c):false=decide (SignsOk c s):=(aH fun g=>h g.2.2).symm
theorem QpL [Decidable (SgOk c)](d:∀j,j < k→∀x,s.toList[j]? =some x→x=48∨x=43∨x=49∨x=45)(f:s.size≤k)(h:(s.size:Int)=(c.2.1.length:Int)):decide (SgOk c)=decide (SignsOk c s):=dd.2 ⟨fun g=>⟨QiU d f,by omega,g⟩,fun g=>g.2.2⟩
theorem Qmp (d:∀j,j < k→∀x,s.toList[j]? =some x→x=48∨x=43∨x=49∨x=45)(f:s.size≤k)(g:SgOk c):decide ((s.size:Int)=(c.2.1.length:Int))=decide (SignsOk c s):=dd.2 ⟨fun h=>⟨QiU d f,by omega,g⟩,fun g=>by rw[g.2.1]⟩
end
theorem SignsOk.at_ (h:SignsOk c s)(f:e∈c.2.2):(0≤e.1∧e.1 < (s.size:Int))∧0≤e.2.2.2∧e.2.2.2 < (s.size:Int):=by
 have d:=XE (h.2.2.arcs e f)
 rw[h.2.1]
 exact d
theorem Qu5:(!(c.2.2.any fun a=> !Y9 (bAt s a.1) (bAt s a.2.2.2)))=Xg c s:=by
 unfold Xg
 rw[bQ,bL,cD,au]
 constructor
 ·intro h a d; have:=h a d; simpa using this
 ·intro h a d; have:=h a d; simpa using this
theorem Que (d:c.2.2[k]? =some e)(h:Y9 (bAt s e.1) (bAt s e.2.2.2)=false):false=Xg c s:=by
 refine (List.all_eq_false.2 ⟨e,ah d, ?_⟩).symm
 rw[h]; decide
theorem QrZ (f:∀j,j < k→∀a,c.2.2[j]? =some a→Y9 (bAt s a.1) (bAt s a.2.2.2)=true)(h:c.2.2.length≤k):true=Xg c s:=(au.2 fun a g=>by
 obtain ⟨j,d⟩:=aM.1 g
 have:=(ai.1 d).1
 exact f j (by omega) a d).symm
theorem Qpr (g:∀j,j < k→∀a,c.2.2[j]? =some a→Y9 (bAt s a.1) (bAt s a.2.2.2)=true)(m:c.2.2[k]? =some e)(h:Y9 (bAt s e.1) (bAt s e.2.2.2)=true):∀j,j < k+1→∀a,c.2.2[j]? =some a→Y9 (bAt s a.1) (bAt s a.2.2.2)=true:=fun j n a d=>by
 by_cases f:j=k
 ·subst f; rw[m] at d; cases d; exact h
 ·exact g j (by omega) a d
theorem QjY (d:l[i]? =some e)(h:e.1=q):Yf (l.take i) q++[e]=Yf (l.take (i+1)) q:=by
 unfold Yf
 rw[QG d,bf]; simp[h]
theorem Qnc (d:l[i]? =some e)(h:¬e.1=q):Yf (l.take i) q=Yf (l.take (i+1)) q:=by
 unfold Yf
 rw[QG d,bf]; simp[h]
theorem Qa7:(Yf l q).length≤l.length:=bX ..
theorem Jq:e∈Yf l q↔e∈l∧e.1=q:=by unfold Yf; rw[bO,aU]
end
theorem Qbf (a:UInt8)(b:UInt8):FC Tryz.prog 205 [(false,[.dat .u8 a]),(false,[.dat .u8 b])] [] 0 (Q7 (lB (Y9 a b))):=by
 refine Qt Tryz.func205 rfl rfl Tryz.ntmps205 fun A d z v B y w=> ?_
 refine w7 ?_
 refine lc (dBs 0 (e:= .u8) Qfc) ?_
 refine lc (Zm (ys:=[a,b]) (YM (Qa rfl) rfl) ZD Vl Zf rfl) ?_
 refine w7 ?_
 cases f:(decide ((⟨#[a,b]⟩:ByteArray)=(⟨#[48,43]⟩:ByteArray)))
 have g:=aa f
 refine w5 ?_
 cases j:(decide ((⟨#[a,b]⟩:ByteArray)=(⟨#[43,49]⟩:ByteArray)))
 have m:=aa j
 refine w5 ?_
 cases n:(decide ((⟨#[a,b]⟩:ByteArray)=(⟨#[49,45]⟩:ByteArray)))
 have o:=aa n
 refine w5 ?_
 cases p:(decide ((⟨#[a,b]⟩:ByteArray)=(⟨#[45,48]⟩:ByteArray)))
 have r:=aa p
 refine w5 ?_
 cases t:(decide ((⟨#[a,b]⟩:ByteArray)=(⟨#[43,45]⟩:ByteArray)))
 have u:=aa t
 refine w5 ?_
 refine cd_ (fun _ _=> ?_) fun _ _=> ?_
 refine w8 ?_
 refine Qd<|fqB d ?_
 exact QsT (fun h=>by have:=ba2.2 h; contradiction) (fun h=>by have:=ba2.2 h; contradiction) (fun h=>by have:=ba2.2 h; contradiction) (fun h=>by have:=ba2.2 h; contradiction) (fun h=>by have:=ba2.2 h; contradiction) (fun h=>by have:=ba2.2 h; contradiction)
 refine w3 ?_
 refine Qd<|fqB d ?_
 ·(unfold Y9; simp only[ba2] at*; simp_all; done)
 have u:=ab t
 refine w6 ?_
 refine Qd<|fqB d ?_
 ·(unfold Y9; simp only[ba2] at*; simp_all; done)
 have r:=ab p
 refine w6 ?_
 refine Qd<|fqB d ?_
 ·(unfold Y9; simp only[ba2] at*; simp_all; done)
 have o:=ab n
 refine w6 ?_
 refine Qd<|fqB d ?_
 ·(unfold Y9; simp only[ba2] at*; simp_all; done)
 have m:=ab j
 refine w6 ?_
 refine Qd<|fqB d ?_
 ·(unfold Y9; simp only[ba2] at*; simp_all; done)
 have g:=ab f
 refine w6 ?_
 refine Qd<|fqB d ?_
 ·(unfold Y9; simp only[ba2] at*; simp_all; done)
theorem Qdg (a:UInt8)(b:UInt8):FC Tryz.prog 206 [(false,[.dat .u8 a]),(false,[.dat .u8 b])] [] 0 (Q7 (lB (Y9 a b))):=by
 have S:(⟨#[48,43,49,45,48]⟩:ByteArray).size=5:=rfl
 refine Qt Tryz.func206 rfl rfl Tryz.ntmps206 fun U C T J V N M=> ?_
 refine w6 ?_
 refine Ud (fun I=>(¬(a=43∧b=45))∧(¬(a=45∧b=43))∧I=⟨[(0,lf (.dat .u8 a)),(1,lf (.dat .u8 b)),(5,lf (dS (⟨#[48,43,49,45,48]⟩:ByteArray)))],[]⟩) ?_ fun D=> ?_
 rintro I ⟨G,H,rfl⟩
 refine w5 ?_
 refine lpK 5 (fun k=>∀j:Nat,j < k→¬(bAt Xn (j:Int)=a∧bAt Xn ((j:Int)+1)=b)) (fun k=>⟨[(0,lf (.dat .u8 a)),(1,lf (.dat .u8 b)),(5,lf (dS (⟨#[48,43,49,45,48]⟩:ByteArray))),(6,lI (k:Int))],[]⟩) ((fun j R=>absurd R (bi j))) ?_ fun k _ E=> ?_
 exact wo []
 refine w5 ?_
 refine alS 23 fun _=> ?_
 refine lc (ZJ (Qa rfl) rfl Zf) ?_
 refine w2 ?_
 cases y:(decide (((k:Int)+1) < ((⟨#[48,43,49,45,48]⟩:ByteArray).size:Int)))
 have z:=aa y
 refine w9 ?_
 refine Qd<|fqB C ?_
 exact QuL E (by omega) G H
 have z:=ab y
 refine w7 ?_
 obtain ⟨K,P⟩:=gs (⟨#[48,43,49,45,48]⟩:ByteArray) (((k:Int)).toNat)
 refine w4 ?_
 cases A:(decide (K=a))
 have B:=aa A
 refine w15 ?_
 refine Qb ?_
 refine lK_ ((Qf7 E (fun h=>by obtain ⟨d,f⟩:=h; rw[show Xn=(⟨#[48,43,49,45,48]⟩:ByteArray) from rfl] at d f; first | (rw[Qv ‹_›] at d; contradiction) | (rw[Qv ‹_›] at f; contradiction)))) ?_
 exact wo []
 have B:=ab A
 refine w3 ?_
 obtain ⟨L,Q⟩:=gs (⟨#[48,43,49,45,48]⟩:ByteArray) (((k:Int)+1).toNat)
 refine w5 ?_
 cases n:(decide (L=b))
 have t:=aa n
 refine w7 ?_
 refine Qb ?_
 refine lK_ ((Qf7 E (fun h=>by obtain ⟨d,f⟩:=h; rw[show Xn=(⟨#[48,43,49,45,48]⟩:ByteArray) from rfl] at d f; first | (rw[Qv ‹_›] at d; contradiction) | (rw[Qv ‹_›] at f; contradiction)))) ?_
 exact wo []
 have t:=ab n
 refine w4 ?_
 refine Qd<|fqB C ?_
 exact Qti (k:=k) (by omega) ((Qv (m:=Xn) ‹_›).trans ‹_›) ((Qv (m:=Xn) ‹_›).trans ‹_›)
 refine w3 ?_
 refine lc (Qr (Qa rfl) (Qw 43 rfl) rfl) ?_
 refine w_ ?_
 cases g:(decide (a=43))
 have u:=aa g
 refine w5 ?_
 refine lgy rfl rfl (Qr (Qa rfl) (Qw 45 rfl) rfl) ?_
 refine w_ ?_
 cases o:(decide (a=45))
 have v:=aa o
 refine w7 ?_
 refine XP (D _ ⟨(fun h=>by obtain ⟨d,f⟩:=h; contradiction),(fun h=>by obtain ⟨d,f⟩:=h; contradiction),rfl⟩) ?_
 exact wo []
 have v:=ab o
 refine w_ ?_
 refine lgy rfl rfl (Qr (Qa rfl) (Qw 43 rfl) rfl) ?_
 refine w3 ?_
 refine cd_ (fun _ _=> ?_) fun _ _=> ?_
 refine w_ ?_
 refine XP (D _ ⟨(fun h=>by obtain ⟨d,f⟩:=h; contradiction),(fun h=>by obtain ⟨d,f⟩:=h; contradiction),rfl⟩) ?_
 exact wo []
 refine w3 ?_
 refine Qd<|fqB C ?_
 ·(unfold Y9; simp_all; done)
 have u:=ab g
 refine w_ ?_
 refine lgy rfl rfl (Qr (Qa rfl) (Qw 45 rfl) rfl) ?_
 refine w2 ?_
 cases p:(decide (b=45))
 have w:=aa p
 refine w_ ?_
 refine lgy rfl rfl (Qr (Qa rfl) (Qw 45 rfl) rfl) ?_
 refine w_ ?_
 have r:(decide (a=45))=false:=aH fun O=>absurd ((ab (g)).symm.trans O) (by decide)
 have F:=aa r
 try rw[r]
 refine w7 ?_
 refine XP (D _ ⟨(fun h=>by obtain ⟨d,f⟩:=h; contradiction),(fun h=>by obtain ⟨d,f⟩:=h; contradiction),rfl⟩) ?_
 exact wo []
 have w:=ab p
 refine w3 ?_
 refine Qi rfl rfl rfl ?_ rfl
 refine Qi rfl rfl rfl ?_ rfl
 refine w7 ?_
 refine Qd<|fqB C ?_
 ·(unfold Y9; simp_all; done)
theorem Xe (a:Qf5)(s:ByteArray)(I:0≤a.1∧a.1 < (s.size:Int))(J:0≤a.2.2.2∧a.2.2.2 < (s.size:Int)):FC Tryz.prog 92 [(true,[dI a.1,dI a.2.1,dB a.2.2.1,dI a.2.2.2]),(false,[dS s])] [] 0 (Q7 (lB (ZS s a))):=by
 refine Qt Tryz.func92 rfl rfl Tryz.ntmps92 fun G r F z H B A=> ?_
 refine acG 0 0 fun _=> ?_
 refine acG 0 1 fun _=> ?_
 refine acG 0 3 fun _=> ?_
 refine w_ ?_
 refine xbx 0 ?_
 refine w2 ?_
 obtain ⟨c4,D⟩:=gs s ((a.1).toNat)
 obtain ⟨w,E⟩:=gs s ((a.2.2.2).toNat)
 apply dW (i8 7 _ _ _ _ _ _ _ _ (i2 5 _ _ [])) [0,1,1,0,15,31,31,15,240,0]
 exact y10
 refine w2 ?_
 refine lc (Qr (Qa rfl) (Qw 43 rfl) rfl) ?_
 refine w_ ?_
 cases o:(decide (c4=43))
 have t:=aa o
 refine w3 ?_
 refine Qi rfl rfl rfl ?_ rfl
 refine Qi rfl rfl rfl ?_ rfl
 refine w4 ?_
 refine lgy rfl rfl (Qr (Qa rfl) (Qw 45 rfl) rfl) ?_
 refine w_ ?_
 cases u:(decide (c4=45))
 have v:=aa u
 refine w3 ?_
 refine Qi rfl rfl rfl ?_ rfl
 refine Qi rfl rfl rfl ?_ rfl
 refine w5 ?_
 refine Qd<|fqB r ?_
 ·(unfold ZS; rw[Qv (p:=a.1) ‹_›,Qv (p:=a.2.2.2) ‹_›]; simp_all; done)
 have v:=ab u
 refine w_ ?_
 refine lgy rfl rfl (Qr (Qa rfl) (Qw 48 rfl) rfl) ?_
 refine w_ ?_
 cases d:(decide (w=48))
 have j:=aa d
 refine w_ ?_
 refine lgy rfl rfl (Qr (Qa rfl) (Qw 43 rfl) rfl) ?_
 refine w5 ?_
 refine Qd<|fqB r ?_
 ·(unfold ZS; rw[Qv (p:=a.1) ‹_›,Qv (p:=a.2.2.2) ‹_›]; simp_all; done)
 have j:=ab d
 refine w7 ?_
 refine Qd<|fqB r ?_
 ·(unfold ZS; rw[Qv (p:=a.1) ‹_›,Qv (p:=a.2.2.2) ‹_›]; simp_all; done)
 have t:=ab o
 refine w_ ?_
 refine lgy rfl rfl (Qr (Qa rfl) (Qw 49 rfl) rfl) ?_
 refine w_ ?_
 cases f:(decide (w=49))
 have m:=aa f
 refine w_ ?_
 refine lgy rfl rfl (Qr (Qa rfl) (Qw 45 rfl) rfl) ?_
 refine w3 ?_
 cases g:(decide (w=45))
 have n:=aa g
 refine w_ ?_
 refine lgy rfl rfl (Qr (Qa rfl) (Qw 45 rfl) rfl) ?_
 refine w_ ?_
 have h:(decide (c4=45))=false:=aH fun C=>absurd ((ab (o)).symm.trans C) (by decide)
 have y:=aa h
 try rw[h]
 refine w3 ?_
 refine Qi rfl rfl rfl ?_ rfl
 refine Qi rfl rfl rfl ?_ rfl
 refine w5 ?_
 refine Qd<|fqB r ?_
 ·(unfold ZS; rw[Qv (p:=a.1) ‹_›,Qv (p:=a.2.2.2) ‹_›]; simp_all; done)
 have n:=ab g
 refine w3 ?_
 refine Qi rfl rfl rfl ?_ rfl
 refine Qi rfl rfl rfl ?_ rfl
 refine Qi rfl rfl rfl ?_ rfl
 refine Qi rfl rfl rfl ?_ rfl
 refine Qi rfl rfl rfl ?_ rfl
 refine Qi rfl rfl rfl ?_ rfl
 refine w4 ?_
 refine Qd<|fqB r ?_
 ·(unfold ZS; rw[Qv (p:=a.1) ‹_›,Qv (p:=a.2.2.2) ‹_›]; simp_all; done)
 have m:=ab f
 refine w8 ?_
 refine Qi rfl rfl rfl ?_ rfl
 refine Qi rfl rfl rfl ?_ rfl
 refine Qi rfl rfl rfl ?_ rfl
 refine Qi rfl rfl rfl ?_ rfl
 refine Qi rfl rfl rfl ?_ rfl
 refine Qi rfl rfl rfl ?_ rfl
 refine w4 ?_
 refine Qd<|fqB r ?_
 ·(unfold ZS; rw[Qv (p:=a.1) ‹_›,Qv (p:=a.2.2.2) ‹_›]; simp_all; done)
theorem WL (s:ByteArray)(a:Qf5)(I:0≤a.1∧a.1 < (s.size:Int))(J:0≤a.2.2.2∧a.2.2.2 < (s.size:Int)):FC Tryz.prog 201 [(false,[dS s]),(true,[dI a.1,dI a.2.1,dB a.2.2.1,dI a.2.2.2])] [] 0 (Q7 (lB (ZS s a))):=by
 refine Qt Tryz.func201 rfl rfl Tryz.ntmps201 fun G r F z H B A=> ?_
 refine acG 1 0 fun _=> ?_
 refine acG 1 1 fun _=> ?_
 refine acG 1 3 fun _=> ?_
 refine w_ ?_
 refine xbx 0 ?_
 refine w2 ?_
 obtain ⟨c4,D⟩:=gs s ((a.1).toNat)
 obtain ⟨w,E⟩:=gs s ((a.2.2.2).toNat)
 apply dW (i8 7 _ _ _ _ _ _ _ _ (i2 5 _ _ [])) [0,1,1,0,15,31,31,15,240,0]
 exact y10
 refine w2 ?_
 refine lc (Qr (Qa rfl) (Qw 43 rfl) rfl) ?_
 refine w_ ?_
 cases o:(decide (c4=43))
 have t:=aa o
 refine w3 ?_
 refine Qi rfl rfl rfl ?_ rfl
 refine Qi rfl rfl rfl ?_ rfl
 refine w4 ?_
 refine lgy rfl rfl (Qr (Qa rfl) (Qw 45 rfl) rfl) ?_
 refine w_ ?_
 cases u:(decide (c4=45))
 have v:=aa u
 refine w3 ?_
 refine Qi rfl rfl rfl ?_ rfl
 refine Qi rfl rfl rfl ?_ rfl
 refine w5 ?_
 refine Qd<|fqB r ?_
 ·(unfold ZS; rw[Qv (p:=a.1) ‹_›,Qv (p:=a.2.2.2) ‹_›]; simp_all; done)
 have v:=ab u
 refine w_ ?_
 refine lgy rfl rfl (Qr (Qa rfl) (Qw 48 rfl) rfl) ?_
 refine w_ ?_
 cases d:(decide (w=48))
 have j:=aa d
 refine w_ ?_
 refine lgy rfl rfl (Qr (Qa rfl) (Qw 43 rfl) rfl) ?_
 refine w5 ?_
 refine Qd<|fqB r ?_
 ·(unfold ZS; rw[Qv (p:=a.1) ‹_›,Qv (p:=a.2.2.2) ‹_›]; simp_all; done)
 have j:=ab d
 refine w7 ?_
 refine Qd<|fqB r ?_
 ·(unfold ZS; rw[Qv (p:=a.1) ‹_›,Qv (p:=a.2.2.2) ‹_›]; simp_all; done)
 have t:=ab o
 refine w_ ?_
 refine lgy rfl rfl (Qr (Qa rfl) (Qw 49 rfl) rfl) ?_
 refine w_ ?_
 cases f:(decide (w=49))
 have m:=aa f
 refine w_ ?_
 refine lgy rfl rfl (Qr (Qa rfl) (Qw 45 rfl) rfl) ?_
 refine w3 ?_
 cases g:(decide (w=45))
 have n:=aa g
 refine w_ ?_
 refine lgy rfl rfl (Qr (Qa rfl) (Qw 45 rfl) rfl) ?_
 refine w_ ?_
 have h:(decide (c4=45))=false:=aH fun C=>absurd ((ab (o)).symm.trans C) (by decide)
 have y:=aa h
 try rw[h]
 refine w3 ?_
 refine Qi rfl rfl rfl ?_ rfl
 refine Qi rfl rfl rfl ?_ rfl
 refine w5 ?_
 refine Qd<|fqB r ?_
 ·(unfold ZS; rw[Qv (p:=a.1) ‹_›,Qv (p:=a.2.2.2) ‹_›]; simp_all; done)
 have n:=ab g
 refine w3 ?_
 refine Qi rfl rfl rfl ?_ rfl
 refine Qi rfl rfl rfl ?_ rfl
 refine Qi rfl rfl rfl ?_ rfl
 refine Qi rfl rfl rfl ?_ rfl
 refine Qi rfl rfl rfl ?_ rfl
 refine Qi rfl rfl rfl ?_ rfl
 refine w4 ?_
 refine Qd<|fqB r ?_
 ·(unfold ZS; rw[Qv (p:=a.1) ‹_›,Qv (p:=a.2.2.2) ‹_›]; simp_all; done)
 have m:=ab f
 refine w8 ?_
 refine Qi rfl rfl rfl ?_ rfl
 refine Qi rfl rfl rfl ?_ rfl
 refine Qi rfl rfl rfl ?_ rfl
 refine Qi rfl rfl rfl ?_ rfl
 refine Qi rfl rfl rfl ?_ rfl
 refine Qi rfl rfl rfl ?_ rfl
 refine w4 ?_
 refine Qd<|fqB r ?_
 ·(unfold ZS; rw[Qv (p:=a.1) ‹_›,Qv (p:=a.2.2.2) ‹_›]; simp_all; done)
theorem Q8 (a:Qf5):FC Tryz.prog 220 [(true,[dI a.1,dI a.2.1,dB a.2.2.1,dI a.2.2.2])] [] 0 (Q7 (ag [dI a.2.1,dB a.2.2.1])):=by
 refine Qt Tryz.func220 rfl rfl Tryz.ntmps220 fun m h j d n g f=> ?_
 refine acG 0 0 fun _=> ?_
 refine acG 0 1 fun _=> ?_
 refine acG 0 3 fun _=> ?_
 refine w_ ?_
 refine xbx 0 ?_
 refine lc (xal 1 Qy Y8) ?_
 refine w6 ?_
 refine lc (Qg Ws ⟨_,_,rfl,(Qo rfl),⟨_,_,rfl,(Qo rfl),rfl⟩⟩ (au.1 rfl) rfl rfl) ?_
 refine w3 ?_
 exact fe_ h
theorem Qci (c:ZB)(s:ByteArray)[∀c,Decidable (SgOk c)]:FC Tryz.prog 99 [(true,[.dat Ql c.1, .dat Qm c.2.1, .dat Qu c.2.2]),(false,[dS s])] [] 0 (Q7 (lB (decide (SignsOk c s)))):=by
 refine Qt Tryz.func99 rfl rfl Tryz.ntmps99 fun H A G B I D C=> ?_
 refine w_ ?_
 refine xbx 0 ?_
 refine w7 ?_
 refine lpK s.size (fun k=>∀j,j < k→∀x,s.toList[j]? =some x→x=48∨x=43∨x=49∨x=45) (fun k=>⟨[(1,lf (dS s)),(2,lP 0 0),(5,lI (k:Int))],[bx 0 27 [.dat Ql c.1, .dat Qm c.2.1, .dat Qu c.2.2]]⟩) ((fun j F=>absurd F (bi j))) ?_ fun k _ r=> ?_
 exact wo []
 refine w4 ?_
 refine alS 8 fun _=> ?_
 refine lc (ZJ (Qa rfl) rfl Zf) ?_
 refine w2 ?_
 cases t:(decide ((k:Int) < (s.size:Int)))
 have u:=aa t
 refine w5 ?_
 refine alS 30 fun _=> ?_
 refine lc (ZJ (Qa rfl) rfl Zf) ?_
 refine w2 ?_
 refine alL 33 fun _=> ?_
 refine w3 ?_
 cases v:(decide ((s.size:Int)=(c.2.1.length:Int)))
 have w:=aa v
 refine w5 ?_
 refine Qd<|fqB A ?_
 exact Qo4 ‹_›
 have w:=ab v
 refine w_ ?_
 refine lgy rfl rfl (dK (Zw c) V4) ?_
 refine w3 ?_
 refine Qd<|fqB A ?_
 exact QpL r (by omega) ‹_›
 have u:=ab t
 refine w7 ?_
 obtain ⟨d,E⟩:=gs s (((k:Int)).toNat)
 refine w5 ?_
 refine lc (Q4 (Qa rfl) (Qw 48 rfl) rfl) ?_
 refine w_ ?_
 cases y:(!decide (d=48))
 have z:(d=48):=QM y
 refine w16 ?_
 refine w3 ?_
 refine Qb ?_
 refine lK_ ((Wc r ‹_› (by first | exact .inl ‹_› | exact .inr (.inl ‹_›) | exact .inr (.inr (.inl ‹_›)) | exact .inr (.inr (.inr ‹_›))))) ?_
 exact wo []
 have z:¬(d=48):=QS y
 refine w_ ?_
 refine lgy rfl rfl (Q4 (Qa rfl) (Qw 43 rfl) rfl) ?_
 refine w2 ?_
 cases f:(!decide (d=43))
 have n:(d=43):=QM f
 refine w15 ?_
 refine Qb ?_
 refine lK_ ((Wc r ‹_› (by first | exact .inl ‹_› | exact .inr (.inl ‹_›) | exact .inr (.inr (.inl ‹_›)) | exact .inr (.inr (.inr ‹_›))))) ?_
 exact wo []
 have n:¬(d=43):=QS f
 refine w_ ?_
 refine lgy rfl rfl (Q4 (Qa rfl) (Qw 49 rfl) rfl) ?_
 refine w2 ?_
 cases g:(!decide (d=49))
 have o:(d=49):=QM g
 refine w11 ?_
 refine Qb ?_
 refine lK_ ((Wc r ‹_› (by first | exact .inl ‹_› | exact .inr (.inl ‹_›) | exact .inr (.inr (.inl ‹_›)) | exact .inr (.inr (.inr ‹_›))))) ?_
 exact wo []
 have o:¬(d=49):=QS g
 refine w_ ?_
 refine lgy rfl rfl (Q4 (Qa rfl) (Qw 45 rfl) rfl) ?_
 refine w2 ?_
 cases m:(!decide (d=45))
 have p:(d=45):=QM m
 refine w7 ?_
 refine Qb ?_
 refine lK_ ((Wc r ‹_› (by first | exact .inl ‹_› | exact .inr (.inl ‹_›) | exact .inr (.inr (.inl ‹_›)) | exact .inr (.inr (.inr ‹_›))))) ?_
 exact wo []
 have p:¬(d=45):=QS m
 refine w4 ?_
 refine Qd<|fqB A ?_
 exact Qhd (k:=k) ‹_› (by rintro (h | h | h | h) <;> contradiction)
theorem Qdf (c:ZB)(s:ByteArray)[∀c,Decidable (SgOk c)]:FC Tryz.prog 101 [(true,[.dat Ql c.1, .dat Qm c.2.1, .dat Qu c.2.2]),(false,[dS s])] [] 0 (Q7 (lB (decide (SignsOk c s)))):=by
 refine Qt Tryz.func101 rfl rfl Tryz.ntmps101 fun H A G B I D C=> ?_
 refine w_ ?_
 refine xbx 0 ?_
 refine w7 ?_
 refine lpK s.size (fun k=>∀j,j < k→∀x,s.toList[j]? =some x→x=48∨x=43∨x=49∨x=45) (fun k=>⟨[(1,lf (dS s)),(2,lP 0 0),(5,lI (k:Int))],[bx 0 27 [.dat Ql c.1, .dat Qm c.2.1, .dat Qu c.2.2]]⟩) ((fun j F=>absurd F (bi j))) ?_ fun k _ r=> ?_
 exact wo []
 refine w4 ?_
 refine alS 7 fun _=> ?_
 refine lc (ZJ (Qa rfl) rfl Zf) ?_
 refine w2 ?_
 cases t:(decide ((k:Int) < (s.size:Int)))
 have u:=aa t
 refine w5 ?_
 refine lc (dK (YO c) WZ) ?_
 refine w_ ?_
 cases v:(decide (SgOk c))
 have w:=aa v
 refine w9 ?_
 refine Qd<|fqB A ?_
 exact QpT ‹_›
 have w:=ab v
 refine w_ ?_
 refine alS 37 fun _=> ?_
 refine lgy rfl rfl (ZJ (Qa rfl) rfl Zf) ?_
 refine w2 ?_
 refine alL 40 fun _=> ?_
 refine w5 ?_
 refine Qd<|fqB A ?_
 exact Qmp r (by omega) ‹_›
 have u:=ab t
 refine w7 ?_
 obtain ⟨d,E⟩:=gs s (((k:Int)).toNat)
 refine w_ ?_
 refine lc (Q4 (Qa rfl) (Qw 48 rfl) rfl) ?_
 refine w_ ?_
 cases y:(!decide (d=48))
 have z:(d=48):=QM y
 refine w16 ?_
 refine w9 ?_
 refine Qb ?_
 refine lK_ ((Wc r ‹_› (by first | exact .inl ‹_› | exact .inr (.inl ‹_›) | exact .inr (.inr (.inl ‹_›)) | exact .inr (.inr (.inr ‹_›))))) ?_
 exact wo []
 have z:¬(d=48):=QS y
 refine w3 ?_
 refine lgy rfl rfl (Q4 (Qa rfl) (Qw 43 rfl) rfl) ?_
 refine w2 ?_
 cases f:(!decide (d=43))
 have n:(d=43):=QM f
 refine w16 ?_
 refine w3 ?_
 refine Qb ?_
 refine lK_ ((Wc r ‹_› (by first | exact .inl ‹_› | exact .inr (.inl ‹_›) | exact .inr (.inr (.inl ‹_›)) | exact .inr (.inr (.inr ‹_›))))) ?_
 exact wo []
 have n:¬(d=43):=QS f
 refine w3 ?_
 refine lgy rfl rfl (Q4 (Qa rfl) (Qw 49 rfl) rfl) ?_
 refine w2 ?_
 cases g:(!decide (d=49))
 have o:(d=49):=QM g
 refine w13 ?_
 refine Qb ?_
 refine lK_ ((Wc r ‹_› (by first | exact .inl ‹_› | exact .inr (.inl ‹_›) | exact .inr (.inr (.inl ‹_›)) | exact .inr (.inr (.inr ‹_›))))) ?_
 exact wo []
 have o:¬(d=49):=QS g
 refine w3 ?_
 refine lgy rfl rfl (Q4 (Qa rfl) (Qw 45 rfl) rfl) ?_
 refine w2 ?_
 cases m:(!decide (d=45))
 have p:(d=45):=QM m
 refine w7 ?_
 refine Qb ?_
 refine lK_ ((Wc r ‹_› (by first | exact .inl ‹_› | exact .inr (.inl ‹_›) | exact .inr (.inr (.inl ‹_›)) | exact .inr (.inr (.inr ‹_›))))) ?_
 exact wo []
 have p:¬(d=45):=QS m
 refine w4 ?_
 refine Qd<|fqB A ?_
 exact Qhd (k:=k) ‹_› (by rintro (h | h | h | h) <;> contradiction)
theorem Jn (a:Qf5)(s:ByteArray)(u:0≤a.1∧a.1 < (s.size:Int))(v:0≤a.2.2.2∧a.2.2.2 < (s.size:Int)):FC Tryz.prog 204 [(true,[dI a.1,dI a.2.1,dB a.2.2.1,dI a.2.2.2]),(false,[.ptr 0 0])] [bx 0 9 [dS s]] 1 (Is (lB (!Y9 (bAt s a.1) (bAt s a.2.2.2))) [bx 0 9 [dS s]]):=by
 refine Qt Tryz.func204 rfl rfl Tryz.ntmps204 fun r m p f t j h=> ?_
 refine acG 0 0 fun _=> ?_
 refine acG 0 1 fun _=> ?_
 refine acG 0 3 fun _=> ?_
 refine w_ ?_
 refine xbx 1 ?_
 refine w2 ?_
 obtain ⟨c4,n⟩:=gs s ((a.1).toNat)
 obtain ⟨d,o⟩:=gs s ((a.2.2.2).toNat)
 apply dW (i8 4 _ _ _ _ _ _ _ _ [io 12 (lB (Y9 c4 d)),io 13 _,io 3 _]) [0,1,1,0,15,31,31,15,0,0,0]
 refine z8 ?_
 refine zz (fun _ w=>ac (dK (Qbf c4 d) QkP) rfl) ?_
 exact y2
 refine w_ ?_
 have g:(!(Y9 c4 d):Bool)=(!Y9 (bAt s a.1) (bAt s a.2.2.2)):=by
  (rw[Qv ‹_›,Qv ‹_›])
 exact fi_ [] m ⟨rfl,trivial⟩ (h0:=by rw[g] <;> rfl)
theorem Jo (l:QiX)(s:ByteArray)(n:∀a∈l,(0≤a.1∧a.1 < (s.size:Int))∧0≤a.2.2.2∧a.2.2.2 < (s.size:Int)):FC Tryz.prog 313 [(false,[.dat Qu l]),(false,[.clo 204 [0]])] [bx 0 9 [dS s]] 1 (Is (lI (Zl (fun a:DAr=> !Y9 (bAt s a.1) (bAt s a.2.2.2)) l)) [bx 0 9 [dS s]]):=by
 refine Qt Tryz.func313 rfl rfl Tryz.ntmps313 fun y m w o z u t=> ?_
 refine w6 ?_
 refine alL 6 fun _=> ?_
 refine w4 ?_
 refine lpK l.length (fun k=>NoneTo (fun a:DAr=> !Y9 (bAt s a.1) (bAt s a.2.2.2)) l k) (fun k=>⟨[(0,lf (.dat Qu l)),(1,lf (.clo 204 [0])),(7,lI (l.length:Int)),(8,lI (k:Int))],[bx 0 9 [dS s]]⟩) (NoneTo.zero) ?_ fun k _ f=> ?_
 exact wo []
 refine w4 ?_
 cases h:(decide ((k:Int) < (l.length:Int)))
 have j:=aa h
 refine w7 ?_
 have p:((-1):Int)=(Zl (fun a:DAr=> !Y9 (bAt s a.1) (bAt s a.2.2.2)) l):=by
  first | exact (f.no (by omega)).symm
 exact fi_ [] m ⟨rfl,trivial⟩ (h0:=by rw[← p] <;> rfl)
 have j:=ab h
 refine w12 ?_
 obtain ⟨g,d⟩:=gx l k
 refine w2 ?_
 refine lc (Xu (args0:=[(true,[dI g.1,dI g.2.1,dB g.2.2.1,dI g.2.2.2])]) (caps:=[0]) 1 [(0,0)] (Jn g s (n _ (ah d)).1 (n _ (ah d)).2) QmX rfl (Qa rfl) rfl rfl ⟨_,_,rfl,(Qo rfl),rfl⟩ ⟨rfl,trivial⟩ rfl ⟨trivial,trivial⟩ (nlr rfl)) ?_
 refine w_ ?_
 cases v:(Y9 (bAt s g.1) (bAt s g.2.2.2))
 refine w6 ?_
 have r:((k:Int):Int)=(Zl (fun a:DAr=> !Y9 (bAt s a.1) (bAt s a.2.2.2)) l):=by
  exact (f.at d (by simp[*])).symm
 exact fi_ [] m ⟨rfl,trivial⟩ (h0:=by rw[r] <;> rfl)
 refine w6 ?_
 refine Qb ?_
 refine lK_ (f.step d (by simp[*])) ?_
 exact wo []
theorem UN (l:QiX)(s:ByteArray)(m:∀a∈l,(0≤a.1∧a.1 < (s.size:Int))∧0≤a.2.2.2∧a.2.2.2 < (s.size:Int)):FC Tryz.prog 203 [(false,[.dat Qu l]),(false,[.clo 204 [0]])] [bx 0 9 [dS s]] 1 (Is (lB (l.any (fun a:DAr=> !Y9 (bAt s a.1) (bAt s a.2.2.2)))) [bx 0 9 [dS s]]):=by
 refine Qt Tryz.func203 rfl rfl Tryz.ntmps203 fun o j n d p h g=> ?_
 refine w6 ?_
 refine lc (dP 1 [] (Jo l s m) QaA) ?_
 refine w4 ?_
 have f:(decide (0≤(Zl (fun a:DAr=> !Y9 (bAt s a.1) (bAt s a.2.2.2)) l)):Bool)=(l.any (fun a:DAr=> !Y9 (bAt s a.1) (bAt s a.2.2.2))):=by
  exact VQ _ _
 exact fi_ [] j ⟨rfl,trivial⟩ (h0:=by rw[f] <;> rfl)
theorem VC (c:ZB)(s:ByteArray)(m:SignsOk c s):FC Tryz.prog 100 [(true,[.dat Ql c.1, .dat Qm c.2.1, .dat Qu c.2.2]),(false,[dS s])] [] 0 (Q7 (lB (Xg c s))):=by
 refine Qt Tryz.func100 rfl rfl Tryz.ntmps100 fun o h n d p g f=> ?_
 refine w_ ?_
 refine xbx 0 ?_
 refine xbx 1 ?_
 refine w5 ?_
 refine lc (Y6 ⟨_,_,rfl,(Qa rfl),rfl,rfl⟩ rfl) ?_
 refine lc (dP 2 [(0,1)] (UN c.2.2 s (fun a j=>m.at_ j)) Qfv) ?_
 refine w3 ?_
 refine Qd<|fqB h ?_
 exact Qu5
theorem XX (c:ZB)(s:ByteArray)(B:SignsOk c s):FC Tryz.prog 102 [(true,[.dat Ql c.1, .dat Qm c.2.1, .dat Qu c.2.2]),(false,[dS s])] [] 0 (Q7 (lB (Xg c s))):=by
 refine Qt Tryz.func102 rfl rfl Tryz.ntmps102 fun D o C u E w v=> ?_
 refine w_ ?_
 refine xbx 0 ?_
 refine w6 ?_
 refine alL 8 fun _=> ?_
 refine w4 ?_
 refine lpK c.2.2.length (fun k=>∀j,j < k→∀a,c.2.2[j]? =some a→Y9 (bAt s a.1) (bAt s a.2.2.2)=true) (fun k=>⟨[(1,lf (dS s)),(8,lf (.dat Qu c.2.2)),(9,lI (c.2.2.length:Int)),(10,lI (k:Int))],[]⟩) ((fun j A=>absurd A (bi j))) ?_ fun k _ p=> ?_
 exact wo []
 refine w4 ?_
 cases f:(decide ((k:Int) < (c.2.2.length:Int)))
 have g:=aa f
 refine w6 ?_
 refine Qd<|fqB o ?_
 first | exact QrZ p (by omega)
 have g:=ab f
 refine w5 ?_
 obtain ⟨t,d⟩:=gx c.2.2 k
 have n:=B.at_ (ah d)
 refine w2 ?_
 refine lc (xal 1 Qs Zg) ?_
 refine w2 ?_
 obtain ⟨h,y⟩:=gs s ((t.1).toNat)
 obtain ⟨m,z⟩:=gs s ((t.2.2.2).toNat)
 apply dW (i8 14 _ _ _ _ _ _ _ _ [io 22 (lB (Y9 h m)),io 23 _]) [0,1,1,0,15,31,31,15,0,0]
 refine z8 ?_
 refine zz (fun _ F=>ac (dK (Qdg h m) QkS) rfl) ?_
 exact y1
 cases r:(Y9 h m)
 refine w4 ?_
 refine Qd<|fqB o ?_
 exact Que d (by rw[Qv ‹_›,Qv ‹_›]; assumption)
 refine w6 ?_
 refine Qb ?_
 refine lK_ ((Qpr p d (by rw[Qv ‹_›,Qv ‹_›]; assumption))) ?_
 exact wo []
theorem UK (c:ZB)(s:ByteArray)[∀c,Decidable (SgOk c)]:FC Tryz.prog 19 [(true,[.dat Ql c.1, .dat Qm c.2.1, .dat Qu c.2.2]),(false,[dS s])] [] 0 (Q7 (PV.tup [(false,[dB (okP c s)]),(false,[dB (decide (SignsOk c s))])])):=by
 refine Qt Tryz.func19 rfl rfl Tryz.ntmps19 fun u g t h v r p=> ?_
 refine w_ ?_
 refine xbx 0 ?_
 refine w7 ?_
 refine lc (dK (Qci c s) Qp6) ?_
 refine w2 ?_
 cases d:(decide (SignsOk c s))
 have f:=aa d
 refine w6 ?_
 have j:(false:Bool)=(okP c s):=by
  exact QkK ‹_›
 have m:(false:Bool)=(decide (SignsOk c s)):=by
  exact (aH ‹_›).symm
 exact fr_ g (e:=by rw[← j,← m] <;> rfl)
 have f:=ab d
 refine w5 ?_
 refine lc (dK (VC c s ‹_›) QeQ) ?_
 refine w4 ?_
 have n:(Xg c s:Bool)=(okP c s):=by
  exact Qoc ‹_›
 have o:(true:Bool)=(decide (SignsOk c s)):=by
  exact (aQ ‹_›).symm
 exact fr_ g (e:=by rw[n,← o] <;> rfl)
theorem Qck (c:ZB)(s:ByteArray)[∀c,Decidable (SgOk c)]:FC Tryz.prog 93 [(true,[.dat Ql c.1, .dat Qm c.2.1, .dat Qu c.2.2]),(false,[dS s])] [] 0 (Q7 (lB (okP c s))):=by
 refine Qt Tryz.func93 rfl rfl Tryz.ntmps93 fun o g n h p m j=> ?_
 refine w_ ?_
 refine xbx 0 ?_
 refine w5 ?_
 refine lc (dK (Qdf c s) Qlj) ?_
 refine w_ ?_
 cases d:(decide (SignsOk c s))
 have f:=aa d
 refine w6 ?_
 refine Qd<|fqB g ?_
 exact QkK ‹_›
 have f:=ab d
 refine w2 ?_
 refine lgy rfl rfl (dK (XX c s ‹_›) KF) ?_
 refine w3 ?_
 refine Qd<|fqB g ?_
 exact Qoc ‹_›
end Go.Proofs.YtgpdhgadmjfokaaGreat
