/- Walks over abstract states: firing. -/
import Derived.Test.YtndabgcpnmeeoaaGreatPWi
set_option linter.unusedSimpArgs false
set_option linter.unusedVariables false
set_option linter.unusedSectionVars false
namespace Go.Proofs.YtndabgcpnmeeoaaGreat
open Go.RowKit
set_option maxRecDepth 100000
set_option maxHeartbeats 4000000
def bAt (m:ByteArray)(p:Int):UInt8:=(m[p.toNat]?).getD 0
theorem QB {m:ByteArray}{p:Int}{c:UInt8}(h:m[p.toNat]? =some c):bAt m p=c:=by unfold bAt; rw[h]; rfl
theorem XO (m:ByteArray):m.toList.length=m.size:=by simp[bw]
def Zq {α:Type _}(f:α→Bool)(l:List α):Int:=match l.findIdx? f with | some i=>i | none=> -1
def NoneTo {α:Type _}(f:α→Bool)(l:List α)(k:Nat):Prop:=∀j,j < k→∀x,l[j]? =some x→f x=false
section
variable {α:Type _}{f:α→Bool}{l:List α}{k:Nat}{x:α}
theorem NoneTo.zero:NoneTo f l 0:=fun j a=>absurd a (bg j)
theorem NoneTo.step (h:NoneTo f l k)(c:l[k]? =some x)(b:f x=false):NoneTo f l (k+1):=fun j d y a=>by
 by_cases e:j=k
 ·subst e; rw[c] at a; cases a; exact b
 ·exact h j (by omega) y a
theorem NoneTo.at (h:NoneTo f l k)(e:l[k]? =some x)(c:f x=true):Zq f l=k:=by
 obtain ⟨a,b⟩:=ai.1 e
 have:l.findIdx? f=some k:=List.findIdx?_eq_some_iff_getElem.2 ⟨a,by rw[b]; exact c,fun j d=>by
  have:=h j d _ (ae (by omega))
  simp[this]⟩
 unfold Zq
 rw[this]
theorem NoneTo.no (h:NoneTo f l k)(c:l.length≤k):Zq f l= -1:=by
 have:l.findIdx? f=none:=List.findIdx?_eq_none_iff.2 fun x b=>by
  obtain ⟨j,a⟩:=aN.1 b
  have:=(ai.1 a).1
  exact h j (by omega) x a
 unfold Zq
 rw[this]
theorem Vq (f:α→Bool)(l:List α):decide (0≤Zq f l)=l.any f:=by
 unfold Zq
 cases h:l.findIdx? f with
 | none=>
  have:=List.findIdx?_eq_none_iff.1 h
  rw[bP]
  simp only[bY,aQ]
  constructor
  ·intro h; omega
  ·rintro ⟨x,d,a⟩; rw[this x d] at a; cases a
 | some i=>
  obtain ⟨b,c,_⟩:=List.findIdx?_eq_some_iff_getElem.1 h
  have:l.any f=true:=bY.2 ⟨_,cP b,c⟩
  rw[this]
  simp
def Wh (f:α→Bool)(l:List α):Nat→List Int
 | 0=>[]
 | k+1=>Wh f l k++(match l[k]? with | some x=>if f x then [(k:Int)] else [] | none=>[])
theorem Qdy (b:l[k]? =some x)(a:f x=true):Wh f l k++[(k:Int)]=Wh f l (k+1):=by simp[Wh,b,a]
theorem QgI (b:l[k]? =some x)(a:f x=false):Wh f l k=Wh f l (k+1):=by simp[Wh,b,a]
theorem Qdx (f:α→Bool)(l:List α)(k:Nat):(Wh f l k).length≤k:=by
 induction k with
 | zero=>simp[Wh]
 | succ k a=>
  simp only[Wh,aj]
  split
  ·split <;> simp <;> omega
  ·simp; omega
theorem Qij {f:α→Bool}{l:List α}{k:Nat}{t:Int}(h:t∈Wh f l k):∃x,0≤t∧t < l.length∧t < k∧l[t.toNat]? =some x∧f x=true:=by
 induction k with
 | zero=>simp[Wh] at h
 | succ k g=>
  simp only[Wh,aP] at h
  rcases h with h | h
  ·obtain ⟨x,c,d,i,e⟩:=g h; exact ⟨x,c,d,by omega,e⟩
  ·cases a:l[k]? with
   | none=>rw[a] at h; simp at h
   | some x=>
    rw[a] at h
    cases b:f x with
    | false=>simp[b] at h
    | true=>
     simp only[b,if_true,aS] at h
     subst h
     have:=(ai.1 a).1
     exact ⟨x,by omega,by omega,by omega,by simpa using a,b⟩
theorem ZB {l:List α}{k:Nat}{x:α}(c:l[k]? =some x):l.drop k=x :: l.drop (k+1):=by
 obtain ⟨a,b⟩:=ai.1 c
 rw[cI a,b]
end
def Hc (m:ByteArray)(ps:List Int):Prop:=∀p∈ps,(0≤p∧p < m.size)∧(bAt m p=48∨bAt m p=49)
def enb (m:ByteArray)(t:QG):Bool:= !t.1.any fun p=>decide (bAt m p=48)
def Vo (n:V8)(m:ByteArray):List Int:=Wh (enb m) n.2 n.2.length
def clr (l:List UInt8):List Int→List UInt8
 | []=>l
 | p :: ps=>clr (l.set p.toNat 48) ps
def JD (l:List UInt8):List Int→Option (List UInt8)
 | []=>some l
 | p :: ps=>if l[p.toNat]? =some 49 then none else JD (l.set p.toNat 49) ps
def Jt (m:ByteArray)(t:QG):ByteArray×Bool:=match JD (clr m.toList t.1) t.2 with
 | none=>(⟨#[]⟩,false)
 | some l=>(⟨l.toArray⟩,true)
def Yn (n:V8)(m:ByteArray)(t:Int):ByteArray×Bool:=match n.2[t.toNat]? with
 | none=>(⟨#[]⟩,false)
 | some x=>Jt m x
def YD (n:V8)(m:ByteArray)(t:Int):ByteArray×Bool:=if 0≤t then (match n.2[t.toNat]? with
 | none=>(⟨#[]⟩,false)
 | some x=>if enb m x then Jt m x else (⟨#[]⟩,false)) else (⟨#[]⟩,false)
section
variable {n:V8}{m:ByteArray}{t:Int}{x:QG}{l:List UInt8}{ps:List Int}{k:Nat}{p:Int}
theorem Qkt (a:ps[k]? =some p):clr l (ps.drop k)=clr (l.set p.toNat 48) (ps.drop (k+1)):=by rw[ZB a,clr]
theorem QoS (h:ps.length≤k):clr l (ps.drop k)=l:=by rw[bn h,clr]
theorem Qik (d:ps[k]? =some p){c:UInt8}(a:l[p.toNat]? =some c)(b:decide (c=49)=false):JD l (ps.drop k)=JD (l.set p.toNat 49) (ps.drop (k+1)):=by
 rw[ZB d,JD,if_neg]
 rw[a]
 intro h
 cases h
 simp at b
theorem QeO (d:ps[k]? =some p){c:UInt8}(a:l[p.toNat]? =some c)(b:decide (c=49)=true):JD l (ps.drop k)=none:=by
 rw[ZB d,JD,if_pos]
 rw[a,ab b]
theorem QcB (h:ps.length≤k):JD l (ps.drop k)=some l:=by rw[bn h,JD]
theorem Qug (l:List UInt8)(ps:List Int):(clr l ps).length=l.length:=by
 induction ps generalizing l with
 | nil=>rfl
 | cons p ps a=>rw[clr,a,ap]
theorem H7 (h:JD (clr m.toList x.1) x.2=none):Jt m x=(⟨#[]⟩,false):=by unfold Jt; rw[h]
theorem Ju (h:JD (clr m.toList x.1) x.2=some l):Jt m x=(⟨l.toArray⟩,true):=by unfold Jt; rw[h]
theorem Qcc (a:n.2[t.toNat]? =some x):Yn n m t=Jt m x:=by unfold Yn; rw[a]
theorem Qcb (b:n.2[t.toNat]? =some x)(h0:0≤t)(a:enb m x=true):YD n m t=Jt m x:=by
 unfold YD; rw[if_pos h0,b]
 show (if enb m x then _ else _)=_
 rw[if_pos a]
theorem QhU (b:n.2[t.toNat]? =some x)(a:enb m x=false):YD n m t=(⟨#[]⟩,false):=by
 unfold YD; rw[b]
 show (if 0≤t then (if enb m x then _ else _) else _)=_
 rw[if_neg (show¬enb m x=true by rw[a]; decide),ite_self]
theorem QhV (h:¬(0≤t∧t≤(n.2.length:Int) - 1)):YD n m t=(⟨#[]⟩,false):=by
 unfold YD
 by_cases a:0≤t
 ·rw[if_pos a,bG (by omega)]
 ·rw[if_neg a]
theorem Quy (h0:0≤t)(a:n.2[t.toNat]? =some x)(b:enb m x=true):YD n m t=Yn n m t:=by rw[Qcb a h0 b,Qcc a]
def QdQ (n:V8)(m:ByteArray)(t:Int):Bool:=match n.2[t.toNat]? with
 | some x=>enb m x
 | none=>false
theorem QeC (a:n.2[t.toNat]? =some x):QdQ n m t=enb m x:=by unfold QdQ; rw[a]
theorem Qsg (h:Hc m x.1):enb m x=true↔∀p∈x.1,bAt m p=49:=by
 unfold enb
 simp only[bO,cB,aQ]
 constructor
 ·intro k p b
  rcases (h p b).2 with a | a
  ·exact absurd a (k p b)
  ·exact a
 ·intro k p b a
  rw[k p b] at a
  exact absurd a (by decide)
theorem Qog {c:UInt8}(b:∀j,j < k→∀y,ps[j]? =some y→bAt m y=49)(h:ps[k]? =some p)(g:m[p.toNat]? =some c)(d:(!decide (c=49))=false):∀j,j < k+1→∀y,ps[j]? =some y→bAt m y=49:=fun j i y a=>by
 by_cases e:j=k
 ·subst e; rw[h] at a; cases a
  rw[QB g]
  simpa using d
 ·exact b j (by omega) y a
theorem Qta {c:UInt8}(d:n.2[t.toNat]? =some x)(e:Hc m x.1)(g:x.1[k]? =some p)(b:m[p.toNat]? =some c)(a:(!decide (c=49))=true):QdQ n m t=false:=by
 rw[QeC d,cq]
 intro h
 have:=(Qsg e).1 h p (ah g)
 rw[QB b] at this
 simp[this] at a
theorem QqU (c:n.2[t.toNat]? =some x)(d:Hc m x.1)(b:∀j,j < k→∀y,x.1[j]? =some y→bAt m y=49)(e:x.1.length≤k):QdQ n m t=true:=by
 rw[QeC c]
 refine (Qsg d).2 fun p h=> ?_
 obtain ⟨j,a⟩:=aN.1 h
 have:=(ai.1 a).1
 exact b j (by omega) p a
theorem QgH (b:k < n.2.length)(h:QdQ n m (k:Int)=true):Wh (enb m) n.2 k++[(k:Int)]=Wh (enb m) n.2 (k+1):=by
 have a:=ae b
 rw[QeC (t:=(k:Int)) (show n.2[((k:Int)).toNat]? =some _ from a)] at h
 exact Qdy a h
theorem Qii (b:k < n.2.length)(h:QdQ n m (k:Int)=false):Wh (enb m) n.2 k=Wh (enb m) n.2 (k+1):=by
 have a:=ae b
 rw[QeC (t:=(k:Int)) (show n.2[((k:Int)).toNat]? =some _ from a)] at h
 exact QgI a h
end
theorem Qaq (p:Int)(a:ByteArray)(h0:0≤p)(q:p < (a.size:Int)):FC Tryz.prog 466 [(false,[dI p]),(false,[.ptr 0 0])] [bx 0 9 [dS a]] 1 (Is (lB (decide (bAt a p=48))) [bx 0 9 [dS a]]):=by
 refine Qv Tryz.func466 rfl rfl Tryz.ntmps466 fun j g i b o e d=> ?_
 refine acI 0 fun _=> ?_
 refine w6 ?_
 obtain ⟨c2,h⟩:=gs a ((p).toNat)
 refine w_ ?_
 refine lc (Qu (Qa rfl) (QC 48 rfl) rfl) ?_
 refine w3 ?_
 have c:(decide (c2=48):Bool)=(decide (bAt a p=48)):=by
  rw[QB ‹_›]
 exact fi_ [] g ⟨rfl,trivial⟩ (h0:=by rw[c] <;> rfl)
theorem VV (s:List Int)(a:ByteArray)(o:∀p∈s,0≤p∧p < (a.size:Int)):FC Tryz.prog 462 [(false,[.dat Qz s]),(false,[.clo 466 [0]])] [bx 0 9 [dS a]] 1 (Is (lI (Zq (fun p=>decide (bAt a p=48)) s)) [bx 0 9 [dS a]]):=by
 refine Qv Tryz.func462 rfl rfl Tryz.ntmps462 fun z j y q A w v=> ?_
 refine w6 ?_
 refine alL 6 fun _=> ?_
 refine w4 ?_
 refine lpK s.length (fun k=>NoneTo (fun p=>decide (bAt a p=48)) s k) (fun k=>⟨[(0,lf (.dat Qz s)),(1,lf (.clo 466 [0])),(7,lI (s.length:Int)),(8,lI (k:Int))],[bx 0 9 [dS a]]⟩) (NoneTo.zero) ?_ fun k _ c=> ?_
 exact wo []
 refine w4 ?_
 cases d:(decide ((k:Int) < (s.length:Int)))
 have e:=aa d
 refine w7 ?_
 have r:((-1):Int)=(Zq (fun p=>decide (bAt a p=48)) s):=by
  first | exact (c.no (by omega)).symm
 exact fi_ [] j ⟨rfl,trivial⟩ (h0:=by rw[← r] <;> rfl)
 have e:=ab d
 refine w12 ?_
 obtain ⟨i,b⟩:=gx s k
 refine w2 ?_
 refine alI 15 fun _=> ?_
 refine lc (YH (args0:=[(false,[dI i])]) (caps:=[0]) 1 [(0,0)] (Qaq i a (o _ (ah b)).1 (o _ (ah b)).2) Qnb rfl (Qa rfl) rfl rfl ⟨_,_,rfl,(Qk rfl),rfl⟩ ⟨rfl,trivial⟩ rfl ⟨trivial,trivial⟩ (nlr rfl)) ?_
 refine w_ ?_
 cases g:(decide (bAt a i=48))
 have h:=aa g
 refine w6 ?_
 refine Qb ?_
 refine lK_ (c.step b ‹_›) ?_
 exact wo []
 have h:=ab g
 refine w6 ?_
 have u:((k:Int):Int)=(Zq (fun p=>decide (bAt a p=48)) s):=by
  exact (c.at b ‹_›).symm
 exact fi_ [] j ⟨rfl,trivial⟩ (h0:=by rw[u] <;> rfl)
theorem WW (s:List Int)(a:ByteArray)(h:∀p∈s,0≤p∧p < (a.size:Int)):FC Tryz.prog 362 [(false,[.dat Qz s]),(false,[.clo 466 [0]])] [bx 0 9 [dS a]] 1 (Is (lB (s.any (fun p=>decide (bAt a p=48)))) [bx 0 9 [dS a]]):=by
 refine Qv Tryz.func362 rfl rfl Tryz.ntmps362 fun j g i b o e d=> ?_
 refine w6 ?_
 refine lc (dP 1 [] (VV s a h) QfQ) ?_
 refine w4 ?_
 have c:(decide (0≤(Zq (fun p=>decide (bAt a p=48)) s)):Bool)=(s.any (fun p=>decide (bAt a p=48))):=by
  exact Vq _ _
 exact fi_ [] g ⟨rfl,trivial⟩ (h0:=by rw[c] <;> rfl)
theorem UL (t:List Int×List Int)(a:ByteArray)(g:Hc a t.1):FC Tryz.prog 361 [(true,[.dat Qz t.1, .dat Qz t.2]),(false,[dS a])] [] 0 (QY (lB (enb a t))):=by
 refine Qv Tryz.func361 rfl rfl Tryz.ntmps361 fun j e i b o d c=> ?_
 refine w_ ?_
 refine xbx 0 ?_
 refine xbx 1 ?_
 refine w5 ?_
 refine lc (YI ⟨_,_,rfl,(Qa rfl),rfl,rfl⟩ rfl) ?_
 refine lc (dP 2 [(0,1)] (WW t.1 a (fun p h=>(g p h).1)) QfK) ?_
 refine w3 ?_
 refine Qd<|fqB e ?_
 rfl
theorem Qd6 (n:Qqf)(a:ByteArray)(g:∀t∈n.2,Hc a t.1∧Hc a t.2)(s:n.2.length≤2000000):FC Tryz.prog 245 [(true,[dI n.1, .dat Xk n.2]),(false,[dS a])] [] 0 (YB 3 .int (Vo n a)):=by
 refine Qv Tryz.func245 rfl rfl Tryz.ntmps245 fun w q v i y o j=> ?_
 refine acG 0 0 fun _=> ?_
 refine w_ ?_
 refine xbx 0 ?_
 refine w3 ?_
 refine lc (dBs 1 (e:= .int) Yk) ?_
 refine w6 ?_
 refine alL 10 fun _=> ?_
 refine w4 ?_
 refine lp0 n.2.length (fun k=>⟨[(1,lf (dS a)),(4,lf (.val (.slice none 0 0))),(5,lR 2),(10,lf (.dat Xk n.2)),(11,lI (n.2.length:Int)),(12,lI (k:Int))],[ar 2 3 .int (Wh (enb a) n.2 k)]⟩) ?_ fun k _=> ?_
 exact wp [(2,1)] ⟨(Qe (by first | rfl | simp)),trivial⟩
 have u:=Qdx (enb a) n.2 k
 refine w4 ?_
 cases c:(decide ((k:Int) < (n.2.length:Int)))
 have d:=aa c
 refine w7 ?_
 refine Qd<|fo_ q ?_
 rw[show k=n.2.length by omega]; rfl
 have d:=ab c
 refine w6 ?_
 obtain ⟨h,b⟩:=gx n.2 k
 refine w2 ?_
 refine lc (xal 3 JT Qve) ?_
 refine w6 ?_
 refine lc (dK (UL h a (g _ (ah b)).1) QfJ) ?_
 refine w_ ?_
 cases r:(enb a h)
 refine w6 ?_
 refine Qb ?_
 refine l0_ ?_
 exact wp [] ⟨(Qe (by first | exact Qdy b ‹_› | exact QgI b ‹_›)),trivial⟩
 refine w4 ?_
 refine lc (dBs 4 (e:= .int) Yk) ?_
 refine lc (dA 5 XP) ?_
 refine w_ ?_
 refine Qb ?_
 refine w4 ?_
 refine Qb ?_
 refine l0_ ?_
 exact wp [(2,5)] ⟨(Qe (by first | exact Qdy b ‹_› | exact QgI b ‹_›)),trivial⟩
theorem Qi7 (n:Qqf)(a:ByteArray)(t:Int)(y:∀t∈n.2,Hc a t.1∧Hc a t.2)(a3:n.2.length≤2000000):FC Tryz.prog 465 [(true,[dI n.1, .dat Xk n.2]),(false,[dS a]),(false,[dI t])] [] 0 (QY (PV.tup [(false,[dS ((YD n a t).1)]),(false,[dB ((YD n a t).2)])])):=by
 have a2:=XO a
 refine Qv Tryz.func465 rfl rfl Tryz.ntmps465 fun O_ E a4 X X_ a1 a0=> ?_
 refine acG 0 0 fun _=> ?_
 refine acI 2 fun _=> ?_
 refine w_ ?_
 refine xbx 0 ?_
 refine w8 ?_
 refine alL 15 fun _=> ?_
 refine w2 ?_
 refine lc (dK (Zm t 0 ((n.2.length:Int) - 1)) Ym) ?_
 refine w2 ?_
 cases v:(decide (0≤t∧t≤((n.2.length:Int) - 1)))
 have w:=aa v
 refine w16 ?_
 have Y:((⟨#[]⟩:ByteArray):ByteArray)=((YD n a t).1):=by
  (rw[QhV (by omega)]; done)
 have Z:(false:Bool)=((YD n a t).2):=by
  (rw[QhV (by omega)]; done)
 exact fr_ E (e:=by rw[Y,← Z] <;> rfl)
 have w:=ab v
 refine w3 ?_
 obtain ⟨x,A⟩:=gx n.2 ((t).toNat)
 have z:=(y _ (ah A)).1
 have O:=(y _ (ah A)).2
 refine w3 ?_
 refine lgy rfl rfl (dK (UL x a z) QfJ) ?_
 refine w3 ?_
 refine cx_ (fun _=> ?_) fun _=> ?_
 refine w5 ?_
 have F:((⟨#[]⟩:ByteArray):ByteArray)=((YD n a t).1):=by
  (rw[QhU ‹_› ‹_›]; done)
 have G:(false:Bool)=((YD n a t).2):=by
  (rw[QhU ‹_› ‹_›]; done)
 exact fr_ E (e:=by rw[F,← G] <;> rfl)
 refine w3 ?_
 refine lc (QbE 1 (Qa rfl) Z7 Za Wq rfl (Fresh.of rfl) (nlr rfl)) ?_
 refine w10 ?_
 refine alL 37 fun _=> ?_
 refine w4 ?_
 refine QP (fun B C=>∃(k:Nat) (l:List UInt8),k≤x.1.length∧B=x.1.length - k∧(clr a.toList x.1=clr l (x.1.drop k))∧(l.length=a.toList.length)∧C=⟨[(2,lI t),(3,lP 0 0),(6,lf (dS (⟨#[]⟩:ByteArray))),(7,lB false),(8,lR 2),(37,lf (.dat Qz x.1)),(38,lI (x.1.length:Int)),(39,lI (k:Int))],[bx 0 48 [dI n.1, .dat Xk n.2],(2,some (.bys 5 l))]⟩) ⟨0,a.toList,aG _,rfl,rfl,rfl,rfl⟩ ?_ ?_
 exact wo [(2,1)]
 rintro B C ⟨k,l,T,V,R,S,rfl⟩
 refine w4 ?_
 cases g:(decide ((k:Int) < (x.1.length:Int)))
 have r:=aa g
 refine w11 ?_
 refine alL 52 fun _=> ?_
 refine w4 ?_
 refine QP (fun B C=>∃(i:Nat) (q:List UInt8),i≤x.2.length∧B=x.2.length - i∧(JD (clr a.toList x.1) x.2=JD q (x.2.drop i))∧(q.length=a.toList.length)∧C=⟨[(8,lR 3),(52,lf (.dat Qz x.2)),(53,lI (x.2.length:Int)),(54,lI (i:Int))],[(3,some (.bys 5 q))]⟩) ⟨0,l,aG _,rfl,by rw[R,QoS (by omega)]; rfl,S,rfl⟩ ?_ ?_
 exact wo [(3,2)]
 rintro B C ⟨i,q,U,W,d,L,rfl⟩
 refine w4 ?_
 cases h:(decide ((i:Int) < (x.2.length:Int)))
 have s:=aa h
 refine w5 ?_
 refine lc (Q7 (ys:=q) (Qj7 (Qa rfl) rfl) Za Wq Z7 rfl) ?_
 refine w4 ?_
 have H:((⟨(q).toArray⟩:ByteArray):ByteArray)=((YD n a t).1):=by
  (rw[Qcb (x:=x) ‹_› (by omega) ‹_›,Ju (d.trans (QcB (by omega)))]; done)
 have I:(true:Bool)=((YD n a t).2):=by
  (rw[Qcb (x:=x) ‹_› (by omega) ‹_›,Ju (d.trans (QcB (by omega)))]; done)
 exact fr_ E (e:=by rw[H,← I] <;> rfl)
 have s:=ab h
 refine w5 ?_
 obtain ⟨D,b⟩:=gx x.2 i
 have M:=(O _ (ah b)).1
 refine w2 ?_
 refine alI 57 fun _=> ?_
 refine w6 ?_
 refine lc (X9 (Qa rfl) rfl (Qa rfl) Za QX rfl (by omega) (by first | omega | (simp only[ap]; omega))) ?_
 obtain ⟨P,c⟩:=gx q ((D).toNat)
 refine lc (Qe1 (Qa rfl) rfl c QX rfl)<|lc (Qu (Qa rfl) (QC 49 rfl) rfl) ?_
 refine w_ ?_
 cases j:(decide (P=49))
 have u:=aa j
 refine w5 ?_
 refine lc (X9 (Qa rfl) rfl (Qa rfl) Za QX rfl (by omega) (by first | omega | (simp only[ap]; omega)))<|lc (UH (Qa rfl) rfl (by first | omega | (simp only[ap]; omega)) (QC 49 rfl) QX)<|Qb ?_
 refine w4 ?_
 refine Qb<|QW ⟨i+1,(q.set ((D).toNat) 49),by omega,rfl,d.trans (Qik b c ‹_›),by rw[ap]; exact L,rfl⟩ (by omega) ?_
 exact wp [] ⟨(Qup (by first | rfl | simp)),trivial⟩
 have u:=ab j
 refine w6 ?_
 have J:((⟨#[]⟩:ByteArray):ByteArray)=((YD n a t).1):=by
  (rw[Qcb (x:=x) ‹_› (by omega) ‹_›,H7 (d.trans (QeO b c ‹_›))]; done)
 have K:(false:Bool)=((YD n a t).2):=by
  (rw[Qcb (x:=x) ‹_› (by omega) ‹_›,H7 (d.trans (QeO b c ‹_›))]; done)
 exact fr_ E (e:=by rw[J,← K] <;> rfl)
 have r:=ab g
 refine w5 ?_
 obtain ⟨Q,o⟩:=gx x.1 k
 have N:=(z _ (ah o)).1
 refine w2 ?_
 refine alI 42 fun _=> ?_
 refine w5 ?_
 refine lc (X9 (Qa rfl) rfl (Qa rfl) Za QX rfl (by omega) (by first | omega | (simp only[ap]; omega)))<|lc (UH (Qa rfl) rfl (by first | omega | (simp only[ap]; omega)) (QC 48 rfl) QX)<|Qb ?_
 refine w4 ?_
 refine Qb<|QW ⟨k+1,(l.set ((Q).toNat) 48),by omega,rfl,R.trans (Qkt o),by rw[ap]; exact S,rfl⟩ (by omega) ?_
 exact wp [] ⟨rfl,(Qup (by first | rfl | simp)),trivial⟩
theorem Qf6 (n:Qqf)(a:ByteArray)(t:Int)(v:∀t∈n.2,Hc a t.1∧Hc a t.2)(ht:0≤t∧t < (n.2.length:Int)):FC Tryz.prog 377 [(true,[dI n.1, .dat Xk n.2]),(false,[dS a]),(false,[dI t])] [] 0 (QY (PV.tup [(false,[dS ((Yn n a t).1)]),(false,[dB ((Yn n a t).2)])])):=by
 have W:=XO a
 refine Qv Tryz.func377 rfl rfl Tryz.ntmps377 fun Y O X R Z T S=> ?_
 refine acG 0 0 fun _=> ?_
 refine acI 2 fun _=> ?_
 refine w_ ?_
 refine xbx 0 ?_
 refine w5 ?_
 refine lc (QbE 1 (Qa rfl) Z7 Za Wq rfl (Fresh.of rfl) (nlr rfl)) ?_
 refine w7 ?_
 obtain ⟨x,w⟩:=gx n.2 ((t).toNat)
 have I:=(v _ (ah w)).1
 have J:=(v _ (ah w)).2
 refine w3 ?_
 refine alL 20 fun _=> ?_
 refine w4 ?_
 refine QP (fun y z=>∃(k:Nat) (l:List UInt8),k≤x.1.length∧y=x.1.length - k∧(clr a.toList x.1=clr l (x.1.drop k))∧(l.length=a.toList.length)∧z=⟨[(2,lI t),(3,lP 0 0),(6,lf (dS (⟨#[]⟩:ByteArray))),(7,lB false),(8,lR 2),(20,lf (.dat Qz x.1)),(21,lI (x.1.length:Int)),(22,lI (k:Int))],[bx 0 48 [dI n.1, .dat Xk n.2],(2,some (.bys 5 l))]⟩) ⟨0,a.toList,aG _,rfl,rfl,rfl,rfl⟩ ?_ ?_
 exact wo [(2,1)]
 rintro y z ⟨k,l,U,V,M,N,rfl⟩
 refine w4 ?_
 cases s:(decide ((k:Int) < (x.1.length:Int)))
 have u:=aa s
 refine w11 ?_
 refine alL 35 fun _=> ?_
 refine w4 ?_
 refine QP (fun y z=>∃(i:Nat) (o:List UInt8),i≤x.2.length∧y=x.2.length - i∧(JD (clr a.toList x.1) x.2=JD o (x.2.drop i))∧(o.length=a.toList.length)∧z=⟨[(8,lR 3),(35,lf (.dat Qz x.2)),(36,lI (x.2.length:Int)),(37,lI (i:Int))],[(3,some (.bys 5 o))]⟩) ⟨0,l,aG _,rfl,by rw[M,QoS (by omega)]; rfl,N,rfl⟩ ?_ ?_
 exact wo [(3,2)]
 rintro y z ⟨i,o,P,Q,d,F,rfl⟩
 refine w4 ?_
 cases g:(decide ((i:Int) < (x.2.length:Int)))
 have q:=aa g
 refine w5 ?_
 refine lc (Q7 (ys:=o) (Qj7 (Qa rfl) rfl) Za Wq Z7 rfl) ?_
 refine w4 ?_
 have B:((⟨(o).toArray⟩:ByteArray):ByteArray)=((Yn n a t).1):=by
  first | (rw[Qcc (x:=x) ‹_›,Ju (d.trans (QcB (by omega)))]; done)
 have C:(true:Bool)=((Yn n a t).2):=by
  first | (rw[Qcc (x:=x) ‹_›,Ju (d.trans (QcB (by omega)))]; done)
 exact fr_ O (e:=by rw[B,← C] <;> rfl)
 have q:=ab g
 refine w5 ?_
 obtain ⟨A,b⟩:=gx x.2 i
 have G:=(J _ (ah b)).1
 refine w2 ?_
 refine alI 40 fun _=> ?_
 refine w6 ?_
 refine lc (X9 (Qa rfl) rfl (Qa rfl) Za QX rfl (by omega) (by first | omega | (simp only[ap]; omega))) ?_
 obtain ⟨K,c⟩:=gx o ((A).toNat)
 refine lc (Qe1 (Qa rfl) rfl c QX rfl)<|lc (Qu (Qa rfl) (QC 49 rfl) rfl) ?_
 refine w_ ?_
 cases h:(decide (K=49))
 have r:=aa h
 refine w5 ?_
 refine lc (X9 (Qa rfl) rfl (Qa rfl) Za QX rfl (by omega) (by first | omega | (simp only[ap]; omega)))<|lc (UH (Qa rfl) rfl (by first | omega | (simp only[ap]; omega)) (QC 49 rfl) QX)<|Qb ?_
 refine w4 ?_
 refine Qb<|QW ⟨i+1,(o.set ((A).toNat) 49),by omega,rfl,d.trans (Qik b c ‹_›),by rw[ap]; exact F,rfl⟩ (by omega) ?_
 exact wp [] ⟨(Qup (by first | rfl | simp)),trivial⟩
 have r:=ab h
 refine w6 ?_
 have D:((⟨#[]⟩:ByteArray):ByteArray)=((Yn n a t).1):=by
  (rw[Qcc (x:=x) ‹_›,H7 (d.trans (QeO b c ‹_›))]; done)
 have E:(false:Bool)=((Yn n a t).2):=by
  (rw[Qcc (x:=x) ‹_›,H7 (d.trans (QeO b c ‹_›))]; done)
 exact fr_ O (e:=by rw[D,← E] <;> rfl)
 have u:=ab s
 refine w5 ?_
 obtain ⟨L,j⟩:=gx x.1 k
 have H:=(I _ (ah j)).1
 refine w2 ?_
 refine alI 25 fun _=> ?_
 refine w5 ?_
 refine lc (X9 (Qa rfl) rfl (Qa rfl) Za QX rfl (by omega) (by first | omega | (simp only[ap]; omega)))<|lc (UH (Qa rfl) rfl (by first | omega | (simp only[ap]; omega)) (QC 48 rfl) QX)<|Qb ?_
 refine w4 ?_
 refine Qb<|QW ⟨k+1,(l.set ((L).toNat) 48),by omega,rfl,M.trans (Qkt j),by rw[ap]; exact N,rfl⟩ (by omega) ?_
 exact wp [] ⟨rfl,(Qup (by first | rfl | simp)),trivial⟩
theorem Qei (n:Qqf)(a:ByteArray)(t:Int)(o:∀t∈n.2,Hc a t.1∧Hc a t.2)(G:0≤t∧t < (n.2.length:Int)):FC Tryz.prog 379 [(true,[dI n.1, .dat Xk n.2]),(false,[dS a]),(false,[dI t])] [] 0 (QY (lB (QdQ n a t))):=by
 refine Qv Tryz.func379 rfl rfl Tryz.ntmps379 fun E s C w F A z=> ?_
 refine acG 0 0 fun _=> ?_
 refine acI 2 fun _=> ?_
 refine w_ ?_
 refine xbx 0 ?_
 refine w7 ?_
 obtain ⟨x,q⟩:=gx n.2 ((t).toNat)
 have e:=(o _ (ah q)).1
 refine w3 ?_
 refine alL 14 fun _=> ?_
 refine w4 ?_
 refine lpK x.1.length (fun k=>∀j,j < k→∀y,x.1[j]? =some y→bAt a y=49) (fun k=>⟨[(1,lf (dS a)),(14,lf (.dat Qz x.1)),(15,lI (x.1.length:Int)),(16,lI (k:Int))],[]⟩) (fun j B=>absurd B (bg j)) ?_ fun k _ r=> ?_
 exact wo []
 refine w4 ?_
 cases h:(decide ((k:Int) < (x.1.length:Int)))
 have i:=aa h
 refine w6 ?_
 refine Qd<|fqB s ?_
 first | exact (QqU ‹_› e r (by omega)).symm
 have i:=ab h
 refine w5 ?_
 obtain ⟨D,g⟩:=gx x.1 k
 have v:=(e _ (ah g)).1
 refine w2 ?_
 refine alI 19 fun _=> ?_
 refine w5 ?_
 obtain ⟨c,u⟩:=gs a ((D).toNat)
 refine w_ ?_
 refine lc (Zd (Qa rfl) (QC 49 rfl) rfl) ?_
 refine w_ ?_
 cases b:(!decide (c=49))
 have d:(c=49):=QK b
 refine w6 ?_
 refine Qb ?_
 refine lK_ (Qog r g ‹_› ‹_›) ?_
 exact wo []
 have d:¬(c=49):=QR b
 refine w4 ?_
 refine Qd<|fqB s ?_
 exact (Qta ‹_› e g ‹_› ‹_›).symm
theorem Qb8 (n:Qqf)(a:ByteArray)(d:∀t∈n.2,Hc a t.1∧Hc a t.2)(q:n.2.length≤2000000):FC Tryz.prog 255 [(true,[dI n.1, .dat Xk n.2]),(false,[dS a])] [] 0 (YB 3 .int (Vo n a)):=by
 refine Qv Tryz.func255 rfl rfl Tryz.ntmps255 fun u j s g v i h=> ?_
 refine acG 0 0 fun _=> ?_
 refine w_ ?_
 refine xbx 0 ?_
 refine w9 ?_
 refine alL 8 fun _=> ?_
 refine w4 ?_
 refine AC.wk (Wk.nilS 1 5 3 .int rfl (Fresh.of rfl) (nlr rfl)) ?_
 refine lp0 n.2.length (fun k=>⟨[(1,lf (dS a)),(2,lP 0 0),(4,lf (.val (.slice none 0 0))),(5,lR 2),(9,lI (n.2.length:Int)),(10,lI (k:Int))],[bx 0 48 [dI n.1, .dat Xk n.2],ar 2 3 .int (Wh (enb a) n.2 k)]⟩) ?_ fun k _=> ?_
 exact wp [(2,1)] ⟨rfl,(Qe (by first | rfl | simp)),trivial⟩
 have r:=Qdx (enb a) n.2 k
 refine w4 ?_
 cases b:(decide ((k:Int) < (n.2.length:Int)))
 have c:=aa b
 refine w7 ?_
 refine Qd<|fo_ j ?_
 rw[show k=n.2.length by omega]; rfl
 have c:=ab b
 refine w12 ?_
 refine lc (dK (Qei n a (k:Int) d (by omega)) QmU) ?_
 refine w_ ?_
 cases o:(QdQ n a (k:Int))
 refine w6 ?_
 refine Qb ?_
 refine l0_ ?_
 exact wp [] ⟨rfl,(Qe (by first | exact QgH (by omega) ‹_› | exact Qii (by omega) ‹_›)),trivial⟩
 refine w4 ?_
 refine lc (dBs 3 (e:= .int) Yk) ?_
 refine lc (dA 4 XP) ?_
 refine w_ ?_
 refine Qb ?_
 refine w4 ?_
 refine Qb ?_
 refine l0_ ?_
 exact wp [(2,4)] ⟨rfl,(Qe (by first | exact QgH (by omega) ‹_› | exact Qii (by omega) ‹_›)),trivial⟩
end Go.Proofs.YtndabgcpnmeeoaaGreat
