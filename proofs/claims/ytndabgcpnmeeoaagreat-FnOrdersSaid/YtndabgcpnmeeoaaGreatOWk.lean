/- Walks over abstract states: firing. -/
import Derived.Test.YtndabgcpnmeeoaaGreatOWb
import Derived.Test.YtndabgcpnmeeoaaGreatOAv
set_option linter.unusedSimpArgs false
set_option linter.unusedVariables false
set_option linter.unusedSectionVars false
namespace Go.Proofs.YtndabgcpnmeeoaaGreat
open Go.RowKit
set_option maxRecDepth 100000
set_option maxHeartbeats 4000000
def bAt (m:ByteArray)(p:Int):UInt8:=(m[p.toNat]?).getD 0
theorem VI {m:ByteArray}{p:Int}{c:UInt8}(h:m[p.toNat]? =some c):bAt m p=c:=by unfold bAt; rw[h]; rfl
theorem WP (m:ByteArray):m.toList.length=m.size:=by simp[bB]
def ZO {α:Type _}(f:α→Bool)(l:List α):Int:=match l.findIdx? f with | some i=>i | none=> -1
def NoneTo {α:Type _}(f:α→Bool)(l:List α)(k:Nat):Prop:=∀j,j < k→∀x,l[j]? =some x→f x=false
section
variable {α:Type _}{f:α→Bool}{l:List α}{k:Nat}{x:α}
theorem NoneTo.zero:NoneTo f l 0:=fun j a=>absurd a (bi j)
theorem NoneTo.step (h:NoneTo f l k)(c:l[k]? =some x)(b:f x=false):NoneTo f l (k+1):=fun j d y a=>by
 by_cases e:j=k
 ·subst e; rw[c] at a; cases a; exact b
 ·exact h j (by omega) y a
theorem NoneTo.at (h:NoneTo f l k)(e:l[k]? =some x)(c:f x=true):ZO f l=k:=by
 obtain ⟨a,b⟩:=ah.1 e
 have:l.findIdx? f=some k:=bS.2 ⟨a,by rw[b]; exact c,fun j d=>by
  have:=h j d _ (ap (by omega))
  simp[this]⟩
 unfold ZO
 rw[this]
theorem NoneTo.no (h:NoneTo f l k)(c:l.length≤k):ZO f l= -1:=by
 have:l.findIdx? f=none:=List.findIdx?_eq_none_iff.2 fun x b=>by
  obtain ⟨j,a⟩:=aO.1 b
  have:=(ah.1 a).1
  exact h j (by omega) x a
 unfold ZO
 rw[this]
theorem NoneTo.any_no (h:NoneTo f l k)(c:l.length≤k):l.any f=false:=cC.2 fun x b=>by
 obtain ⟨j,a⟩:=aO.1 b
 have:=(ah.1 a).1
 simp[h j (by omega) x a]
theorem QqV (b:l[k]? =some x)(a:f x=true):l.any f=true:=bW.2 ⟨x,ai b,a⟩
theorem Vk (f:α→Bool)(l:List α):decide (0≤ZO f l)=l.any f:=by
 unfold ZO
 cases h:l.findIdx? f with
 | none=>
  have:=List.findIdx?_eq_none_iff.1 h
  rw[cF]
  simp only[bW,aS]
  constructor
  ·intro h; omega
  ·rintro ⟨x,d,a⟩; rw[this x d] at a; cases a
 | some i=>
  obtain ⟨b,c,_⟩:=bS.1 h
  have:l.any f=true:=bW.2 ⟨_,dd b,c⟩
  rw[this]
  simp
def Y2 (f:α→Bool)(l:List α):Nat→List Int
 | 0=>[]
 | k+1=>Y2 f l k++(match l[k]? with | some x=>if f x then [(k:Int)] else [] | none=>[])
theorem QcF (b:l[k]? =some x)(a:f x=true):Y2 f l k++[(k:Int)]=Y2 f l (k+1):=by simp[Y2,b,a]
theorem QfG (b:l[k]? =some x)(a:f x=false):Y2 f l k=Y2 f l (k+1):=by simp[Y2,b,a]
theorem QcE (f:α→Bool)(l:List α)(k:Nat):(Y2 f l k).length≤k:=by
 induction k with
 | zero=>simp[Y2]
 | succ k a=>
  simp only[Y2,ae]
  split
  ·split <;> simp <;> omega
  ·simp; omega
theorem HR {f:α→Bool}{l:List α}{k:Nat}{t:Int}(h:t∈Y2 f l k):∃x,0≤t∧t < l.length∧t < k∧l[t.toNat]? =some x∧f x=true:=by
 induction k with
 | zero=>simp[Y2] at h
 | succ k g=>
  simp only[Y2,aG] at h
  rcases h with h | h
  ·obtain ⟨x,c,d,i,e⟩:=g h; exact ⟨x,c,d,by omega,e⟩
  ·cases a:l[k]? with
   | none=>rw[a] at h; simp at h
   | some x=>
    rw[a] at h
    cases b:f x with
    | false=>simp[b] at h
    | true=>
     simp only[b,if_true,aC] at h
     subst h
     have:=(ah.1 a).1
     exact ⟨x,by omega,by omega,by omega,by simpa using a,b⟩
theorem ZA {l:List α}{k:Nat}{x:α}(c:l[k]? =some x):l.drop k=x :: l.drop (k+1):=by
 obtain ⟨a,b⟩:=ah.1 c
 rw[bU a,b]
end
def UT (m:ByteArray)(ps:List Int):Prop:=∀p∈ps,(0≤p∧p < m.size)∧(bAt m p=48∨bAt m p=49)
def enb (m:ByteArray)(t:Qt):Bool:= !t.1.any fun p=>decide (bAt m p=48)
def QO (n:Yh)(m:ByteArray):List Int:=Y2 (enb m) n.2 n.2.length
def clr (l:List UInt8):List Int→List UInt8
 | []=>l
 | p :: ps=>clr (l.set p.toNat 48) ps
def Xq (l:List UInt8):List Int→Option (List UInt8)
 | []=>some l
 | p :: ps=>if l[p.toNat]? =some 49 then none else Xq (l.set p.toNat 49) ps
def WW (m:ByteArray)(t:Qt):ByteArray×Bool:=match Xq (clr m.toList t.1) t.2 with
 | none=>(⟨#[]⟩,false)
 | some l=>(⟨l.toArray⟩,true)
def Zw (n:Yh)(m:ByteArray)(t:Int):ByteArray×Bool:=match n.2[t.toNat]? with
 | none=>(⟨#[]⟩,false)
 | some x=>WW m x
def Yx (n:Yh)(m:ByteArray)(t:Int):ByteArray×Bool:=if 0≤t then (match n.2[t.toNat]? with
 | none=>(⟨#[]⟩,false)
 | some x=>if enb m x then WW m x else (⟨#[]⟩,false)) else (⟨#[]⟩,false)
section
variable {n:Yh}{m:ByteArray}{t:Int}{x:Qt}{l:List UInt8}{ps:List Int}{k:Nat}{p:Int}
theorem Qjo (a:ps[k]? =some p):clr l (ps.drop k)=clr (l.set p.toNat 48) (ps.drop (k+1)):=by rw[ZA a,clr]
theorem Qnq (h:ps.length≤k):clr l (ps.drop k)=l:=by rw[bz h,clr]
theorem Qhh (d:ps[k]? =some p){c:UInt8}(a:l[p.toNat]? =some c)(b:decide (c=49)=false):Xq l (ps.drop k)=Xq (l.set p.toNat 49) (ps.drop (k+1)):=by
 rw[ZA d,Xq,if_neg]
 rw[a]
 intro h
 cases h
 simp at b
theorem QdU (d:ps[k]? =some p){c:UInt8}(a:l[p.toNat]? =some c)(b:decide (c=49)=true):Xq l (ps.drop k)=none:=by
 rw[ZA d,Xq,if_pos]
 rw[a,ab b]
theorem QbJ (h:ps.length≤k):Xq l (ps.drop k)=some l:=by rw[bz h,Xq]
theorem QhR (l:List UInt8)(ps:List Int):(clr l ps).length=l.length:=by
 induction ps generalizing l with
 | nil=>rfl
 | cons p ps a=>rw[clr,a,au]
theorem Hy (h:Xq (clr m.toList x.1) x.2=none):WW m x=(⟨#[]⟩,false):=by unfold WW; rw[h]
theorem K5 (h:Xq (clr m.toList x.1) x.2=some l):WW m x=(⟨l.toArray⟩,true):=by unfold WW; rw[h]
theorem UI (a:n.2[t.toNat]? =some x):Zw n m t=WW m x:=by unfold Zw; rw[a]
theorem Qbv (b:n.2[t.toNat]? =some x)(h0:0≤t)(a:enb m x=true):Yx n m t=WW m x:=by
 unfold Yx; rw[if_pos h0,b]
 show (if enb m x then _ else _)=_
 rw[if_pos a]
theorem QgZ (b:n.2[t.toNat]? =some x)(a:enb m x=false):Yx n m t=(⟨#[]⟩,false):=by
 unfold Yx; rw[b]
 show (if 0≤t then (if enb m x then _ else _) else _)=_
 rw[if_neg (show¬enb m x=true by rw[a]; decide),ite_self]
theorem Qg0 (h:¬(0≤t∧t≤(n.2.length:Int) - 1)):Yx n m t=(⟨#[]⟩,false):=by
 unfold Yx
 by_cases a:0≤t
 ·rw[if_pos a,bp (by omega)]
 ·rw[if_neg a]
theorem Qug (h0:0≤t)(a:n.2[t.toNat]? =some x)(b:enb m x=true):Yx n m t=Zw n m t:=by rw[Qbv a h0 b,UI a]
def Qc0 (n:Yh)(m:ByteArray)(t:Int):Bool:=match n.2[t.toNat]? with
 | some x=>enb m x
 | none=>false
theorem QdH (a:n.2[t.toNat]? =some x):Qc0 n m t=enb m x:=by unfold Qc0; rw[a]
theorem Qrp (h:UT m x.1):enb m x=true↔∀p∈x.1,bAt m p=49:=by
 unfold enb
 simp only[bQ,cC,aS]
 constructor
 ·intro k p b
  rcases (h p b).2 with a | a
  ·exact absurd a (k p b)
  ·exact a
 ·intro k p b a
  rw[k p b] at a
  exact absurd a (by decide)
theorem QmN {c:UInt8}(b:∀j,j < k→∀y,ps[j]? =some y→bAt m y=49)(g:ps[k]? =some p)(d:m[p.toNat]? =some c)(hb:(!decide (c=49))=false):∀j,j < k+1→∀y,ps[j]? =some y→bAt m y=49:=fun j h y a=>by
 by_cases e:j=k
 ·subst e; rw[g] at a; cases a
  rw[VI d]
  simpa using hb
 ·exact b j (by omega) y a
theorem Qsy {c:UInt8}(b:n.2[t.toNat]? =some x)(d:UT m x.1)(e:x.1[k]? =some p)(a:m[p.toNat]? =some c)(hb:(!decide (c=49))=true):Qc0 n m t=false:=by
 rw[QdH b,co]
 intro h
 have:=(Qrp d).1 h p (ai e)
 rw[VI a] at this
 simp[this] at hb
theorem QpN (c:n.2[t.toNat]? =some x)(d:UT m x.1)(b:∀j,j < k→∀y,x.1[j]? =some y→bAt m y=49)(e:x.1.length≤k):Qc0 n m t=true:=by
 rw[QdH c]
 refine (Qrp d).2 fun p h=> ?_
 obtain ⟨j,a⟩:=aO.1 h
 have:=(ah.1 a).1
 exact b j (by omega) p a
theorem QfF (b:k < n.2.length)(h:Qc0 n m (k:Int)=true):Y2 (enb m) n.2 k++[(k:Int)]=Y2 (enb m) n.2 (k+1):=by
 have a:=ap b
 rw[QdH (t:=(k:Int)) (show n.2[((k:Int)).toNat]? =some _ from a)] at h
 exact QcF a h
theorem Qhf (b:k < n.2.length)(h:Qc0 n m (k:Int)=false):Y2 (enb m) n.2 k=Y2 (enb m) n.2 (k+1):=by
 have a:=ap b
 rw[QdH (t:=(k:Int)) (show n.2[((k:Int)).toNat]? =some _ from a)] at h
 exact QfG a h
end
theorem H3 (p:Int)(a:ByteArray)(h0:0≤p)(q:p < (a.size:Int)):FC Tryz.prog 466 [(false,[dI p]),(false,[.ptr 0 0])] [bx 0 9 [dS a]] 1 (Is (lB (decide (bAt a p=48))) [bx 0 9 [dS a]]):=by
 refine Qn Tryz.func466 rfl rfl Tryz.ntmps466 fun j g i b o e d=> ?_
 refine acI 0 fun _=> ?_
 refine w6 ?_
 obtain ⟨c2,h⟩:=gs a ((p).toNat)
 refine w_ ?_
 refine lc (Zm (Qa rfl) (Q0 48 rfl) rfl) ?_
 refine w3 ?_
 have c:(decide (c2=48):Bool)=(decide (bAt a p=48)):=by
  rw[VI ‹_›]
 exact fi_ [] g ⟨rfl,trivial⟩ (h0:=by rw[c] <;> rfl)
theorem VL (s:List Int)(a:ByteArray)(o:∀p∈s,0≤p∧p < (a.size:Int)):FC Tryz.prog 462 [(false,[.dat Qm s]),(false,[.clo 466 [0]])] [bx 0 9 [dS a]] 1 (Is (lI (ZO (fun p=>decide (bAt a p=48)) s)) [bx 0 9 [dS a]]):=by
 refine Qn Tryz.func462 rfl rfl Tryz.ntmps462 fun z j y q A w v=> ?_
 refine w6 ?_
 refine alL 6 fun _=> ?_
 refine w4 ?_
 refine lpK s.length (fun k=>NoneTo (fun p=>decide (bAt a p=48)) s k) (fun k=>⟨[(0,lf (.dat Qm s)),(1,lf (.clo 466 [0])),(7,lI (s.length:Int)),(8,lI (k:Int))],[bx 0 9 [dS a]]⟩) (NoneTo.zero) ?_ fun k _ c=> ?_
 exact wo []
 refine w4 ?_
 cases d:(decide ((k:Int) < (s.length:Int)))
 have e:=aa d
 refine w7 ?_
 have r:((-1):Int)=(ZO (fun p=>decide (bAt a p=48)) s):=by
  first | exact (c.no (by omega)).symm
 exact fi_ [] j ⟨rfl,trivial⟩ (h0:=by rw[← r] <;> rfl)
 have e:=ab d
 refine w12 ?_
 obtain ⟨i,b⟩:=gx s k
 refine w2 ?_
 refine alI 15 fun _=> ?_
 refine lc (V6 (args0:=[(false,[dI i])]) (caps:=[0]) 1 [(0,0)] (H3 i a (o _ (ai b)).1 (o _ (ai b)).2) Qmh rfl (Qa rfl) rfl rfl ⟨_,_,rfl,(Ql rfl),rfl⟩ ⟨rfl,trivial⟩ rfl ⟨trivial,trivial⟩ (nlr rfl)) ?_
 refine w_ ?_
 cases g:(decide (bAt a i=48))
 have h:=aa g
 refine w6 ?_
 refine Qf ?_
 refine lK_ (c.step b ‹_›) ?_
 exact wo []
 have h:=ab g
 refine w6 ?_
 have u:((k:Int):Int)=(ZO (fun p=>decide (bAt a p=48)) s):=by
  exact (c.at b ‹_›).symm
 exact fi_ [] j ⟨rfl,trivial⟩ (h0:=by rw[u] <;> rfl)
theorem WT (s:List Int)(a:ByteArray)(h:∀p∈s,0≤p∧p < (a.size:Int)):FC Tryz.prog 362 [(false,[.dat Qm s]),(false,[.clo 466 [0]])] [bx 0 9 [dS a]] 1 (Is (lB (s.any (fun p=>decide (bAt a p=48)))) [bx 0 9 [dS a]]):=by
 refine Qn Tryz.func362 rfl rfl Tryz.ntmps362 fun j g i b o e d=> ?_
 refine w6 ?_
 refine lc (dP 1 [] (VL s a h) QeW) ?_
 refine w4 ?_
 have c:(decide (0≤(ZO (fun p=>decide (bAt a p=48)) s)):Bool)=(s.any (fun p=>decide (bAt a p=48))):=by
  exact Vk _ _
 exact fi_ [] g ⟨rfl,trivial⟩ (h0:=by rw[c] <;> rfl)
theorem UF (t:List Int×List Int)(a:ByteArray)(g:UT a t.1):FC Tryz.prog 361 [(true,[.dat Qm t.1, .dat Qm t.2]),(false,[dS a])] [] 0 (Za (lB (enb a t))):=by
 refine Qn Tryz.func361 rfl rfl Tryz.ntmps361 fun j e i b o d c=> ?_
 refine w_ ?_
 refine xbx 0 ?_
 refine xbx 1 ?_
 refine w5 ?_
 refine lc (XR ⟨_,_,rfl,(Qa rfl),rfl,rfl⟩ rfl) ?_
 refine lc (dP 2 [(0,1)] (WT t.1 a (fun p h=>(g p h).1)) QeQ) ?_
 refine w3 ?_
 refine Qe<|fqB e ?_
 rfl
theorem Jn (n:Qcd)(a:ByteArray)(g:∀t∈n.2,UT a t.1∧UT a t.2)(s:n.2.length≤2000000):FC Tryz.prog 245 [(true,[dI n.1, .dat QF n.2]),(false,[dS a])] [] 0 (XB 3 .int (QO n a)):=by
 refine Qn Tryz.func245 rfl rfl Tryz.ntmps245 fun w q v i y o j=> ?_
 refine acG 0 0 fun _=> ?_
 refine w_ ?_
 refine xbx 0 ?_
 refine w3 ?_
 refine lc (dBs 1 (e:= .int) Zq) ?_
 refine w6 ?_
 refine alL 10 fun _=> ?_
 refine w4 ?_
 refine lp0 n.2.length (fun k=>⟨[(1,lf (dS a)),(4,lf (.val (.slice none 0 0))),(5,lR 2),(10,lf (.dat QF n.2)),(11,lI (n.2.length:Int)),(12,lI (k:Int))],[ar 2 3 .int (Y2 (enb a) n.2 k)]⟩) ?_ fun k _=> ?_
 exact wp [(2,1)] ⟨(Qh (by first | rfl | simp)),trivial⟩
 have u:=QcE (enb a) n.2 k
 refine w4 ?_
 cases c:(decide ((k:Int) < (n.2.length:Int)))
 have d:=aa c
 refine w7 ?_
 refine Qe<|fo_ q ?_
 rw[show k=n.2.length by omega]; rfl
 have d:=ab c
 refine w6 ?_
 obtain ⟨h,b⟩:=gx n.2 k
 refine w2 ?_
 refine lc (xal 3 QD X1) ?_
 refine w6 ?_
 refine lc (dK (UF h a (g _ (ai b)).1) QeP) ?_
 refine w_ ?_
 cases r:(enb a h)
 refine w6 ?_
 refine Qf ?_
 refine l0_ ?_
 exact wp [] ⟨(Qh (by first | exact QcF b ‹_› | exact QfG b ‹_›)),trivial⟩
 refine w4 ?_
 refine lc (dBs 4 (e:= .int) Zq) ?_
 refine lc (dA 5 YO) ?_
 refine w_ ?_
 refine Qf ?_
 refine w4 ?_
 refine Qf ?_
 refine l0_ ?_
 exact wp [(2,5)] ⟨(Qh (by first | exact QcF b ‹_› | exact QfG b ‹_›)),trivial⟩
theorem QhY (n:Qcd)(a:ByteArray)(t:Int)(y:∀t∈n.2,UT a t.1∧UT a t.2)(a3:n.2.length≤2000000):FC Tryz.prog 465 [(true,[dI n.1, .dat QF n.2]),(false,[dS a]),(false,[dI t])] [] 0 (Za (PV.tup [(false,[dS ((Yx n a t).1)]),(false,[dB ((Yx n a t).2)])])):=by
 have a2:=WP a
 refine Qn Tryz.func465 rfl rfl Tryz.ntmps465 fun O_ E a4 X X_ a1 a0=> ?_
 refine acG 0 0 fun _=> ?_
 refine acI 2 fun _=> ?_
 refine w_ ?_
 refine xbx 0 ?_
 refine w8 ?_
 refine alL 15 fun _=> ?_
 refine w2 ?_
 refine lc (dK (QP t 0 ((n.2.length:Int) - 1)) Zf) ?_
 refine w2 ?_
 cases v:(decide (0≤t∧t≤((n.2.length:Int) - 1)))
 have w:=aa v
 refine w16 ?_
 have Y:((⟨#[]⟩:ByteArray):ByteArray)=((Yx n a t).1):=by
  (rw[Qg0 (by omega)]; done)
 have Z:(false:Bool)=((Yx n a t).2):=by
  (rw[Qg0 (by omega)]; done)
 exact fr_ E (e:=by rw[Y,← Z] <;> rfl)
 have w:=ab v
 refine w3 ?_
 obtain ⟨x,A⟩:=gx n.2 ((t).toNat)
 have z:=(y _ (ai A)).1
 have O:=(y _ (ai A)).2
 refine w3 ?_
 refine lgy rfl rfl (dK (UF x a z) QeP) ?_
 refine w3 ?_
 refine cx_ (fun _=> ?_) fun _=> ?_
 refine w5 ?_
 have F:((⟨#[]⟩:ByteArray):ByteArray)=((Yx n a t).1):=by
  (rw[QgZ ‹_› ‹_›]; done)
 have G:(false:Bool)=((Yx n a t).2):=by
  (rw[QgZ ‹_› ‹_›]; done)
 exact fr_ E (e:=by rw[F,← G] <;> rfl)
 refine w3 ?_
 refine lc (Qa0 1 (Qa rfl) ZN YN QbT rfl (Fresh.of rfl) (nlr rfl)) ?_
 refine w10 ?_
 refine alL 37 fun _=> ?_
 refine w4 ?_
 refine QH (fun B C=>∃(k:Nat) (l:List UInt8),k≤x.1.length∧B=x.1.length - k∧(clr a.toList x.1=clr l (x.1.drop k))∧(l.length=a.toList.length)∧C=⟨[(2,lI t),(3,lP 0 0),(6,lf (dS (⟨#[]⟩:ByteArray))),(7,lB false),(8,lR 2),(37,lf (.dat Qm x.1)),(38,lI (x.1.length:Int)),(39,lI (k:Int))],[bx 0 48 [dI n.1, .dat QF n.2],(2,some (.bys 5 l))]⟩) ⟨0,a.toList,aP _,rfl,rfl,rfl,rfl⟩ ?_ ?_
 exact wo [(2,1)]
 rintro B C ⟨k,l,T,V,R,S,rfl⟩
 refine w4 ?_
 cases g:(decide ((k:Int) < (x.1.length:Int)))
 have r:=aa g
 refine w11 ?_
 refine alL 52 fun _=> ?_
 refine w4 ?_
 refine QH (fun B C=>∃(i:Nat) (q:List UInt8),i≤x.2.length∧B=x.2.length - i∧(Xq (clr a.toList x.1) x.2=Xq q (x.2.drop i))∧(q.length=a.toList.length)∧C=⟨[(8,lR 3),(52,lf (.dat Qm x.2)),(53,lI (x.2.length:Int)),(54,lI (i:Int))],[(3,some (.bys 5 q))]⟩) ⟨0,l,aP _,rfl,by rw[R,Qnq (by omega)]; rfl,S,rfl⟩ ?_ ?_
 exact wo [(3,2)]
 rintro B C ⟨i,q,U,W,d,L,rfl⟩
 refine w4 ?_
 cases h:(decide ((i:Int) < (x.2.length:Int)))
 have s:=aa h
 refine w5 ?_
 refine lc (XA (ys:=q) (Qi9 (Qa rfl) rfl) YN QbT ZN rfl) ?_
 refine w4 ?_
 have H:((⟨(q).toArray⟩:ByteArray):ByteArray)=((Yx n a t).1):=by
  (rw[Qbv (x:=x) ‹_› (by omega) ‹_›,K5 (d.trans (QbJ (by omega)))]; done)
 have I:(true:Bool)=((Yx n a t).2):=by
  (rw[Qbv (x:=x) ‹_› (by omega) ‹_›,K5 (d.trans (QbJ (by omega)))]; done)
 exact fr_ E (e:=by rw[H,← I] <;> rfl)
 have s:=ab h
 refine w5 ?_
 obtain ⟨D,b⟩:=gx x.2 i
 have M:=(O _ (ai b)).1
 refine w2 ?_
 refine alI 57 fun _=> ?_
 refine w6 ?_
 refine lc (X5 (Qa rfl) rfl (Qa rfl) YN ZH rfl (by omega) (by first | omega | (simp only[au]; omega))) ?_
 obtain ⟨P,c⟩:=gx q ((D).toNat)
 refine lc (Qd9 (Qa rfl) rfl c ZH rfl)<|lc (Zm (Qa rfl) (Q0 49 rfl) rfl) ?_
 refine w_ ?_
 cases j:(decide (P=49))
 have u:=aa j
 refine w5 ?_
 refine lc (X5 (Qa rfl) rfl (Qa rfl) YN ZH rfl (by omega) (by first | omega | (simp only[au]; omega)))<|lc (UD (Qa rfl) rfl (by first | omega | (simp only[au]; omega)) (Q0 49 rfl) ZH)<|Qf ?_
 refine w4 ?_
 refine Qf<|ZF ⟨i+1,(q.set ((D).toNat) 49),by omega,rfl,d.trans (Qhh b c ‹_›),by rw[au]; exact L,rfl⟩ (by omega) ?_
 exact wp [] ⟨(Qt8 (by first | rfl | simp)),trivial⟩
 have u:=ab j
 refine w6 ?_
 have J:((⟨#[]⟩:ByteArray):ByteArray)=((Yx n a t).1):=by
  (rw[Qbv (x:=x) ‹_› (by omega) ‹_›,Hy (d.trans (QdU b c ‹_›))]; done)
 have K:(false:Bool)=((Yx n a t).2):=by
  (rw[Qbv (x:=x) ‹_› (by omega) ‹_›,Hy (d.trans (QdU b c ‹_›))]; done)
 exact fr_ E (e:=by rw[J,← K] <;> rfl)
 have r:=ab g
 refine w5 ?_
 obtain ⟨Q,o⟩:=gx x.1 k
 have N:=(z _ (ai o)).1
 refine w2 ?_
 refine alI 42 fun _=> ?_
 refine w5 ?_
 refine lc (X5 (Qa rfl) rfl (Qa rfl) YN ZH rfl (by omega) (by first | omega | (simp only[au]; omega)))<|lc (UD (Qa rfl) rfl (by first | omega | (simp only[au]; omega)) (Q0 48 rfl) ZH)<|Qf ?_
 refine w4 ?_
 refine Qf<|ZF ⟨k+1,(l.set ((Q).toNat) 48),by omega,rfl,R.trans (Qjo o),by rw[au]; exact S,rfl⟩ (by omega) ?_
 exact wp [] ⟨rfl,(Qt8 (by first | rfl | simp)),trivial⟩
theorem Qe6 (n:Qcd)(a:ByteArray)(t:Int)(v:∀t∈n.2,UT a t.1∧UT a t.2)(ht:0≤t∧t < (n.2.length:Int)):FC Tryz.prog 377 [(true,[dI n.1, .dat QF n.2]),(false,[dS a]),(false,[dI t])] [] 0 (Za (PV.tup [(false,[dS ((Zw n a t).1)]),(false,[dB ((Zw n a t).2)])])):=by
 have W:=WP a
 refine Qn Tryz.func377 rfl rfl Tryz.ntmps377 fun Y O X R Z T S=> ?_
 refine acG 0 0 fun _=> ?_
 refine acI 2 fun _=> ?_
 refine w_ ?_
 refine xbx 0 ?_
 refine w5 ?_
 refine lc (Qa0 1 (Qa rfl) ZN YN QbT rfl (Fresh.of rfl) (nlr rfl)) ?_
 refine w7 ?_
 obtain ⟨x,w⟩:=gx n.2 ((t).toNat)
 have I:=(v _ (ai w)).1
 have J:=(v _ (ai w)).2
 refine w3 ?_
 refine alL 20 fun _=> ?_
 refine w4 ?_
 refine QH (fun y z=>∃(k:Nat) (l:List UInt8),k≤x.1.length∧y=x.1.length - k∧(clr a.toList x.1=clr l (x.1.drop k))∧(l.length=a.toList.length)∧z=⟨[(2,lI t),(3,lP 0 0),(6,lf (dS (⟨#[]⟩:ByteArray))),(7,lB false),(8,lR 2),(20,lf (.dat Qm x.1)),(21,lI (x.1.length:Int)),(22,lI (k:Int))],[bx 0 48 [dI n.1, .dat QF n.2],(2,some (.bys 5 l))]⟩) ⟨0,a.toList,aP _,rfl,rfl,rfl,rfl⟩ ?_ ?_
 exact wo [(2,1)]
 rintro y z ⟨k,l,U,V,M,N,rfl⟩
 refine w4 ?_
 cases s:(decide ((k:Int) < (x.1.length:Int)))
 have u:=aa s
 refine w11 ?_
 refine alL 35 fun _=> ?_
 refine w4 ?_
 refine QH (fun y z=>∃(i:Nat) (o:List UInt8),i≤x.2.length∧y=x.2.length - i∧(Xq (clr a.toList x.1) x.2=Xq o (x.2.drop i))∧(o.length=a.toList.length)∧z=⟨[(8,lR 3),(35,lf (.dat Qm x.2)),(36,lI (x.2.length:Int)),(37,lI (i:Int))],[(3,some (.bys 5 o))]⟩) ⟨0,l,aP _,rfl,by rw[M,Qnq (by omega)]; rfl,N,rfl⟩ ?_ ?_
 exact wo [(3,2)]
 rintro y z ⟨i,o,P,Q,d,F,rfl⟩
 refine w4 ?_
 cases g:(decide ((i:Int) < (x.2.length:Int)))
 have q:=aa g
 refine w5 ?_
 refine lc (XA (ys:=o) (Qi9 (Qa rfl) rfl) YN QbT ZN rfl) ?_
 refine w4 ?_
 have B:((⟨(o).toArray⟩:ByteArray):ByteArray)=((Zw n a t).1):=by
  first | (rw[UI (x:=x) ‹_›,K5 (d.trans (QbJ (by omega)))]; done)
 have C:(true:Bool)=((Zw n a t).2):=by
  first | (rw[UI (x:=x) ‹_›,K5 (d.trans (QbJ (by omega)))]; done)
 exact fr_ O (e:=by rw[B,← C] <;> rfl)
 have q:=ab g
 refine w5 ?_
 obtain ⟨A,b⟩:=gx x.2 i
 have G:=(J _ (ai b)).1
 refine w2 ?_
 refine alI 40 fun _=> ?_
 refine w6 ?_
 refine lc (X5 (Qa rfl) rfl (Qa rfl) YN ZH rfl (by omega) (by first | omega | (simp only[au]; omega))) ?_
 obtain ⟨K,c⟩:=gx o ((A).toNat)
 refine lc (Qd9 (Qa rfl) rfl c ZH rfl)<|lc (Zm (Qa rfl) (Q0 49 rfl) rfl) ?_
 refine w_ ?_
 cases h:(decide (K=49))
 have r:=aa h
 refine w5 ?_
 refine lc (X5 (Qa rfl) rfl (Qa rfl) YN ZH rfl (by omega) (by first | omega | (simp only[au]; omega)))<|lc (UD (Qa rfl) rfl (by first | omega | (simp only[au]; omega)) (Q0 49 rfl) ZH)<|Qf ?_
 refine w4 ?_
 refine Qf<|ZF ⟨i+1,(o.set ((A).toNat) 49),by omega,rfl,d.trans (Qhh b c ‹_›),by rw[au]; exact F,rfl⟩ (by omega) ?_
 exact wp [] ⟨(Qt8 (by first | rfl | simp)),trivial⟩
 have r:=ab h
 refine w6 ?_
 have D:((⟨#[]⟩:ByteArray):ByteArray)=((Zw n a t).1):=by
  (rw[UI (x:=x) ‹_›,Hy (d.trans (QdU b c ‹_›))]; done)
 have E:(false:Bool)=((Zw n a t).2):=by
  (rw[UI (x:=x) ‹_›,Hy (d.trans (QdU b c ‹_›))]; done)
 exact fr_ O (e:=by rw[D,← E] <;> rfl)
 have u:=ab s
 refine w5 ?_
 obtain ⟨L,j⟩:=gx x.1 k
 have H:=(I _ (ai j)).1
 refine w2 ?_
 refine alI 25 fun _=> ?_
 refine w5 ?_
 refine lc (X5 (Qa rfl) rfl (Qa rfl) YN ZH rfl (by omega) (by first | omega | (simp only[au]; omega)))<|lc (UD (Qa rfl) rfl (by first | omega | (simp only[au]; omega)) (Q0 48 rfl) ZH)<|Qf ?_
 refine w4 ?_
 refine Qf<|ZF ⟨k+1,(l.set ((L).toNat) 48),by omega,rfl,M.trans (Qjo j),by rw[au]; exact N,rfl⟩ (by omega) ?_
 exact wp [] ⟨rfl,(Qt8 (by first | rfl | simp)),trivial⟩
theorem Qdi (n:Qcd)(a:ByteArray)(t:Int)(o:∀t∈n.2,UT a t.1∧UT a t.2)(G:0≤t∧t < (n.2.length:Int)):FC Tryz.prog 379 [(true,[dI n.1, .dat QF n.2]),(false,[dS a]),(false,[dI t])] [] 0 (Za (lB (Qc0 n a t))):=by
 refine Qn Tryz.func379 rfl rfl Tryz.ntmps379 fun E s C w F A z=> ?_
 refine acG 0 0 fun _=> ?_
 refine acI 2 fun _=> ?_
 refine w_ ?_
 refine xbx 0 ?_
 refine w7 ?_
 obtain ⟨x,q⟩:=gx n.2 ((t).toNat)
 have e:=(o _ (ai q)).1
 refine w3 ?_
 refine alL 14 fun _=> ?_
 refine w4 ?_
 refine lpK x.1.length (fun k=>∀j,j < k→∀y,x.1[j]? =some y→bAt a y=49) (fun k=>⟨[(1,lf (dS a)),(14,lf (.dat Qm x.1)),(15,lI (x.1.length:Int)),(16,lI (k:Int))],[]⟩) (fun j B=>absurd B (bi j)) ?_ fun k _ r=> ?_
 exact wo []
 refine w4 ?_
 cases h:(decide ((k:Int) < (x.1.length:Int)))
 have i:=aa h
 refine w6 ?_
 refine Qe<|fqB s ?_
 first | exact (QpN ‹_› e r (by omega)).symm
 have i:=ab h
 refine w5 ?_
 obtain ⟨D,g⟩:=gx x.1 k
 have v:=(e _ (ai g)).1
 refine w2 ?_
 refine alI 19 fun _=> ?_
 refine w5 ?_
 obtain ⟨c,u⟩:=gs a ((D).toNat)
 refine w_ ?_
 refine lc (Zy (Qa rfl) (Q0 49 rfl) rfl) ?_
 refine w_ ?_
 cases b:(!decide (c=49))
 have d:(c=49):=QY b
 refine w6 ?_
 refine Qf ?_
 refine lK_ (QmN r g ‹_› ‹_›) ?_
 exact wo []
 have d:¬(c=49):=Zb b
 refine w4 ?_
 refine Qe<|fqB s ?_
 exact (Qsy ‹_› e g ‹_› ‹_›).symm
theorem UG (n:Qcd)(a:ByteArray)(d:∀t∈n.2,UT a t.1∧UT a t.2)(q:n.2.length≤2000000):FC Tryz.prog 255 [(true,[dI n.1, .dat QF n.2]),(false,[dS a])] [] 0 (XB 3 .int (QO n a)):=by
 refine Qn Tryz.func255 rfl rfl Tryz.ntmps255 fun u j s g v i h=> ?_
 refine acG 0 0 fun _=> ?_
 refine w_ ?_
 refine xbx 0 ?_
 refine w9 ?_
 refine alL 8 fun _=> ?_
 refine w4 ?_
 refine AC.wk (Wk.nilS 1 5 3 .int rfl (Fresh.of rfl) (nlr rfl)) ?_
 refine lp0 n.2.length (fun k=>⟨[(1,lf (dS a)),(2,lP 0 0),(4,lf (.val (.slice none 0 0))),(5,lR 2),(9,lI (n.2.length:Int)),(10,lI (k:Int))],[bx 0 48 [dI n.1, .dat QF n.2],ar 2 3 .int (Y2 (enb a) n.2 k)]⟩) ?_ fun k _=> ?_
 exact wp [(2,1)] ⟨rfl,(Qh (by first | rfl | simp)),trivial⟩
 have r:=QcE (enb a) n.2 k
 refine w4 ?_
 cases b:(decide ((k:Int) < (n.2.length:Int)))
 have c:=aa b
 refine w7 ?_
 refine Qe<|fo_ j ?_
 rw[show k=n.2.length by omega]; rfl
 have c:=ab b
 refine w12 ?_
 refine lc (dK (Qdi n a (k:Int) d (by omega)) Ql3) ?_
 refine w_ ?_
 cases o:(Qc0 n a (k:Int))
 refine w6 ?_
 refine Qf ?_
 refine l0_ ?_
 exact wp [] ⟨rfl,(Qh (by first | exact QfF (by omega) ‹_› | exact Qhf (by omega) ‹_›)),trivial⟩
 refine w4 ?_
 refine lc (dBs 3 (e:= .int) Zq) ?_
 refine lc (dA 4 YO) ?_
 refine w_ ?_
 refine Qf ?_
 refine w4 ?_
 refine Qf ?_
 refine l0_ ?_
 exact wp [(2,4)] ⟨rfl,(Qh (by first | exact QfF (by omega) ‹_› | exact Qhf (by omega) ‹_›)),trivial⟩
end Go.Proofs.YtndabgcpnmeeoaaGreat
