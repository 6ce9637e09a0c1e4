/- Walks over abstract states: excitation regions, both sides. -/
import Derived.Test.YtndabgcpnmeeoaaGreatMGc
import Derived.Test.YtndabgcpnmeeoaaGreatMUd
set_option linter.unusedSimpArgs false
set_option linter.unusedVariables false
set_option linter.unusedSectionVars false
namespace Go.Proofs.YtndabgcpnmeeoaaGreat
open Go.RowKit
set_option maxRecDepth 100000
set_option maxHeartbeats 4000000
theorem QpU {l:List Int}(h:l.Nodup):XW l=ofG ltI l:=ZS.ext (((UK l).and ((Vd l).nodup_iff.2 h)).imp fun ⟨d,e⟩=>by simp only[ltI,aT]; omega) (UH ZS _) fun x=>by rw[Jr,X1 ZS]
theorem Qvu {l:List Int}{i:Int}{x y:Int}(h:l.Nodup)(r:1≤i)(d:l[i.toNat]? =some x)(g:l[(i - 1).toNat]? =some y):¬x=y:=fun e=>by
 subst e
 have s:=(ah.1 d).1
 have t:=(ah.1 g).1
 obtain ⟨_,m⟩:=ah.1 d
 obtain ⟨_,o⟩:=ah.1 g
 exact (List.pairwise_iff_getElem.1 h (i - 1).toNat i.toNat _ _ (by omega)) (o.trans m.symm)
theorem QiF {l:List Int}(h:l.Nodup):(XW l).Nodup:=(Vd l).nodup_iff.2 h
theorem QkV {S:List Int}{u:Int}:∀{l:List (Int×Int)} {out:List Int},(l.foldl (pE S u) out).length≤out.length+l.length
 | [],out=>aK _
 | e :: l,out=>by
  rw[aN]
  have:=QkV (S:=S) (u:=u) (l:=l) (out:=pE S u out e)
  have d:(pE S u out e).length≤out.length+1:=by unfold pE; split <;> simp
  simp only[au]; omega
theorem QpD {S:List Int}{u:Int}:∀{l:List DAr} {out:List Int},(l.foldl (pA S u) out).length≤out.length+2*l.length
 | [],out=>aK _
 | a :: l,out=>by
  rw[aN]
  have:=QpD (S:=S) (u:=u) (l:=l) (out:=pA S u out a)
  have d:(pA S u out a).length≤out.length+2:=QkV
  simp only[au]; omega
theorem QfJ {as_:List DAr}{S:List Int}:∀{f:Nat} {left:List Int},(compL as_ S f left).length≤f
 | 0,_=>aK _
 | _+1,[]=>aP _
 | f+1,x :: xs=>by rw[compL,au]; have:=QfJ (as_:=as_) (S:=S) (f:=f) (left:=(x :: xs).filter fun k=> !decide (k∈cls as_ S x)); omega
theorem QpN {as_:List DAr}{S left:List Int}{f:Nat}{out:List (List Int)}(h:out++compL as_ S f left=compL as_ S S.length S):out.length≤S.length:=by
 have d:=congrArg List.length h
 have e:=QfJ (as_:=as_) (S:=S) (f:=S.length) (left:=S)
 rw[ai] at d; omega
theorem Qp8 {as_:List DAr}{S left:List Int}{f:Nat}{out:List (List Int)}(d:Srt S)(h:out++compL as_ S f left=compL as_ S S.length S)(g:left.length=0):out=regV as_ S:=by
 have e:left=[]:=bf g
 subst e
 rw[← QoF d,← h]
 cases f <;> simp[compL]
def ini {α:Type}(f:Nat→α)(z:α)(n k:Nat):List α:=(List.range k).map f++List.replicate (n - k) z
section
variable {α:Type}{f:Nat→α}{z x:α}{n k:Nat}
theorem Qth:List.replicate n z=ini f z n 0:=by simp[ini]
theorem QmD (h:k≤n):(ini f z n k).length=n:=by simp[ini]; omega
theorem Qg6 (h:k < n)(d:x=f k):(ini f z n k).set k x=ini f z n (k+1):=by
 subst d
 unfold ini
 rw[List.set_append_right _ _ (by simp),aJ,List.length_range,Nat.sub_self,show n - k=(n - (k+1))+1 by omega,List.replicate_succ,List.set_cons_zero,bY,bt,aU]
 rfl
theorem QlR (h:n≤k)(d:k≤n):ini f z n k=(List.range n).map f:=by
 obtain rfl:k=n:=by omega
 simp[ini]
end
def X9 (c:DSg)(l:Int×Bool):List Bool:=(List.range c.2.1.length).map fun k:Nat=>decide ((k:Int)∈xS c.2.2 l)
section
variable {c:DSg}{l:Int×Bool}{k i j n:Nat}{sig q x y:Int}{up b b1 b2:Bool}{code:ByteArray}{a:DAr}{p:List Int}
theorem QoB:(X9 c l).length=c.2.1.length:=by simp[X9]
theorem QsA (h0:0≤q)(h:(X9 c l)[q.toNat]? =some b):b=decide (q∈xS c.2.2 l):=by
 unfold X9 at h
 rw[bg] at h
 obtain ⟨m,g,o⟩:=cj.1 h
 rw[← o]
 have d:=(ah.1 g)
 obtain ⟨d,e⟩:=d
 rw[List.getElem_range] at e
 rw[← e,show ((q.toNat:Nat):Int)=q by omega]
theorem Qr1 {s:ByteArray}{i:Nat}{u:UInt8}(h:s[i]? =some u):s.extract i (i+1)=⟨#[u]⟩:=by
 have e:i < s.size:=by
  rcases cY i s.size with g | g
  ·exact g
  ·rw[getElem?_neg s i (by omega)] at h; cases h
 have m:s[i]=u:=by rw[dC s i e] at h; exact di h
 have o:s.data[i]'(by simpa using e)=u:=m
 apply ByteArray.ext
 rw[ByteArray.data_extract]
 apply Array.ext
 ·have:i < s.data.size:=e
  simp; omega
 ·intro j r d
  simp at d
  subst d
  simp[o]
theorem Qtk (h:Zc c (k:Int) sig=false):false=decide ((k:Int)∈xS c.2.2 (sig,up)):=(aB fun g=>by
 obtain ⟨a,d,e,o,m⟩:=QgI.1 g
 unfold Zc at h
 rw[cr] at h
 exact h a d (aE ⟨m,e⟩)).symm
theorem Qce (h:SgOk c)(o:a∈c.2.2)(m:a.1=q)(s:a.2.1=sig)(t:0≤sig∧sig≤(c.1.length:Int) - 1)(g:c.2.1[q.toNat]? =some code):decide (bAt code sig=49)= !a.2.2.1:=by
 obtain ⟨r,_,_,e⟩:=h.arcs a o
 have d:Y6 c a.1=code:=by unfold Y6; rw[m,g]; rfl
 have u:=(h.codes code (ae g)).2
 rw[d] at e
 have:=e sig.toNat (by omega)
 unfold Y8 at this
 rw[if_pos (by omega)] at this
 rw[show ((sig.toNat:Nat):Int)=sig by omega] at this
 exact this.1
theorem Qts (s:SgOk c)(h:Zc c (k:Int) sig=true)(A:0≤sig∧sig≤(c.1.length:Int) - 1)(w:c.2.1[k]? =some code):decide (code.extract sig.toNat (sig+1).toNat=YO (!up))=decide ((k:Int)∈xS c.2.2 (sig,up)):=by
 unfold Zc at h
 obtain ⟨a,B,d⟩:=bC.1 h
 have d:=ab d
 have m:c.2.1[((k:Int)).toNat]? =some code:=w
 have r:=Qce s B d.1 d.2 A m
 have G:=(s.codes code (ae w)).2
 obtain ⟨u,t⟩:∃u,code[sig.toNat]? =some u:=⟨_,dC code _ (by omega)⟩
 have F:u=48∨u=49:=(s.codes code (ae w)).1 u (ae (Jl t))
 rw[Zo t] at r
 rw[show (sig+1).toNat=sig.toNat+1 by omega,Qr1 t]
 have o:(k:Int)∈xS c.2.2 (sig,up)↔a.2.2.1=up:=by
  rw[QgI]
  constructor
  ·rintro ⟨b,C,D,v,E⟩
   have e:=Qce s C E D A m
   rw[Zo t,r] at e
   have v:b.2.2.1=up:=v
   rw[← v]
   simpa using e
  ·intro g; exact ⟨a,B,d.2,g,d.1⟩
 rw[bX]
 rw[o]
 unfold YO
 rcases F with rfl | rfl
 ·have:a.2.2.1=true:=by simpa using r.symm
  rw[this]; cases up <;> decide
 ·have:a.2.2.1=false:=by simpa using r.symm
  rw[this]; cases up <;> decide
theorem KL (h:∀a∈c.2.2,InR c.2.1.length a)(g:q∈xS c.2.2 l):0≤q∧q < (c.2.1.length:Int):=by
 obtain ⟨a,d,_,_,e⟩:=QgI.1 g
 rw[← e]; exact (h a d).1
theorem QoM (e:∀a∈c.2.2,InR c.2.1.length a):(xS c.2.2 l).length≤c.2.1.length:=Qgp QgX fun q d=>KL e d
theorem Qju {S:List Int}{as_:List DAr}(m:as_[i]? =some a)(g:true=decide (a.1∈S))(h:true=decide (a.2.2.2∈S))(d:((as_.take i).foldl (lpS S) p)[a.1.toNat]? =some x)(e:((as_.take i).foldl (lpS S) p)[a.2.2.2.toNat]? =some y):
 (((as_.take i).foldl (lpS S) p).set a.1.toNat (min x y)).set a.2.2.2.toNat (min x y)=(as_.take (i+1)).foldl (lpS S) p:=by
 rw[Qw m,bq,aN,bU]
 generalize (as_.take i).foldl (lpS S) p=o at d e
 unfold lpS
 rw[if_pos ⟨ab g.symm,ab h.symm⟩,W5 d,W5 e]
theorem QeX {S:List Int}{as_:List DAr}(d:as_[i]? =some a)(h:¬(a.1∈S∧a.2.2.2∈S)):(as_.take i).foldl (lpS S) p=(as_.take (i+1)).foldl (lpS S) p:=by
 rw[Qw d,bq,aN,bU,Qi3 h]
theorem fls (h:false=decide (q∈p)):¬q∈p:=aa h.symm
theorem Qf5 {S:List Int}(d:true=decide ((i:Int)∈S))(g:p[i]? =some x)(e:x=q):spF S p q i=some (i:Int):=by
 unfold spF
 rw[if_pos ⟨ab d.symm,by rw[W5 (x:=(i:Int)) (by simpa using g)]; exact e⟩]
theorem Qg3 {S:List Int}(d:false=decide ((i:Int)∈S)):spF S p q i=none:=if_neg fun g=>fls d g.1
theorem QgM {S:List Int}(e:p[i]? =some x)(d:¬x=q):spF S p q i=none:=if_neg fun g=>d (by rw[← g.2,W5 (x:=(i:Int)) (by simpa using e)])
theorem rgN {β:Type}{f:Nat→Option β}{y:β}(h:f k=some y):rg f k++[y]=rg f (k+1):=by have:=Yh (B:=[]) h; simpa using this
theorem Qlh {S:List Int}{m:Nat}(e:n≤m)(d:m≤n)(h:0 < ((rg (spF S p (k:Int)) m).length:Int)):rg (lbG S p n) k++[rg (spF S p (k:Int)) m]=rg (lbG S p n) (k+1):=by
 obtain rfl:m=n:=by omega
 exact rgN (by unfold lbG; rw[if_pos h])
theorem QoK {S:List Int}{m:Nat}(e:n≤m)(d:m≤n)(h:¬0 < ((rg (spF S p (k:Int)) m).length:Int)):rg (lbG S p n) k=rg (lbG S p n) (k+1):=by
 obtain rfl:m=n:=by omega
 exact Zq (by unfold lbG; rw[if_neg h])
theorem QpA {S:List Int}{as_:List DAr}:(as_.foldl (lpS S) p).length=p.length:=by
 induction as_ generalizing p with
 | nil=>rfl
 | cons a l d=>rw[aN,d]; unfold lpS; split <;> simp
theorem QjI {S:List Int}{as_:List DAr}:∀{j:Nat},(Q3 (lpR as_ S) j p).length=p.length
 | 0=>rfl
 | j+1=>by rw[Q3,lpR,QpA,QjI]
theorem Qlu:(lpZ n).length=n:=by simp[lpZ]
end
theorem QeH (l:List Int)(D:l.Nodup)(L:l.length≤1000000000):FC Tryz.prog 387 [(false,[.ref 0])] [ar 0 3 .int l] 1 (Is (lR 0) [ar 0 3 .int l]):=by
 refine Qp Tryz.func387 rfl rfl Tryz.ntmps387 fun I s H A J C B=> ?_
 refine w9 ?_
 refine cd_ (fun _ _=> ?_) fun _ _=> ?_
 refine w6 ?_
 refine QD (fun u w=>∃(i:Int),u=((l.length:Int) - i).toNat∧(1≤i∧i≤(l.length:Int))∧w=⟨[(0,lR 0),(3,lI i)],[ar 0 3 .int l]⟩) ⟨1,rfl,(by omega),rfl⟩ ?_ ?_
 exact wo []
 rintro u w ⟨i,E,K,rfl⟩
 refine w7 ?_
 cases g:(decide (i < (l.length:Int)))
 have h:=aa g
 refine w8 ?_
 exact fi_ [] s ⟨rfl,trivial⟩
 have h:=ab g
 refine w4 ?_
 obtain ⟨x,o⟩:=gx l ((i).toNat)
 have F:=o
 obtain ⟨y,r⟩:=gx l ((i - 1).toNat)
 have G:=r
 apply dW (i2 16 _ _ (io 18 (lf (.ept 0 1 ((i).toNat) 0)) :: io 19 (lI x) :: i3 20 _ _ _ [io 23 (lf (.ept 0 1 ((i - 1).toNat) 0)),io 24 (lI y),io 25 _])) [0,1,0,0,15,31,31,15,15,0]
 refine z2 ?_
 refine zz (fun _ d=>ac (QY (e:= .int) (d.v rfl) (d.en 0 rfl) (d.v rfl) Zf ZY rfl (by omega) (by first | omega | (simp only[ay]; omega))) rfl)<|zz (fun _ d=>ac (ZH (e:= .int) (d.v rfl) (d.n 0 rfl) o rfl ZY rfl rfl) rfl) ?_
 refine z3 ?_
 refine zz (fun _ d=>ac (QY (e:= .int) (d.v rfl) (d.en 0 rfl) (d.v rfl) Zf ZY rfl (by omega) (by first | omega | (simp only[ay]; omega))) rfl)<|zz (fun _ d=>ac (ZH (e:= .int) (d.v rfl) (d.n 0 rfl) r rfl ZY rfl rfl) rfl) ?_
 exact y1
 cases m:(decide (x=y))
 have t:=aa m
 refine w7 ?_
 refine Qb<|Zb ⟨(i+1),rfl,(by omega),rfl⟩ (by omega) ?_
 exact wo []
 exact absurd (m.symm.trans (show (decide (x=y))=false from aB (Qvu D (by omega) F G))) (by decide)
 refine w5 ?_
 exact fi_ [] s ⟨rfl,trivial⟩
theorem QjE (l:List Int)(t:l.length≤1000000)(d:l.Nodup):FC Tryz.prog 268 [(false,[.ref 0])] [ar 0 3 .int l] 1 (Is (lR 0) [ar 0 3 .int (ofG ltI l)]):=by
 refine Qp Tryz.func268 rfl rfl Tryz.ntmps268 fun r m o e s h g=> ?_
 refine w5 ?_
 refine lc (dP 1 [] (QlI l (by omega)) Qdx) ?_
 refine w3 ?_
 refine lc (dP 2 [] (QeH (XW l) (QiF d) (by rw[K3]; omega)) QdF) ?_
 refine w3 ?_
 exact fi_ [] m ⟨(Qk (by exact QpU d)),trivial⟩
theorem Qb0 (c:ZX)(l:Int×Bool)(F:c.2.2.length≤100000):FC Tryz.prog 211 [(true,[.dat Ql c.1, .dat Qj c.2.1, .dat Qv c.2.2]),(true,[dI l.1,dB l.2])] [] 0 (YV 3 .int (xS c.2.2 l)):=by
 refine Qp Tryz.func211 rfl rfl Tryz.ntmps211 fun D u C r E t s=> ?_
 refine acG 1 0 fun _=> ?_
 refine w_ ?_
 refine xbx 0 ?_
 refine xbx 1 ?_
 refine w3 ?_
 refine lc (dBs 2 (e:= .int) Yt) ?_
 refine w6 ?_
 refine alL 10 fun _=> ?_
 refine w4 ?_
 refine lp0 c.2.2.length (fun k=>⟨[(3,lP 1 0),(4,lf (.val (.slice none 0 0))),(5,lR 3),(10,lf (.dat Qv c.2.2)),(11,lI (c.2.2.length:Int)),(12,lI (k:Int))],[bx 1 75 [dI l.1,dB l.2],ar 3 3 .int (frL (c.2.2.take k) l)]⟩) ?_ fun k _=> ?_
 exact wp [(3,2)] ⟨rfl,(Qk (by first | rfl | simp)),trivial⟩
 have A:=QrN (as_:=c.2.2.take k) (l:=l)
 have B:(c.2.2.take k).length≤c.2.2.length:=by simp only[ap]; omega
 refine w4 ?_
 cases h:(decide ((k:Int) < (c.2.2.length:Int)))
 have m:=aa h
 refine w5 ?_
 refine lc (dP 4 [(0,3)] (Qau (frL (c.2.2.take k) l) (by omega)) Hy) ?_
 refine w2 ?_
 refine Qd<|fo_ u ?_
 rw[Za (by omega)]; rfl
 have m:=ab h
 refine w5 ?_
 obtain ⟨g,d⟩:=gx c.2.2 k
 refine w2 ?_
 refine lc (xal 5 YE ZG) ?_
 refine w2 ?_
 apply dW [io 16 _,io 17 (ag [dI g.2.1,dB g.2.2.1]),io 18 _,io 19 (lB (Ty.beq Zk (g.2.1,g.2.2.1) l))] [0,0,3,0]
 refine z_ ?_
 refine zz (fun _ o=>ac (dK (XH g) J4) rfl) ?_
 refine z_ ?_
 refine zz (fun _ o=>ac (K4 QdJ Qdd (o.w rfl) (o.w rfl) (p:=(g.2.1,g.2.2.1)) (q:=l) rfl rfl rfl) rfl) ?_
 exact zN
 cases v:(Ty.beq Zk (g.2.1,g.2.2.1) l)
 refine w6 ?_
 refine Qb ?_
 refine l0_ ?_
 exact wp [] ⟨rfl,(Qk (by first | exact QlC d (V0 ‹_›).1 (V0 ‹_›).2 | exact Qqj d (Qa1 ‹_›))),trivial⟩
 refine w5 ?_
 refine alI 22 fun _=> ?_
 refine lc (dBs 6 (e:= .int) Yt) ?_
 refine lc (dA 7 XC) ?_
 refine w_ ?_
 refine Qb ?_
 refine w4 ?_
 refine Qb ?_
 refine l0_ ?_
 exact wp [(3,7)] ⟨rfl,(Qk (by first | exact QlC d (V0 ‹_›).1 (V0 ‹_›).2 | exact Qqj d (Qa1 ‹_›))),trivial⟩
theorem Wy (v:Int)(d:List Int):FC Tryz.prog 346 [(false,[dI v]),(false,[.ptr 0 0])] [bx 0 123 [.dat Qi d]] 1 (Is (lB (d.any (fun y=>decide (v=y)))) [bx 0 123 [.dat Qi d]]):=by
 refine Qp Tryz.func346 rfl rfl Tryz.ntmps346 fun r m o e s h g=> ?_
 refine acI 0 fun _=> ?_
 refine w6 ?_
 refine lc (dK (QG d v) YA) ?_
 refine w3 ?_
 exact fi_ [] m ⟨rfl,trivial⟩
theorem Kf (l:List Int)(d:List Int)(F:l.length≤1000000):FC Tryz.prog 462 [(false,[.ref 1]),(false,[.clo 346 [0]])] [bx 0 123 [.dat Qi d],ar 1 3 .int l] 2 (Is (lI (ZO (fun v:Int=>d.any (fun y=>decide (v=y))) l)) [bx 0 123 [.dat Qi d],ar 1 3 .int l]):=by
 refine Qp Tryz.func462 rfl rfl Tryz.ntmps462 fun D r C s E A w=> ?_
 refine w10 ?_
 refine lpK l.length (fun k=>NoneTo (fun v:Int=>d.any (fun y=>decide (v=y))) l k) (fun k=>⟨[(0,lR 1),(1,lf (.clo 346 [0])),(7,lI (l.length:Int)),(8,lI (k:Int))],[bx 0 123 [.dat Qi d],ar 1 3 .int l]⟩) (NoneTo.zero) ?_ fun k _ e=> ?_
 exact wo []
 refine w4 ?_
 cases g:(decide ((k:Int) < (l.length:Int)))
 have h:=aa g
 refine w7 ?_
 have t:((-1):Int)=(ZO (fun v:Int=>d.any (fun y=>decide (v=y))) l):=by
  first | exact (e.no (by omega)).symm
 exact fi_ [] r ⟨rfl,rfl,trivial⟩ (h0:=by rw[← t] <;> rfl)
 have h:=ab g
 refine w13 ?_
 obtain ⟨o,m⟩:=gx l k
 refine w_ ?_
 refine alI 15 fun _=> ?_
 refine lc (Yz (args0:=[(false,[dI o])]) (caps:=[0]) 2 [(0,0)] (Wy o d) QdH rfl (Qa rfl) rfl rfl ⟨_,_,rfl,(Qo rfl),rfl⟩ ⟨rfl,trivial⟩ rfl ⟨trivial,trivial⟩ (nlr rfl)) ?_
 refine w_ ?_
 cases B:(d.any (fun y=>decide (o=y)))
 refine w6 ?_
 refine Qb ?_
 refine lK_ (e.step m ‹_›) ?_
 exact wo []
 refine w6 ?_
 have u:((k:Int):Int)=(ZO (fun v:Int=>d.any (fun y=>decide (v=y))) l):=by
  exact (e.at m ‹_›).symm
 exact fi_ [] r ⟨rfl,rfl,trivial⟩ (h0:=by rw[u] <;> rfl)
theorem HL (l:List Int)(d:List Int)(N:l.length≤1000000):FC Tryz.prog 345 [(false,[.ref 1]),(false,[.clo 346 [0]])] [bx 0 123 [.dat Qi d],ar 1 3 .int l] 1 (Is (lR 2) [bx 0 123 [.dat Qi d],ar 2 3 .int (l.filter (fun v:Int=> !(d.any (fun y=>decide (v=y)))))]):=by
 have H:=QiI (fun v:Int=>d.any (fun y=>decide (v=y))) l
 refine Qp Tryz.func345 rfl rfl Tryz.ntmps345 fun L u K B M D C=> ?_
 refine w6 ?_
 refine lc (dP 2 [] (Kf l d (by omega)) QdU) ?_
 refine w7 ?_
 refine cd_ (fun _ _=> ?_) fun _ _=> ?_
 refine w8 ?_
 refine QD (fun w A=>∃(i:Int) (j:Int) (g:List Int),w=((g.length:Int) - j).toNat∧(DelI (fun v:Int=> !(d.any (fun y=>decide (v=y)))) l g i j)∧A=⟨[(0,lR 4),(1,lf (.clo 346 [0])),(4,lf (.val (.slice none 0 0))),(5,lI i),(6,lI j)],[bx 0 123 [.dat Qi d],ar 4 3 .int g]⟩) ⟨ZO (fun v:Int=>d.any (fun y=>decide (v=y))) l,(ZO (fun v:Int=>d.any (fun y=>decide (v=y))) l)+1,l,rfl,(DelI.start ‹_›),rfl⟩ ?_ ?_
 exact wo [(4,1)]
 rintro w A ⟨i,j,g,I,o,rfl⟩
 have E:=o.1
 have F:=o.2.1
 refine w7 ?_
 cases r:(decide (j < (g.length:Int)))
 have s:=aa r
 refine w6 ?_
 refine lc (Yl (e:= .int) (a:=(i).toNat) (b:=g.length - (i).toNat) (l:=(some i)) (h:=none) (Qa rfl) rfl (by exact (Qa rfl)) (by exact trivial) Zf ZY rfl (by first | (simp only[ao,ak]; omega) | omega | (simp only[ao,ak,ai,ap,aG]; omega)) (by first | (simp only[ao,ak]; omega) | omega | (simp only[ao,ak,ai,ap,aG]; omega)) (by first | (simp only[ao,ak]; omega) | omega | (simp only[ao,ak,ai,ap,aG]; omega)) (by first | rfl | simp) (by first | rfl | simp))<|lc (QbI (e:= .int) (Qa rfl) rfl (by omega) Zf Yt rfl rfl rfl) ?_
 refine w4 ?_
 refine lc (Yl (e:= .int) (a:=0) (b:=(i).toNat) (l:=none) (h:=(some i)) (Qa rfl) rfl (by exact trivial) (by exact (Qa rfl)) Zf ZY rfl (by first | (simp only[ao,ak]; omega) | omega | (simp only[ao,ak,ai,ap,aG]; omega)) (by first | (simp only[ao,ak]; omega) | omega | (simp only[ao,ak,ai,ap,aG]; omega)) (by first | (simp only[ao,ak]; omega) | omega | (simp only[ao,ak,ai,ap,aG]; omega)) (by first | rfl | simp) (by first | rfl | simp)) ?_
 refine w2 ?_
 refine AC.wk (Qdu 5 4 (e:= .int) (xs:=g.take ((i).toNat)++List.replicate (g.length - (i).toNat) (Ty.zero .int)) rfl rfl (by first | omega | (simp only[ai,ap,aG]; omega)) rfl (Fresh.of rfl) (nlr rfl))<|Qd ?_
 exact fi_ [(2,5)] u ⟨rfl,(Qk (by exact o.end_ ‹_› _ (by omega))),trivial⟩
 have s:=ab r
 refine w8 ?_
 obtain ⟨m,J⟩:=gx g ((j).toNat)
 refine w_ ?_
 refine alI 25 fun _=> ?_
 refine w5 ?_
 refine lc (Yz (args0:=[(false,[dI m])]) (caps:=[0]) 6 [(0,0)] (Wy m d) QdH rfl (Qa rfl) rfl rfl ⟨_,_,rfl,(Qo rfl),rfl⟩ ⟨rfl,trivial⟩ rfl ⟨trivial,trivial⟩ (nlr rfl)) ?_
 refine w2 ?_
 cases G:(d.any (fun y=>decide (m=y)))
 refine w6 ?_
 obtain ⟨O,t⟩:=gx g ((i).toNat)
 refine lc (Qt (e:= .int) (z':=m) (Qa rfl) rfl t rfl (Qo rfl) rfl ZY rfl rfl) ?_
 refine w5 ?_
 refine Qb ?_
 refine w5 ?_
 refine Qb<|Zb ⟨(i+1),(j+1),(g.set ((i).toNat) m),rfl,(by exact o.keep (x:=m) ‹_› (by simp[*])),rfl⟩ (by first | omega | (simp only[ay]; omega)) ?_
 exact wp [] ⟨rfl,(Qk (by first | rfl | simp)),trivial⟩
 refine w7 ?_
 refine Qb<|Zb ⟨i,(j+1),g,rfl,(by exact o.drop_ (x:=m) ‹_› (by simp[*])),rfl⟩ (by first | omega | (simp only[ay]; omega)) ?_
 exact wo []
 refine w5 ?_
 exact fi_ [(2,1)] u ⟨rfl,(Qk (by exact Qbx ‹_›)),trivial⟩
theorem Qdc (s:List Int)(v:s.length≤100000000):FC Tryz.prog 344 [(false,[.dat Qi s])] [] 0 (YV 3 .int s):=by
 refine Qp Tryz.func344 rfl rfl Tryz.ntmps344 fun t g r h u o m=> ?_
 refine w6 ?_
 refine QoV (Qa rfl) Evl.val Zf rfl fun b1 d=> ?_
 refine w_ ?_
 refine cb_ (fun _=> ?_) fun _=> ?_
 refine w2 ?_
 refine lc (dBs 0 (e:= .int) Yt) ?_
 refine w_ ?_
 refine lc (Z4 1 (Qa rfl) rfl (Evl.rep (Qa rfl)) rfl Zf XC (by first | omega | (simp only[ai,aJ,ap,au,aO]; omega) | (simp only[ai,bG,ap,au,aO]; omega)) rfl (Fresh.of rfl) (nlr rfl)) ?_
 refine w2 ?_
 refine Qd<|fo_ g ?_
 rfl
 refine w3 ?_
 refine AC.wk (Wk.nilS 2 2 3 .int rfl (Fresh.of rfl) (nlr rfl))<|Qd<|fo_ g ?_
 exact (d ‹_›).symm
theorem Hn (c:ZX)(zs:List Int)(T:Srt zs)(hl:zs.length≤1000)(ha:c.2.2.length≤4000):FC Tryz.prog 210 [(true,[.dat Ql c.1, .dat Qj c.2.1, .dat Qv c.2.2]),(false,[.dat Qi zs])] [] 0 (QX (lf (.dat Z7 (regV c.2.2 zs)))):=by
 refine Qp Tryz.func210 rfl rfl Tryz.ntmps210 fun O_ hO b5 Y X_ a0 Z=> ?_
 refine w_ ?_
 refine xbx 0 ?_
 refine w3 ?_
 refine lc (dBs 1 (e:=Qi) YR) ?_
 refine w_ ?_
 refine lc (dO 2 (Qdc zs (by omega)) QjB) ?_
 refine w5 ?_
 refine AC.wk (Wk.toFz (q:=1) rfl) ?_
 refine QD (fun Q R=>∃(f:Nat) (left:List Int) (o:List (List Int)),Q=left.length∧(Srt left∧∀v∈left,v∈zs)∧(left.length≤f)∧(o++compL c.2.2 zs f left=compL c.2.2 zs zs.length zs)∧R=⟨[(1,lf (.dat Qi zs)),(2,lP 0 0),(4,lf (.val (.slice none 0 0))),(5,lR 4),(6,lR 3)],[bx 0 28 [.dat Ql c.1, .dat Qj c.2.1, .dat Qv c.2.2],(3,some (.arr 3 .int left)),(4,some (.fz 123 Qi o))]⟩) ⟨zs.length,zs,([]:(Z7:Ty).Den),rfl,⟨T,fun _ h=>h⟩,aK _,rfl,rfl⟩ ?_ ?_
 exact wp [(3,2),(4,1)] ⟨rfl,rfl,(QoY (by first | rfl | simp)),trivial⟩
 rintro Q R ⟨f,left,o,U,J,hf,E,rfl⟩
 have b0:=QpN E
 have a7:left.length≤zs.length:=KX (Qbb J.1) J.2
 refine w6 ?_
 cases K:(decide (0 < (left.length:Int)))
 have L:=aa K
 refine w7 ?_
 refine AC.wk (QcL (i:=4) (q:=4) rfl rfl)<|Qd<|fq_ hO ?_
 exact Qp8 T E (by omega)
 have L:=ab K
 refine w6 ?_
 obtain ⟨x,P⟩:=gx left 0
 have I:=P
 have V:=J.2 x (ae P)
 refine w_ ?_
 refine alI 21 fun _=> ?_
 refine lc (dBs 5 (e:= .int) Yt) ?_
 refine lc (xal 6 Qi YR) ?_
 refine w7 ?_
 refine QD (fun Q R=>∃(k:Nat) (d:List Int),k≤zs.length∧Q=zs.length - k∧(ClI (edL c.2.2 zs) (-1) (fun u=>u=x) k d)∧R=⟨[(1,lf (.dat Qi zs)),(2,lP 0 0),(4,lf (.val (.slice none 0 0))),(5,lR 4),(6,lR 3),(7,lP 6 0),(8,lI (k:Int)),(16,lR 3),(17,lI (left.length:Int)),(18,lB true),(19,lR 3),(20,lf (.ept 3 1 0 0)),(21,lI x)],[bx 0 28 [.dat Ql c.1, .dat Qj c.2.1, .dat Qv c.2.2],(3,some (.arr 3 .int left)),(4,some (.fz 123 Qi o)),bx 6 123 [.ref 7],(7,some (.arr 3 .int d))]⟩) ⟨0,[x],aP _,rfl,(ClI.zero (S:=[x]) (by simp) (fun v=>by simp)),rfl⟩ ?_ ?_
 exact wp [(7,5)] ⟨rfl,rfl,rfl,rfl,(Qk (by first | rfl | simp)),trivial⟩
 rintro Q R ⟨k,d,a5,a9,D,rfl⟩
 have b3:=Qrz T V D
 refine w7 ?_
 cases M:(decide ((k:Int) < (d.length:Int)))
 have N:=aa M
 refine w6 ?_
 refine lc (dP 8 [(0,7)] (QjE d (by omega) D.nod) Hy) ?_
 refine AL.wk (Qi7 (i:=81) (p:=6) (off:=0) (q:=7) rfl rfl rfl rfl)<|lc (H2 9 Wl Yv YR (Qo rfl) (by (exact List.length_pos_of_mem ((X1 ZS _).2 (D.bas _ rfl)))) rfl (Fresh.of rfl) (nlr rfl))<|lc (JR 10 (Qa rfl) rfl (Qa rfl) rfl Wl UZ (by first | omega | (simp only[ai,aJ,ap,au,aO]; omega) | (simp only[ai,bG,ap,au,aO]; omega)) rfl (Fresh.of rfl) (nlr rfl)) ?_
 refine w4 ?_
 refine lc (YZ ⟨_,_,rfl,(Qa rfl),rfl,rfl⟩ rfl) ?_
 refine lc (dP 11 [(0,6),(1,3)] (HL left (ofG ltI d) (by omega)) QjX) ?_
 refine w_ ?_
 refine Qb<|Zb ⟨(f - 1),(left.filter (fun v:Int=> !((ofG ltI d).any (fun y=>decide (v=y))))),(o++([ofG ltI d])),rfl,⟨J.1.filter _,fun v hv=>J.2 v (bl.1 hv).1⟩,(by have:=Qh4 I (D.bas _ rfl); omega),(QnA T I J.2 hf E (D.end_ (by omega))),rfl⟩ (by (rw[U]; exact Qh4 I (D.bas _ rfl))) ?_
 exact wp [(3,13),(4,10)] ⟨rfl,(Qk (by first | rfl | simp)),(QoY (by first | rfl | simp)),trivial⟩
 have N:=ab M
 refine w4 ?_
 refine Zy ?_
 obtain ⟨u,X⟩:=gx d k
 refine w3 ?_
 refine alL 30 fun _=> ?_
 refine w4 ?_
 refine lp0 c.2.2.length (fun i=>⟨[(1,lf (.dat Qi zs)),(2,lP 0 0),(4,lf (.val (.slice none 0 0))),(5,lR 4),(6,lR 3),(7,lP 6 0),(8,lI (k:Int)),(16,lR 3),(17,lI (left.length:Int)),(18,lB true),(19,lR 3),(20,lf (.ept 3 1 0 0)),(21,lI x),(23,lI (k:Int)),(25,lI (d.length:Int)),(26,lB true),(29,lP 0 2),(30,lf (.dat Qv c.2.2)),(31,lI (c.2.2.length:Int)),(32,lI (i:Int))],[bx 0 28 [.dat Ql c.1, .dat Qj c.2.1, .dat Qv c.2.2],(3,some (.arr 3 .int left)),(4,some (.fz 123 Qi o)),bx 6 123 [.ref 14],(14,some (.arr 3 .int ((c.2.2.take i).foldl (pA zs u) d)))]⟩) ?_ fun i _=> ?_
 exact wp [(14,7)] ⟨rfl,rfl,rfl,rfl,(Qk (rfl)),trivial⟩
 have b4:=QpD (S:=zs) (u:=u) (l:=c.2.2.take i) (out:=d)
 have a4:(c.2.2.take i).length≤c.2.2.length:=by simp only[ap]; omega
 refine w4 ?_
 cases w:(decide ((i:Int) < (c.2.2.length:Int)))
 have F:=aa w
 refine w7 ?_
 refine Qb<|Zb ⟨k+1,((c.2.2.take i).foldl (pA zs u) d),by omega,rfl,(by rw[Za (by omega),Qxm]; exact D.step X),rfl⟩ (by omega) ?_
 exact wp [(7,14)] ⟨rfl,rfl,rfl,rfl,(Qk (by first | rfl | simp)),trivial⟩
 have F:=ab w
 refine w5 ?_
 obtain ⟨ar,C⟩:=gx c.2.2 i
 have a2:=C
 have a1:([(ar.1,ar.2.2.2),(ar.2.2.2,ar.1)]:List (Int×Int)).length=2:=rfl
 refine w2 ?_
 refine lc (xal 15 YE ZG) ?_
 refine w5 ?_
 refine alI 37 fun _=> ?_
 refine w2 ?_
 refine alI 39 fun _=> ?_
 refine lc (Qq QgV ⟨_,_,rfl,(Qo rfl),⟨_,_,rfl,(Qo rfl),rfl⟩⟩ (av.1 rfl) rfl rfl) ?_
 refine w4 ?_
 refine lc (Qq QgV ⟨_,_,rfl,(Qo rfl),⟨_,_,rfl,(Qo rfl),rfl⟩⟩ (av.1 rfl) rfl rfl) ?_
 refine lc (dBs 16 (e:=QbB) JB (hab:=by exact ⟨_,_,_,_,rfl,⟨[dI ar.1],[dI ar.2.2.2],_,_,_,_,rfl,rfl,⟨rfl,rfl⟩,⟨rfl,rfl⟩,rfl⟩,⟨_,_,_,_,rfl,⟨[dI ar.2.2.2],[dI ar.1],_,_,_,_,rfl,rfl,⟨rfl,rfl⟩,⟨rfl,rfl⟩,rfl⟩,⟨rfl,rfl⟩,rfl⟩,rfl⟩)) ?_
 refine w4 ?_
 refine lp0 2 (fun j=>⟨[(1,lf (.dat Qi zs)),(2,lP 0 0),(4,lf (.val (.slice none 0 0))),(5,lR 4),(6,lR 3),(7,lP 6 0),(8,lI (k:Int)),(10,lP 15 0),(16,lR 3),(17,lI (left.length:Int)),(18,lB true),(19,lR 3),(20,lf (.ept 3 1 0 0)),(21,lI x),(23,lI (k:Int)),(25,lI (d.length:Int)),(26,lB true),(29,lP 0 2),(30,lf (.dat Qv c.2.2)),(31,lI (c.2.2.length:Int)),(32,lI (i:Int)),(33,lB true),(34,lf (.elt YE ar 0)),(35,ag [dI ar.1,dI ar.2.1,dB ar.2.2.1,dI ar.2.2.2]),(36,lP 15 0),(37,lI ar.1),(38,lP 15 3),(39,lI ar.2.2.2),(40,ag [dI ar.1,dI ar.2.2.2]),(41,lP 15 3),(42,lI ar.2.2.2),(43,lP 15 0),(44,lI ar.1),(45,ag [dI ar.2.2.2,dI ar.1]),(46,lR 16),(47,lI (([(ar.1,ar.2.2.2),(ar.2.2.2,ar.1)]).length:Int)),(48,lI (j:Int))],[bx 0 28 [.dat Ql c.1, .dat Qj c.2.1, .dat Qv c.2.2],(3,some (.arr 3 .int left)),(4,some (.fz 123 Qi o)),bx 6 123 [.ref 17],bx 15 154 [dI ar.1,dI ar.2.1,dB ar.2.2.1,dI ar.2.2.2],(16,some (.arr 359 QbB ([(ar.1,ar.2.2.2),(ar.2.2.2,ar.1)]))),(17,some (.arr 3 .int ((([(ar.1,ar.2.2.2),(ar.2.2.2,ar.1)]:List (Int×Int)).take j).foldl (pE zs u) ((c.2.2.take i).foldl (pA zs u) d))))]⟩) ?_ fun j _=> ?_
 exact wp [(17,14)] ⟨rfl,rfl,rfl,rfl,rfl,rfl,(Qk (rfl)),trivial⟩
 have a3:=QkV (S:=zs) (u:=u) (l:=([(ar.1,ar.2.2.2),(ar.2.2.2,ar.1)]:List (Int×Int)).take j) (out:=(c.2.2.take i).foldl (pA zs u) d)
 have a8:(([(ar.1,ar.2.2.2),(ar.2.2.2,ar.1)]:List (Int×Int)).take j).length≤2:=by simp only[ap]; omega
 have t:((([(ar.1,ar.2.2.2),(ar.2.2.2,ar.1)]:List (Int×Int)).take j).foldl (pE zs u) ((c.2.2.take i).foldl (pA zs u) d))[k]? =some u:=QxV X _ _
 have a6:=(ah.1 t).1
 refine w4 ?_
 cases A:(decide ((j:Int) < (([(ar.1,ar.2.2.2),(ar.2.2.2,ar.1)]).length:Int)))
 have G:=aa A
 refine w6 ?_
 refine Qb ?_
 refine l0_ ?_
 exact wp [(14,17)] ⟨rfl,rfl,rfl,rfl,(Qk (Qsb C (show 2≤j by omega))),trivial⟩
 have G:=ab A
 refine w6 ?_
 obtain ⟨e,O⟩:=gx ([(ar.1,ar.2.2.2),(ar.2.2.2,ar.1)]) j
 have s:=O
 refine w_ ?_
 refine lc (xal 18 QbB JB) ?_
 refine w2 ?_
 cases r:(decide (e.1=u))
 have H:=aa r
 apply dW (i4 52 _ _ _ _ (io 56 (lf (.ept 17 1 k 0)) :: io 57 (lI u) :: io 58 (lB false) :: i9 59 _ _ _ _ _ _ _ _ _ (i4 68 _ _ _ _ []))) [0,0,3,7,3,3,0,0,0,256,256,0,0,0,0,16384,16384,0,0,0]
 refine z4 ?_
 refine zz (fun _ m=>ac (QY (e:= .int) (m.v rfl) (m.en 17 rfl) (m.v rfl) Zf ZY rfl (by omega) (by first | omega | (simp only[ay]; omega))) rfl)<|zz (fun _ m=>ac (ZH (e:= .int) (m.v rfl) (m.n 17 rfl) t rfl ZY rfl rfl) rfl)<|zz (fun _ m=>ac (QS (r) (Kl (m.v rfl) (m.v rfl) rfl)) rfl) ?_
 exact y13
 refine w6 ?_
 refine Qb ?_
 refine l0_ ?_
 exact wp [] ⟨rfl,rfl,rfl,rfl,rfl,rfl,(Qk (by first | exact Qhg s ‹_› ‹_› ‹_› | exact U3 s (fun g=>absurd g.1 ‹_›) | exact U3 s (fun g=>VU ‹_› g.2.1) | exact U3 s (fun g=>g.2.2 (QaP ‹_›)))),trivial⟩
 have H:=ab r
 cases B:(zs.any (fun y=>decide (e.2=y)))
 apply dW (i4 52 _ _ _ _ (io 56 (lf (.ept 17 1 k 0)) :: io 57 (lI u) :: io 58 (lB true) :: i4 59 _ _ _ _ (io 63 (lB false) :: i8 64 _ _ _ _ _ _ _ _ []))) [0,0,3,7,3,3,0,0,0,256,256,0,0,0,0,16384,16384,0,0,0]
 refine z4 ?_
 refine zz (fun _ m=>ac (QY (e:= .int) (m.v rfl) (m.en 17 rfl) (m.v rfl) Zf ZY rfl (by omega) (by first | omega | (simp only[ay]; omega))) rfl)<|zz (fun _ m=>ac (ZH (e:= .int) (m.v rfl) (m.n 17 rfl) t rfl ZY rfl rfl) rfl)<|zz (fun _ m=>ac (QS (r) (Kl (m.v rfl) (m.v rfl) rfl)) rfl) ?_
 refine z4 ?_
 refine zz (fun _ m=>day rfl (m.k rfl) (QS (B) (dK (QG zs e.2) YA)) rfl) ?_
 exact y8
 refine w6 ?_
 refine Qb ?_
 refine l0_ ?_
 exact wp [] ⟨rfl,rfl,rfl,rfl,rfl,rfl,(Qk (by first | exact Qhg s ‹_› ‹_› ‹_› | exact U3 s (fun g=>absurd g.1 ‹_›) | exact U3 s (fun g=>VU ‹_› g.2.1) | exact U3 s (fun g=>g.2.2 (QaP ‹_›)))),trivial⟩
 apply dW (i4 52 _ _ _ _ (io 56 (lf (.ept 17 1 k 0)) :: io 57 (lI u) :: io 58 (lB true) :: i4 59 _ _ _ _ (io 63 (lB true) :: i5 64 _ _ _ _ _ (io 69 (lB (((([(ar.1,ar.2.2.2),(ar.2.2.2,ar.1)]:List (Int×Int)).take j).foldl (pE zs u) ((c.2.2.take i).foldl (pA zs u) d)).any (fun y=>decide (e.2=y)))) :: i2 70 _ _ [])))) [0,0,3,7,3,3,0,0,0,256,256,0,0,0,0,16384,16384,0,0,0]
 refine z4 ?_
 refine zz (fun _ m=>ac (QY (e:= .int) (m.v rfl) (m.en 17 rfl) (m.v rfl) Zf ZY rfl (by omega) (by first | omega | (simp only[ay]; omega))) rfl)<|zz (fun _ m=>ac (ZH (e:= .int) (m.v rfl) (m.n 17 rfl) t rfl ZY rfl rfl) rfl)<|zz (fun _ m=>ac (QS (r) (Kl (m.v rfl) (m.v rfl) rfl)) rfl) ?_
 refine z4 ?_
 refine zz (fun _ m=>day rfl (m.k rfl) (QS (B) (dK (QG zs e.2) YA)) rfl) ?_
 refine z5 ?_
 refine zz (fun _ m=>day rfl (m.k rfl) (dB_ (QG ((([(ar.1,ar.2.2.2),(ar.2.2.2,ar.1)]:List (Int×Int)).take j).foldl (pE zs u) ((c.2.2.take i).foldl (pA zs u) d)) e.2) YA) rfl) ?_
 exact y2
 cases W:(((([(ar.1,ar.2.2.2),(ar.2.2.2,ar.1)]:List (Int×Int)).take j).foldl (pE zs u) ((c.2.2.take i).foldl (pA zs u) d)).any (fun y=>decide (e.2=y)))
 refine w5 ?_
 refine alI 74 fun _=> ?_
 refine lc (dBs 19 (e:= .int) Yt) ?_
 refine lc (dA 20 XC) ?_
 refine w_ ?_
 refine Qb ?_
 refine w4 ?_
 refine Qb ?_
 refine l0_ ?_
 exact wp [(17,20)] ⟨rfl,rfl,rfl,rfl,rfl,rfl,(Qk (by first | exact Qhg s ‹_› ‹_› ‹_› | exact U3 s (fun g=>absurd g.1 ‹_›) | exact U3 s (fun g=>VU ‹_› g.2.1) | exact U3 s (fun g=>g.2.2 (QaP ‹_›)))),trivial⟩
 refine w6 ?_
 refine Qb ?_
 refine l0_ ?_
 exact wp [] ⟨rfl,rfl,rfl,rfl,rfl,rfl,(Qk (by first | exact Qhg s ‹_› ‹_› ‹_› | exact U3 s (fun g=>absurd g.1 ‹_›) | exact U3 s (fun g=>VU ‹_› g.2.1) | exact U3 s (fun g=>g.2.2 (QaP ‹_›)))),trivial⟩
end Go.Proofs.YtndabgcpnmeeoaaGreat
namespace Go.Proofs.YtndabgcpnmeeoaaGreat
open Go.RowKit
set_option maxRecDepth 100000
set_option maxHeartbeats 4000000
theorem Qqm {c:DSg}{l:Int×Bool}(b:∀a∈c.2.2,InR c.2.1.length a):InN (xS c.2.2 l) c.2.1.length:=fun _ d=>KL b d
theorem Qsz {c:DSg}{l:Int×Bool}{k:Nat}(b:∀a∈c.2.2,InR c.2.1.length a)(h:c.2.1.length≤k)(d:k≤c.2.1.length):rg (lbG (xS c.2.2 l) (Q3 (lpR c.2.2 (xS c.2.2 l)) c.2.1.length (lpZ c.2.1.length)) c.2.1.length) k=regV c.2.2 (xS c.2.2 l):=by
 obtain rfl:k=c.2.1.length:=by omega
 exact Quj QgX (Qqm b) (Qsh QgX (Qqm b) (QsO (Qqm b)))
theorem QoC {n k:Nat}(h:n≤k)(a:k≤n):ini (fun i:Nat=>(i:Int)) 0 n k=lpZ n:=QlR h a
theorem Qrd {c:DSg}{l:Int×Bool}{k:Nat}(h:c.2.1.length≤k)(a:k≤c.2.1.length):ini (fun i:Nat=>decide ((i:Int)∈xS c.2.2 l)) false c.2.1.length k=X9 c l:=QlR h a
theorem Qd1 {c:DSg}{l:Int×Bool}{m:Nat}{b:Bool}(h:(X9 c l)[m]? =some b):∀q:Int,q.toNat=m→0≤q→b=decide (q∈xS c.2.2 l):=fun q d a=>by subst d; exact QsA a h
theorem Qmg {α:Type}{f:α→α}{x:α}{n k:Nat}(h:n≤k)(a:k≤n):Q3 f k x=Q3 f n x:=by
 obtain rfl:k=n:=by omega
 rfl
theorem Qf8 (a:Int)(b:Int):FC Tryz.prog 225 [(false,[dI a]),(false,[dI b])] [] 0 (QX (lI (min a b))):=by
 refine Qp Tryz.func225 rfl rfl Tryz.ntmps225 fun h c g d i f e=> ?_
 refine acI 0 fun _=> ?_
 refine acI 1 fun _=> ?_
 refine w9 ?_
 refine cd_ (fun _ _=> ?_) fun _ _=> ?_
 refine w5 ?_
 refine Qd<|fqI c ?_
 omega
 refine w4 ?_
 refine Qd<|fqI c ?_
 omega
theorem Z1 (c:ZX)(sig:Int)(up:Bool)(d:SgOk c):FC Tryz.prog 79 [(true,[.dat Ql c.1, .dat Qj c.2.1, .dat Qv c.2.2]),(false,[dI sig]),(false,[dB up])] [] 0 (QX (lf (.dat Z7 (regV c.2.2 (xS c.2.2 (sig,up)))))):=by
 have m:∀a∈c.2.2,InR c.2.1.length a:=fun a i=>ZL (d.arcs a i)
 have k:=d.some_
 have j:=d.few
 have q:=d.sigs.2.2
 refine Qp Tryz.func79 rfl rfl Tryz.ntmps79 fun o h n e p g f=> ?_
 refine acI 1 fun _=> ?_
 refine w_ ?_
 refine xbx 0 ?_
 refine w2 ?_
 apply dW (i4 7 _ _ _ _ [io 11 (ag [dI sig,dB up]),io 12 (lf (.dat Qi (xS c.2.2 (sig,up)))),io 13 (lf (.dat Z7 (regV c.2.2 (xS c.2.2 (sig,up))))),io 6 _]) [0,1,3,7,3,1,0,0]
 refine z4 ?_
 refine zz (fun _ b=>ac (Qq XJ ⟨_,_,rfl,(b.w rfl),⟨_,_,rfl,(b.w rfl),rfl⟩⟩ (av.1 rfl) rfl rfl) rfl) ?_
 refine zz (fun _ b=>ac (dK (Qb0 c (sig,up) (by omega)).frozen Qjk) rfl) ?_
 refine zz (fun _ b=>ac (dK (Hn c (xS c.2.2 (sig,up)) QgX (by have:=QoM (l:=(sig,up)) m; omega) (by omega)) Qkq) rfl) ?_
 exact y1
 refine w_ ?_
 exact fe_ h
theorem Xw (c:ZX)(sig:Int)(up:Bool)[∀c,Decidable (SgOk c)]:FC Tryz.prog 106 [(true,[.dat Ql c.1, .dat Qj c.2.1, .dat Qv c.2.2]),(false,[dI sig]),(false,[dB up])] [] 0 (QX (PV.tup [(false,[.dat Z7 (if ((0≤sig∧sig≤(c.1.length:Int) - 1)∧QR c sig=false∧SgOk c∧QL c=QB) then regV c.2.2 (xS c.2.2 (sig,up)) else [])]),(false,[dB (decide ((0≤sig∧sig≤(c.1.length:Int) - 1)∧QR c sig=false∧SgOk c∧QL c=QB))])])):=by
 refine Qp Tryz.func106 rfl rfl Tryz.ntmps106 fun o d n f p m l=> ?_
 refine acI 1 fun _=> ?_
 refine w_ ?_
 refine xbx 0 ?_
 refine w7 ?_
 refine lc (dK (Qae c sig) Qkv) ?_
 refine w2 ?_
 cases a:(decide ((0≤sig∧sig≤(c.1.length:Int) - 1)∧QR c sig=false∧SgOk c∧QL c=QB))
 have b:=aa a
 refine w5 ?_
 refine AC.wk (Qaq (i:=6) 123 Qi rfl)<|Qd ?_
 have g:([]:(Z7:Ty).Den)=(if ((0≤sig∧sig≤(c.1.length:Int) - 1)∧QR c sig=false∧SgOk c∧QL c=QB) then regV c.2.2 (xS c.2.2 (sig,up)) else []):=by
  (rw[if_neg ‹_›]; done)
 have h:(false:Bool)=(decide ((0≤sig∧sig≤(c.1.length:Int) - 1)∧QR c sig=false∧SgOk c∧QL c=QB)):=by
  exact (if_neg ‹_›).symm
 exact fr_ d (e:=((congrArg (fun z_=>PV.tup [(false,[.dat Z7 z_]),(false,[dB false])]) g)).trans (congrArg (fun z_=>PV.tup [(false,[.dat Z7 (if ((0≤sig∧sig≤(c.1.length:Int) - 1)∧QR c sig=false∧SgOk c∧QL c=QB) then regV c.2.2 (xS c.2.2 (sig,up)) else [])]),(false,[dB z_])]) h))
 have b:=ab a
 refine w6 ?_
 refine lc (dK (Z1 c sig up (by assumption:((0≤sig∧sig≤(c.1.length:Int) - 1)∧QR c sig=false∧SgOk c∧QL c=QB)).2.2.1) Jm) ?_
 refine w4 ?_
 have j:(regV c.2.2 (xS c.2.2 (sig,up)):(Z7:Ty).Den)=(if ((0≤sig∧sig≤(c.1.length:Int) - 1)∧QR c sig=false∧SgOk c∧QL c=QB) then regV c.2.2 (xS c.2.2 (sig,up)) else []):=by
  (rw[if_pos ‹_›]; done)
 have k:(true:Bool)=(decide ((0≤sig∧sig≤(c.1.length:Int) - 1)∧QR c sig=false∧SgOk c∧QL c=QB)):=by
  exact (if_pos ‹_›).symm
 exact fr_ d (e:=((congrArg (fun z_=>PV.tup [(false,[.dat Z7 z_]),(false,[dB true])]) j)).trans (congrArg (fun z_=>PV.tup [(false,[.dat Z7 (if ((0≤sig∧sig≤(c.1.length:Int) - 1)∧QR c sig=false∧SgOk c∧QL c=QB) then regV c.2.2 (xS c.2.2 (sig,up)) else [])]),(false,[dB z_])]) k))
theorem QeG (c:ZX)(sig:Int)(up:Bool)(j:SgOk c)(t:0≤sig∧sig≤(c.1.length:Int) - 1):FC Tryz.prog 224 [(true,[.dat Ql c.1, .dat Qj c.2.1, .dat Qv c.2.2]),(false,[dI sig]),(false,[dB up])] [] 0 (YV 4 .bool (X9 c (sig,up))):=by
 have L:∀a∈c.2.2,InR c.2.1.length a:=fun a B=>ZL (j.arcs a B)
 have F:=j.some_
 have D:=j.few
 have K:=j.sigs.2.2
 refine Qp Tryz.func224 rfl rfl Tryz.ntmps224 fun I A G u J y x=> ?_
 refine acI 1 fun _=> ?_
 refine w_ ?_
 refine xbx 0 ?_
 refine w5 ?_
 refine alL 11 fun _=> ?_
 refine w_ ?_
 refine lc (Xr 1 (e:= .bool) (n:=c.2.1.length) (Qa rfl) (Qa rfl) H0 QpO rfl (by omega) (by omega) rfl (Fresh.of rfl) (nlr rfl)) ?_
 refine w6 ?_
 refine alL 15 fun _=> ?_
 refine w4 ?_
 refine lp0 c.2.1.length (fun k=>⟨[(1,lI sig),(2,lB up),(3,lP 0 0),(6,lf (.val (.slice none 0 0))),(7,lR 2),(15,lf (.dat Qj c.2.1)),(16,lI (c.2.1.length:Int)),(17,lI (k:Int))],[bx 0 28 [.dat Ql c.1, .dat Qj c.2.1, .dat Qv c.2.2],ar 2 4 .bool (ini (fun i:Nat=>decide ((i:Int)∈xS c.2.2 (sig,up))) false c.2.1.length k)]⟩) ?_ fun k _=> ?_
 exact wp [(2,1)] ⟨rfl,(Qk (Qth)),trivial⟩
 have E:=QmD (f:=fun i:Nat=>decide ((i:Int)∈xS c.2.2 (sig,up))) (z:=false) (n:=c.2.1.length) (k:=k) (by omega)
 refine w4 ?_
 cases m:(decide ((k:Int) < (c.2.1.length:Int)))
 have o:=aa m
 refine w7 ?_
 refine Qd<|fo_ A ?_
 exact Qrd (by omega) (by omega)
 have o:=ab m
 refine w6 ?_
 obtain ⟨d,s⟩:=gx c.2.1 k
 have g:=s
 have C:=(j.codes d (ae s)).2
 refine w5 ?_
 cases p:(Zc c (k:Int) sig)
 obtain ⟨M,q⟩:=gx (ini (fun i:Nat=>decide ((i:Int)∈xS c.2.2 (sig,up))) false c.2.1.length k) k
 apply dV (i5 22 _ _ _ _ _ (io 27 (lB false) :: i9 28 _ _ _ _ _ _ _ _ _ (i2 37 _ _ [io 39 (lf (.ept 2 1 k 0)),⟨none,lf (.val undef),[ar 2 4 .bool ((ini (fun i:Nat=>decide ((i:Int)∈xS c.2.2 (sig,up))) false c.2.1.length k).set k false)]⟩]))) [0,1,3,7,15,3,3,3,131,387,387,3,3971,3971,3971,3,3,0,0]
 refine z5 ?_
 refine zz (fun _ b=>ac (QS (p) (dK (ZB c (k:Int) sig) Xk)) rfl) ?_
 refine z11 ?_
 refine zz (fun _ b=>ac (QY (e:= .bool) (b.v rfl) (b.en 2 rfl) (b.v rfl) H0 Up rfl (by omega) (by first | omega | (simp only[ay]; omega))) rfl)<|zz (fun _ b=>ac (Qt (e:= .bool) (z':=false) (b.v rfl) (b.n 2 rfl) q rfl (b.w rfl) rfl Up rfl rfl) rfl) ?_
 exact zN
 refine w4 ?_
 refine Qb ?_
 refine l0_ ?_
 exact wp [] ⟨rfl,(Qk (Qg6 (by omega) (by first | exact Qtk ‹_› | exact Qts j ‹_› t g))),trivial⟩
 obtain ⟨H,r⟩:=gx (ini (fun i:Nat=>decide ((i:Int)∈xS c.2.2 (sig,up))) false c.2.1.length k) k
 apply dV (i5 22 _ _ _ _ _ (io 27 (lB true) :: i5 28 _ _ _ _ _ (io 33 (lf (dS (d.extract (sig).toNat (sig+1).toNat))) :: i2 34 _ _ (io 36 (lf (dS (YO (!up)))) :: i2 37 _ _ [io 39 (lf (.ept 2 1 k 0)),⟨none,lf (.val undef),[ar 2 4 .bool ((ini (fun i:Nat=>decide ((i:Int)∈xS c.2.2 (sig,up))) false c.2.1.length k).set k (decide ((d.extract (sig).toNat (sig+1).toNat)=(YO (!up)))))]⟩])))) [0,1,3,7,15,3,3,3,131,387,387,3,3971,3971,3971,3,3,0,0]
 refine z5 ?_
 refine zz (fun _ b=>ac (QS (p) (dK (ZB c (k:Int) sig) Xk)) rfl) ?_
 refine z5 ?_
 refine zz (fun _ b=>day rfl (b.k rfl) (show Does _ _ _ _ (St.put _ 33 (lf (dS (d.extract (sig).toNat (sig+1).toNat)))) from Zj (l:=(some sig)) (h:=(some (sig+1))) (b.v rfl) (by exact (b.v rfl)) (by exact (b.v rfl)) Zz rfl (by first | omega | (simp only[ao,ak]; omega)) (by first | omega | (simp only[ao,ak]; omega)) (by first | omega | (simp only[ao,ak]; omega))) rfl) ?_
 refine z2 ?_
 refine zz (fun _ b=>day rfl (b.k rfl) (dK (Y2 (!up)) Wp) rfl) ?_
 refine z2 ?_
 refine zz (fun _ b=>ac (QY (e:= .bool) (b.v rfl) (b.en 2 rfl) (b.v rfl) H0 Up rfl (by omega) (by first | omega | (simp only[ay]; omega))) rfl)<|zz (fun _ b=>ac (Qt (e:= .bool) (z':=decide ((d.extract (sig).toNat (sig+1).toNat)=(YO (!up)))) (b.v rfl) (b.n 2 rfl) r rfl (b.w rfl) rfl Up rfl rfl) rfl) ?_
 exact zN
 refine w4 ?_
 refine Qb ?_
 refine l0_ ?_
 exact wp [] ⟨rfl,(Qk (Qg6 (by omega) (by first | exact Qtk ‹_› | exact Qts j ‹_› t g))),trivial⟩
theorem Z2 (c:ZX)(sig:Int)(up:Bool)(T:SgOk c)(hg:0≤sig∧sig≤(c.1.length:Int) - 1):FC Tryz.prog 84 [(true,[.dat Ql c.1, .dat Qj c.2.1, .dat Qv c.2.2]),(false,[dI sig]),(false,[dB up])] [] 0 (YV 123 Qi (regV c.2.2 (xS c.2.2 (sig,up)))):=by
 have hr:∀a∈c.2.2,InR c.2.1.length a:=fun a ha=>ZL (T.arcs a ha)
 have b6:=T.some_
 have b0:=T.few
 have h8:=T.sigs.2.2
 have S:=QoB (c:=c) (l:=(sig,up))
 have b9:(List.replicate (X9 c (sig,up)).length (Ty.zero .int)).length=c.2.1.length:=by rw[aG]; exact S
 refine Qp Tryz.func84 rfl rfl Tryz.ntmps84 fun O_ hO c0 a3 X_ a5 a4=> ?_
 refine acI 1 fun _=> ?_
 refine w_ ?_
 refine xbx 0 ?_
 refine w6 ?_
 refine lc (dK (QeG c sig up T hg).frozen Qi4) ?_
 refine w4 ?_
 refine alL 21 fun _=> ?_
 refine w_ ?_
 refine lc (Xr 1 (e:= .int) (n:=(X9 c (sig,up)).length) (Qa rfl) (Qa rfl) Zf QhG rfl (by omega) (by omega) rfl (Fresh.of rfl) (nlr rfl)) ?_
 refine w9 ?_
 refine lp0 c.2.1.length (fun k=>⟨[(3,lP 0 0),(6,lf (.val (.slice none 0 0))),(7,lf (.dat Qfg (X9 c (sig,up)))),(8,lR 2),(25,lI ((List.replicate ((X9 c (sig,up)).length) (Ty.zero .int)).length:Int)),(26,lI (k:Int))],[bx 0 28 [.dat Ql c.1, .dat Qj c.2.1, .dat Qv c.2.2],(2,some (.arr 3 .int (ini (fun i:Nat=>(i:Int)) 0 c.2.1.length k)))]⟩) ?_ fun k _=> ?_
 exact wp [(2,1)] ⟨rfl,(Qk ((by rw[S]; exact Qth))),trivial⟩
 have b5:=QmD (f:=fun i:Nat=>(i:Int)) (z:=0) (n:=c.2.1.length) (k:=k) (by omega)
 refine w4 ?_
 cases O:(decide ((k:Int) < ((List.replicate ((X9 c (sig,up)).length) (Ty.zero .int)).length:Int)))
 have P:=aa O
 refine w4 ?_
 refine Zy ?_
 rw[QoC (by omega) (by omega)]
 refine w2 ?_
 refine alL 34 fun _=> ?_
 refine w4 ?_
 refine lp0 c.2.1.length (fun j=>⟨[(3,lP 0 0),(6,lf (.val (.slice none 0 0))),(7,lf (.dat Qfg (X9 c (sig,up)))),(8,lR 3),(35,lI ((X9 c (sig,up)).length:Int)),(36,lI (j:Int))],[bx 0 28 [.dat Ql c.1, .dat Qj c.2.1, .dat Qv c.2.2],(3,some (.arr 3 .int (Q3 (lpR c.2.2 (xS c.2.2 (sig,up))) j (lpZ c.2.1.length))))]⟩) ?_ fun j _=> ?_
 exact wp [(3,2)] ⟨rfl,(Qk (rfl)),trivial⟩
 refine w4 ?_
 cases Q:(decide ((j:Int) < ((X9 c (sig,up)).length:Int)))
 have R:=aa Q
 refine w3 ?_
 refine Zy ?_
 rw[Qmg (n:=c.2.1.length) (by omega) (by omega)]
 refine w6 ?_
 refine alL 80 fun _=> ?_
 refine w4 ?_
 refine AC.wk (Wk.nilS 4 13 123 Qi rfl (Fresh.of rfl) (nlr rfl)) ?_
 refine lp0 c.2.1.length (fun k=>⟨[(6,lf (.val (.slice none 0 0))),(7,lf (.dat Qfg (X9 c (sig,up)))),(8,lR 3),(13,lR 5),(81,lI ((X9 c (sig,up)).length:Int)),(82,lI (k:Int))],[(3,some (.arr 3 .int (Q3 (lpR c.2.2 (xS c.2.2 (sig,up))) c.2.1.length (lpZ c.2.1.length)))),(5,some (.arr 123 Qi (rg (lbG (xS c.2.2 (sig,up)) (Q3 (lpR c.2.2 (xS c.2.2 (sig,up))) c.2.1.length (lpZ c.2.1.length)) c.2.1.length) k)))]⟩) ?_ fun k _=> ?_
 exact wp [(5,4)] ⟨rfl,(Qk (rfl)),trivial⟩
 have b4:=V4 (f:=lbG (xS c.2.2 (sig,up)) (Q3 (lpR c.2.2 (xS c.2.2 (sig,up))) c.2.1.length (lpZ c.2.1.length)) c.2.1.length) (m:=k)
 have b8:(Q3 (lpR c.2.2 (xS c.2.2 (sig,up))) c.2.1.length (lpZ c.2.1.length)).length=c.2.1.length:=by rw[QjI,Qlu]
 refine w4 ?_
 cases s:(decide ((k:Int) < ((X9 c (sig,up)).length:Int)))
 have E:=aa s
 refine w7 ?_
 refine Qd<|fo_ hO ?_
 exact Qsz hr (by omega) (by omega)
 have E:=ab s
 refine w14 ?_
 refine alL 85 fun _=> ?_
 refine w4 ?_
 refine AC.wk (Wk.nilS 6 15 3 .int rfl (Fresh.of rfl) (nlr rfl)) ?_
 refine lp0 c.2.1.length (fun i=>⟨[(6,lf (.val (.slice none 0 0))),(7,lf (.dat Qfg (X9 c (sig,up)))),(8,lR 3),(13,lR 5),(14,lI (k:Int)),(15,lR 7),(81,lI ((X9 c (sig,up)).length:Int)),(82,lI (k:Int)),(83,lB true),(84,lI (k:Int)),(85,lf (.dat Qfg (X9 c (sig,up)))),(86,lI ((X9 c (sig,up)).length:Int)),(87,lI (i:Int))],[(3,some (.arr 3 .int (Q3 (lpR c.2.2 (xS c.2.2 (sig,up))) c.2.1.length (lpZ c.2.1.length)))),(5,some (.arr 123 Qi (rg (lbG (xS c.2.2 (sig,up)) (Q3 (lpR c.2.2 (xS c.2.2 (sig,up))) c.2.1.length (lpZ c.2.1.length)) c.2.1.length) k))),(7,some (.arr 3 .int (rg (spF (xS c.2.2 (sig,up)) (Q3 (lpR c.2.2 (xS c.2.2 (sig,up))) c.2.1.length (lpZ c.2.1.length)) (k:Int)) i)))]⟩) ?_ fun i _=> ?_
 exact wp [(7,6)] ⟨rfl,rfl,(Qk (rfl)),trivial⟩
 have b3:=V4 (f:=spF (xS c.2.2 (sig,up)) (Q3 (lpR c.2.2 (xS c.2.2 (sig,up))) c.2.1.length (lpZ c.2.1.length)) (k:Int)) (m:=i)
 refine w4 ?_
 cases t:(decide ((i:Int) < ((X9 c (sig,up)).length:Int)))
 have F:=aa t
 refine w8 ?_
 cases u:(decide (0 < ((rg (spF (xS c.2.2 (sig,up)) (Q3 (lpR c.2.2 (xS c.2.2 (sig,up))) c.2.1.length (lpZ c.2.1.length)) (k:Int)) i).length:Int)))
 have G:=aa u
 refine w6 ?_
 refine Qb ?_
 refine l0_ ?_
 exact wp [] ⟨rfl,(Qk (by first | exact Qlh (m:=i) (by omega) (by omega) ‹_› | exact QoK (m:=i) (by omega) (by omega) ‹_›)),trivial⟩
 have G:=ab u
 refine w4 ?_
 refine lc (dBs 8 (e:=Qi) YR (hab:=by exact ⟨_,_,_,_,rfl,(.inl ⟨_,rfl,rfl,rfl⟩),⟨rfl,rfl⟩,rfl⟩)) ?_
 refine lc (dA 9 UZ) ?_
 refine w_ ?_
 refine Qb ?_
 refine w4 ?_
 refine Qb ?_
 refine l0_ ?_
 exact wp [(5,9)] ⟨rfl,(Qk (by first | exact Qlh (m:=i) (by omega) (by omega) ‹_› | exact QoK (m:=i) (by omega) (by omega) ‹_›)),trivial⟩
 have F:=ab t
 refine w11 ?_
 obtain ⟨D,U⟩:=gx (X9 c (sig,up)) i
 have p:=Qd1 U
 refine w3 ?_
 cases a0:(D)
 refine w14 ?_
 refine Qb ?_
 refine l0_ ?_
 exact wp [] ⟨rfl,rfl,(Qk (by first | exact rgN (Qf5 ((by assumption:D=true).symm.trans (p (i:Int) rfl (by omega))) q ‹_›) | exact Zq (Qg3 ((by assumption:D=false).symm.trans (p (i:Int) rfl (by omega)))) | exact Zq (QgM q ‹_›))),trivial⟩
 refine w3 ?_
 obtain ⟨pi,V⟩:=gx (Q3 (lpR c.2.2 (xS c.2.2 (sig,up))) c.2.1.length (lpZ c.2.1.length)) i
 have q:=V
 refine w5 ?_
 cases w:(decide (pi=(k:Int)))
 have H:=aa w
 refine w6 ?_
 refine Qb ?_
 refine l0_ ?_
 exact wp [] ⟨rfl,rfl,(Qk (by first | exact rgN (Qf5 ((by assumption:D=true).symm.trans (p (i:Int) rfl (by omega))) q ‹_›) | exact Zq (Qg3 ((by assumption:D=false).symm.trans (p (i:Int) rfl (by omega)))) | exact Zq (QgM q ‹_›))),trivial⟩
 have H:=ab w
 refine w4 ?_
 refine lc (dBs 10 (e:= .int) Yt) ?_
 refine lc (dA 11 XC) ?_
 refine w_ ?_
 refine Qb ?_
 refine w4 ?_
 refine Qb ?_
 refine l0_ ?_
 exact wp [(7,11)] ⟨rfl,rfl,(Qk (by first | exact rgN (Qf5 ((by assumption:D=true).symm.trans (p (i:Int) rfl (by omega))) q ‹_›) | exact Zq (Qg3 ((by assumption:D=false).symm.trans (p (i:Int) rfl (by omega)))) | exact Zq (QgM q ‹_›))),trivial⟩
 have R:=ab Q
 refine w7 ?_
 refine alL 39 fun _=> ?_
 refine w4 ?_
 refine lp0 c.2.2.length (fun i=>⟨[(3,lP 0 0),(6,lf (.val (.slice none 0 0))),(7,lf (.dat Qfg (X9 c (sig,up)))),(8,lR 12),(35,lI ((X9 c (sig,up)).length:Int)),(36,lI (j:Int)),(37,lB true),(38,lP 0 2),(39,lf (.dat Qv c.2.2)),(40,lI (c.2.2.length:Int)),(41,lI (i:Int))],[bx 0 28 [.dat Ql c.1, .dat Qj c.2.1, .dat Qv c.2.2],(12,some (.arr 3 .int ((c.2.2.take i).foldl (lpS (xS c.2.2 (sig,up))) (Q3 (lpR c.2.2 (xS c.2.2 (sig,up))) j (lpZ c.2.1.length)))))]⟩) ?_ fun i _=> ?_
 exact wp [(12,3)] ⟨rfl,(Qk (rfl)),trivial⟩
 have b7:((c.2.2.take i).foldl (lpS (xS c.2.2 (sig,up))) (Q3 (lpR c.2.2 (xS c.2.2 (sig,up))) j (lpZ c.2.1.length))).length=c.2.1.length:=by rw[QpA,QjI,Qlu]
 refine w4 ?_
 cases x:(decide ((i:Int) < (c.2.2.length:Int)))
 have I:=aa x
 refine w6 ?_
 refine Qb ?_
 refine l0_ ?_
 exact wp [(3,12)] ⟨rfl,(Qk ((by rw[Za (by omega)]; rfl))),trivial⟩
 have I:=ab x
 refine w5 ?_
 obtain ⟨ar,y⟩:=gx c.2.2 i
 have N:=hr _ (ae y)
 obtain ⟨⟨a6,a7⟩,a8,a9⟩:=N
 have b:=y
 refine w2 ?_
 refine lc (xal 13 YE ZG) ?_
 refine w6 ?_
 refine alI 47 fun _=> ?_
 obtain ⟨B,W⟩:=gx (X9 c (sig,up)) ((ar.1).toNat)
 have h:=Qd1 W
 refine w3 ?_
 cases a1:(B)
 refine w13 ?_
 refine Qb ?_
 refine l0_ ?_
 exact wp [] ⟨rfl,(Qk (by first | exact Qju b ((by assumption:B=true).symm.trans (h _ rfl (by omega))) ((by assumption:C=true).symm.trans (o _ rfl (by omega))) J K | exact QeX b (fun g=>fls ((by assumption:B=false).symm.trans (h _ rfl (by omega))) g.1) | exact QeX b (fun g=>fls ((by assumption:C=false).symm.trans (o _ rfl (by omega))) g.2))),trivial⟩
 refine w3 ?_
 obtain ⟨C,X⟩:=gx (X9 c (sig,up)) ((ar.2.2.2).toNat)
 have o:=Qd1 X
 refine w4 ?_
 cases a2:(C)
 refine w6 ?_
 refine Qb ?_
 refine l0_ ?_
 exact wp [] ⟨rfl,(Qk (by first | exact Qju b ((by assumption:B=true).symm.trans (h _ rfl (by omega))) ((by assumption:C=true).symm.trans (o _ rfl (by omega))) J K | exact QeX b (fun g=>fls ((by assumption:B=false).symm.trans (h _ rfl (by omega))) g.1) | exact QeX b (fun g=>fls ((by assumption:C=false).symm.trans (o _ rfl (by omega))) g.2))),trivial⟩
 refine w_ ?_
 obtain ⟨L,r⟩:=gx ((c.2.2.take i).foldl (lpS (xS c.2.2 (sig,up))) (Q3 (lpR c.2.2 (xS c.2.2 (sig,up))) j (lpZ c.2.1.length))) ((ar.1).toNat)
 have J:=r
 obtain ⟨M,A⟩:=gx ((c.2.2.take i).foldl (lpS (xS c.2.2 (sig,up))) (Q3 (lpR c.2.2 (xS c.2.2 (sig,up))) j (lpZ c.2.1.length))) ((ar.2.2.2).toNat)
 have K:=A
 apply dW (i3 57 _ _ _ (io 60 (lf (.ept 12 1 ((ar.1).toNat) 0)) :: io 61 (lI L) :: i3 62 _ _ _ [io 65 (lf (.ept 12 1 ((ar.2.2.2).toNat) 0)),io 66 (lI M),io 67 (lI (min L M)),io 12 _])) [0,1,1,0,0,31,63,63,31,31,0,0]
 refine z3 ?_
 refine zz (fun _ d=>ac (QY (e:= .int) (d.v rfl) (d.en 12 rfl) (d.v rfl) Zf ZY rfl (by omega) (by first | omega | (simp only[ay]; omega))) rfl)<|zz (fun _ d=>ac (ZH (e:= .int) (d.v rfl) (d.n 12 rfl) r rfl ZY rfl rfl) rfl) ?_
 refine z3 ?_
 refine zz (fun _ d=>ac (QY (e:= .int) (d.v rfl) (d.en 12 rfl) (d.v rfl) Zf ZY rfl (by omega) (by first | omega | (simp only[ay]; omega))) rfl)<|zz (fun _ d=>ac (ZH (e:= .int) (d.v rfl) (d.n 12 rfl) A rfl ZY rfl rfl) rfl) ?_
 refine zz (fun _ d=>ac (dK (Qf8 L M) Qji) rfl) ?_
 exact y1
 refine w6 ?_
 refine lc (Qt (e:= .int) (z':=min L M) (Qa rfl) rfl r rfl (Qo rfl) rfl ZY rfl rfl) ?_
 refine w5 ?_
 refine alI 75 fun _=> ?_
 refine w2 ?_
 obtain ⟨c1,Y⟩:∃z,(((c.2.2.take i).foldl (lpS (xS c.2.2 (sig,up))) (Q3 (lpR c.2.2 (xS c.2.2 (sig,up))) j (lpZ c.2.1.length))).set ((ar.1).toNat) (min L M))[(ar.2.2.2).toNat]? =some z:=⟨_,aj (by first | omega | (simp only[ay]; omega))⟩
 refine lc (Qt (e:= .int) (z':=min L M) (Qa rfl) rfl Y rfl (Qo rfl) rfl ZY rfl rfl)<|Qb ?_
 refine w4 ?_
 refine Qb ?_
 refine l0_ ?_
 exact wp [] ⟨rfl,(Qk (by first | exact Qju b ((by assumption:B=true).symm.trans (h _ rfl (by omega))) ((by assumption:C=true).symm.trans (o _ rfl (by omega))) J K | exact QeX b (fun g=>fls ((by assumption:B=false).symm.trans (h _ rfl (by omega))) g.1) | exact QeX b (fun g=>fls ((by assumption:C=false).symm.trans (o _ rfl (by omega))) g.2))),trivial⟩
 have P:=ab O
 refine w13 ?_
 obtain ⟨c2,Z⟩:=gx (ini (fun i:Nat=>(i:Int)) 0 c.2.1.length k) k
 refine lc (Qt (e:= .int) (z':=(k:Int)) (Qa rfl) rfl Z rfl (Qo rfl) rfl ZY rfl rfl)<|Qb ?_
 refine w4 ?_
 refine Qb ?_
 refine l0_ ?_
 exact wp [] ⟨rfl,(Qk (Qg6 (by omega) rfl)),trivial⟩
end Go.Proofs.YtndabgcpnmeeoaaGreat
