/- Walks over abstract states: circuits of a state graph, both sides. -/
import Derived.Test.YtjfpbcmfbnnooaaGreatGKg
import Derived.Test.YtjfpbcmfbnnooaaGreatGHw
import Derived.Test.YtjfpbcmfbnnooaaGreatGUa
set_option linter.unusedSimpArgs false
set_option linter.unusedVariables false
set_option linter.unusedSectionVars false
namespace Go.Proofs.YtjfpbcmfbnnooaaGreat
open Go.RowKit
set_option maxRecDepth 100000
set_option maxHeartbeats 4000000
section
variable [∀c,Decidable (SgOk c)]{c:DSg}{sig:Int}{w:Bool}{k:Nat}{g:DGt}{gs:List DGt}
abbrev mcU (c:DSg)(sig:Int)(way:ByteArray):List ByteArray:=mcV (c.1.length:Int) (Qp c sig way).1 (Qp c sig way).2
abbrev Qdo (c:DSg)(sig:Int)(way:ByteArray):Bool:=mcB (c.1.length:Int) (Qp c sig way).1 (Qp c sig way).2
def gcV (c:DSg)(sig:Int):DGt:=if Qv c sig upT∧Qv c sig QO then (sig,2,mcU c sig upT,mcU c sig QO) else (0,0,[],[])
theorem QuY (h:Qv c sig upT)(a:Qv c sig QO):gcV c sig=(sig,2,mcU c sig upT,mcU c sig QO)∧Zs c true sig=(Qdo c sig upT&&Qdo c sig QO):=by
 refine ⟨if_pos ⟨h,a⟩,?_⟩
 unfold Zs
 rw[if_pos rfl,aN h,aN a];rfl
theorem Qwe (h:¬Qv c sig upT):gcV c sig=(0,0,[],[])∧Zs c true sig=false:=by
 refine ⟨if_neg fun g=>h g.1,?_⟩
 unfold Zs
 rw[if_pos rfl,ay h];rfl
theorem Qwf (h:¬Qv c sig QO):gcV c sig=(0,0,[],[])∧Zs c true sig=false:=by
 refine ⟨if_neg fun g=>h g.2,?_⟩
 unfold Zs
 rw[if_pos rfl,ay h,Bool.and_false];rfl
theorem Qy2 (h:Zs c true sig=true):gcV c sig=YX c true sig:=by
 rw[(QuY (Qil h).1.1 (Qil h).1.2).1,Qxc]
theorem YT {a:ByteArray}(h:Qv c sig a):OOk (c.1.length:Int) (Qp c sig a).1 (Qp c sig a).2:=by rw[Qgh h];exact h.2
theorem QdX {a:ByteArray}(h:Qv c sig a):mnV (c.1.length:Int) (Qp c sig a).1 (Qp c sig a).2=(mcU c sig a,Qdo c sig a):=Qxu (YT h)
theorem QA3 (h:Qv c sig QL):Zs c false sig=Qdo c sig QL∧YX c false sig=(sig,1,mcU c sig QL,[]):=by
 refine ⟨?_,?_⟩
 ·unfold Zs
  rw[if_neg Bool.false_ne_true]
  exact (Qvh h).2
 ·rw[Qmv,(Qvh h).1]
theorem QyZ (h:¬Qv c sig QL):Zs c false sig=false:=by
 unfold Zs
 rw[if_neg Bool.false_ne_true]
 exact (QxC h).2
def GsI (c:DSg)(w:Bool)(k:Nat)(gs:List DGt):Prop:=gs=((QD c.1 c.1.length).take k).map (YX c w)∧∀j,j<k→∀s,(QD c.1 c.1.length)[j]? =some s→Zs c w s=true
theorem Qxb:GsI c w 0 []:=⟨rfl,fun j a=>absurd a (aV j)⟩
theorem Qu0 (h:GsI c w k gs)(b:(QD c.1 c.1.length)[k]? =some sig)(hb:Zs c w sig=true)(d:g=YX c w sig):GsI c w (k+1) (gs++[g]):=by
 refine ⟨by rw[h.1,d,QE b,bB];rfl,fun j f s a=> ?_⟩
 by_cases e:j=k
 ·rw[e,b] at a;rw[← cN a];exact hb
 ·exact h.2 j (by omega) s a
theorem Qmu (h:GsI c w k gs):gs.length≤(QD c.1 c.1.length).length:=by
 rw[h.1,aH,ap];omega
theorem QyD (h:¬(SgOk c∧YG c=YY)):QR c w=([],[])∧false=decide (Q6 c w):=⟨Qns fun g=>h g.1,(ay fun g=>h g.1).symm⟩
theorem QAX (a:(QD c.1 c.1.length)[k]? =some sig)(hb:Zs c w sig=false):QR c w=([],[])∧false=decide (Q6 c w):=by
 have h:¬Q6 c w:=fun g=>by
  have:=au.1 g.2 sig (ae a)
  rw[hb] at this;cases this
 exact ⟨Qns h,(ay h).symm⟩
theorem QAY (h0:SgOk c∧YG c=YY)(h:GsI c w k gs)(d:(QD c.1 c.1.length).length≤k):(c.1,gs)=QR c w∧true=decide (Q6 c w):=by
 have a:Q6 c w:=⟨h0,au.2 fun s e=>by
  obtain ⟨j,b⟩:=aK.1 e
  exact h.2 j (ba (ai.1 b).1 d) s b⟩
 exact ⟨by rw[QkV a,h.1,aP d],(aN a).symm⟩
end
section
variable {n:Int}{g:DGt}
theorem Qw9 (h:¬Y1 n g):true= !decide (Y1 n g):=by rw[ay h];rfl
theorem QA4 (h:¬(1≤g.2.1∧g.2.1≤2)):¬Y1 n g:=fun q=>h q.1.1
theorem Qxa (h:¬Z1 n g.2.2.1):¬Y1 n g:=fun q=>h q.1.2
theorem QA5 (h:¬Z1 n g.2.2.2):¬Y1 n g:=fun q=>h q.2.1
theorem QA9 (a:1≤g.2.1∧g.2.1≤2)(b:Z1 n g.2.2.1)(d:Z1 n g.2.2.2)(e:g.2.1=1):decide (0<(g.2.2.2.length:Int))= !decide (Y1 n g):=by
 rw[← decide_not]
 refine bF.2 ⟨fun h q=> ?_,fun q=> ?_⟩
 ·have:=q.2.2 e;omega
 ·by_cases h:g.2.2.2.length=0
  ·exact absurd ⟨⟨a,b⟩,d,fun _=>h⟩ q
  ·omega
theorem QBa (a:1≤g.2.1∧g.2.1≤2)(b:Z1 n g.2.2.1)(d:Z1 n g.2.2.2)(f:¬g.2.1=1):false= !decide (Y1 n g):=by
 rw[aN ⟨⟨a,b⟩,d,fun e=>absurd e f⟩];rfl
theorem QwR {l:List ByteArray}(h:Z1 n l):Z1 n []:=⟨h.1,aL _,fun c a=>absurd a bN⟩
theorem QA6 (b:g.2.1=1)(a:Z1 n g.2.2.1):decide ((g.2.2.2.length:Int)=0)=decide (Y1 n g):=by
 refine bF.2 ⟨fun h=> ?_,fun q=>by have:=q.2.2 b;omega⟩
 have e:g.2.2.2=[]:=bi (by omega)
 exact ⟨⟨by omega,a⟩,by rw[e];exact QwR a,fun _=>by rw[e];rfl⟩
theorem QA7 (b:g.2.1=2)(a:Z1 n g.2.2.1):decide (Z1 n g.2.2.2)=decide (Y1 n g):=
 bF.2 ⟨fun h=>⟨⟨by omega,a⟩,h,fun e=>by omega⟩,fun q=>q.2.1⟩
theorem QA8 (a:¬g.2.1=1)(b:¬g.2.1=2):¬Y1 n g:=fun q=>by have:=q.1.1;omega
end
theorem HO (c:Qgs)(q:c.2.length≤100000):FC Tryz.prog 61 [(true,[.dat Ql c.1,.dat YU c.2])] [] 0 (Xv 3 .int (c.2.map (fun g=>g.1))):=by
 refine Qj Tryz.func61 rfl rfl Tryz.ntmps61 fun o l m f p j h=> ?_
 refine w_ ?_
 refine xbx 0 ?_
 refine w3 ?_
 refine lc (dBs 1 (e:= .int) Xt) ?_
 refine w6 ?_
 refine alL 8 fun _=> ?_
 refine w4 ?_
 refine lp0 c.2.length (fun k=>⟨[(2,lf (.val (.slice none 0 0))),(3,lR 2),(8,lf (.dat YU c.2)),(9,lI (c.2.length:Int)),(10,lI (k:Int))],[ar 2 3 .int ((c.2.take k).map (fun g=>g.1))]⟩) ?_ fun k _=> ?_
 exact wp [(2,1)] ⟨(Qm (rfl)),trivial⟩
 refine w4 ?_
 cases a:(decide ((k:Int)<(c.2.length:Int)))
 have b:=aa a
 refine w7 ?_
 refine Qe<|fo_ l ?_
 ·(rw[aP (by omega)];done)
 have b:=ab a
 refine w5 ?_
 obtain ⟨r,d⟩:=gx c.2 k
 refine w2 ?_
 refine lc (xal 3 ZT Xu) ?_
 refine w6 ?_
 refine alI 16 fun _=> ?_
 refine lc (dBs 4 (e:= .int) Xt) ?_
 refine lc (dA 5 Vh) ?_
 refine w_ ?_
 refine Qd ?_
 refine w4 ?_
 refine Qd ?_
 refine l0_ ?_
 exact wp [(2,5)] ⟨(Qm ((by rw[QE d,bB];rfl))),trivial⟩
theorem UN (g:QuG)(n:Int):FC Tryz.prog 64 [(true,[dI g.1,dI g.2.1,.dat Qb g.2.2.1,.dat Qb g.2.2.2]),(false,[.ptr 0 0])] [bx 0 3 [dI n]] 1 (Is (lB (!decide (Y1 n g))) [bx 0 3 [dI n]]):=by
 refine Qj Tryz.func64 rfl rfl Tryz.ntmps64 fun z a y q A w v=> ?_
 refine acG 0 0 fun _=> ?_
 refine acG 0 1 fun _=> ?_
 refine w_ ?_
 refine xbx 1 ?_
 refine w5 ?_
 refine lc (dK (Q7 g.2.1 1 2) Z6) ?_
 refine w2 ?_
 cases b:(decide (1≤g.2.1∧g.2.1≤2))
 have d:=aa b
 refine w16 ?_
 refine w2 ?_
 refine Qh rfl rfl rfl ?_ rfl
 refine Qh rfl rfl rfl ?_ rfl
 refine Qh rfl rfl rfl ?_ rfl
 refine Qh rfl rfl rfl ?_ rfl
 refine w5 ?_
 have r:(true:Bool)=(!decide (Y1 n g)):=by
  exact Qw9 (QA4 ‹_›)
 exact fi_ [] a ⟨rfl,trivial⟩ (h0:=by first|(rw[← r]<;>rfl)|rw[r])
 have d:=ab b
 refine w3 ?_
 refine lgy rfl rfl (dK (WU n g.2.2.1) Qg3) ?_
 refine w3 ?_
 cases e:(decide (Z1 n g.2.2.1))
 have f:=aa e
 refine w11 ?_
 refine Qh rfl rfl rfl ?_ rfl
 refine Qh rfl rfl rfl ?_ rfl
 refine Qh rfl rfl rfl ?_ rfl
 refine Qh rfl rfl rfl ?_ rfl
 refine w5 ?_
 have s:(true:Bool)=(!decide (Y1 n g)):=by
  exact Qw9 (Qxa ‹_›)
 exact fi_ [] a ⟨rfl,trivial⟩ (h0:=by first|(rw[← s]<;>rfl)|rw[s])
 have f:=ab e
 refine w3 ?_
 refine lgy rfl rfl (dK (WU n g.2.2.2) Qg3) ?_
 refine w3 ?_
 cases h:(decide (Z1 n g.2.2.2))
 have j:=aa h
 refine w4 ?_
 refine Qh rfl rfl rfl ?_ rfl
 refine Qh rfl rfl rfl ?_ rfl
 refine Qh rfl rfl rfl ?_ rfl
 refine Qh rfl rfl rfl ?_ rfl
 refine w5 ?_
 have t:(true:Bool)=(!decide (Y1 n g)):=by
  exact Qw9 (QA5 ‹_›)
 exact fi_ [] a ⟨rfl,trivial⟩ (h0:=by first|(rw[← t]<;>rfl)|rw[t])
 have j:=ab h
 refine w4 ?_
 cases l:(decide (g.2.1=1))
 have m:=aa l
 refine w9 ?_
 have o:(false:Bool)=(!decide (Y1 n g)):=by
  exact QBa ‹_› ‹_› ‹_› ‹_›
 exact fi_ [] a ⟨rfl,trivial⟩ (h0:=by first|(rw[← o]<;>rfl)|rw[o])
 have m:=ab l
 refine w2 ?_
 refine alL 28 fun _=> ?_
 refine w7 ?_
 have p:(decide (0<(g.2.2.2.length:Int)):Bool)=(!decide (Y1 n g)):=by
  exact QA9 ‹_› ‹_› ‹_› ‹_›
 exact fi_ [] a ⟨rfl,trivial⟩ (h0:=by first|(rw[p]<;>rfl)|rw[←p])
theorem Qbk (l:QyS)(n:Int):FC Tryz.prog 141 [(false,[.dat YU l]),(false,[.clo 64 [0]])] [bx 0 3 [dI n]] 1 (Is (lI (Zf (fun g:DGt=> !decide (Y1 n g)) l)) [bx 0 3 [dI n]]):=by
 refine Qj Tryz.func141 rfl rfl Tryz.ntmps141 fun v m t o w s r=> ?_
 refine w6 ?_
 refine alL 6 fun _=> ?_
 refine w4 ?_
 refine lpK l.length (fun k=>NoneTo (fun g:DGt=> !decide (Y1 n g)) l k) (fun k=>⟨[(0,lf (.dat YU l)),(1,lf (.clo 64 [0])),(7,lI (l.length:Int)),(8,lI (k:Int))],[bx 0 3 [dI n]]⟩) (NoneTo.zero) ?_ fun k _ b=> ?_
 exact wo []
 refine w4 ?_
 cases d:(decide ((k:Int)<(l.length:Int)))
 have e:=aa d
 refine w7 ?_
 have p:((-1):Int)=(Zf (fun g:DGt=> !decide (Y1 n g)) l):=by
  first|exact (b.no (by omega)).symm
 exact fi_ [] m ⟨rfl,trivial⟩ (h0:=by first|(rw[← p]<;>rfl)|rw[p])
 have e:=ab d
 refine w12 ?_
 obtain ⟨a,j⟩:=gx l k
 refine w2 ?_
 refine lc (Q3 (args0:=[(true,[dI a.1,dI a.2.1,.dat Qb a.2.2.1,.dat Qb a.2.2.2])]) (caps:=[0]) 1 [(0,0)] (UN a n) Qpl rfl (Qa rfl) rfl rfl ⟨_,_,rfl,(Qn rfl),rfl⟩ ⟨rfl,trivial⟩ rfl ⟨trivial,trivial⟩ (nlr rfl)) ?_
 refine w_ ?_
 cases f:(!decide (Y1 n a))
 have h:(Y1 n a):=Qz f
 refine w6 ?_
 refine Qd ?_
 refine lK_ (b.step j ‹_›) ?_
 exact wo []
 have h:¬(Y1 n a):=QG f
 refine w6 ?_
 have q:((k:Int):Int)=(Zf (fun g:DGt=> !decide (Y1 n g)) l):=by
  exact (b.at j ‹_›).symm
 exact fi_ [] m ⟨rfl,trivial⟩ (h0:=by first|(rw[q]<;>rfl)|rw[←q])
theorem JI (l:QyS)(n:Int):FC Tryz.prog 63 [(false,[.dat YU l]),(false,[.clo 64 [0]])] [bx 0 3 [dI n]] 1 (Is (lB (l.any (fun g:DGt=> !decide (Y1 n g)))) [bx 0 3 [dI n]]):=by
 refine Qj Tryz.func63 rfl rfl Tryz.ntmps63 fun j f h a m e d=> ?_
 refine w6 ?_
 refine lc (dP 1 [] (Qbk l n) Qlh) ?_
 refine w4 ?_
 have b:(decide (0≤(Zf (fun g:DGt=> !decide (Y1 n g)) l)):Bool)=(l.any (fun g:DGt=> !decide (Y1 n g))):=by
  exact Xm _ _
 exact fi_ [] f ⟨rfl,trivial⟩ (h0:=by first|(rw[b]<;>rfl)|rw[←b])
theorem Zv (c:Qgs)[∀c,Decidable (ZU c)](o:c.2.length≤100000):FC Tryz.prog 13 [(true,[.dat Ql c.1,.dat YU c.2])] [] 0 (QK (lB (decide (ZU c)))):=by
 classical
 refine Qj Tryz.func13 rfl rfl Tryz.ntmps13 fun q h p j r m l=> ?_
 refine w_ ?_
 refine xbx 0 ?_
 refine w5 ?_
 refine alL 5 fun _=> ?_
 refine w_ ?_
 refine lc (xal 1 .int Xt) ?_
 refine w3 ?_
 cases b:(decide (Yj c.1))
 have d:=aa b
 apply dW (i2 7 _ _ (io 9 (lB false)::i9 10 _ _ _ _ _ _ _ _ _ (i2 19 _ _ []))) [0,0,0,0,0,0,0,96,96,96,0,0,0,0]
 refine z2 ?_
 refine zz (fun _ a=>ac (Q9 (b) (dK (XX c.1) Qb7)) rfl) ?_
 exact y11
 refine w4 ?_
 refine Qe<|fqB h ?_
 exact (ay (Qv8 ‹_›)).symm
 have d:=ab b
 apply dW (i2 7 _ _ (io 9 (lB true)::i3 10 _ _ _ (⟨some 13,lR 2,[ar 2 3 .int (c.2.map (fun g=>g.1))]⟩::io 14 (lP 0 0)::io 15 (lf (.dat Ql c.1))::io 16 (ag [.dat Ql c.1,.val (.slice none 0 0),.val (.slice none 0 0)])::⟨some 17,lR 3,[ar 3 3 .int (QD (c.1,([]:(Qb:Ty).Den),([]:(QA:Ty).Den)).1 (c.1,([]:(Qb:Ty).Den),([]:(QA:Ty).Den)).1.length)]⟩::io 18 (lB (decide ((c.2.map (fun g=>g.1))=(QD (c.1,([]:(Qb:Ty).Den),([]:(QA:Ty).Den)).1 (c.1,([]:(Qb:Ty).Den),([]:(QA:Ty).Den)).1.length))))::i2 19 _ _ []))) [0,0,0,0,0,0,0,96,96,96,0,0,0,0]
 refine z2 ?_
 refine zz (fun _ a=>ac (Q9 (b) (dK (XX c.1) Qb7)) rfl) ?_
 refine z3 ?_
 refine zz (fun _ a=>day rfl (a.k rfl) (dO 2 (HO c o) Qpj) rfl) ?_
 refine z2 ?_
 refine zz (fun _ a=>day rfl (a.k rfl) (Qk Qev ⟨_,_,rfl,(a.w rfl),rfl⟩ (au.1 rfl) rfl rfl) rfl)<|zz (fun _ a=>day rfl (a.k rfl) (Qee 3 (XS (c.1,([]:(Qb:Ty).Den),([]:(QA:Ty).Den)) (show c.1.length≤100000 by have a:=(by assumption:Yj c.1).2.2;omega)) Hr ⟨_,_,rfl,(Ev.nils (a.w rfl) ⟨_,_,rfl,.inl rfl,⟨_,_,rfl,.inr ⟨_,_,rfl,rfl⟩,⟨_,_,rfl,.inr ⟨_,_,rfl,rfl⟩,rfl⟩⟩⟩),rfl⟩ rfl (a.fr 3 rfl) (nlr rfl)) rfl) ?_
 refine zz (fun _ a=>day rfl (a.k rfl) (dB_ (Kc (c.2.map (fun g=>g.1)) (QD (c.1,([]:(Qb:Ty).Den),([]:(QA:Ty).Den)).1 (c.1,([]:(Qb:Ty).Den),([]:(QA:Ty).Den)).1.length)) Qpi) rfl) ?_
 exact y2
 cases e:(decide ((c.2.map (fun g=>g.1))=(QD (c.1,([]:(Qb:Ty).Den),([]:(QA:Ty).Den)).1 (c.1,([]:(Qb:Ty).Den),([]:(QA:Ty).Den)).1.length)))
 have f:=aa e
 refine w4 ?_
 refine Qe<|fqB h ?_
 exact (ay (QyF ‹_›)).symm
 have f:=ab e
 refine w5 ?_
 refine lc (Q1 ⟨_,_,rfl,(Qa rfl),rfl,rfl⟩ rfl) ?_
 refine lc (dP 4 [(0,1)] (JI c.2 (c.1.length:Int)) Qpk) ?_
 refine w3 ?_
 refine Qe<|fqB h ?_
 exact QwJ ‹_› ‹_›
theorem Qdf (c:Qgs)(g:QuG):FC Tryz.prog 154 [(true,[.dat Ql c.1,.dat YU c.2]),(true,[dI g.1,dI g.2.1,.dat Qb g.2.2.1,.dat Qb g.2.2.2])] [] 0 (QK (lB (decide (Y1 (c.1.length:Int) g)))):=by
 refine Qj Tryz.func154 rfl rfl Tryz.ntmps154 fun o a m h p l j=> ?_
 refine acG 1 0 fun _=> ?_
 refine acG 1 1 fun _=> ?_
 refine w_ ?_
 refine xbx 0 ?_
 refine xbx 1 ?_
 refine w5 ?_
 refine alL 7 fun _=> ?_
 refine w13 ?_
 refine cd_ (fun _ _=> ?_) fun _ _=> ?_
 refine w4 ?_
 refine cd_ (fun _ _=> ?_) fun _ _=> ?_
 refine w5 ?_
 refine Qe<|fqB a ?_
 exact (ay (QA8 ‹_› ‹_›)).symm
 refine w4 ?_
 refine lc (dK (Vb (c.1.length:Int) g.2.2.1) Qat) ?_
 refine w_ ?_
 cases b:(decide (Z1 (c.1.length:Int) g.2.2.1))
 have d:=aa b
 refine w7 ?_
 refine Qe<|fqB a ?_
 exact (ay (Qxa ‹_›)).symm
 have d:=ab b
 refine w3 ?_
 refine lgy rfl rfl (dK (Vb (c.1.length:Int) g.2.2.2) Qat) ?_
 refine w3 ?_
 refine Qe<|fqB a ?_
 exact QA7 ‹_› ‹_›
 refine w4 ?_
 refine lc (dK (Vb (c.1.length:Int) g.2.2.1) Qat) ?_
 refine w_ ?_
 cases e:(decide (Z1 (c.1.length:Int) g.2.2.1))
 have f:=aa e
 refine w7 ?_
 refine Qe<|fqB a ?_
 exact (ay (Qxa ‹_›)).symm
 have f:=ab e
 refine w2 ?_
 refine alL 19 fun _=> ?_
 refine w5 ?_
 refine Qe<|fqB a ?_
 exact QA6 ‹_› ‹_›
theorem Jb (c:Qgs)[∀c,Decidable (ZU c)](O:c.2.length≤100000):FC Tryz.prog 74 [(true,[.dat Ql c.1,.dat YU c.2])] [] 0 (QK (lB (decide (ZU c)))):=by
 classical
 refine Qj Tryz.func74 rfl rfl Tryz.ntmps74 fun M t L F N H G=> ?_
 refine w_ ?_
 refine xbx 0 ?_
 refine w6 ?_
 refine lc (dK (UB c.1) QeJ) ?_
 refine w2 ?_
 cases w:(decide (Yj c.1))
 have y:=aa w
 refine w4 ?_
 refine Qe<|fqB t ?_
 exact (ay (Qv8 ‹_›)).symm
 have y:=ab w
 refine w9 ?_
 refine alL 11 fun _=> ?_
 refine w4 ?_
 refine Qu (fun D E=>∃(k:Nat) (j:Int),k≤c.1.length∧D=c.1.length - k∧(LgI c k j)∧E=⟨[(1,lP 0 0),(3,lI j),(11,lf (.dat Ql c.1)),(12,lI (c.1.length:Int)),(13,lI (k:Int))],[bx 0 32 [.dat Ql c.1,.dat YU c.2]]⟩) ⟨0,0,aL _,rfl,QBc,rfl⟩ ?_ ?_
 exact wo []
 rintro D E ⟨k,j,J,K,s,rfl⟩
 have I:=s.1
 refine w4 ?_
 cases z:(decide ((k:Int)<(c.1.length:Int)))
 have A:=aa z
 refine w7 ?_
 refine alL 51 fun _=> ?_
 refine w4 ?_
 refine Qe<|fqB t ?_
 exact Qxp ‹_› s (by omega) (by omega)
 have A:=ab z
 refine w6 ?_
 obtain ⟨sg,C⟩:=gx c.1 k
 have e:=C
 refine w2 ?_
 refine lc (xal 1 QI WO) ?_
 refine w7 ?_
 refine alI 19 fun _=> ?_
 refine w2 ?_
 cases f:(decide (sg.2=1))
 have l:=aa f
 refine w3 ?_
 cases b:(decide (j=(c.2.length:Int)))
 have m:=aa b
 obtain ⟨r,B⟩:=gx c.2 ((j).toNat)
 have q:=B
 cases d:(!decide (r.1=(k:Int)))
 have o:(r.1=(k:Int)):=Qz d
 apply dW (i4 21 _ _ _ _ (io 25 (lB false)::i8 26 _ _ _ _ _ _ _ _ (io 34 (lB false)::i8 35 _ _ _ _ _ _ _ _ (io 43 (lB (decide (Y1 (c.1.length:Int) r)))::i2 44 _ _ [])))) [0,1,1,1,0,0,0,0,192,0,0,0,4032,0,0,0,0,65536,65536,458752,65536,65536,0,0,0]
 refine z4 ?_
 refine zz (fun _ a=>ac (Q9 (b) (Jv (a.v rfl) (a.v rfl) rfl)) rfl) ?_
 refine z8 ?_
 refine zz (fun _ a=>day rfl (a.k rfl) (Q9 (J2 (QbF d)) (Qa0 (a.v rfl) (a.v rfl) rfl)) rfl) ?_
 refine z8 ?_
 refine zz (fun _ a=>day rfl (a.k rfl) (dK (Qdf c r) Qlp) rfl) ?_
 exact y2
 cases h:(decide (Y1 (c.1.length:Int) r))
 have p:=aa h
 refine w4 ?_
 refine Qe<|fqB t ?_
 exact (ay (Qzj q ‹_›)).symm
 have p:=ab h
 refine w6 ?_
 refine Qd ?_
 refine w4 ?_
 refine Qd<|QV ⟨k+1,(j+1),by omega,rfl,(by exact Qxq s e ‹_› q ‹_› ‹_›),rfl⟩ (by omega) ?_
 exact wo []
 have o:¬(r.1=(k:Int)):=QG d
 apply dW (i4 21 _ _ _ _ (io 25 (lB false)::i8 26 _ _ _ _ _ _ _ _ (io 34 (lB true)::i9 35 _ _ _ _ _ _ _ _ _ (i2 44 _ _ [])))) [0,1,1,1,0,0,0,0,192,0,0,0,4032,0,0,0,0,65536,65536,458752,65536,65536,0,0,0]
 refine z4 ?_
 refine zz (fun _ a=>ac (Q9 (b) (Jv (a.v rfl) (a.v rfl) rfl)) rfl) ?_
 refine z8 ?_
 refine zz (fun _ a=>day rfl (a.k rfl) (Q9 (J2 (QbF d)) (Qa0 (a.v rfl) (a.v rfl) rfl)) rfl) ?_
 exact y11
 refine w4 ?_
 refine Qe<|fqB t ?_
 exact (ay (Qzi s e ‹_› q ‹_›)).symm
 have m:=ab b
 apply dW (i4 21 _ _ _ _ (io 25 (lB true)::i9 26 _ _ _ _ _ _ _ _ _ (i9 35 _ _ _ _ _ _ _ _ _ (i2 44 _ _ [])))) [0,1,1,1,0,0,0,0,192,0,0,0,4032,0,0,0,0,65536,65536,458752,65536,65536,0,0,0]
 refine z4 ?_
 refine zz (fun _ a=>ac (Q9 (b) (Jv (a.v rfl) (a.v rfl) rfl)) rfl) ?_
 refine z16 ?_
 exact y4
 refine w4 ?_
 refine Qe<|fqB t ?_
 exact (ay (Qzh s e ‹_› ‹_›)).symm
 have l:=ab f
 refine w6 ?_
 refine Qd<|QV ⟨k+1,j,by omega,rfl,(by exact Qzg s e ‹_›),rfl⟩ (by omega) ?_
 exact wo []
theorem Qfq (g:QuG)(code:ByteArray)(s:0≤g.1∧g.1<(code.size:Int))(f:∀c∈g.2.2.1,c.size≤code.size)(h:∀c∈g.2.2.2,c.size≤code.size):FC Tryz.prog 70 [(true,[dI g.1,dI g.2.1,.dat Qb g.2.2.1,.dat Qb g.2.2.2]),(false,[dS code])] [] 0 (QK (lB (nxG g code))):=by
 refine Qj Tryz.func70 rfl rfl Tryz.ntmps70 fun q d p l r o m=> ?_
 refine acG 0 0 fun _=> ?_
 refine acG 0 1 fun _=> ?_
 refine w_ ?_
 refine xbx 0 ?_
 refine w8 ?_
 cases a:(decide (g.2.1=2))
 have b:=aa a
 refine w13 ?_
 refine lc (dK (V0 g.2.2.1 code (by first|exact f|exact h)) Qam) ?_
 refine w2 ?_
 refine Qe<|fqB d ?_
 exact QzH ‹_›
 have b:=ab a
 refine w3 ?_
 obtain ⟨u,e⟩:=gs code ((g.1).toNat)
 have j:=QY e
 refine w_ ?_
 refine lgy rfl rfl (Q8 (Qa rfl) (QJ 49 rfl) rfl) ?_
 refine w2 ?_
 refine cd_ (fun _ _=> ?_) fun _ _=> ?_
 refine w5 ?_
 refine lc (dK (V0 g.2.2.1 code (by first|exact f|exact h)) Qam) ?_
 refine w2 ?_
 refine Qe<|fqB d ?_
 exact QzI j ‹_›
 refine w4 ?_
 refine lc (dK (V0 g.2.2.2 code (by first|exact f|exact h)) Qam) ?_
 refine w3 ?_
 refine Qe<|fqB d ?_
 exact QzG j ‹_› ‹_›
theorem Qdg (g:QuG)(code:ByteArray)(t:0≤g.1∧g.1<(code.size:Int))(f:∀c∈g.2.2.1,c.size≤code.size)(h:∀c∈g.2.2.2,c.size≤code.size)(p:g.2.1=1∨g.2.1=2)(hb:bAt code g.1=48∨bAt code g.1=49):FC Tryz.prog 76 [(true,[dI g.1,dI g.2.1,.dat Qb g.2.2.1,.dat Qb g.2.2.2]),(false,[dS code])] [] 0 (QK (lB (nxG g code))):=by
 refine Qj Tryz.func76 rfl rfl Tryz.ntmps76 fun r d q l s o m=> ?_
 refine acG 0 0 fun _=> ?_
 refine acG 0 1 fun _=> ?_
 refine w_ ?_
 refine xbx 0 ?_
 refine w8 ?_
 cases a:(decide (g.2.1=1))
 have b:=aa a
 refine w3 ?_
 obtain ⟨u,e⟩:=gs code ((g.1).toNat)
 have j:=QY e
 refine w_ ?_
 refine lgy rfl rfl (Q8 (Qa rfl) (QJ 48 rfl) rfl) ?_
 refine w2 ?_
 refine cd_ (fun _ _=> ?_) fun _ _=> ?_
 refine w5 ?_
 refine lc (dK (WJ g.2.2.2 code (by first|exact f|exact h)) KM) ?_
 refine w3 ?_
 refine Qe<|fqB d ?_
 exact QBi j p hb ‹_› ‹_›
 refine w4 ?_
 refine lc (dK (WJ g.2.2.1 code (by first|exact f|exact h)) KM) ?_
 refine w2 ?_
 refine Qe<|fqB d ?_
 exact QBh j ‹_›
 have b:=ab a
 refine w12 ?_
 refine lc (dK (WJ g.2.2.1 code (by first|exact f|exact h)) KM) ?_
 refine w2 ?_
 refine Qe<|fqB d ?_
 exact QBg ‹_›
section
variable {c:DSg}{x:DCk}{g:DGt}{code:ByteArray}{k i:Nat}{u:UInt8}
theorem QnQ (b:SgOk c)(a:c.2.1[k]? =some code):code.size=c.1.length∧∀sig:Int,0≤sig∧sig<(c.1.length:Int)→bAt code sig=48∨bAt code sig=49:=by
 have e:=(ai.1 a).1
 have d:c.2.1[((k:Int)).toNat]? =some code:=a
 refine ⟨by have:=(b.codes _ (ae a)).2;omega,fun sig h=> ?_⟩
 have:=Qnj b (sig:=sig) ⟨h.1,by omega⟩ e
 rwa [Xf d] at this
theorem Qin {X Y:Bool}(a:X=exG g code)(h:(X==Y)=false):¬exG g code=Y:=by
 rw[← a];intro e;rw[e] at h;simp at h
theorem Qr8 {X Y:Bool}(a:X=exG g code)(h:(X==Y)=true):exG g code=Y:=by
 rw[← a];exact eq_of_beq h
theorem Qy6 (h:ZU x)(f:x.2[i]? =some g)(l:(code.size:Int)=(x.1.length:Int)):(0≤g.1∧g.1<(code.size:Int))∧(∀c∈g.2.2.1,c.size≤code.size)∧(∀c∈g.2.2.2,c.size≤code.size)∧(g.2.1=1∨g.2.1=2):=by
 obtain ⟨j,b,d,e,_⟩:=QwK h (ae f)
 exact ⟨by omega,fun c a=>by have:=d c a;omega,fun c a=>by have:=e c a;omega,b⟩
end
theorem VY (c:ZM)(x:Qgs)[∀c,Decidable (SgOk c)][∀c,Decidable (ZU c)](hl:x.2.length≤100000):FC Tryz.prog 14 [(true,[.dat Ql c.1,.dat Qb c.2.1,.dat QA c.2.2]),(true,[.dat Ql x.1,.dat YU x.2])] [] 0 (QK (PV.tup [(false,[dB (imV c x)]),(false,[dB (decide (ImP c x))])])):=by
 refine Qj Tryz.func14 rfl rfl Tryz.ntmps14 fun O_ t a3 R X_ Z Y=> ?_
 refine w_ ?_
 refine xbx 0 ?_
 refine xbx 1 ?_
 refine w6 ?_
 refine lc (dK (Yx c) Qb8) ?_
 refine w2 ?_
 cases y:(decide (SgOk c))
 have z:=aa y
 refine w16 ?_
 refine w3 ?_
 have S:(false:Bool)=(imV c x):=by
  exact (Qdn (fun q=>absurd q.1.1 ‹_›)).1
 have T:(false:Bool)=(decide (ImP c x)):=by
  exact (Qdn (fun q=>absurd q.1.1 ‹_›)).2
 exact fr_ t (e:=by first|(rw[← S,← T]<;>rfl)|rw[S,T])
 have z:=ab y
 refine w_ ?_
 refine lgy rfl rfl (dK (Zv x hl) VB) ?_
 refine w3 ?_
 cases A:(decide (ZU x))
 have B:=aa A
 refine w14 ?_
 have U:(false:Bool)=(imV c x):=by
  exact (Qdn (fun q=>absurd q.1.2 ‹_›)).1
 have V:(false:Bool)=(decide (ImP c x)):=by
  exact (Qdn (fun q=>absurd q.1.2 ‹_›)).2
 exact fr_ t (e:=by first|(rw[← U,← V]<;>rfl)|rw[U,V])
 have B:=ab A
 refine w4 ?_
 refine lgy rfl rfl (dK (Y9 c.1 x.1) Qpm) ?_
 refine w3 ?_
 cases C:(decide (c.1=x.1))
 have D:=aa C
 refine w6 ?_
 have W:(false:Bool)=(imV c x):=by
  exact (Qdn (fun q=>absurd q.2 ‹_›)).1
 have X:(false:Bool)=(decide (ImP c x)):=by
  exact (Qdn (fun q=>absurd q.2 ‹_›)).2
 exact fr_ t (e:=by first|(rw[← W,← X]<;>rfl)|rw[W,X])
 have D:=ab C
 refine w3 ?_
 refine YC ?_
 have a:ImP c x:=⟨⟨by assumption,by assumption⟩,by assumption⟩
 have a2:c.1.length=x.1.length:=congrArg List.length a.2
 refine w3 ?_
 refine alL 27 fun _=> ?_
 refine w4 ?_
 refine lpK c.2.1.length (fun k=>∀j,j<k→imR c x j=true) (fun k=>⟨[(2,lP 0 0),(3,lP 1 0),(27,lf (.dat Qb c.2.1)),(28,lI (c.2.1.length:Int)),(29,lI (k:Int))],[bx 0 28 [.dat Ql c.1,.dat Qb c.2.1,.dat QA c.2.2],bx 1 32 [.dat Ql x.1,.dat YU x.2]]⟩) ((fun j N=>absurd N (aV j))) ?_ fun k _ J=> ?_
 exact wo []
 refine w4 ?_
 cases f:(decide ((k:Int)<(c.2.1.length:Int)))
 have o:=aa f
 refine w8 ?_
 have F:(true:Bool)=(imV c x):=by
  exact (Qu5 a J (by omega)).1
 have G:(true:Bool)=(decide (ImP c x)):=by
  exact (Qu5 a J (by omega)).2
 exact fr_ t (e:=by first|(rw[← F,← G]<;>rfl)|rw[F,G])
 have o:=ab f
 refine w6 ?_
 obtain ⟨code,l⟩:=gx c.2.1 k
 have b:=l
 obtain ⟨a0,r⟩:=QnQ a.1.1 l
 refine w8 ?_
 refine alL 35 fun _=> ?_
 refine w4 ?_
 refine lpK x.2.length (fun i=>∀j,j<i→∀g,x.2[j]? =some g→exG g code=QW c (k:Int) g.1) (fun i=>⟨[(2,lP 0 0),(3,lP 1 0),(6,lI (k:Int)),(7,lf (dS code)),(27,lf (.dat Qb c.2.1)),(28,lI (c.2.1.length:Int)),(29,lI (k:Int)),(30,lB true),(31,lI (k:Int)),(32,lf (.elt .str code 0)),(33,lf (dS code)),(34,lP 1 1),(35,lf (.dat YU x.2)),(36,lI (x.2.length:Int)),(37,lI (i:Int))],[bx 0 28 [.dat Ql c.1,.dat Qb c.2.1,.dat QA c.2.2],bx 1 32 [.dat Ql x.1,.dat YU x.2]]⟩) ((fun j N=>absurd N (aV j))) ?_ fun i _ P=> ?_
 exact wo []
 refine w4 ?_
 cases h:(decide ((i:Int)<(x.2.length:Int)))
 have p:=aa h
 refine w6 ?_
 refine Qd ?_
 refine lK_ ((QnR J (Qr9 P (by omega) b))) ?_
 exact wo []
 have p:=ab h
 refine w5 ?_
 obtain ⟨d,m⟩:=gx x.2 i
 have s:=m
 obtain ⟨K,L,M,a1⟩:=Qy6 (code:=code) a.1.2 m (by omega)
 refine w2 ?_
 refine lc (xal 2 ZT Xu) ?_
 refine w2 ?_
 obtain ⟨u,E⟩:=gs code ((d.1).toNat)
 have O:=QY E
 apply dW (i2 41 _ _ (io 43 (lB (nxG d code))::io 44 (lf (.dat .u8 (if (nxG d code) then 49 else 48)))::i9 45 _ _ _ _ _ _ _ _ _ [io 54 (lB (QW c (k:Int) d.1)),io 55 (lB (!((!decide ((if (nxG d code) then 49 else 48)=u))==(QW c (k:Int) d.1))))])) [0,1,0,0,15,31,31,15,0,511,1023,2047,2047,496,0]
 refine z2 ?_
 refine zz (fun _ w=>ac (dK (Qfq d code K L M) Qpo) rfl) ?_
 refine zz (fun _ w=>ac (dK (QjM (nxG d code)) Qpn) rfl) ?_
 refine z9 ?_
 refine zz (fun _ w=>ac (dK (Y4 c (k:Int) d.1) Ht) rfl) ?_
 refine zz (fun _ w=>ac (Z0 (w.v rfl) (w.v rfl) rfl Y7) rfl) ?_
 exact zN
 cases Q:((!decide ((if (nxG d code) then 49 else 48)=u))==(QW c (k:Int) d.1))
 refine w6 ?_
 have H:(false:Bool)=(imV c x):=by
  exact (Qu4 a (by omega) s b (Qin (QwV O (r d.1 (by omega))) ‹_›)).1
 have I:(true:Bool)=(decide (ImP c x)):=by
  exact (Qu4 a (by omega) s b (Qin (QwV O (r d.1 (by omega))) ‹_›)).2
 exact fr_ t (e:=by first|(rw[← H,← I]<;>rfl)|rw[H,I])
 refine w6 ?_
 refine Qd ?_
 refine lK_ ((YM P s (Qr8 (QwV O (r d.1 (by omega))) ‹_›))) ?_
 exact wo []
theorem QaD (c:ZM)(x:Qgs)[∀c,Decidable (SgOk c)][∀c,Decidable (ZU c)](hl:x.2.length≤100000):FC Tryz.prog 17 [(true,[.dat Ql c.1,.dat Qb c.2.1,.dat QA c.2.2]),(true,[.dat Ql x.1,.dat YU x.2])] [] 0 (QK (PV.tup [(false,[dB (imV c x)]),(false,[dB (decide (ImP c x))])])):=by
 classical
 refine Qj Tryz.func17 rfl rfl Tryz.ntmps17 fun O_ t a3 S X_ a0 Z=> ?_
 refine w_ ?_
 refine xbx 0 ?_
 refine xbx 1 ?_
 refine w6 ?_
 refine lc (dK (Wg c) Hq) ?_
 refine w2 ?_
 cases w:(decide (SgOk c))
 have y:=aa w
 refine w16 ?_
 refine w3 ?_
 have T:(false:Bool)=(imV c x):=by
  exact (Qdn (fun q=>absurd q.1.1 ‹_›)).1
 have U:(false:Bool)=(decide (ImP c x)):=by
  exact (Qdn (fun q=>absurd q.1.1 ‹_›)).2
 exact fr_ t (e:=by first|(rw[← T,← U]<;>rfl)|rw[T,U])
 have y:=ab w
 refine w_ ?_
 refine lgy rfl rfl (dK (Jb x hl) Qg5) ?_
 refine w3 ?_
 cases z:(decide (ZU x))
 have A:=aa z
 refine w14 ?_
 have V:(false:Bool)=(imV c x):=by
  exact (Qdn (fun q=>absurd q.1.2 ‹_›)).1
 have W:(false:Bool)=(decide (ImP c x)):=by
  exact (Qdn (fun q=>absurd q.1.2 ‹_›)).2
 exact fr_ t (e:=by first|(rw[← V,← W]<;>rfl)|rw[V,W])
 have A:=ab z
 refine w4 ?_
 refine lgy rfl rfl (dK (Jr c.1 x.1) Qpq) ?_
 refine w3 ?_
 cases B:(decide (c.1=x.1))
 have C:=aa B
 refine w6 ?_
 have X:(false:Bool)=(imV c x):=by
  exact (Qdn (fun q=>absurd q.2 ‹_›)).1
 have Y:(false:Bool)=(decide (ImP c x)):=by
  exact (Qdn (fun q=>absurd q.2 ‹_›)).2
 exact fr_ t (e:=by first|(rw[← X,← Y]<;>rfl)|rw[X,Y])
 have C:=ab B
 refine w3 ?_
 refine YC ?_
 have a:ImP c x:=⟨⟨by assumption,by assumption⟩,by assumption⟩
 have a2:c.1.length=x.1.length:=congrArg List.length a.2
 refine w3 ?_
 refine alL 27 fun _=> ?_
 refine w4 ?_
 refine lpK c.2.1.length (fun k=>∀j,j<k→imR c x j=true) (fun k=>⟨[(2,lP 0 0),(3,lP 1 0),(27,lf (.dat Qb c.2.1)),(28,lI (c.2.1.length:Int)),(29,lI (k:Int))],[bx 0 28 [.dat Ql c.1,.dat Qb c.2.1,.dat QA c.2.2],bx 1 32 [.dat Ql x.1,.dat YU x.2]]⟩) ((fun j O=>absurd O (aV j))) ?_ fun k _ I=> ?_
 exact wo []
 refine w4 ?_
 cases h:(decide ((k:Int)<(c.2.1.length:Int)))
 have p:=aa h
 refine w8 ?_
 have E:(true:Bool)=(imV c x):=by
  exact (Qu5 a I (by omega)).1
 have F:(true:Bool)=(decide (ImP c x)):=by
  exact (Qu5 a I (by omega)).2
 exact fr_ t (e:=by first|(rw[← E,← F]<;>rfl)|rw[E,F])
 have p:=ab h
 refine w6 ?_
 obtain ⟨code,m⟩:=gx c.2.1 k
 have b:=m
 obtain ⟨a1,J⟩:=QnQ a.1.1 m
 refine w8 ?_
 refine alL 35 fun _=> ?_
 refine w4 ?_
 refine lpK x.2.length (fun i=>∀j,j<i→∀g,x.2[j]? =some g→exG g code=QW c (k:Int) g.1) (fun i=>⟨[(2,lP 0 0),(3,lP 1 0),(6,lI (k:Int)),(7,lf (dS code)),(27,lf (.dat Qb c.2.1)),(28,lI (c.2.1.length:Int)),(29,lI (k:Int)),(30,lB true),(31,lI (k:Int)),(32,lf (.elt .str code 0)),(33,lf (dS code)),(34,lP 1 1),(35,lf (.dat YU x.2)),(36,lI (x.2.length:Int)),(37,lI (i:Int))],[bx 0 28 [.dat Ql c.1,.dat Qb c.2.1,.dat QA c.2.2],bx 1 32 [.dat Ql x.1,.dat YU x.2]]⟩) ((fun j O=>absurd O (aV j))) ?_ fun i _ Q=> ?_
 exact wo []
 refine w4 ?_
 cases l:(decide ((i:Int)<(x.2.length:Int)))
 have r:=aa l
 refine w6 ?_
 refine Qd ?_
 refine lK_ ((QnR I (Qr9 Q (by omega) b))) ?_
 exact wo []
 have r:=ab l
 refine w5 ?_
 obtain ⟨d,o⟩:=gx x.2 i
 have s:=o
 obtain ⟨K,L,M,N⟩:=Qy6 (code:=code) a.1.2 o (by omega)
 refine w2 ?_
 refine lc (xal 2 ZT Xu) ?_
 refine w2 ?_
 obtain ⟨u,D⟩:=gs code ((d.1).toNat)
 have P:=QY D
 apply dW (i2 41 _ _ (io 43 (lB (nxG d code))::i4 44 _ _ _ _ (io 48 (lB (decide (u=49)))::io 49 (lB (!((nxG d code)==(decide (u=49)))))::i4 50 _ _ _ _ [io 54 (lB (QW c (k:Int) d.1)),io 55 (lB (!((!((nxG d code)==(decide (u=49))))==(QW c (k:Int) d.1))))]))) [0,1,0,7,15,15,7,7,0,511,1023,2047,2047,504,0]
 refine z2 ?_
 refine zz (fun _ f=>ac (dK (Qdg d code K L M N (J _ (by omega))) Qpr) rfl) ?_
 refine z4 ?_
 refine zz (fun _ f=>ac (Q8 (f.v rfl) (QJ 49 rfl) rfl) rfl)<|zz (fun _ f=>ac (Z0 (f.v rfl) (f.v rfl) rfl Y7) rfl) ?_
 refine z4 ?_
 refine zz (fun _ f=>ac (dK (Z7 c (k:Int) d.1) VC) rfl) ?_
 refine zz (fun _ f=>ac (Z0 (f.v rfl) (f.v rfl) rfl Y7) rfl) ?_
 exact zN
 cases R:((!((nxG d code)==(decide (u=49))))==(QW c (k:Int) d.1))
 refine w6 ?_
 have G:(false:Bool)=(imV c x):=by
  exact (Qu4 a (by omega) s b (Qin (QwW P) ‹_›)).1
 have H:(true:Bool)=(decide (ImP c x)):=by
  exact (Qu4 a (by omega) s b (Qin (QwW P) ‹_›)).2
 exact fr_ t (e:=by first|(rw[← G,← H]<;>rfl)|rw[G,H])
 refine w6 ?_
 refine Qd ?_
 refine lK_ ((YM Q s (Qr8 (QwW P) ‹_›))) ?_
 exact wo []
theorem Qrn {c:DCk}(h:ZU c):VI c.1∧c.1.length≤8∧c.2.length≤8:=by
 have a:=congrArg List.length h.1.2
 have d:=Y0 (ss:=c.1) (k:=c.1.length)
 have b:=h.1.1.2.2
 rw[aH] at a
 exact ⟨QzE h.1.1,b,by omega⟩
theorem Jl (c:Qgs)[∀c,Decidable (ZU c)](X:c.2.length≤100000):FC Tryz.prog 19 [(true,[.dat Ql c.1,.dat YU c.2])] [] 0 (QK (PV.tup [(false,[dS (ftV c)]),(false,[dB (decide (ZU c))])])):=by
 refine Qj Tryz.func19 rfl rfl Tryz.ntmps19 fun O_ F a0 K X_ Q P=> ?_
 refine w_ ?_
 refine xbx 0 ?_
 refine w6 ?_
 refine lc (dK (Zv c X) VB) ?_
 refine w2 ?_
 cases z:(decide (ZU c))
 have A:=aa z
 refine w6 ?_
 have L:((⟨#[]⟩:ByteArray):ByteArray)=(ftV c):=by
  exact (QuU ‹_›).1
 have M:(false:Bool)=(decide (ZU c)):=by
  exact (QuU ‹_›).2
 exact fr_ F (e:=by first|(rw[L,← M]<;>rfl)|rw[←L,M])
 have A:=ab z
 refine w2 ?_
 refine YC ?_
 have q:=(by assumption:ZU c)
 obtain ⟨d,m,V⟩:=Qrn q
 have f:(⟨#[32,61,32]⟩:ByteArray).size=3:=rfl
 have h:(⟨#[32,47,32]⟩:ByteArray).size=3:=rfl
 refine w7 ?_
 refine alL 11 fun _=> ?_
 refine w4 ?_
 refine Qu (fun I J=>∃(k:Nat) (w:ByteArray),k≤c.2.length∧I=c.2.length - k∧(w=ftK c k)∧(w.size≤9000*k)∧J=⟨[(1,lP 0 0),(2,lf (dS (⟨#[]⟩:ByteArray))),(3,lB false),(4,lf (dS w)),(11,lf (.dat YU c.2)),(12,lI (c.2.length:Int)),(13,lI (k:Int))],[bx 0 32 [.dat Ql c.1,.dat YU c.2]]⟩) ⟨0,(⟨#[]⟩:ByteArray),aL _,rfl,rfl,(aL _),rfl⟩ ?_ ?_
 exact wo []
 rintro I J ⟨k,w,W,Y,E,hs,rfl⟩
 refine w4 ?_
 cases B:(decide ((k:Int)<(c.2.length:Int)))
 have C:=aa B
 refine w9 ?_
 have N:(w:ByteArray)=(ftV c):=by
  exact (QuW q (by omega) E).1
 have O:(true:Bool)=(decide (ZU c)):=by
  exact (QuW q (by omega) E).2
 exact fr_ F (e:=by first|(rw[← N,← O]<;>rfl)|rw[N,O])
 have C:=ab B
 refine w5 ?_
 obtain ⟨j,s⟩:=gx c.2 k
 have D:=s
 obtain ⟨R,S,T,U,a,b⟩:=QwK q (ae s)
 have G:=(Ho (l:=j.2.2.1) d m a.2.1).2
 have H:=(Ho (l:=j.2.2.2) d m b.2.1).2
 refine w2 ?_
 refine lc (xal 1 ZT Xu) ?_
 refine w2 ?_
 obtain ⟨sg,t⟩:=gx c.1 ((j.1).toNat)
 have o:=t
 have Z:=(d _ (ae t)).2
 apply dW (i8 17 _ _ _ _ _ _ _ _ (io 25 (lf (dS (sg.1++(⟨#[32,61,32]⟩:ByteArray))))::i4 26 _ _ _ _ [io 30 (lf (dS (cvT c.1 j.2.2.1))),io 31 (lf (dS ((sg.1++(⟨#[32,61,32]⟩:ByteArray))++(cvT c.1 j.2.2.1)))),io 32 (lf (dS (w++((sg.1++(⟨#[32,61,32]⟩:ByteArray))++(cvT c.1 j.2.2.1))))),io 4 _])) [0,1,1,7,7,1,1,1,1,511,511,2047,2047,511,1,0,0]
 refine z8 ?_
 refine zz (fun _ p=>ac (Qw (p.v rfl) (Evl.str rfl) rfl (by first|omega|(simp only[ax,Q4,f,h];omega))) rfl) ?_
 refine z4 ?_
 refine zz (fun _ p=>ac (dK (Uw c.1 j.2.2.1 d m (by first|exact a.2.1|exact b.2.1) (by first|exact a.2.2|exact b.2.2)) Qg6) rfl) ?_
 refine zz (fun _ p=>ac (Qw (p.v rfl) (p.v rfl) rfl (by first|omega|(simp only[ax,Q4,f,h];omega))) rfl)<|zz (fun _ p=>ac (Qw (p.v rfl) (p.v rfl) rfl (by first|omega|(simp only[ax,Q4,f,h];omega))) rfl) ?_
 exact y1
 refine w4 ?_
 refine alI 34 fun _=> ?_
 refine w2 ?_
 cases r:(decide (j.2.1=2))
 have y:=aa r
 refine w4 ?_
 refine lc (Qw (Qa rfl) (Evl.str rfl) rfl (by first|omega|(simp only[ax,Q4,f,h];omega))) ?_
 refine w_ ?_
 refine Qd ?_
 refine w4 ?_
 refine Qd<|QV ⟨k+1,((w++((sg.1++(⟨#[32,61,32]⟩:ByteArray))++(cvT c.1 j.2.2.1)))++(⟨#[10]⟩:ByteArray)),by omega,rfl,(by exact (Qhn o ‹_›).symm.trans (QuV D E)),(by have p:=QdU (g:=j) d m a.2.1 b.2.1;first|(rw[← Qho o ‹_›,ax];omega)|(rw[← Qhn o ‹_›,ax];omega)),rfl⟩ (by omega) ?_
 exact wo []
 have y:=ab r
 refine w7 ?_
 refine lc (dK (Uw c.1 j.2.2.2 d m (by first|exact a.2.1|exact b.2.1) (by first|exact a.2.2|exact b.2.2)) Qg6) ?_
 refine lc (Qw (Evl.str rfl) (Qa rfl) rfl (by first|omega|(simp only[ax,Q4,f,h];omega)))<|lc (Qw (Qa rfl) (Qa rfl) rfl (by first|omega|(simp only[ax,Q4,f,h];omega))) ?_
 refine w4 ?_
 refine lc (Qw (Qa rfl) (Evl.str rfl) rfl (by first|omega|(simp only[ax,Q4,f,h];omega))) ?_
 refine w_ ?_
 refine Qd ?_
 refine w4 ?_
 refine Qd<|QV ⟨k+1,(((w++((sg.1++(⟨#[32,61,32]⟩:ByteArray))++(cvT c.1 j.2.2.1)))++((⟨#[32,47,32]⟩:ByteArray)++(cvT c.1 j.2.2.2)))++(⟨#[10]⟩:ByteArray)),by omega,rfl,(by exact (Qho o ‹_›).symm.trans (QuV D E)),(by have p:=QdU (g:=j) d m a.2.1 b.2.1;first|(rw[← Qho o ‹_›,ax];omega)|(rw[← Qhn o ‹_›,ax];omega)),rfl⟩ (by omega) ?_
 exact wo []
theorem Jo (c:Qgs)[∀c,Decidable (ZU c)](X:c.2.length≤100000):FC Tryz.prog 20 [(true,[.dat Ql c.1,.dat YU c.2])] [] 0 (QK (PV.tup [(false,[dS (ftV c)]),(false,[dB (decide (ZU c))])])):=by
 refine Qj Tryz.func20 rfl rfl Tryz.ntmps20 fun O_ F a0 K X_ Q P=> ?_
 refine w_ ?_
 refine xbx 0 ?_
 refine w6 ?_
 refine lc (dK (Jb c X) Qg5) ?_
 refine w2 ?_
 cases z:(decide (ZU c))
 have A:=aa z
 refine w6 ?_
 have L:((⟨#[]⟩:ByteArray):ByteArray)=(ftV c):=by
  exact (QuU ‹_›).1
 have M:(false:Bool)=(decide (ZU c)):=by
  exact (QuU ‹_›).2
 exact fr_ F (e:=by first|(rw[L,← M]<;>rfl)|rw[←L,M])
 have A:=ab z
 refine w2 ?_
 refine YC ?_
 have q:=(by assumption:ZU c)
 obtain ⟨d,m,V⟩:=Qrn q
 have f:(⟨#[32,61,32]⟩:ByteArray).size=3:=rfl
 have h:(⟨#[32,47,32]⟩:ByteArray).size=3:=rfl
 refine w7 ?_
 refine alL 11 fun _=> ?_
 refine w4 ?_
 refine Qu (fun I J=>∃(k:Nat) (w:ByteArray),k≤c.2.length∧I=c.2.length - k∧(w=ftK c k)∧(w.size≤9000*k)∧J=⟨[(1,lP 0 0),(2,lf (dS (⟨#[]⟩:ByteArray))),(3,lB false),(4,lf (dS w)),(11,lf (.dat YU c.2)),(12,lI (c.2.length:Int)),(13,lI (k:Int))],[bx 0 32 [.dat Ql c.1,.dat YU c.2]]⟩) ⟨0,(⟨#[]⟩:ByteArray),aL _,rfl,rfl,(aL _),rfl⟩ ?_ ?_
 exact wo []
 rintro I J ⟨k,w,W,Y,E,hs,rfl⟩
 refine w4 ?_
 cases B:(decide ((k:Int)<(c.2.length:Int)))
 have C:=aa B
 refine w9 ?_
 have N:(w:ByteArray)=(ftV c):=by
  exact (QuW q (by omega) E).1
 have O:(true:Bool)=(decide (ZU c)):=by
  exact (QuW q (by omega) E).2
 exact fr_ F (e:=by first|(rw[← N,← O]<;>rfl)|rw[N,O])
 have C:=ab B
 refine w5 ?_
 obtain ⟨j,s⟩:=gx c.2 k
 have D:=s
 obtain ⟨R,S,T,U,a,b⟩:=QwK q (ae s)
 have G:=(Ho (l:=j.2.2.1) d m a.2.1).2
 have H:=(Ho (l:=j.2.2.2) d m b.2.1).2
 refine w2 ?_
 refine lc (xal 1 ZT Xu) ?_
 refine w2 ?_
 obtain ⟨sg,t⟩:=gx c.1 ((j.1).toNat)
 have o:=t
 have Z:=(d _ (ae t)).2
 apply dW (i8 17 _ _ _ _ _ _ _ _ (io 25 (lf (dS (sg.1++(⟨#[32,61,32]⟩:ByteArray))))::i4 26 _ _ _ _ [io 30 (lf (dS (cvT c.1 j.2.2.1))),io 31 (lf (dS ((sg.1++(⟨#[32,61,32]⟩:ByteArray))++(cvT c.1 j.2.2.1)))),io 32 (lf (dS (w++((sg.1++(⟨#[32,61,32]⟩:ByteArray))++(cvT c.1 j.2.2.1))))),io 4 _])) [0,1,1,7,7,1,1,1,1,511,511,2047,2047,511,1,0,0]
 refine z8 ?_
 refine zz (fun _ p=>ac (Qw (p.v rfl) (Evl.str rfl) rfl (by first|omega|(simp only[ax,Q4,f,h];omega))) rfl) ?_
 refine z4 ?_
 refine zz (fun _ p=>ac (dK (K9 c.1 j.2.2.1 d m (by first|exact a.2.1|exact b.2.1) (by first|exact a.2.2|exact b.2.2)) Qg7) rfl) ?_
 refine zz (fun _ p=>ac (Qw (p.v rfl) (p.v rfl) rfl (by first|omega|(simp only[ax,Q4,f,h];omega))) rfl)<|zz (fun _ p=>ac (Qw (p.v rfl) (p.v rfl) rfl (by first|omega|(simp only[ax,Q4,f,h];omega))) rfl) ?_
 exact y1
 refine w4 ?_
 refine alI 34 fun _=> ?_
 refine w2 ?_
 cases r:(decide (j.2.1=2))
 have y:=aa r
 refine w4 ?_
 refine lc (Qw (Qa rfl) (Evl.str rfl) rfl (by first|omega|(simp only[ax,Q4,f,h];omega))) ?_
 refine w_ ?_
 refine Qd ?_
 refine w4 ?_
 refine Qd<|QV ⟨k+1,((w++((sg.1++(⟨#[32,61,32]⟩:ByteArray))++(cvT c.1 j.2.2.1)))++(⟨#[10]⟩:ByteArray)),by omega,rfl,(by exact (Qhn o ‹_›).symm.trans (QuV D E)),(by have p:=QdU (g:=j) d m a.2.1 b.2.1;first|(rw[← Qho o ‹_›,ax];omega)|(rw[← Qhn o ‹_›,ax];omega)),rfl⟩ (by omega) ?_
 exact wo []
 have y:=ab r
 refine w7 ?_
 refine lc (dK (K9 c.1 j.2.2.2 d m (by first|exact a.2.1|exact b.2.1) (by first|exact a.2.2|exact b.2.2)) Qg7) ?_
 refine lc (Qw (Evl.str rfl) (Qa rfl) rfl (by first|omega|(simp only[ax,Q4,f,h];omega)))<|lc (Qw (Qa rfl) (Qa rfl) rfl (by first|omega|(simp only[ax,Q4,f,h];omega))) ?_
 refine w4 ?_
 refine lc (Qw (Qa rfl) (Evl.str rfl) rfl (by first|omega|(simp only[ax,Q4,f,h];omega))) ?_
 refine w_ ?_
 refine Qd ?_
 refine w4 ?_
 refine Qd<|QV ⟨k+1,(((w++((sg.1++(⟨#[32,61,32]⟩:ByteArray))++(cvT c.1 j.2.2.1)))++((⟨#[32,47,32]⟩:ByteArray)++(cvT c.1 j.2.2.2)))++(⟨#[10]⟩:ByteArray)),by omega,rfl,(by exact (Qho o ‹_›).symm.trans (QuV D E)),(by have p:=QdU (g:=j) d m a.2.1 b.2.1;first|(rw[← Qho o ‹_›,ax];omega)|(rw[← Qhn o ‹_›,ax];omega)),rfl⟩ (by omega) ?_
 exact wo []
end Go.Proofs.YtjfpbcmfbnnooaaGreat
