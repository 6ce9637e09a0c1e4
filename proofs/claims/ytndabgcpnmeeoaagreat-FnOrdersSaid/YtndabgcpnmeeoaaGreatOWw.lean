/- Walks over abstract states: sameness of slices, the firings of a graph. -/
import Derived.Test.YtndabgcpnmeeoaaGreatOWr
set_option linter.unusedSimpArgs false
set_option linter.unusedVariables false
set_option linter.unusedSectionVars false
namespace Go.Proofs.YtndabgcpnmeeoaaGreat
open Go.RowKit
set_option maxRecDepth 100000
set_option maxHeartbeats 4000000
section
variable {α:Type}[DecidableEq α]{a b:List α}{k:Nat}{x y:α}
theorem WS (h:¬(a.length:Int)=(b.length:Int)):false=decide (a=b):=(aQ fun e=>h (by rw[e])).symm
theorem VX (c:a[k]? =some x)(d:b[k]? =some y)(h:x≠y):false=decide (a=b):=(aQ fun e=>h (by rw[e,d] at c; exact (ci c).symm)).symm
theorem Ke {α:Type}{a b:List α}{k:Nat}{x y:α}(c:∀j,j < k→a[j]? =b[j]?)(d:a[k]? =some x)(f:b[k]? =some y)(h:x=y):∀j,j < k+1→a[j]? =b[j]? :=fun j g=>by
 by_cases e:j=k
 ·rw[e,d,f,h]
 ·exact c j (by omega)
theorem Hx (e:(a.length:Int)=(b.length:Int))(c:∀j,j < k→a[j]? =b[j]?)(d:a.length≤k):true=decide (a=b):=(aY (bF fun j=>by
 by_cases h:j < k
 ·exact c j h
 ·rw[bp (by omega),bp (by omega)])).symm
theorem Qb6 {t:Ty}{x y:t.Den}(h:Ty.beq t x y=false):x≠y:=fun e=>by rw[(Ty.beq_iff t x y).2 e] at h; cases h
end
section
variable [∀s,Decidable (StgOk s)]
def Vh (s:Qy):List Int:=(dtV s (Qb s).1).1
def Kc (s:Qy):Bool:=decide ((0:Int) < ((dlV (Qb s).1).1.length:Int))
def frV (s:Qy):List Int×Bool×Bool:=if (sgV s).2=true then (Vh s,Kc s,true) else ([],false,false)
theorem Qfh {s:Qy}(h:(sgV s).2=false):frV s=([],false,false):=if_neg (by rw[h]; decide)
theorem Qbw {s:Qy}(h:(sgV s).2=true):frV s=(Vh s,Kc s,true):=if_pos h
def pfI (a b:Qy):Bool×Bool:=if (frV a).2.2=true∧(frV b).2.2=true∧a.2.1=b.2.1∧a.2.2.1=b.2.2.1 then (decide ((frV a).1=(frV b).1)&&(!(frV b).2.1||(frV a).2.1),true) else (false,false)
def pfV (a b:Qy):Bool×Bool:=if (sgV a).2=true∧(sgV b).2=true∧a.2.1=b.2.1∧a.2.2.1=b.2.2.1 then (decide (Vh a=Vh b)&&(Kc a|| !Kc b),true) else (false,false)
theorem QbI (a b:Qy):pfI a b=pfV a b:=by
 unfold pfI pfV
 cases c:(sgV a).2 with
 | false=>rw[Qfh c]; simp
 | true=>
  cases d:(sgV b).2 with
  | false=>rw[Qfh d]; simp
  | true=>rw[Qbw c,Qbw d,Bool.or_comm]
section
variable {a b:Qy}
theorem Qn8 (h:(frV a).2.2=false):pfV a b=(false,false):=by rw[← QbI]; exact if_neg fun g=>by rw[h] at g; cases g.1
theorem Qn9 (h:(frV b).2.2=false):pfV a b=(false,false):=by rw[← QbI]; exact if_neg fun g=>by rw[h] at g; cases g.2.1
theorem QdS (h:¬a.2.1=b.2.1):pfV a b=(false,false):=by rw[← QbI]; exact if_neg fun g=>h g.2.2.1
theorem QdT (h:¬a.2.2.1=b.2.2.1):pfV a b=(false,false):=by rw[← QbI]; exact if_neg fun g=>h g.2.2.2
theorem Qil (c:(frV a).2.2=true)(d:(frV b).2.2=true)(e:a.2.1=b.2.1)(f:a.2.2.1=b.2.2.1):pfV a b=(decide ((frV a).1=(frV b).1)&&(!(frV b).2.1||(frV a).2.1),true):=by rw[← QbI]; exact if_pos ⟨c,d,e,f⟩
theorem Qsq (c:(frV a).2.2=true)(d:(frV b).2.2=true)(e:a.2.1=b.2.1)(f:a.2.2.1=b.2.2.1)(h:¬(frV a).1=(frV b).1):pfV a b=(false,true):=by rw[Qil c d e f,aQ h]; rfl
theorem Qsr (c:(frV a).2.2=true)(d:(frV b).2.2=true)(e:a.2.1=b.2.1)(f:a.2.2.1=b.2.2.1)(h:(frV a).1=(frV b).1)(hb:(frV b).2.1=false):pfV a b=(true,true):=by rw[Qil c d e f,aY h,hb]; rfl
theorem Qss (c:(frV a).2.2=true)(d:(frV b).2.2=true)(e:a.2.1=b.2.1)(f:a.2.2.1=b.2.2.1)(h:(frV a).1=(frV b).1)(hb:(frV b).2.1=true):pfV a b=((frV a).2.1,true):=by rw[Qil c d e f,aY h,hb]; rfl
theorem Qoa (h:(sgV a).2=false):pfV a b=(false,false):=if_neg fun g=>by rw[h] at g; cases g.1
theorem Qim (h:(sgV b).2=false):pfV a b=(false,false):=if_neg fun g=>by rw[h] at g; cases g.2.1
theorem Qin (c:(sgV a).2=true)(d:(sgV b).2=true)(e:a.2.1=b.2.1)(f:a.2.2.1=b.2.2.1):pfV a b=(decide (Vh a=Vh b)&&(Kc a|| !Kc b),true):=if_pos ⟨c,d,e,f⟩
theorem Qst (c:(sgV a).2=true)(d:(sgV b).2=true)(e:a.2.1=b.2.1)(f:a.2.2.1=b.2.2.1)(h:¬Vh a=Vh b):pfV a b=(false,true):=by rw[Qin c d e f,aQ h]; rfl
theorem Qsu (c:(sgV a).2=true)(d:(sgV b).2=true)(e:a.2.1=b.2.1)(f:a.2.2.1=b.2.2.1)(h:Vh a=Vh b)(hb:Kc a=true):pfV a b=(true,true):=by rw[Qin c d e f,aY h,hb]; rfl
theorem Qsv (c:(sgV a).2=true)(d:(sgV b).2=true)(e:a.2.1=b.2.1)(f:a.2.2.1=b.2.2.1)(h:Vh a=Vh b)(hb:Kc a=false):pfV a b=(!Kc b,true):=by rw[Qin c d e f,aY h,hb]; rfl
end
end
theorem Xg (d:Qk1)(h:Qk1):FC Tryz.prog 136 [(false,[.dat Qo d]),(false,[.dat Qo h])] [] 0 (Za (lB (decide (d=h)))):=by
 refine Qn Tryz.func136 rfl rfl Tryz.ntmps136 fun A i z s B u t=> ?_
 refine w6 ?_
 refine alL 6 fun _=> ?_
 refine w2 ?_
 refine alL 8 fun _=> ?_
 refine w3 ?_
 refine cn_ (fun _ _=> ?_) fun _ _=> ?_
 refine w4 ?_
 refine alL 11 fun _=> ?_
 refine w4 ?_
 refine lpK d.length (fun k=>∀j,j < k→d[j]? =h[j]?) (fun k=>⟨[(0,lf (.dat Qo d)),(1,lf (.dat Qo h)),(12,lI (d.length:Int)),(13,lI (k:Int))],[]⟩) ((fun j v=>absurd v (bi j))) ?_ fun k _ n=> ?_
 exact wo []
 refine w4 ?_
 cases e:(decide ((k:Int) < (d.length:Int)))
 have f:=aa e
 refine w6 ?_
 refine Qe<|fqB i ?_
 exact Hx ‹_› n (by omega)
 have f:=ab e
 refine w8 ?_
 obtain ⟨l,g⟩:=gx d k
 obtain ⟨m,c⟩:=gx h k
 apply dW (i8 16 _ _ _ _ _ _ _ _ [io 24 (lB (!(Ty.beq QE l m)))]) [0,1,0,0,15,31,15,15,0]
 refine z8 ?_
 refine zz (fun _ o=>ac (VU Qrw Qrv (o.w rfl) (o.w rfl) (p:=l) (q:=m) rfl rfl rfl) rfl) ?_
 exact zN
 cases r:(Ty.beq QE l m)
 refine w4 ?_
 refine Qe<|fqB i ?_
 exact VX g c (by first | exact Qb6 ‹_› | assumption)
 refine w6 ?_
 refine Qf ?_
 refine lK_ ((Ke n g c (by first | exact (Ty.beq_iff _ _ _).1 ‹_› | assumption))) ?_
 exact wo []
 refine w3 ?_
 refine Qe<|fqB i ?_
 exact WS ‹_›
theorem XF (d:List (Int×Bool))(h:List (Int×Bool)):FC Tryz.prog 137 [(false,[.dat Qw d]),(false,[.dat Qw h])] [] 0 (Za (lB (decide (d=h)))):=by
 refine Qn Tryz.func137 rfl rfl Tryz.ntmps137 fun A i z s B u t=> ?_
 refine w6 ?_
 refine alL 6 fun _=> ?_
 refine w2 ?_
 refine alL 8 fun _=> ?_
 refine w3 ?_
 refine cn_ (fun _ _=> ?_) fun _ _=> ?_
 refine w4 ?_
 refine alL 11 fun _=> ?_
 refine w4 ?_
 refine lpK d.length (fun k=>∀j,j < k→d[j]? =h[j]?) (fun k=>⟨[(0,lf (.dat Qw d)),(1,lf (.dat Qw h)),(12,lI (d.length:Int)),(13,lI (k:Int))],[]⟩) ((fun j v=>absurd v (bi j))) ?_ fun k _ n=> ?_
 exact wo []
 refine w4 ?_
 cases e:(decide ((k:Int) < (d.length:Int)))
 have f:=aa e
 refine w6 ?_
 refine Qe<|fqB i ?_
 exact Hx ‹_› n (by omega)
 have f:=ab e
 refine w8 ?_
 obtain ⟨l,g⟩:=gx d k
 obtain ⟨m,c⟩:=gx h k
 apply dW (i8 16 _ _ _ _ _ _ _ _ [io 24 (lB (!(Ty.beq QL l m)))]) [0,1,0,0,15,31,15,15,0]
 refine z8 ?_
 refine zz (fun _ o=>ac (VU QhW QhV (o.w rfl) (o.w rfl) (p:=l) (q:=m) rfl rfl rfl) rfl) ?_
 exact zN
 cases r:(Ty.beq QL l m)
 refine w4 ?_
 refine Qe<|fqB i ?_
 exact VX g c (by first | exact Qb6 ‹_› | assumption)
 refine w6 ?_
 refine Qf ?_
 refine lK_ ((Ke n g c (by first | exact (Ty.beq_iff _ _ _).1 ‹_› | assumption))) ?_
 exact wo []
 refine w3 ?_
 refine Qe<|fqB i ?_
 exact WS ‹_›
theorem YI (e:List Int)(l:List Int):FC Tryz.prog 138 [(false,[.dat Qm e]),(false,[.dat Qm l])] [] 0 (Za (lB (decide (e=l)))):=by
 refine Qn Tryz.func138 rfl rfl Tryz.ntmps138 fun v m u q w s r=> ?_
 refine w6 ?_
 refine alL 6 fun _=> ?_
 refine w2 ?_
 refine alL 8 fun _=> ?_
 refine w3 ?_
 refine cn_ (fun _ _=> ?_) fun _ _=> ?_
 refine w4 ?_
 refine alL 11 fun _=> ?_
 refine w4 ?_
 refine lpK e.length (fun k=>∀j,j < k→e[j]? =l[j]?) (fun k=>⟨[(0,lf (.dat Qm e)),(1,lf (.dat Qm l)),(12,lI (e.length:Int)),(13,lI (k:Int))],[]⟩) ((fun j t=>absurd t (bi j))) ?_ fun k _ p=> ?_
 exact wo []
 refine w4 ?_
 cases g:(decide ((k:Int) < (e.length:Int)))
 have h:=aa g
 refine w6 ?_
 refine Qe<|fqB m ?_
 exact Hx ‹_› p (by omega)
 have h:=ab g
 refine w8 ?_
 obtain ⟨n,i⟩:=gx e k
 obtain ⟨o,d⟩:=gx l k
 apply dW (i9 16 _ _ _ _ _ _ _ _ _ []) [0,1,0,0,15,31,15,15,0]
 exact y9
 cases c:(!decide (n=o))
 have f:(n=o):=QY c
 refine w6 ?_
 refine Qf ?_
 refine lK_ ((Ke p i d (by first | exact (Ty.beq_iff _ _ _).1 ‹_› | assumption))) ?_
 exact wo []
 have f:¬(n=o):=Zb c
 refine w4 ?_
 refine Qe<|fqB m ?_
 exact VX i d (by first | exact Qb6 ‹_› | assumption)
 refine w3 ?_
 refine Qe<|fqB m ?_
 exact WS ‹_›
theorem WL (a:Qk1)(b:Qk1):FC Tryz.prog 139 [(false,[.dat Qo a]),(false,[.dat Qo b])] [] 0 (Za (lB (decide (a=b)))):=by
 refine Qn Tryz.func139 rfl rfl Tryz.ntmps139 fun v g u o z s r=> ?_
 refine w6 ?_
 refine alL 6 fun _=> ?_
 refine w2 ?_
 refine alL 8 fun _=> ?_
 refine w3 ?_
 refine cn_ (fun _ _=> ?_) fun _ _=> ?_
 refine w4 ?_
 refine alL 11 fun _=> ?_
 refine w4 ?_
 refine lpK a.length (fun k=>∀j,j < k→a[j]? =b[j]?) (fun k=>⟨[(0,lf (.dat Qo a)),(1,lf (.dat Qo b)),(12,lI (a.length:Int)),(13,lI (k:Int))],[]⟩) ((fun j t=>absurd t (bi j))) ?_ fun k _ l=> ?_
 exact wo []
 refine w4 ?_
 cases d:(decide ((k:Int) < (a.length:Int)))
 have e:=aa d
 refine w6 ?_
 refine Qe<|fqB g ?_
 exact Hx ‹_› l (by omega)
 have e:=ab d
 refine w8 ?_
 obtain ⟨h,f⟩:=gx a k
 obtain ⟨i,c⟩:=gx b k
 apply dW (i8 16 _ _ _ _ _ _ _ _ [io 24 (lB (!(Ty.beq QE h i)))]) [0,1,0,0,15,31,15,15,0]
 refine z8 ?_
 refine zz (fun _ m=>ac (VU Qrw Qrv (m.w rfl) (m.w rfl) (p:=h) (q:=i) rfl rfl rfl) rfl) ?_
 exact zN
 cases n:(Ty.beq QE h i)
 refine w4 ?_
 refine Qe<|fqB g ?_
 exact VX f c (by first | exact Qb6 ‹_› | assumption)
 refine w6 ?_
 refine Qf ?_
 refine lK_ ((Ke l f c (by first | exact (Ty.beq_iff _ _ _).1 ‹_› | assumption))) ?_
 exact wo []
 refine w3 ?_
 refine Qe<|fqB g ?_
 exact WS ‹_›
theorem JA (a:List (Int×Bool))(b:List (Int×Bool)):FC Tryz.prog 140 [(false,[.dat Qw a]),(false,[.dat Qw b])] [] 0 (Za (lB (decide (a=b)))):=by
 refine Qn Tryz.func140 rfl rfl Tryz.ntmps140 fun v g u o z s r=> ?_
 refine w6 ?_
 refine alL 6 fun _=> ?_
 refine w2 ?_
 refine alL 8 fun _=> ?_
 refine w3 ?_
 refine cn_ (fun _ _=> ?_) fun _ _=> ?_
 refine w4 ?_
 refine alL 11 fun _=> ?_
 refine w4 ?_
 refine lpK a.length (fun k=>∀j,j < k→a[j]? =b[j]?) (fun k=>⟨[(0,lf (.dat Qw a)),(1,lf (.dat Qw b)),(12,lI (a.length:Int)),(13,lI (k:Int))],[]⟩) ((fun j t=>absurd t (bi j))) ?_ fun k _ l=> ?_
 exact wo []
 refine w4 ?_
 cases d:(decide ((k:Int) < (a.length:Int)))
 have e:=aa d
 refine w6 ?_
 refine Qe<|fqB g ?_
 exact Hx ‹_› l (by omega)
 have e:=ab d
 refine w8 ?_
 obtain ⟨h,f⟩:=gx a k
 obtain ⟨i,c⟩:=gx b k
 apply dW (i8 16 _ _ _ _ _ _ _ _ [io 24 (lB (!(Ty.beq QL h i)))]) [0,1,0,0,15,31,15,15,0]
 refine z8 ?_
 refine zz (fun _ m=>ac (VU QhW QhV (m.w rfl) (m.w rfl) (p:=h) (q:=i) rfl rfl rfl) rfl) ?_
 exact zN
 cases n:(Ty.beq QL h i)
 refine w4 ?_
 refine Qe<|fqB g ?_
 exact VX f c (by first | exact Qb6 ‹_› | assumption)
 refine w6 ?_
 refine Qf ?_
 refine lK_ ((Ke l f c (by first | exact (Ty.beq_iff _ _ _).1 ‹_› | assumption))) ?_
 exact wo []
 refine w3 ?_
 refine Qe<|fqB g ?_
 exact WS ‹_›
theorem YK (a:List Int)(b:List Int):FC Tryz.prog 142 [(false,[.dat Qm a]),(false,[.dat Qm b])] [] 0 (Za (lB (decide (a=b)))):=by
 refine Qn Tryz.func142 rfl rfl Tryz.ntmps142 fun t i s o u q p=> ?_
 refine w6 ?_
 refine alL 6 fun _=> ?_
 refine w2 ?_
 refine alL 8 fun _=> ?_
 refine w3 ?_
 refine cn_ (fun _ _=> ?_) fun _ _=> ?_
 refine w4 ?_
 refine alL 11 fun _=> ?_
 refine w4 ?_
 refine lpK a.length (fun k=>∀j,j < k→a[j]? =b[j]?) (fun k=>⟨[(0,lf (.dat Qm a)),(1,lf (.dat Qm b)),(12,lI (a.length:Int)),(13,lI (k:Int))],[]⟩) ((fun j r=>absurd r (bi j))) ?_ fun k _ n=> ?_
 exact wo []
 refine w4 ?_
 cases f:(decide ((k:Int) < (a.length:Int)))
 have g:=aa f
 refine w6 ?_
 refine Qe<|fqB i ?_
 exact Hx ‹_› n (by omega)
 have g:=ab f
 refine w8 ?_
 obtain ⟨l,h⟩:=gx a k
 obtain ⟨m,d⟩:=gx b k
 apply dW (i9 16 _ _ _ _ _ _ _ _ _ []) [0,1,0,0,15,31,15,15,0]
 exact y9
 cases c:(!decide (l=m))
 have e:(l=m):=QY c
 refine w6 ?_
 refine Qf ?_
 refine lK_ ((Ke n h d (by first | exact (Ty.beq_iff _ _ _).1 ‹_› | assumption))) ?_
 exact wo []
 have e:¬(l=m):=Zb c
 refine w4 ?_
 refine Qe<|fqB i ?_
 exact VX h d (by first | exact Qb6 ‹_› | assumption)
 refine w3 ?_
 refine Qe<|fqB i ?_
 exact WS ‹_›
theorem Jo (s:YA)[∀s,Decidable (StgOk s)]:FC Tryz.prog 135 [(true,[dI s.1.1, .dat QF s.1.2, .dat Qo s.2.1, .dat Qw s.2.2.1,dS s.2.2.2])] [] 0 (Is (PV.tup [(false,[.ref 0]),(false,[dB ((frV s).2.1)]),(false,[dB ((frV s).2.2)])]) [ar 0 3 .int ((frV s).1)]):=by
 refine Qn Tryz.func135 rfl rfl Tryz.ntmps135 fun m c l d n j i=> ?_
 refine acG 0 0 fun _=> ?_
 refine w_ ?_
 refine xbx 0 ?_
 refine w7 ?_
 refine lc (dG 1 (Z2 s) KS) ?_
 refine w3 ?_
 refine lc (xal 4 Qf1 VB) ?_
 refine w7 ?_
 refine cx_ (fun _=> ?_) fun _=> ?_
 refine w5 ?_
 refine AC.wk (Wk.nilS 5 2 3 .int rfl (Fresh.of rfl) (nlr rfl))<|Qe ?_
 have e:(false:Bool)=((frV s).2.1):=by
  (rw[Qfh ‹_›]; done)
 have f:(false:Bool)=((frV s).2.2):=by
  (rw[Qfh ‹_›]; done)
 exact fi_ [(0,5)] c ⟨(Qh (by (rw[Qfh ‹_›]; done))),trivial⟩ (h0:=by rw[← e,← f] <;> rfl)
 refine w3 ?_
 refine lc (dG 6 (Vw s) Qaz) ?_
 refine w3 ?_
 refine lc (xal 8 Qdu XI) ?_
 refine w6 ?_
 refine lc (Ve 9 (Kg s ((Qb s).1)) QlM ⟨_,_,rfl,(Ev.b (Ql rfl)),⟨_,_,rfl,(Jl (Ql rfl) ⟨_,_,rfl, .inr ⟨_,_,_,_,rfl,rfl,rfl⟩,⟨_,_,rfl, .inr ⟨_,_,_,_,rfl,rfl,rfl⟩,rfl⟩⟩),rfl⟩⟩ rfl rfl rfl ⟨Fresh.of rfl,trivial⟩ (nlr rfl)) ?_
 refine w8 ?_
 refine lc (Ve 10 (Qbh ((Qb s).1)) QlN ⟨_,_,rfl,(Jl (Ql rfl) ⟨_,_,rfl, .inr ⟨_,_,_,_,rfl,rfl,rfl⟩,⟨_,_,rfl, .inr ⟨_,_,_,_,rfl,rfl,rfl⟩,rfl⟩⟩),rfl⟩ rfl rfl rfl ⟨Fresh.of rfl,trivial⟩ (nlr rfl)) ?_
 refine w16 ?_
 have g:(decide (0 < (((dlV ((Qb s).1)).1).length:Int)):Bool)=((frV s).2.1):=by
  (rw[Qbw ‹_›]; rfl)
 have h:(true:Bool)=((frV s).2.2):=by
  (rw[Qbw ‹_›]; done)
 exact fi_ [(0,9)] c ⟨(Qh (by (rw[Qbw ‹_›]; rfl))),trivial⟩ (h0:=by rw[g,← h] <;> rfl)
theorem WU (s:YA)[∀s,Decidable (StgOk s)]:FC Tryz.prog 117 [(true,[dI s.1.1, .dat QF s.1.2, .dat Qo s.2.1, .dat Qw s.2.2.1,dS s.2.2.2])] [] 0 (Za (lB ((sgV s).2))):=by
 refine Qn Tryz.func117 rfl rfl Tryz.ntmps117 fun h f g c i e d=> ?_
 refine acG 0 0 fun _=> ?_
 refine w_ ?_
 refine xbx 0 ?_
 refine w4 ?_
 refine lc (dG 1 (YJ s) Qaw) ?_
 refine w3 ?_
 refine lc (xal 4 Qf1 VB) ?_
 refine w8 ?_
 exact fe_ f
theorem Kl (s:YA)[∀s,Decidable (StgOk s)]:FC Tryz.prog 141 [(true,[dI s.1.1, .dat QF s.1.2, .dat Qo s.2.1, .dat Qw s.2.2.1,dS s.2.2.2])] [] 0 (Is (PV.tup [(false,[.ref 0]),(false,[dB (Kc s)])]) [ar 0 3 .int (Vh s)]):=by
 refine Qn Tryz.func141 rfl rfl Tryz.ntmps141 fun i g h c j f e=> ?_
 refine acG 0 0 fun _=> ?_
 refine w_ ?_
 refine xbx 0 ?_
 refine w5 ?_
 refine lc (dG 1 (XY s) KT) ?_
 refine w3 ?_
 refine lc (xal 3 Qdu XI) ?_
 refine w6 ?_
 refine lc (Ve 4 (Kj s ((Qb s).1)) QlO ⟨_,_,rfl,(Ev.b (Ql rfl)),⟨_,_,rfl,(Jl (Ql rfl) ⟨_,_,rfl, .inr ⟨_,_,_,_,rfl,rfl,rfl⟩,⟨_,_,rfl, .inr ⟨_,_,_,_,rfl,rfl,rfl⟩,rfl⟩⟩),rfl⟩⟩ rfl rfl rfl ⟨Fresh.of rfl,trivial⟩ (nlr rfl)) ?_
 refine w8 ?_
 refine lc (Ve 5 (Qbl ((Qb s).1)) QlP ⟨_,_,rfl,(Jl (Ql rfl) ⟨_,_,rfl, .inr ⟨_,_,_,_,rfl,rfl,rfl⟩,⟨_,_,rfl, .inr ⟨_,_,_,_,rfl,rfl,rfl⟩,rfl⟩⟩),rfl⟩ rfl rfl rfl ⟨Fresh.of rfl,trivial⟩ (nlr rfl)) ?_
 refine w15 ?_
 have d:(decide (0 < (((dlV ((Qb s).1)).1).length:Int)):Bool)=(Kc s):=by
  rfl
 exact fi_ [(0,4)] g ⟨(Qh (by rfl)),trivial⟩ (h0:=by rw[d] <;> rfl)
theorem YB (a:YA)(b:YA)[∀s,Decidable (StgOk s)]:FC Tryz.prog 36 [(true,[dI a.1.1, .dat QF a.1.2, .dat Qo a.2.1, .dat Qw a.2.2.1,dS a.2.2.2]),(true,[dI b.1.1, .dat QF b.1.2, .dat Qo b.2.1, .dat Qw b.2.2.1,dS b.2.2.2])] [] 0 (Za (PV.tup [(false,[dB ((pfV a b).1)]),(false,[dB ((pfV a b).2)])])):=by
 refine Qn Tryz.func36 rfl rfl Tryz.ntmps36 fun J f I z K F E=> ?_
 refine acG 0 0 fun _=> ?_
 refine acG 1 0 fun _=> ?_
 refine w_ ?_
 refine xbx 0 ?_
 refine xbx 1 ?_
 refine w5 ?_
 refine lc (dG 2 (Jo a) QeD) ?_
 refine w10 ?_
 refine lc (dG 3 (Jo b) QeD) ?_
 refine w13 ?_
 cases G:((frV a).2.2)
 refine w16 ?_
 refine w10 ?_
 have A:(false:Bool)=((pfV a b).1):=by
  (rw[Qn8 ‹_›]; done)
 have B:(false:Bool)=((pfV a b).2):=by
  (rw[Qn8 ‹_›]; done)
 exact fr_ f (e:=by rw[← A,← B] <;> rfl)
 refine w4 ?_
 cases H:((frV b).2.2)
 refine w16 ?_
 refine w6 ?_
 have C:(false:Bool)=((pfV a b).1):=by
  (rw[Qn9 ‹_›]; done)
 have D:(false:Bool)=((pfV a b).2):=by
  (rw[Qn9 ‹_›]; done)
 exact fr_ f (e:=by rw[← C,← D] <;> rfl)
 refine w4 ?_
 refine lgy rfl rfl (dK (Xg a.2.1 b.2.1) Qlf) ?_
 refine w3 ?_
 cases i:(decide (a.2.1=b.2.1))
 have j:=aa i
 refine w14 ?_
 have l:(false:Bool)=((pfV a b).1):=by
  (rw[QdS ‹_›]; done)
 have m:(false:Bool)=((pfV a b).2):=by
  (rw[QdS ‹_›]; done)
 exact fr_ f (e:=by rw[← l,← m] <;> rfl)
 have j:=ab i
 refine w4 ?_
 refine lgy rfl rfl (dK (XF a.2.2.1 b.2.2.1) Qlg) ?_
 refine w3 ?_
 cases c:(decide (a.2.2.1=b.2.2.1))
 have g:=aa c
 refine w6 ?_
 have n:(false:Bool)=((pfV a b).1):=by
  (rw[QdT ‹_›]; done)
 have o:(false:Bool)=((pfV a b).2):=by
  (rw[QdT ‹_›]; done)
 exact fr_ f (e:=by rw[← n,← o] <;> rfl)
 have g:=ab c
 refine w5 ?_
 refine lc (dB_ (YI ((frV a).1) ((frV b).1)) Qax) ?_
 refine w_ ?_
 cases d:(decide (((frV a).1)=((frV b).1)))
 have h:=aa d
 refine w3 ?_
 refine Zh rfl rfl rfl ?_ rfl
 refine w6 ?_
 have p:(false:Bool)=((pfV a b).1):=by
  (rw[Qsq ‹_› ‹_› ‹_› ‹_› ‹_›]; done)
 have q:(true:Bool)=((pfV a b).2):=by
  (rw[Qsq ‹_› ‹_› ‹_› ‹_› ‹_›]; done)
 exact fr_ f (e:=by rw[← p,← q] <;> rfl)
 have h:=ab d
 refine w3 ?_
 cases w:((frV b).2.1)
 refine w7 ?_
 have r:(true:Bool)=((pfV a b).1):=by
  (rw[Qsr ‹_› ‹_› ‹_› ‹_› ‹_› ‹_›]; done)
 have t:(true:Bool)=((pfV a b).2):=by
  (rw[Qsr ‹_› ‹_› ‹_› ‹_› ‹_› ‹_›]; done)
 exact fr_ f (e:=by rw[← r,← t] <;> rfl)
 refine w7 ?_
 have u:((frV a).2.1:Bool)=((pfV a b).1):=by
  (rw[Qss ‹_› ‹_› ‹_› ‹_› ‹_› ‹_›]; done)
 have v:(true:Bool)=((pfV a b).2):=by
  (rw[Qss ‹_› ‹_› ‹_› ‹_› ‹_› ‹_›]; done)
 exact fr_ f (e:=by rw[u,← v] <;> rfl)
theorem XS (a:YA)(b:YA)[∀s,Decidable (StgOk s)]:FC Tryz.prog 37 [(true,[dI a.1.1, .dat QF a.1.2, .dat Qo a.2.1, .dat Qw a.2.2.1,dS a.2.2.2]),(true,[dI b.1.1, .dat QF b.1.2, .dat Qo b.2.1, .dat Qw b.2.2.1,dS b.2.2.2])] [] 0 (Za (PV.tup [(false,[dB ((pfV a b).1)]),(false,[dB ((pfV a b).2)])])):=by
 refine Qn Tryz.func37 rfl rfl Tryz.ntmps37 fun J f I z K F E=> ?_
 refine acG 0 0 fun _=> ?_
 refine acG 1 0 fun _=> ?_
 refine w_ ?_
 refine xbx 0 ?_
 refine xbx 1 ?_
 refine w6 ?_
 refine lc (dK (WU a) Qav) ?_
 refine w2 ?_
 cases G:((sgV a).2)
 refine w16 ?_
 refine w11 ?_
 have A:(false:Bool)=((pfV a b).1):=by
  (rw[Qoa ‹_›]; done)
 have B:(false:Bool)=((pfV a b).2):=by
  (rw[Qoa ‹_›]; done)
 exact fr_ f (e:=by rw[← A,← B] <;> rfl)
 refine w_ ?_
 refine lgy rfl rfl (dK (WU b) Qav) ?_
 refine w3 ?_
 cases H:((sgV b).2)
 refine w16 ?_
 refine w6 ?_
 have C:(false:Bool)=((pfV a b).1):=by
  (rw[Qim ‹_›]; done)
 have D:(false:Bool)=((pfV a b).2):=by
  (rw[Qim ‹_›]; done)
 exact fr_ f (e:=by rw[← C,← D] <;> rfl)
 refine w4 ?_
 refine lgy rfl rfl (dK (WL a.2.1 b.2.1) QeE) ?_
 refine w3 ?_
 cases i:(decide (a.2.1=b.2.1))
 have j:=aa i
 refine w14 ?_
 have l:(false:Bool)=((pfV a b).1):=by
  (rw[QdS ‹_›]; done)
 have m:(false:Bool)=((pfV a b).2):=by
  (rw[QdS ‹_›]; done)
 exact fr_ f (e:=by rw[← l,← m] <;> rfl)
 have j:=ab i
 refine w4 ?_
 refine lgy rfl rfl (dK (JA a.2.2.1 b.2.2.1) Qlh) ?_
 refine w3 ?_
 cases c:(decide (a.2.2.1=b.2.2.1))
 have g:=aa c
 refine w6 ?_
 have n:(false:Bool)=((pfV a b).1):=by
  (rw[QdT ‹_›]; done)
 have o:(false:Bool)=((pfV a b).2):=by
  (rw[QdT ‹_›]; done)
 exact fr_ f (e:=by rw[← n,← o] <;> rfl)
 have g:=ab c
 refine w4 ?_
 refine lc (dG 2 (Kl a) QeF) ?_
 refine w8 ?_
 refine lc (dG 3 (Kl b) QeF) ?_
 refine w9 ?_
 refine lc (dB_ (YK (Vh a) (Vh b)) WR) ?_
 refine w_ ?_
 cases d:(decide ((Vh a)=(Vh b)))
 have h:=aa d
 refine w2 ?_
 refine Zh rfl rfl rfl ?_ rfl
 refine Zh rfl rfl rfl ?_ rfl
 refine w6 ?_
 have p:(false:Bool)=((pfV a b).1):=by
  (rw[Qst ‹_› ‹_› ‹_› ‹_› ‹_›]; done)
 have q:(true:Bool)=((pfV a b).2):=by
  (rw[Qst ‹_› ‹_› ‹_› ‹_› ‹_›]; done)
 exact fr_ f (e:=by rw[← p,← q] <;> rfl)
 have h:=ab d
 refine w2 ?_
 cases w:(Kc a)
 refine w8 ?_
 have r:(!(Kc b):Bool)=((pfV a b).1):=by
  (rw[Qsv ‹_› ‹_› ‹_› ‹_› ‹_› ‹_›]; done)
 have t:(true:Bool)=((pfV a b).2):=by
  (rw[Qsv ‹_› ‹_› ‹_› ‹_› ‹_› ‹_›]; done)
 exact fr_ f (e:=by rw[r,← t] <;> rfl)
 refine w8 ?_
 have u:(true:Bool)=((pfV a b).1):=by
  (rw[Qsu ‹_› ‹_› ‹_› ‹_› ‹_› ‹_›]; done)
 have v:(true:Bool)=((pfV a b).2):=by
  (rw[Qsu ‹_› ‹_› ‹_› ‹_› ‹_› ‹_›]; done)
 exact fr_ f (e:=by rw[← u,← v] <;> rfl)
end Go.Proofs.YtndabgcpnmeeoaaGreat
namespace Go.Proofs.YtndabgcpnmeeoaaGreat
open Go.RowKit
set_option maxRecDepth 100000
set_option maxHeartbeats 4000000
theorem Q4 {A:Amb}{P:Program}{o:Oper}{s:St}{d:Nat}{b f:Bool}(e:b=f)(h:Does A P o s (s.put d (lf (dB b)))):Does A P o s (s.put d (lf (dB f))):=e▸h
abbrev DSg:=List (ByteArray×Int)×List ByteArray×List DAr
theorem QaK (b:List QB)[Decidable (XM b)]:FC Tryz.prog 176 [(false,[.dat (.sl 77 Ye) b])] [] 0 (Za (lf (dB (decide (XM b))))):=Qef fun f w g h=>by
 obtain ⟨v,rfl,e⟩:=h.leaf1
 exact (JK v b w e).mono fun _ _ h=>Hb h
theorem Qbt (b:List QB)[Decidable (XM b)]:FC Tryz.prog 214 [(false,[.dat (.sl 77 Ye) b])] [] 0 (Za (lf (dB (decide (XM b))))):=Qef fun f w g h=>by
 obtain ⟨v,rfl,e⟩:=h.leaf1
 exact (Qae v b w e).mono fun _ _ h=>Hb h
def H0 (n:Int)(l:Q9):Prop:=(0≤l.1∧l.1≤n - 1)∨(l.1= -1∧l.2=false)
instance (n:Int) (l:Q9):Decidable (H0 n l):=inferInstanceAs (Decidable (_∨_))
def Y8 (s:ByteArray)(n:Int):Prop:=(∀c∈s.toList,c=48∨c=49)∧(s.size:Int)=n
instance (s:ByteArray) (n:Int):Decidable (Y8 s n):=inferInstanceAs (Decidable (_∧_))
section
variable {n:Int}{l:Q9}{s x y:ByteArray}{k:Nat}{c d:UInt8}{a:DAr}
theorem QnK (h:0≤l.1∧l.1≤n - 1):true=decide (H0 n l):=(aY (.inl h)).symm
theorem QrZ (h:¬(0≤l.1∧l.1≤n - 1)):Ty.beq XP l (-1,false)=decide (H0 n l):=by
 rw[cF,Ty.beq_iff,aS]
 constructor
 ·rintro rfl; exact .inr ⟨rfl,rfl⟩
 ·rintro (b | b)
  ·exact absurd b h
  ·exact Prod.ext b.1 b.2
theorem Qwh (h:¬(0≤l.1∧l.1≤n - 1))(e:l.1= -1):(!l.2)=decide (H0 n l):=by
 rw[cF,aS]
 constructor
 ·intro b; exact .inr ⟨e,by simpa using b⟩
 ·rintro (b | b)
  ·exact absurd b h
  ·simp[b.2]
theorem Qwi (h:¬(0≤l.1∧l.1≤n - 1))(e:¬l.1= -1):false=decide (H0 n l):=(aQ (by rintro (b | b); exact h b; exact e b.1)).symm
theorem QnN (h:s[((k:Int)).toNat]? =some c):s.toList[k]? =some c:=by
 have h:s[k]? =some c:=h
 rw[bB]
 obtain ⟨b,e⟩:∃b:k < s.size,s[k]=c:=by
  by_cases b:k < s.size
  ·rw[dH s k b] at h; exact ⟨b,ci h⟩
  ·rw[getElem?_neg s k b] at h; cases h
 rw[ap (by simpa using b)]
 rw[← e]; simp; rfl
theorem Ho (f:∀j,j < k→∀c,s.toList[j]? =some c→c=48∨c=49)(g:s[((k:Int)).toNat]? =some c)(h:c=48∨c=49):∀j,j < k+1→∀c,s.toList[j]? =some c→c=48∨c=49:=fun j i d b=>by
 by_cases e:j=k
 ·subst e; rw[QnN g] at b; cases b; exact h
 ·exact f j (by omega) d b
theorem Qnl (f:s[((k:Int)).toNat]? =some c)(b:¬c=48)(e:¬c=49):false=decide (Y8 s n):=(aQ fun h=>by
 rcases h.1 c (ai (QnN f)) with h | h
 ·exact b h
 ·exact e h).symm
theorem Qjl (e:∀j,j < k→∀c,s.toList[j]? =some c→c=48∨c=49)(g:s.size≤k):decide ((s.size:Int)=n)=decide (Y8 s n):=db.2 ⟨fun h=>⟨fun c f=>by
 obtain ⟨j,b⟩:=aO.1 f
 have:=(ah.1 b).1
 rw[WP] at this
 exact e j (by omega) c b,h⟩,fun h=>h.2⟩
def Xi (a:DAr)(x y:ByteArray)(j:Nat):Prop:=if (j:Int)=a.2.1 then (decide (bAt x j=49)= !a.2.2.1∧decide (bAt y j=49)=a.2.2.1) else bAt x j=bAt y j
instance (a:DAr) (x y:ByteArray) (j:Nat):Decidable (Xi a x y j):=by unfold Xi; exact inferInstance
def Fit (a:DAr)(x y:ByteArray):Prop:=∀j,j < x.size→Xi a x y j
instance (a:DAr) (x y:ByteArray):Decidable (Fit a x y):=by unfold Fit; exact inferInstance
theorem QjB (b:∀j,j < k→Xi a x y j)(h:Xi a x y k):∀j,j < k+1→Xi a x y j:=fun j f=>by
 by_cases e:j=k
 ·subst e; exact h
 ·exact b j (by omega)
theorem Qmo (e:k < x.size)(h:¬Xi a x y k):false=decide (Fit a x y):=(aQ fun b=>h (b k e)).symm
theorem Qui (b:∀j,j < k→Xi a x y j)(f:x.size≤k):true=decide (Fit a x y):=(aY fun j e=>b j (by omega)).symm
theorem J4 (h:¬(k:Int)=a.2.1)(b:x[((k:Int)).toNat]? =some c)(e:y[((k:Int)).toNat]? =some d):Xi a x y k↔c=d:=by
 unfold Xi; rw[if_neg h,VI b,VI e]
theorem QrG (h:(k:Int)=a.2.1)(b:x[((k:Int)).toNat]? =some c)(e:y[((k:Int)).toNat]? =some d):Xi a x y k↔(decide (c=49)= !a.2.2.1∧decide (d=49)=a.2.2.1):=by
 unfold Xi; rw[if_pos h,VI b,VI e]
theorem Qcr (h:(k:Int)=a.2.1)(g:x[((k:Int)).toNat]? =some c)(b:(decide (c=49)==a.2.2.1)=true):¬Xi a x y k:=by
 unfold Xi; rw[if_pos h,VI g]
 rintro ⟨e,_⟩
 rw[e] at b
 cases f:a.2.2.1 <;> rw[f] at b <;> cases b
theorem Qcs (h:(k:Int)=a.2.1)(g:y[((k:Int)).toNat]? =some d)(b:(decide (d=49)==a.2.2.1)=false):¬Xi a x y k:=by
 unfold Xi; rw[if_pos h,VI g]
 rintro ⟨_,e⟩
 rw[e] at b
 cases f:a.2.2.1 <;> rw[f] at b <;> cases b
theorem Qg1 (h:(k:Int)=a.2.1)(j:x[((k:Int)).toNat]? =some c)(m:y[((k:Int)).toNat]? =some d)(b:(decide (c=49)==a.2.2.1)=false)(e:(decide (d=49)==a.2.2.1)=true):Xi a x y k:=by
 rw[QrG h j m]
 cases f:a.2.2.1 <;> rw[f] at b e <;> cases g:decide (c=49) <;> rw[g] at b <;> cases i:decide (d=49) <;> rw[i] at e <;> first | exact ⟨rfl,rfl⟩ | exact absurd b (by decide) | exact absurd e (by decide)
def QbQ (code:ByteArray)(sig:Int)(b:ByteArray):ByteArray:=(code.extract 0 sig.toNat++b)++code.extract (sig+1).toNat code.size
end
theorem JW (l:Int×Bool)(n:Int)(r:0≤n∧n≤1000000):FC Tryz.prog 263 [(true,[dI l.1,dB l.2]),(false,[dI n])] [] 0 (Za (lB (decide (H0 n l)))):=by
 refine Qn Tryz.func263 rfl rfl Tryz.ntmps263 fun m f j g o i h=> ?_
 refine acG 0 0 fun _=> ?_
 refine acI 1 fun _=> ?_
 refine w_ ?_
 refine xbx 0 ?_
 refine w7 ?_
 refine lc (dK (QP l.1 0 (n - 1)) Zf) ?_
 refine w_ ?_
 cases b:(decide (0≤l.1∧l.1≤(n - 1)))
 have e:=aa b
 refine w_ ?_
 refine lgy rfl rfl (Qj Qaq ⟨_,_,rfl,(Evl.ev (Qr rfl)),rfl⟩ (av.1 rfl) rfl rfl)<|lgy rfl rfl (QoM QhW QhV (Ql rfl) (Ql rfl) (p:=l) (q:=((-1),false)) rfl rfl rfl) ?_
 refine w3 ?_
 refine Qe<|fqB f ?_
 exact QrZ ‹_›
 have e:=ab b
 refine w6 ?_
 refine Qe<|fqB f ?_
 exact QnK ‹_›
theorem Qdl (l:Int×Bool)(n:Int)(r:0≤n∧n≤1000000):FC Tryz.prog 350 [(true,[dI l.1,dB l.2]),(false,[dI n])] [] 0 (Za (lB (decide (H0 n l)))):=by
 refine Qn Tryz.func350 rfl rfl Tryz.ntmps350 fun p h o i q m j=> ?_
 refine acG 0 0 fun _=> ?_
 refine acI 1 fun _=> ?_
 refine w_ ?_
 refine xbx 0 ?_
 refine w7 ?_
 refine lc (dK (Zo l.1 0 (n - 1)) ZV) ?_
 refine w_ ?_
 cases b:(decide (0≤l.1∧l.1≤(n - 1)))
 have e:=aa b
 refine w4 ?_
 cases f:(decide (l.1=(-1)))
 have g:=aa f
 refine w7 ?_
 refine Qe<|fqB h ?_
 exact Qwi ‹_› ‹_›
 have g:=ab f
 refine w7 ?_
 refine Qe<|fqB h ?_
 exact Qwh ‹_› ‹_›
 have e:=ab b
 refine w4 ?_
 refine Zh rfl rfl rfl ?_ rfl
 refine Zh rfl rfl rfl ?_ rfl
 refine Zh rfl rfl rfl ?_ rfl
 refine w4 ?_
 refine Qe<|fqB h ?_
 exact QnK ‹_›
theorem Qe2 (s:ByteArray)(n:Int):FC Tryz.prog 316 [(false,[dS s]),(false,[dI n])] [] 0 (Za (lB (decide (Y8 s n)))):=by
 refine Qn Tryz.func316 rfl rfl Tryz.ntmps316 fun z p w q A t r=> ?_
 refine acI 1 fun _=> ?_
 refine w8 ?_
 refine lpK s.size (fun k=>∀j,j < k→∀c,s.toList[j]? =some c→c=48∨c=49) (fun k=>⟨[(0,lf (dS s)),(1,lI n),(5,lI (k:Int))],[]⟩) ((fun j v=>absurd v (bi j))) ?_ fun k _ o=> ?_
 exact wo []
 refine w4 ?_
 refine alS 7 fun _=> ?_
 refine lc (Yq (Qa rfl) rfl ZN) ?_
 refine w2 ?_
 cases e:(decide ((k:Int) < (s.size:Int)))
 have f:=aa e
 refine w5 ?_
 refine alS 22 fun _=> ?_
 refine lc (Yq (Qa rfl) rfl ZN) ?_
 refine w4 ?_
 refine Qe<|fqB p ?_
 exact Qjl o (by omega)
 have f:=ab e
 refine w7 ?_
 obtain ⟨b,u⟩:=gs s (((k:Int)).toNat)
 refine w_ ?_
 refine lc (Zy (Qa rfl) (Q0 48 rfl) rfl) ?_
 refine w_ ?_
 cases g:(!decide (b=48))
 have h:(b=48):=QY g
 refine w13 ?_
 refine Qf ?_
 refine lK_ ((Ho o ‹_› (by first | exact .inl ‹_› | exact .inr ‹_›))) ?_
 exact wo []
 have h:¬(b=48):=Zb g
 refine w3 ?_
 refine lgy rfl rfl (Zy (Qa rfl) (Q0 49 rfl) rfl) ?_
 refine w2 ?_
 cases i:(!decide (b=49))
 have m:(b=49):=QY i
 refine w7 ?_
 refine Qf ?_
 refine lK_ ((Ho o ‹_› (by first | exact .inl ‹_› | exact .inr ‹_›))) ?_
 exact wo []
 have m:¬(b=49):=Zb i
 refine w4 ?_
 refine Qe<|fqB p ?_
 exact Qnl (k:=k) ‹_› ‹_› ‹_›
theorem Qe9 (s:ByteArray)(n:Int):FC Tryz.prog 216 [(false,[dS s]),(false,[dI n])] [] 0 (Za (lB (decide (Y8 s n)))):=by
 refine Qn Tryz.func216 rfl rfl Tryz.ntmps216 fun z p w q A t r=> ?_
 refine acI 1 fun _=> ?_
 refine w8 ?_
 refine lpK s.size (fun k=>∀j,j < k→∀c,s.toList[j]? =some c→c=48∨c=49) (fun k=>⟨[(0,lf (dS s)),(1,lI n),(5,lI (k:Int))],[]⟩) ((fun j v=>absurd v (bi j))) ?_ fun k _ o=> ?_
 exact wo []
 refine w4 ?_
 refine alS 7 fun _=> ?_
 refine lc (Yq (Qa rfl) rfl ZN) ?_
 refine w2 ?_
 cases e:(decide ((k:Int) < (s.size:Int)))
 have f:=aa e
 refine w5 ?_
 refine alS 22 fun _=> ?_
 refine lc (Yq (Qa rfl) rfl ZN) ?_
 refine w4 ?_
 refine Qe<|fqB p ?_
 exact Qjl o (by omega)
 have f:=ab e
 refine w7 ?_
 obtain ⟨b,u⟩:=gs s (((k:Int)).toNat)
 refine w_ ?_
 refine lc (Zy (Qa rfl) (Q0 48 rfl) rfl) ?_
 refine w_ ?_
 cases g:(!decide (b=48))
 have h:(b=48):=QY g
 refine w13 ?_
 refine Qf ?_
 refine lK_ ((Ho o ‹_› (by first | exact .inl ‹_› | exact .inr ‹_›))) ?_
 exact wo []
 have h:¬(b=48):=Zb g
 refine w3 ?_
 refine lgy rfl rfl (Zy (Qa rfl) (Q0 49 rfl) rfl) ?_
 refine w2 ?_
 cases i:(!decide (b=49))
 have m:(b=49):=QY i
 refine w7 ?_
 refine Qf ?_
 refine lK_ ((Ho o ‹_› (by first | exact .inl ‹_› | exact .inr ‹_›))) ?_
 exact wo []
 have m:¬(b=49):=Zb i
 refine w4 ?_
 refine Qe<|fqB p ?_
 exact Qnl (k:=k) ‹_› ‹_› ‹_›
theorem Qbj (a:Qt3)(x:ByteArray)(y:ByteArray)(J:x.size≤y.size):FC Tryz.prog 317 [(true,[dI a.1,dI a.2.1,dB a.2.2.1,dI a.2.2.2]),(false,[dS x]),(false,[dS y])] [] 0 (Za (lB (decide (Fit a x y)))):=by
 refine Qn Tryz.func317 rfl rfl Tryz.ntmps317 fun L u K E M G F=> ?_
 refine acG 0 0 fun _=> ?_
 refine acG 0 1 fun _=> ?_
 refine acG 0 3 fun _=> ?_
 refine w_ ?_
 refine xbx 0 ?_
 refine w5 ?_
 refine alS 8 fun _=> ?_
 refine lc (Yq (Qa rfl) rfl ZN) ?_
 refine w3 ?_
 refine lpK x.size (fun k=>∀j,j < k→Xi a x y j) (fun k=>⟨[(1,lf (dS x)),(2,lf (dS y)),(3,lP 0 0),(9,lI (x.size:Int)),(10,lI (k:Int))],[bx 0 154 [dI a.1,dI a.2.1,dB a.2.2.1,dI a.2.2.2]]⟩) ((fun j I=>absurd I (bi j))) ?_ fun k _ z=> ?_
 exact wo []
 refine w4 ?_
 cases p:(decide ((k:Int) < (x.size:Int)))
 have q:=aa p
 refine w6 ?_
 refine Qe<|fqB u ?_
 exact Qui z (by omega)
 have q:=ab p
 refine w16 ?_
 cases r:(!decide ((k:Int)=a.2.1))
 have t:((k:Int)=a.2.1):=QY r
 refine w_ ?_
 obtain ⟨w,H⟩:=gs x (((k:Int)).toNat)
 cases e:((decide (w=49))==a.2.2.1)
 obtain ⟨g,B⟩:=gs y (((k:Int)).toNat)
 apply dW (i3 26 _ _ _ (io 29 (lB (decide (w=49))) :: i2 30 _ _ (io 32 (lB false) :: i4 33 _ _ _ _ (io 37 (lB (decide (g=49))) :: i2 38 _ _ [io 40 (lB (!((decide (g=49))==a.2.2.1))),io 41 _,io 25 _])))) [0,1,0,0,15,15,0,0,0,256,0,0,3840,3840,0,0,0]
 refine z3 ?_
 refine zz (fun _ b=>ac (Zm (b.v rfl) (Q0 49 rfl) rfl) rfl) ?_
 refine z2 ?_
 refine zz (fun _ b=>ac (Q4 (e) (Qgq (b.v rfl) (b.v rfl) rfl Jx)) rfl) ?_
 refine z4 ?_
 refine zz (fun _ b=>day rfl (b.k rfl) (Zm (b.v rfl) (Q0 49 rfl) rfl) rfl) ?_
 refine z2 ?_
 refine zz (fun _ b=>day rfl (b.k rfl) (X6 (b.v rfl) (b.v rfl) rfl Jx) rfl) ?_
 exact y2
 cases A:((decide (g=49))==a.2.2.1)
 refine w4 ?_
 refine Qe<|fqB u ?_
 exact Qmo (k:=k) (by omega) (fun h=>by first | exact absurd ((J4 ‹_› ‹_› ‹_›).1 h) ‹_› | exact Qcr ‹_› ‹_› ‹_› h | exact Qcs ‹_› ‹_› ‹_› h)
 refine w6 ?_
 refine Qf ?_
 refine lK_ ((QjB z (by first | exact (J4 ‹_› ‹_› ‹_›).2 ‹_› | exact Qg1 ‹_› ‹_› ‹_› ‹_› ‹_›))) ?_
 exact wo []
 apply dW (i3 26 _ _ _ (io 29 (lB (decide (w=49))) :: i2 30 _ _ (io 32 (lB true) :: i9 33 _ _ _ _ _ _ _ _ _ [io 25 _]))) [0,1,0,0,15,15,0,0,0,256,0,0,3840,3840,0,0,0]
 refine z3 ?_
 refine zz (fun _ b=>ac (Zm (b.v rfl) (Q0 49 rfl) rfl) rfl) ?_
 refine z2 ?_
 refine zz (fun _ b=>ac (Q4 (e) (Qgq (b.v rfl) (b.v rfl) rfl Jx)) rfl) ?_
 exact y10
 refine w4 ?_
 refine Qe<|fqB u ?_
 exact Qmo (k:=k) (by omega) (fun h=>by first | exact absurd ((J4 ‹_› ‹_› ‹_›).1 h) ‹_› | exact Qcr ‹_› ‹_› ‹_› h | exact Qcs ‹_› ‹_› ‹_› h)
 have t:¬((k:Int)=a.2.1):=Zb r
 refine w_ ?_
 obtain ⟨i,C⟩:=gs x (((k:Int)).toNat)
 obtain ⟨m,D⟩:=gs y (((k:Int)).toNat)
 apply dW (i7 18 _ _ _ _ _ _ _ []) [0,1,0,7,15,7,0]
 exact y7
 cases f:(!decide (i=m))
 have o:(i=m):=QY f
 refine w6 ?_
 refine Qf ?_
 refine lK_ ((QjB z (by first | exact (J4 ‹_› ‹_› ‹_›).2 ‹_› | exact Qg1 ‹_› ‹_› ‹_› ‹_› ‹_›))) ?_
 exact wo []
 have o:¬(i=m):=Zb f
 refine w4 ?_
 refine Qe<|fqB u ?_
 exact Qmo (k:=k) (by omega) (fun h=>by first | exact absurd ((J4 ‹_› ‹_› ‹_›).1 h) ‹_› | exact Qcr ‹_› ‹_› ‹_› h | exact Qcs ‹_› ‹_› ‹_› h)
theorem UX (code:ByteArray)(sig:Int)(b:ByteArray)(q:0≤sig∧sig < (code.size:Int))(hb:code.size≤1000000∧b.size≤1000000):FC Tryz.prog 351 [(false,[dS code]),(false,[dI sig]),(false,[dS b])] [] 0 (Za (lf (dS (QbQ code sig b)))):=by
 refine Qn Tryz.func351 rfl rfl Tryz.ntmps351 fun o j m f p i g=> ?_
 refine acI 1 fun _=> ?_
 refine w3 ?_
 apply dW (i2 7 _ _ (io 9 (lf (dS (code.extract 0 (sig).toNat))) :: io 10 _ :: io 11 (lf (dS ((code.extract 0 (sig).toNat)++b))) :: i3 12 _ _ _ [io 15 (lf (dS (code.extract (sig+1).toNat code.size))),io 16 (lf (dS (((code.extract 0 (sig).toNat)++b)++(code.extract (sig+1).toNat code.size)))),io 6 _])) [0,1,0,7,0,31,63,63,31,0,0]
 refine z2 ?_
 refine zz (fun _ e=>ac (show Does _ _ _ _ (St.put _ 9 (lf (dS (code.extract 0 (sig).toNat)))) from Zd (l:=none) (h:=(some sig)) (e.v rfl) (by exact trivial) (by exact (e.v rfl)) ZN rfl (by first | omega | (simp only[ak,aj]; omega)) (by first | omega | (simp only[ak,aj]; omega)) (by first | omega | (simp only[ak,aj]; omega))) rfl) ?_
 refine z_ ?_
 refine zz (fun _ e=>ac (Q7 (e.v rfl) (e.v rfl) rfl (by first | omega | (simp only[bc,ba]; omega))) rfl) ?_
 refine z3 ?_
 refine zz (fun _ e=>ac (show Does _ _ _ _ (St.put _ 15 (lf (dS (code.extract (sig+1).toNat code.size)))) from Zd (l:=(some (sig+1))) (h:=none) (e.v rfl) (by exact (e.v rfl)) (by exact trivial) ZN rfl (by first | omega | (simp only[ak,aj]; omega)) (by first | omega | (simp only[ak,aj]; omega)) (by first | omega | (simp only[ak,aj]; omega))) rfl)<|zz (fun _ e=>ac (Q7 (e.v rfl) (e.v rfl) rfl (by first | omega | (simp only[bc,ba]; omega))) rfl) ?_
 exact y1
 refine Qe<|fqS j ?_
 rfl
end Go.Proofs.YtndabgcpnmeeoaaGreat
namespace Go.Proofs.YtndabgcpnmeeoaaGreat
open Go.RowKit
set_option maxRecDepth 100000
set_option maxHeartbeats 4000000
def Qes (c:DSg)(i:Int):ByteArray:=(c.2.1[i.toNat]?).getD ByteArray.empty
def XJ (c:DSg)(a:DAr):Prop:=(0≤a.1∧a.1≤(c.2.1.length:Int) - 1)∧(0≤a.2.2.2∧a.2.2.2≤(c.2.1.length:Int) - 1)∧H0 (c.1.length:Int) (a.2.1,a.2.2.1)∧Fit a (Qes c a.1) (Qes c a.2.2.2)
instance (c:DSg) (a:DAr):Decidable (XJ c a):=inferInstanceAs (Decidable (_∧_))
section
variable {c:DSg}{a:DAr}{x y b code:ByteArray}{n sig p:Int}{j k m:Nat}
theorem Ka (h:c.2.1[p.toNat]? =some x):Qes c p=x:=by unfold Qes; rw[h]; rfl
theorem U6 (m:ByteArray)(p:Int):bAt m p=(m.toList[p.toNat]?).getD 0:=by
 unfold bAt
 rw[bB]
 by_cases h:p.toNat < m.size
 ·rw[dH m p.toNat h,ap (by simpa using h)]
  rfl
 ·rw[getElem?_neg m p.toNat h,bp (by simpa using h)]
theorem QhK (g:x.size=y.size)(h:∀j:Nat,j < x.size→bAt x (j:Int)=bAt y (j:Int)):x=y:=by
 have e:x.toList=y.toList:=bF fun j=>by
  by_cases d:j < x.size
  ·have h1:=h j d
   rw[U6,U6] at h1
   have h2:j < x.toList.length:=by rw[WP]; exact d
   have h3:j < y.toList.length:=by rw[WP,← g]; exact d
   have f:((j:Int)).toNat=j:=rfl
   rw[f,ap h2,ap h3] at h1
   rw[ap h2,ap h3]
   exact congrArg some h1
  ·rw[bp (by rw[WP]; omega),bp (by rw[WP]; omega)]
 rw[bB,bB] at e
 exact ByteArray.ext (Array.toList_inj.1 e)
theorem Qhr (code:ByteArray)(sig:Int)(b:ByteArray):(QbQ code sig b).toList=code.toList.take sig.toNat++(b.toList++code.toList.drop (sig+1).toNat):=by
 have h:code.data.size=code.size:=rfl
 simp only[QbQ,bB,ByteArray.data_append,ByteArray.data_extract,Array.toList_append,Array.toList_extract,aK]
 simp[h,List.extract_eq_take_drop]
 rw[aJ (by simp[h])]
theorem Qhs (h0:0≤sig)(h1:sig < code.size)(hb:b.size=1):(QbQ code sig b).size=code.size:=by
 rw[← WP,Qhr]
 simp only[ae,ao,aW,WP,hb]
 omega
theorem Qoj (h0:0≤sig)(h1:sig < code.size)(hb:b.size=1)(g:j < code.size):bAt (QbQ code sig b) (j:Int)=if (j:Int)=sig then bAt b 0 else bAt code (j:Int):=by
 rw[U6,Qhr,U6,U6]
 have i:=WP code
 have f:=WP b
 have d:((j:Int)).toNat=j:=rfl
 rw[d]
 by_cases e:(j:Int)=sig
 ·rw[if_pos e,bk (by rw[ao]; omega),bf (by rw[ao]; omega)]
  rw[show j - (code.toList.take sig.toNat).length=((0:Int)).toNat by rw[ao]; show _=0; omega]
 ·rw[if_neg e]
  by_cases h:(j:Int) < sig
  ·rw[bf (by rw[ao]; omega),bw,if_pos (by omega)]
  ·rw[bk (by rw[ao]; omega),bk (by rw[ao]; omega),cw]
   congr 2
   rw[ao]
   omega
theorem Qdy (h:Y8 x n)(e:j < x.size):bAt x (j:Int)=48∨bAt x (j:Int)=49:=by
 have h2:j < x.toList.length:=by rw[WP]; exact e
 rw[U6]
 have d:((j:Int)).toNat=j:=rfl
 rw[d,ap h2]
 exact h.1 _ (dd h2)
theorem QhN (b:Bool):bAt (YF b) 0=if b=true then 49 else 48:=by cases b <;> rfl
theorem WO (b:Bool):(YF b).size=1:=rfl
theorem Qdx {c:UInt8}{b:Bool}(h:c=48∨c=49):decide (c=49)=b↔c=if b=true then 49 else 48:=by
 rcases h with rfl | rfl <;> cases b <;> decide
theorem Quh (hx:Y8 x n)(hy:Y8 y n)(f:a.2.1 < 0):Fit a x y↔x=y:=by
 have d:x.size=y.size:=by have:=hx.2; have:=hy.2; omega
 constructor
 ·intro h
  refine QhK d fun j e=> ?_
  have:=h j e
  unfold Xi at this
  rwa [if_neg (by omega)] at this
 ·rintro rfl j e
  unfold Xi
  rw[if_neg (by omega)]
theorem QnD (hx:Y8 x n)(hy:Y8 y n)(s:¬a.2.1 < 0)(r:a.2.1 < n):Fit a x y↔x=QbQ y a.2.1 (YF (!a.2.2.1))∧y=QbQ x a.2.1 (YF a.2.2.1):=by
 have o:=hx.2
 have q:=hy.2
 have t:=Qhs (code:=y) (sig:=a.2.1) (b:=YF (!a.2.2.1)) (by omega) (by omega) (WO _)
 have z2:=Qhs (code:=x) (sig:=a.2.1) (b:=YF a.2.2.1) (by omega) (by omega) (WO _)
 have f:=fun (j:Nat) d=>Qoj (j:=j) (code:=y) (sig:=a.2.1) (b:=YF (!a.2.2.1)) (by omega) (by omega) (WO _) d
 have g:=fun (j:Nat) d=>Qoj (j:=j) (code:=x) (sig:=a.2.1) (b:=YF a.2.2.1) (by omega) (by omega) (WO _) d
 constructor
 ·intro h
  constructor
  ·refine QhK (by omega) fun j d=> ?_
   rw[f j (by omega),QhN]
   have h1:=h j d
   unfold Xi at h1
   split
   ·rename_i e
    rw[if_pos e] at h1
    exact (Qdx (Qdy hx d)).1 h1.1
   ·rename_i e
    rwa [if_neg e] at h1
  ·refine QhK (by omega) fun j d=> ?_
   rw[g j (by omega),QhN]
   have h1:=h j (by omega)
   unfold Xi at h1
   split
   ·rename_i e
    rw[if_pos e] at h1
    exact (Qdx (Qdy hy d)).1 h1.2
   ·rename_i e
    rw[if_neg e] at h1
    exact h1.symm
 ·rintro ⟨i,l⟩ j d
  have h1:=f j (by omega)
  have h2:=g j d
  rw[← i,QhN] at h1
  rw[← l,QhN] at h2
  unfold Xi
  split
  ·rename_i e
   rw[if_pos e] at h1 h2
   exact ⟨(Qdx (Qdy hx d)).2 h1,(Qdx (Qdy hy (by omega))).2 h2⟩
  ·rename_i e
   rwa [if_neg e] at h1
theorem QtF (h:¬(0≤a.1∧a.1≤(c.2.1.length:Int) - 1)):false=decide (XJ c a):=(aQ fun g=>h g.1).symm
theorem QtG (h:¬(0≤a.2.2.2∧a.2.2.2≤(c.2.1.length:Int) - 1)):false=decide (XJ c a):=(aQ fun g=>h g.2.1).symm
theorem QtH (h:¬H0 (c.1.length:Int) (a.2.1,a.2.2.1)):false=decide (XJ c a):=(aQ fun g=>h g.2.2.1).symm
theorem QmC (h3:H0 (c.1.length:Int) (a.2.1,a.2.2.1))(d:¬a.2.1 < 0):a.2.1 < (c.1.length:Int):=by
 rcases h3 with h | h
 ·have h:0≤a.2.1∧a.2.1≤(c.1.length:Int) - 1:=h; omega
 ·have h:a.2.1= -1:=h.1; omega
section
variable (h1:0≤a.1∧a.1≤(c.2.1.length:Int) - 1)(h2:0≤a.2.2.2∧a.2.2.2≤(c.2.1.length:Int) - 1)(h3:H0 (c.1.length:Int) (a.2.1,a.2.2.1))(hx:c.2.1[a.1.toNat]? =some x)(hy:c.2.1[a.2.2.2.toNat]? =some y)
include h1 h2 h3 hx hy
theorem QhH:XJ c a↔Fit a x y:=by
 unfold XJ
 rw[Ka hx,Ka hy]
 exact ⟨fun g=>g.2.2.2,fun g=>⟨h1,h2,h3,g⟩⟩
theorem QtE (hb:∀x∈c.2.1,Y8 x (c.1.length:Int))(d:a.2.1 < 0):decide (x=y)=decide (XJ c a):=db.2 (by rw[QhH h1 h2 h3 hx hy,Quh (hb x (ai hx)) (hb y (ai hy)) d])
theorem QqZ (hb:∀x∈c.2.1,Y8 x (c.1.length:Int))(d:¬a.2.1 < 0)(h:¬x=QbQ y a.2.1 (YF (!a.2.2.1))):false=decide (XJ c a):=(aQ fun g=>by
 rw[QhH h1 h2 h3 hx hy,QnD (hb x (ai hx)) (hb y (ai hy)) d (QmC h3 d)] at g
 exact h g.1).symm
theorem Qq0 (hb:∀x∈c.2.1,Y8 x (c.1.length:Int))(d:¬a.2.1 < 0)(h:x=QbQ y a.2.1 (YF (!a.2.2.1))):decide (y=QbQ x a.2.1 (YF a.2.2.1))=decide (XJ c a):=db.2 (by
 rw[QhH h1 h2 h3 hx hy,QnD (hb x (ai hx)) (hb y (ai hy)) d (QmC h3 d)]
 exact ⟨fun g=>⟨h,g⟩,fun g=>g.2⟩)
end
end
theorem Qgh (c:Qew)(a:Qt3)(f:∀x∈c.2.1,Y8 x (c.1.length:Int))(F:c.1.length≤1000):FC Tryz.prog 217 [(true,[.dat Qo c.1, .dat Qu c.2.1, .dat Yo c.2.2]),(true,[dI a.1,dI a.2.1,dB a.2.2.1,dI a.2.2.2])] [] 0 (Za (lB (decide (XJ c a)))):=by
 refine Qn Tryz.func217 rfl rfl Tryz.ntmps217 fun I l H C J E D=> ?_
 refine acG 1 0 fun _=> ?_
 refine acG 1 1 fun _=> ?_
 refine acG 1 3 fun _=> ?_
 refine w_ ?_
 refine xbx 0 ?_
 refine xbx 1 ?_
 refine w8 ?_
 refine alL 10 fun _=> ?_
 refine w2 ?_
 refine lc (dK (Zo a.1 0 ((c.2.1.length:Int) - 1)) ZV) ?_
 refine w2 ?_
 cases o:(decide (0≤a.1∧a.1≤((c.2.1.length:Int) - 1)))
 have q:=aa o
 refine w16 ?_
 refine w10 ?_
 refine Qe<|fqB l ?_
 exact QtF ‹_›
 have q:=ab o
 refine w4 ?_
 refine alL 19 fun _=> ?_
 refine w2 ?_
 refine lgy rfl rfl (dK (Zo a.2.2.2 0 ((c.2.1.length:Int) - 1)) ZV) ?_
 refine w3 ?_
 cases r:(decide (0≤a.2.2.2∧a.2.2.2≤((c.2.1.length:Int) - 1)))
 have s:=aa r
 refine w16 ?_
 refine Qe<|fqB l ?_
 exact QtG ‹_›
 have s:=ab r
 refine w4 ?_
 refine lgy rfl rfl (Qj Qaq ⟨_,_,rfl,(Ql rfl),⟨_,_,rfl,(Ql rfl),rfl⟩⟩ (av.1 rfl) rfl rfl) ?_
 refine w2 ?_
 refine alL 32 fun _=> ?_
 refine w_ ?_
 refine lgy rfl rfl (dK (Qdl (a.2.1,a.2.2.1) (c.1.length:Int) (by omega)) QlY) ?_
 refine w3 ?_
 cases t:(decide (H0 (c.1.length:Int) (a.2.1,a.2.2.1)))
 have u:=aa t
 refine w4 ?_
 refine Qe<|fqB l ?_
 exact QtH ‹_›
 have u:=ab t
 refine w2 ?_
 obtain ⟨i,w⟩:=gx c.2.1 ((a.1).toNat)
 have A:=(f _ (ai w)).2
 obtain ⟨g,z⟩:=gx c.2.1 ((a.2.2.2).toNat)
 have B:=(f _ (ai z)).2
 apply dW (i9 37 _ _ _ _ _ _ _ _ _ (i3 46 _ _ _ (i2 5 _ _ []))) [0,0,3,3,0,0,63,63,255,255,63,63,4032,0]
 exact y14
 refine w6 ?_
 refine cd_ (fun _ _=> ?_) fun _ _=> ?_
 refine w_ ?_
 have G:=QmC (c:=c) (a:=a) ‹_› ‹_›
 cases d:(decide (i=(QbQ g a.2.1 (YF (!a.2.2.1)))))
 have h:=aa d
 apply dW (i7 55 _ _ _ _ _ _ _ (io 62 (lf (dS (YF (!a.2.2.1)))) :: io 63 (lf (dS (QbQ g a.2.1 (YF (!a.2.2.1))))) :: io 64 (lB false) :: i9 65 _ _ _ _ _ _ _ _ _ (i2 74 _ _ [io 4 _]))) [0,1,3,3,15,15,15,15,1,0,0,0,2048,6144,6144,30720,30720,30720,2048,0,0,0]
 refine z7 ?_
 refine zz (fun _ e=>ac (dK (XU (!a.2.2.1)) Ue) rfl) ?_
 refine zz (fun _ e=>ac (dK (UX g a.2.1 (YF (!a.2.2.1)) (by omega) ⟨by omega,by rw[WO]; decide⟩) QaC) rfl) ?_
 refine zz (fun _ e=>ac (Q4 (d) (VT (e.v rfl) (e.v rfl) rfl)) rfl) ?_
 exact y12
 refine Qe<|fqB l ?_
 exact QqZ ‹_› ‹_› ‹_› (x:=i) (y:=g) ‹_› ‹_› f ‹_› ‹_›
 have h:=ab d
 apply dW (i7 55 _ _ _ _ _ _ _ (io 62 (lf (dS (YF (!a.2.2.1)))) :: io 63 (lf (dS (QbQ g a.2.1 (YF (!a.2.2.1))))) :: io 64 (lB true) :: i7 65 _ _ _ _ _ _ _ (io 72 (lf (dS (YF a.2.2.1))) :: io 73 (lf (dS (QbQ i a.2.1 (YF a.2.2.1)))) :: i2 74 _ _ [io 4 _]))) [0,1,3,3,15,15,15,15,1,0,0,0,2048,6144,6144,30720,30720,30720,2048,0,0,0]
 refine z7 ?_
 refine zz (fun _ e=>ac (dK (XU (!a.2.2.1)) Ue) rfl) ?_
 refine zz (fun _ e=>ac (dK (UX g a.2.1 (YF (!a.2.2.1)) (by omega) ⟨by omega,by rw[WO]; decide⟩) QaC) rfl) ?_
 refine zz (fun _ e=>ac (Q4 (d) (VT (e.v rfl) (e.v rfl) rfl)) rfl) ?_
 refine z7 ?_
 refine zz (fun _ e=>day rfl (e.k rfl) (dK (XU a.2.2.1) Ue) rfl) ?_
 refine zz (fun _ e=>day rfl (e.k rfl) (dK (UX i a.2.1 (YF a.2.2.1) (by omega) ⟨by omega,by rw[WO]; decide⟩) QaC) rfl) ?_
 exact y3
 refine Qe<|fqB l ?_
 exact Qq0 ‹_› ‹_› ‹_› (x:=i) (y:=g) ‹_› ‹_› f ‹_› ‹_›
 refine w6 ?_
 refine Qe<|fqB l ?_
 exact QtE ‹_› ‹_› ‹_› (x:=i) (y:=g) ‹_› ‹_› f ‹_›
end Go.Proofs.YtndabgcpnmeeoaaGreat
