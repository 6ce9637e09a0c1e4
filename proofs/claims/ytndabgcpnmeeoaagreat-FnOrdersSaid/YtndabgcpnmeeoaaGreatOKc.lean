/- What an admissible ordering does to a graph. Plain law. -/
import Derived.Test.YtndabgcpnmeeoaaGreatOKa
import Derived.Test.YtndabgcpnmeeoaaGreatODd
import Derived.Test.YtndabgcpnmeeoaaGreatOEf
import Derived.Test.YtndabgcpnmeeoaaGreatOCi
import Derived.Test.YtndabgcpnmeeoaaGreatOWj
import Derived.Test.YtndabgcpnmeeoaaGreatOCa
import Derived.Test.YtndabgcpnmeeoaaGreatOWw
set_option linter.unusedSimpArgs false
set_option linter.unusedVariables false
set_option linter.unusedSectionVars false
namespace Go.Proofs.YtndabgcpnmeeoaaGreat
open Go.RowKit
set_option maxRecDepth 100000
set_option maxHeartbeats 4000000
section
variable {s:Qy}{o:Qp}{m m1 M M':ByteArray}{t u v p:Int}{a b k n:Nat}{w:ByteArray}
theorem Qtu {ts:List Qt}{y:Qt}(hab:a≠b)(d:(WF ts a b p)[k]? =some y):∃x,ts[k]? =some x∧(y.1=x.1∨y.1=x.1++[p])∧(y.2=x.2∨y.2=x.2++[p]):=by
 unfold WF at d
 rw[cp,cp] at d
 cases h:ts[k]? with
 | none=>rw[h] at d; cases d
 | some x=>
  rw[h] at d
  refine ⟨x,rfl, ?_⟩
  have c:=ci d
  by_cases f:a=k
  ·have g:¬b=k:=fun e=>hab (f.trans e.symm)
   simp only[if_pos f,if_neg g] at c
   rw[← c]
   exact ⟨.inl rfl, .inr rfl⟩
  ·by_cases g:b=k
   ·simp only[if_pos g,if_neg f] at c
    rw[← c]
    exact ⟨.inr rfl, .inl rfl⟩
   ·simp only[if_neg g,if_neg f] at c
    rw[← c]
    exact ⟨.inl rfl, .inl rfl⟩
theorem Qig {y:Qt}(c:Vf s o)(d:(QC s o).1.2[k]? =some y):∃x,s.1.2[k]? =some x∧(y.1=x.1∨y.1=x.1++[s.1.1])∧(y.2=x.2∨y.2=x.2++[s.1.1]):=
 Qtu (fun e=>c.2.2.2 (by have:=c.2.1.1; have:=c.2.2.1.1; omega)) d
theorem QmH (c:Vf s o)(i:Mor m M)(hb:Xz m s.1.1)(l:t∈QO (QC s o).1 M):t∈QO s.1 m:=by
 obtain ⟨y,e,q,g⟩:=QdI l
 obtain ⟨x,d,f,_⟩:=Qig c q
 have j:=Qfs c.1.net hb x (ai d)
 exact QnB e d (QnA i (fun p h=>(j.1 p h).1) (by rw[hb.2]; exact f) g)
theorem Qn0 (f:Vf s o)(e:Mor m M)(hb:Xz m s.1.1)(d:Fir (QC s o).1 M t M'):∃c,Fir s.1 m t c∧Mor c M'∧Xz c s.1.1:=by
 have D:=QmH f e hb (Qcq d).1
 obtain ⟨y,q,C,B,d⟩:=d
 obtain ⟨x,i,j,r⟩:=Qig f C
 have g:=Qfs f.1.net hb x (ai i)
 obtain ⟨c,l,z⟩:=Quc e (fun p h=>(g.1 p h).1) (fun p h=>(g.2 p h).1) (by rw[hb.2]; exact j) (by rw[hb.2]; exact r) d
 refine ⟨c,⟨x,q,i,QnA e (fun p h=>(g.1 p h).1) (by rw[hb.2]; exact j) B,l⟩,z, ?_⟩
 have A:Zw s.1 m t=(c,true):=by rw[UI i,l]
 exact WV hb A.symm rfl
theorem Qn1 (c:Vf s o)(l:Rea (QC s o).1 (QC s o).2.2.2 M):∃m,Rea s.1 s.2.2.2 m∧Mor m M∧Xz m s.1.1:=by
 induction l with
 | zero=>
  refine ⟨s.2.2.2, .zero,⟨if o.2.2 then 49 else 48, ?_⟩,c.1.bits⟩
  show (s.2.2.2++YF o.2.2).data.toList=_
  unfold YF
  simp
 | step _ d q=>
  obtain ⟨m,e,f,g⟩:=q
  obtain ⟨r,h,i,j⟩:=Qn0 c f g d
  exact ⟨r, .step e h,i,j⟩
theorem Qwu (g:Vf s o)(h:shV (QC s o).1 t u=false)(B:∃y,(QC s o).1.2[t.toNat]? =some y)(C:∃y,(QC s o).1.2[u.toNat]? =some y):shV s.1 t u=false:=by
 obtain ⟨y,j⟩:=B
 obtain ⟨z,l⟩:=C
 obtain ⟨x,D,r,_⟩:=Qig g j
 obtain ⟨E,c,A,_⟩:=Qig g l
 rw[QcJ j l] at h
 rw[QcJ D c]
 rw[cC] at h ⊢
 intro q i
 have d:=h q (by rcases r with e | e <;> rw[e]; exact i; exact aH _ i)
 rw[aS] at d ⊢
 exact fun f=>d (by rcases A with e | e <;> rw[e]; exact f; exact aH _ f)
theorem Qoy {ms:List ByteArray}{g:Yh}{x:List Int}:x∈ZP g ms↔∃mk∈ms,∃t∈QO g mk,∃u∈QO g mk,t < u∧shV g t u=false∧x=[t,u]:=by
 unfold ZP KL Uq
 simp only[dN,aR,cD,aM,aS,bQ]
 constructor
 ·rintro ⟨mk,c,t,d,u,⟨e,f,h⟩,rfl⟩
  exact ⟨mk,c,t,d,u,e,f,h,rfl⟩
 ·rintro ⟨mk,c,t,d,u,e,f,h,rfl⟩
  exact ⟨mk,c,t,d,u,⟨e,f,h⟩,rfl⟩
variable [∀s,Decidable (StgOk s)]
theorem Qsj (c:Vf s o)(j:(Qb s).2=true)(l:(Qb (QC s o)).2=true):(QN (QC s o)).length≤(QN s).length:=by
 refine UY (QaV (HK J7 _)) fun x d=> ?_
 have d:=(WC J7 _).1 d
 refine (WC J7 _).2 ?_
 obtain ⟨M,A,t,h,u,i,q,r,rfl⟩:=Qoy.1 d
 obtain ⟨m,z,f,g⟩:=Qn1 c ((K0 l).1.rea M A)
 refine Qoy.2 ⟨m,Qjx j z,t,QmH c f g h,u,QmH c f g i,q,Qwu c r ?_ ?_,rfl⟩
 ·obtain ⟨y,_,e,_⟩:=QdI h; exact ⟨y,e⟩
 ·obtain ⟨y,_,e,_⟩:=QdI i; exact ⟨y,e⟩
theorem Hd (h:(sgV s).2=true):(Qb s).2=true∧(sgV s).1.1=s.2.1∧(sgV s).1.2.2=QA s.2.2.1 (Qb s).1.2:=by
 unfold sgV at h ⊢
 split at h
 ·rename_i c
  rw[if_pos c]
  split at h
  ·exact ⟨c.1,rfl,rfl⟩
  ·cases h
 ·cases h
theorem Qww (q:Vf s o)(h1:(sgV s).2=true)(h2:(sgV (QC s o)).2=true)(k:Tr (sgV (QC s o)).1 (-1) n w u):
 ∃v M m,0≤u∧(Qb (QC s o)).1.1[u.toNat]? =some M∧Mor m M∧Xz m s.1.1∧0≤v∧(Qb s).1.1[v.toNat]? =some m∧Tr (sgV s).1 (-1) n w v:=by
 obtain ⟨W,X,Y⟩:=Hd h1
 obtain ⟨Z,f2,f3⟩:=Hd h2
 obtain ⟨P,g2,g3⟩:=K0 W
 obtain ⟨Q,k2,k3⟩:=K0 Z
 have g:∀{a:DAr},a∈(sgV (QC s o)).1.2.2→∀{v:Int} {M m:ByteArray},(Qb (QC s o)).1.1[a.1.toNat]? =some M→Mor m M→Xz m s.1.1→0≤v→(Qb s).1.1[v.toNat]? =some m→
  ∃j M' d,0≤a.2.2.2∧(Qb (QC s o)).1.1[a.2.2.2.toNat]? =some M'∧Mor d M'∧Xz d s.1.1∧0≤j∧(Qb s).1.1[j.toNat]? =some d∧((v,a.2.1,a.2.2.1,j):DAr)∈(sgV s).1.2.2:=fun {a} f {v M m} hM hm hb hv e=>by
  rw[f3] at f
  obtain ⟨x,hx,rfl⟩:=aR.1 f
  obtain ⟨A,B,a1,R,J,K,S⟩:=Q.mv x hx
  dsimp only at J K
  have hA:A=M:=ci (J.symm.trans hM)
  subst hA
  obtain ⟨d,L,T,U⟩:=Qn0 q hm hb S
  obtain ⟨j,l⟩:=g2 v.toNat m (ah.1 e).1 e x.2.1 (Qcq L).1
  rw[cM hv] at l
  obtain ⟨C,D,c1,c2,c3,c4,N⟩:=P.mv _ l
  dsimp only at c1 c2 c3 c4 N
  have hC:C=m:=ci (c3.symm.trans e)
  subst hC
  have hD:D=d:=by
   have V:=(Qcq N).2
   have O:=(Qcq L).2
   rw[V] at O
   exact (Prod.mk.inj O).1
  subst hD
  refine ⟨j,B,D,R,K,T,U,c2,c4, ?_⟩
  rw[Y]
  exact aR.2 ⟨_,l,rfl⟩
 induction k with
 | zero=>
  obtain ⟨m,h3,h4,h5⟩:=Qn1 (M:=(QC s o).2.2.2) q .zero
  obtain ⟨c,hc⟩:=h4
  refine ⟨0,_,s.2.2.2,dU _,Q.zero,⟨if o.2.2 then 49 else 48, ?_⟩,q.1.bits,dU _,P.zero, .zero⟩
  show (s.2.2.2++YF o.2.2).data.toList=_
  unfold YF
  simp
 | still _ f i r=>
  obtain ⟨v,M,m,i1,i2,i3,i4,i5,i6,i7⟩:=r
  obtain ⟨j,M',d,y,z,E,F,G,H,I⟩:=g f i2 i3 i4 i5 i6
  exact ⟨j,M',d,y,z,E,F,G,H, .still (a:=(v,_,_,j)) i7 I i⟩
 | word _ f i r=>
  obtain ⟨v,M,m,i1,i2,i3,i4,i5,i6,i7⟩:=r
  obtain ⟨j,M',d,y,z,E,F,G,H,I⟩:=g f i2 i3 i4 i5 i6
  refine ⟨j,M',d,y,z,E,F,G,H, ?_⟩
  have h9:=Tr.word (a:=(v,_,_,j)) i7 I i
  have h:∀a:DAr,wdA (sgV (QC s o)).1 a=wdA (sgV s).1 (v,a.2.1,a.2.2.1,j):=fun a=>by unfold wdA; rw[f2,X]; rfl
  rw[h]
  exact h9
theorem Qvz {c:DSg}[Decidable (SgOk c)]{h m:Int}(k:(trV c h m).2=true):SgOk c∧(trV c h m).1=txL c h m.toNat:=by
 unfold trV at k ⊢
 split at k
 ·rename_i g; rw[if_pos g]; exact ⟨g.1.1,rfl⟩
 ·cases k
variable [∀c,Decidable (SgOk c)]
theorem Qwv {q:Int}(j:Vf s o)(h:(tiV (QC s o) s q).2=true):(tiV (QC s o) s q).1=true:=by
 unfold tiV at h ⊢
 split at h
 ·rename_i g
  rw[if_pos g]
  obtain ⟨c,d,e,f⟩:=g
  obtain ⟨y,z⟩:=Qvz e
  obtain ⟨A,B⟩:=Qvz f
  dsimp only
  rw[z,B,av]
  intro w x
  obtain ⟨n,i,u,l⟩:=(Je y _).1 x
  obtain ⟨v,_,_,_,_,_,_,_,_,r⟩:=Qww j d c l
  have:=(Je A q.toNat).2 ⟨n,i,v,r⟩
  unfold Qcu
  exact bW.2 ⟨w,this,by simp⟩
 ·cases h
theorem QsB {a b:Int}{ms:List Bool}(h:o∈W4 s a b ms):XV s o.2.1=true:=by
 unfold W4 at h
 obtain ⟨m,c,rfl⟩:=aR.1 h
 have:=(cD.1 c).2
 simp only[aM] at this
 exact this.1
theorem Qtv (h:o∈Yt s):XV s o.2.1=true:=by
 unfold Yt at h
 split at h
 ·rw[Qfw] at h
  obtain ⟨p,_,h⟩:=dN.1 h
  exact QsB h
 ·cases h
theorem QvE (h:o∈Yt s):(sgV s).2=true:=by
 unfold Yt at h
 split at h
 ·assumption
 ·cases h
theorem QuC (h:o∈Yt s):(QK s o).2=true∧((tiV (QK s o).1 s 4).2=true→(tiV (QK s o).1 s 4).1=true)∧(pfV s (QK s o).1).1=true∧(pfV s (QK s o).1).2=true∧(0≤o.2.1∧o.2.1 < (s.2.2.1.length:Int))∧
 (∀l,s.2.2.1[o.2.1.toNat]? =some l→(0≤l.1∧l.1 < (s.2.1.length:Int))∧∀g,s.2.1[l.1.toNat]? =some g→g.2≠1)∧(Qb (QK s o).1).2=true∧(QN (QK s o).1).length≤(QN s).length:=by
 have d:=QoT h
 obtain ⟨c,z,_,i⟩:=Quk d
 have B:=QvE h
 have f:=Qtv h
 have y:=Qk c.1
 unfold Ym at d
 simp only[aM] at d
 obtain ⟨A,j,q⟩:=d
 rw[z] at j q ⊢
 refine ⟨A,Qwv c,q,j,⟨c.2.2.1.1,by have:=c.2.2.1.2; omega⟩,fun l x=> ?_,(Hd i).1,Qsj c (Hd B).1 (Hd i).1⟩
 unfold XV at f
 rw[x] at f
 simp only[aj,aM,aS,bQ,decide_eq_false_iff_not] at f
 refine ⟨⟨f.1, ?_⟩,fun g d=> ?_⟩
 ·rcases c.1.labs l (ai x) with e | e
  ·have:=e.2; omega
  ·have:=f.1; omega
 ·have r:=f.2
  rw[d] at r
  exact r
end
end Go.Proofs.YtndabgcpnmeeoaaGreat
namespace Go.Proofs.YtndabgcpnmeeoaaGreat
open Go.RowKit
set_option maxRecDepth 100000
set_option maxHeartbeats 4000000
theorem H4 (a:List (Int×Int×Bool))(b:List (Int×Int×Bool))(h:a=b):FC Tryz.prog 38 [(false,[.dat Qku a]),(false,[.dat Qku b])] [] 0 (Za (lB true)):=by
 have t:a.length=b.length:=by rw[h]
 refine Qn Tryz.func38 rfl rfl Tryz.ntmps38 fun v g u n x s r=> ?_
 refine w6 ?_
 refine alL 6 fun _=> ?_
 refine w2 ?_
 refine alL 8 fun _=> ?_
 refine w3 ?_
 refine cn_ (fun _ _=> ?_) fun _ _=> ?_
 refine w4 ?_
 refine alL 11 fun _=> ?_
 refine w4 ?_
 refine lp0 a.length (fun k=>⟨[(0,lf (.dat Qku a)),(1,lf (.dat Qku b)),(12,lI (a.length:Int)),(13,lI (k:Int))],[]⟩) ?_ fun k _=> ?_
 exact wo []
 refine w4 ?_
 cases d:(decide ((k:Int) < (a.length:Int)))
 have e:=aa d
 refine w7 ?_
 exact fe_ g
 have e:=ab d
 refine w8 ?_
 obtain ⟨j,i⟩:=gx a k
 obtain ⟨l,f⟩:=gx b k
 apply dW (i8 16 _ _ _ _ _ _ _ _ [io 24 (lB (!(Ty.beq Y4 j l)))]) [0,1,0,0,15,31,15,15,0]
 refine z8 ?_
 refine zz (fun _ m=>ac (VU QvY QvX (m.w rfl) (m.w rfl) (p:=j) (q:=l) rfl rfl rfl) rfl) ?_
 exact zN
 cases c:(Ty.beq Y4 j l)
 refine w4 ?_
 refine Qe<|fqB g ?_
 (exfalso; subst h; have o:=ci ((i).symm.trans f); rw[o,QcW] at c; exact absurd c (by decide))
 refine w6 ?_
 refine Qf ?_
 refine l0_ ?_
 exact wo []
 refine w3 ?_
 refine Qe<|fqB g ?_
 ·(exfalso; subst h; simp_all; done)
theorem Qe4 (a:List (List Int))(b:List (List Int))(h:a=b):FC Tryz.prog 39 [(false,[.dat Wl a]),(false,[.dat Wl b])] [] 0 (Za (lB true)):=by
 have n:a.length=b.length:=by rw[h]
 refine Qn Tryz.func39 rfl rfl Tryz.ntmps39 fun r i o j s m l=> ?_
 refine w6 ?_
 refine alL 6 fun _=> ?_
 refine w2 ?_
 refine alL 8 fun _=> ?_
 refine w3 ?_
 refine cn_ (fun _ _=> ?_) fun _ _=> ?_
 refine w4 ?_
 refine alL 11 fun _=> ?_
 refine w4 ?_
 refine lp0 a.length (fun k=>⟨[(0,lf (.dat Wl a)),(1,lf (.dat Wl b)),(12,lI (a.length:Int)),(13,lI (k:Int))],[]⟩) ?_ fun k _=> ?_
 exact wo []
 refine w4 ?_
 cases c:(decide ((k:Int) < (a.length:Int)))
 have d:=aa c
 refine w7 ?_
 exact fe_ i
 have d:=ab c
 refine w8 ?_
 obtain ⟨p,f⟩:=gx a k
 obtain ⟨q,e⟩:=gx b k
 apply dW (i8 16 _ _ _ _ _ _ _ _ [io 24 (lB true),io 25 _]) [0,1,0,0,15,31,15,15,0,0]
 refine z8 ?_
 refine zz (fun _ t=>ac (dK (Qe3 p q (by have g:=f; rw[h] at g; exact ci (g.symm.trans e))) Qli) rfl) ?_
 exact y1
 refine w6 ?_
 refine Qf ?_
 refine l0_ ?_
 exact wo []
 refine w3 ?_
 refine Qe<|fqB i ?_
 ·(exfalso; subst h; simp_all; done)
theorem Y0 (code:List UInt8)[∀s,Decidable (StgOk s)][∀s,Decidable (YZ s)]:FC Tryz.prog 35 [(false,[.dat QZ code])] [] 0 (Ex (fun x:Qy×Qy=>Ty.tot Zl x.1≤3000∧Ty.tot Zl x.2≤4000) (fun x:Qy×Qy=>PV.tup [(true,[dI x.1.1.1, .dat QF x.1.1.2, .dat Qo x.1.2.1, .dat Qw x.1.2.2.1,dS x.1.2.2.2]),(true,[dI x.2.1.1, .dat QF x.2.1.2, .dat Qo x.2.2.1, .dat Qw x.2.2.2.1,dS x.2.2.2.2])]) (fun x:Qy×Qy=>[])):=by
 refine Qn Tryz.func35 rfl rfl Tryz.ntmps35 fun q d p g r j i=> ?_
 refine w_ ?_
 refine lc (xal 0 YM Q5)<|lc (xal 1 YM Q5) ?_
 refine w3 ?_
 refine Z4 2 [] (Wc code) QgN e1_ trivial rfl (fun _=>rfl) (fun _=>trivial) (nlr rfl) fun a o=> ?_
 refine w3 ?_
 refine lc (xal 2 YM Q5)<|lc (xal 3 Y4 VC) ?_
 refine w6 ?_
 refine alL 15 fun _=> ?_
 refine w_ ?_
 refine lc (Qi7 (Qa rfl) (Qr rfl) rfl (by omega) (by omega))<|lc (Yr (l:=(some ((code.length:Int) / 2))) (h:=none) (Qa rfl) (by exact (Qa rfl)) (by exact trivial) YN ZH rfl (by simp only[ak,aj]; omega) (by simp only[ak,aj]; omega) (by simp only[ak,aj]; omega))<|lc (UB [.val (.slice none 0 0),dI 0, .val (.int .u64 0)] (Qdz (offs:=[(0,1),(1,1),(2,1)]) (zs:=[.slice none 0 0, .int .i64 0, .int .u64 0]) Tryz.underlying134 (by kernel_rfl) (by kernel_rfl)) (fun _ _ _=>⟨_,_,rfl,rfl,⟨_,_,rfl,(X8 _ _ _ .int).one rfl,⟨_,_,rfl,rfl,rfl⟩⟩⟩) ⟨_,_,rfl,(Ql rfl),rfl⟩ (av.1 rfl) rfl rfl) ?_
 refine xbx 4 ?_
 refine w5 ?_
 refine lc (dK (VD a.1 a.2 (by omega)).frozenG QgO) ?_
 refine w3 ?_
 refine lc (xal 5 YM Q5) ?_
 refine w8 ?_
 cases k:((QK a.1 a.2).2)
 refine w7 ?_
 refine Z4 6 [(0,4)] (Yv ((code.take code.length).drop ((code.length:Int) / 2).toNat) 0 0 (by omega)) KU e1_ ⟨rfl,trivial⟩ rfl (fun _=>rfl) (fun _=>⟨trivial,trivial⟩) (nlr rfl) fun b n=> ?_
 refine w2 ?_
 apply dW (i2 35 _ _ [⟨none,lf (.val undef),[bx 0 51 [dI a.1.1.1, .dat QF a.1.1.2, .dat Qo a.1.2.1, .dat Qw a.1.2.2.1,dS a.1.2.2.2]]⟩,⟨none,lf (.val undef),[bx 1 51 [dI b.1.1.1, .dat QF b.1.1.2, .dat Qo b.1.2.1, .dat Qw b.1.2.2.1,dS b.1.2.2.2]]⟩]) [0,1,2,0]
 exact y4
 refine w_ ?_
 subst d
 refine Zg (x:=(((a.1.1.1,a.1.1.2),(a.1.2.1,(a.1.2.2.1,a.1.2.2.2))),((b.1.1.1,b.1.1.2),(b.1.2.1,(b.1.2.2.1,b.1.2.2.2))))) [] ?_ (Y9 rfl (Rs.cell rfl rfl Q3 rfl) (Rs.cell rfl rfl Q3 rfl)) rfl trivial rfl rfl
 (have e:=‹Ty.tot Zl _≤3000∧_›; exact ⟨by assumption,bn e.1 (by decide)⟩)
 refine w_ ?_
 have m:=Zk ((code.take code.length).drop ((code.length:Int) / 2).toNat) 0 0 9
 refine lgy rfl rfl (dP 7 [(0,4)] (Yw ((code.take code.length).drop ((code.length:Int) / 2).toNat) 0 0 9 (by omega)) Kd) ?_
 refine w2 ?_
 refine cd_ (fun _ _=> ?_) fun _ _=> ?_
 refine w_ ?_
 apply dW (i2 35 _ _ [⟨none,lf (.val undef),[bx 0 51 [dI a.1.1.1, .dat QF a.1.1.2, .dat Qo a.1.2.1, .dat Qw a.1.2.2.1,dS a.1.2.2.2]]⟩,⟨none,lf (.val undef),[bx 1 51 [dI ((((QK a.1 a.2).1).1).1), .dat QF ((((QK a.1 a.2).1).1).2), .dat Qo (((QK a.1 a.2).1).2.1), .dat Qw (((QK a.1 a.2).1).2.2.1),dS (((QK a.1 a.2).1).2.2.2)]]⟩]) [0,1,2,0]
 exact y4
 refine w_ ?_
 subst d
 refine Zg (x:=(((a.1.1.1,a.1.1.2),(a.1.2.1,(a.1.2.2.1,a.1.2.2.2))),(((((QK a.1 a.2).1).1).1,(((QK a.1 a.2).1).1).2),(((QK a.1 a.2).1).2.1,(((QK a.1 a.2).1).2.2.1,((QK a.1 a.2).1).2.2.2))))) [] ?_ (Y9 rfl (Rs.cell rfl rfl Q3 rfl) (Rs.cell rfl rfl Q3 rfl)) rfl trivial rfl rfl
 exact ⟨by assumption,bn (QqM a.1 a.2) (by omega)⟩
 refine w2 ?_
 refine Z4 8 [(0,4)] (Yv ((code.take code.length).drop ((code.length:Int) / 2).toNat) (pkA 9 0) (pkS ((code.take code.length).drop ((code.length:Int) / 2).toNat) 0 0 9) (by omega)) KU e1_ ⟨rfl,trivial⟩ rfl (fun _=>rfl) (fun _=>⟨trivial,trivial⟩) (nlr rfl) fun c f=> ?_
 refine w2 ?_
 apply dW (i2 35 _ _ [⟨none,lf (.val undef),[bx 0 51 [dI a.1.1.1, .dat QF a.1.1.2, .dat Qo a.1.2.1, .dat Qw a.1.2.2.1,dS a.1.2.2.2]]⟩,⟨none,lf (.val undef),[bx 1 51 [dI c.1.1.1, .dat QF c.1.1.2, .dat Qo c.1.2.1, .dat Qw c.1.2.2.1,dS c.1.2.2.2]]⟩]) [0,1,2,0]
 exact y4
 refine w_ ?_
 subst d
 refine Zg (x:=(((a.1.1.1,a.1.1.2),(a.1.2.1,(a.1.2.2.1,a.1.2.2.2))),((c.1.1.1,c.1.1.2),(c.1.2.1,(c.1.2.2.1,c.1.2.2.2))))) [] ?_ (Y9 rfl (Rs.cell rfl rfl Q3 rfl) (Rs.cell rfl rfl Q3 rfl)) rfl trivial rfl rfl
 (have e:=‹Ty.tot Zl _≤3000∧_›; exact ⟨by assumption,bn e.1 (by decide)⟩)
theorem Uh (code:List UInt8)[∀s,Decidable (StgOk s)][∀s,Decidable (YZ s)]:FC Tryz.prog 32 [(false,[.dat QZ code])] [] 0 (Ex (fun x:Qy×Qy×Int=>Ty.tot Zl x.1≤4000∧Ty.tot Zl x.2.1≤4000) (fun x:Qy×Qy×Int=>PV.tup [(true,[dI x.1.1.1, .dat QF x.1.1.2, .dat Qo x.1.2.1, .dat Qw x.1.2.2.1,dS x.1.2.2.2]),(true,[dI x.2.1.1.1, .dat QF x.2.1.1.2, .dat Qo x.2.1.2.1, .dat Qw x.2.1.2.2.1,dS x.2.1.2.2.2]),(false,[dI x.2.2])]) (fun x:Qy×Qy×Int=>[])):=by
 refine Qn Tryz.func32 rfl rfl Tryz.ntmps32 fun o c n d p g f=> ?_
 refine w_ ?_
 refine lc (xal 0 YM Q5)<|lc (xal 1 YM Q5) ?_
 refine w4 ?_
 refine Z4 2 [] (Y0 code) QgQ e1_ trivial rfl (fun _=>rfl) (fun _=>trivial) (nlr rfl) fun a m=> ?_
 refine w3 ?_
 refine lc (xal 2 YM Q5)<|lc (xal 3 YM Q5) ?_
 refine w6 ?_
 refine alL 14 fun _=> ?_
 refine w_ ?_
 refine lc (Qi7 (Qa rfl) (Qr rfl) rfl (by omega) (by omega))<|lc (Yr (l:=(some ((code.length:Int) / 2))) (h:=none) (Qa rfl) (by exact (Qa rfl)) (by exact trivial) YN ZH rfl (by simp only[ak,aj]; omega) (by simp only[ak,aj]; omega) (by simp only[ak,aj]; omega))<|lc (UB [.val (.slice none 0 0),dI 0, .val (.int .u64 0)] (Qdz (offs:=[(0,1),(1,1),(2,1)]) (zs:=[.slice none 0 0, .int .i64 0, .int .u64 0]) Tryz.underlying134 (by kernel_rfl) (by kernel_rfl)) (fun _ _ _=>⟨_,_,rfl,rfl,⟨_,_,rfl,(X8 _ _ _ .int).one rfl,⟨_,_,rfl,rfl,rfl⟩⟩⟩) ⟨_,_,rfl,(Ql rfl),rfl⟩ (av.1 rfl) rfl rfl) ?_
 refine xbx 4 ?_
 refine w5 ?_
 have i:=Zk ((code.take code.length).drop ((code.length:Int) / 2).toNat) 0 0 2
 refine lc (dP 5 [(0,4)] (Yw ((code.take code.length).drop ((code.length:Int) / 2).toNat) 0 0 2 (by omega)) Kd) ?_
 refine w_ ?_
 refine cd_ (fun _ _=> ?_) fun _ _=> ?_
 refine w_ ?_
 have j:=Zk ((code.take code.length).drop ((code.length:Int) / 2).toNat) (pkA 2 0) (pkS ((code.take code.length).drop ((code.length:Int) / 2).toNat) 0 0 2) (([0,2,4,6,(-1)]).length:Int)
 apply dW (i3 27 _ _ _ [⟨some 30,lR 6,[ar 6 3 .int ([0,2,4,6,(-1)])]⟩,⟨some 31,lI ((([0,2,4,6,(-1)])[(pkV ((code.take code.length).drop ((code.length:Int) / 2).toNat) (pkA 2 0) (pkS ((code.take code.length).drop ((code.length:Int) / 2).toNat) 0 0 2) (([0,2,4,6,(-1)]).length:Int)).toNat]?).getD 0),[bx 4 134 [.dat QZ ((code.take code.length).drop ((code.length:Int) / 2).toNat),dI (pkA (([0,2,4,6,(-1)]).length:Int) (pkA 2 0)), .val (.int .u64 (pkS ((code.take code.length).drop ((code.length:Int) / 2).toNat) (pkA 2 0) (pkS ((code.take code.length).drop ((code.length:Int) / 2).toNat) 0 0 2) (([0,2,4,6,(-1)]).length:Int)))],ar 8 3 .int ([0,2,4,6,(-1)]),(4,none),(6,none)]⟩,⟨none,lf (.val undef),[bx 0 51 [dI a.1.1.1, .dat QF a.1.1.2, .dat Qo a.1.2.1, .dat Qw a.1.2.2.1,dS a.1.2.2.2]]⟩,⟨none,lf (.val undef),[bx 1 51 [dI a.2.1.1, .dat QF a.2.1.2, .dat Qo a.2.2.1, .dat Qw a.2.2.2.1,dS a.2.2.2.2]]⟩,io 4 _]) [0,1,3,7,3,2,0,0]
 refine z3 ?_
 refine zz (fun _ b=>ac (dBs 6 (e:= .int) Zq) rfl) ?_
 refine zz (fun _ b=>ac (dP 7 [(0,4),(1,6)] (Z6 ((code.take code.length).drop ((code.length:Int) / 2).toNat) (pkA 2 0) (pkS ((code.take code.length).drop ((code.length:Int) / 2).toNat) 0 0 2) ([0,2,4,6,(-1)]) (by omega) (by decide)) Uc) rfl) ?_
 exact y3
 refine w_ ?_
 subst c
 refine Zg (x:=(((a.1.1.1,a.1.1.2),(a.1.2.1,(a.1.2.2.1,a.1.2.2.2))),(((a.2.1.1,a.2.1.2),(a.2.2.1,(a.2.2.2.1,a.2.2.2.2))),(([0,2,4,6,(-1)])[(pkV ((code.take code.length).drop ((code.length:Int) / 2).toNat) (pkA 2 0) (pkS ((code.take code.length).drop ((code.length:Int) / 2).toNat) 0 0 2) (([0,2,4,6,(-1)]).length:Int)).toNat]?).getD 0))) [] ?_ (QbY rfl (Rs.cell rfl rfl Q3 rfl) (Rs.cell rfl rfl Q3 rfl) (Vu rfl)) rfl trivial rfl rfl
 (have b:=‹Ty.tot Zl _≤3000∧_›; exact ⟨bn b.1 (by decide),b.2⟩)
 have k:=Zk ((code.take code.length).drop ((code.length:Int) / 2).toNat) (pkA 2 0) (pkS ((code.take code.length).drop ((code.length:Int) / 2).toNat) 0 0 2) (([0,2,4,6,7]).length:Int)
 apply dW (i3 22 _ _ _ [⟨some 25,lR 9,[ar 9 3 .int ([0,2,4,6,7])]⟩,⟨some 26,lI ((([0,2,4,6,7])[(pkV ((code.take code.length).drop ((code.length:Int) / 2).toNat) (pkA 2 0) (pkS ((code.take code.length).drop ((code.length:Int) / 2).toNat) 0 0 2) (([0,2,4,6,7]).length:Int)).toNat]?).getD 0),[bx 4 134 [.dat QZ ((code.take code.length).drop ((code.length:Int) / 2).toNat),dI (pkA (([0,2,4,6,7]).length:Int) (pkA 2 0)), .val (.int .u64 (pkS ((code.take code.length).drop ((code.length:Int) / 2).toNat) (pkA 2 0) (pkS ((code.take code.length).drop ((code.length:Int) / 2).toNat) 0 0 2) (([0,2,4,6,7]).length:Int)))],ar 11 3 .int ([0,2,4,6,7]),(4,none),(9,none)]⟩,⟨none,lf (.val undef),[bx 0 51 [dI a.2.1.1, .dat QF a.2.1.2, .dat Qo a.2.2.1, .dat Qw a.2.2.2.1,dS a.2.2.2.2]]⟩,⟨none,lf (.val undef),[bx 1 51 [dI a.1.1.1, .dat QF a.1.1.2, .dat Qo a.1.2.1, .dat Qw a.1.2.2.1,dS a.1.2.2.2]]⟩,io 4 _]) [0,1,3,7,3,2,0,0]
 refine z3 ?_
 refine zz (fun _ b=>ac (dBs 9 (e:= .int) Zq) rfl) ?_
 refine zz (fun _ b=>ac (dP 10 [(0,4),(1,9)] (Z6 ((code.take code.length).drop ((code.length:Int) / 2).toNat) (pkA 2 0) (pkS ((code.take code.length).drop ((code.length:Int) / 2).toNat) 0 0 2) ([0,2,4,6,7]) (by omega) (by decide)) Uc) rfl) ?_
 exact y3
 refine w_ ?_
 subst c
 refine Zg (x:=(((a.2.1.1,a.2.1.2),(a.2.2.1,(a.2.2.2.1,a.2.2.2.2))),(((a.1.1.1,a.1.1.2),(a.1.2.1,(a.1.2.2.1,a.1.2.2.2))),(([0,2,4,6,7])[(pkV ((code.take code.length).drop ((code.length:Int) / 2).toNat) (pkA 2 0) (pkS ((code.take code.length).drop ((code.length:Int) / 2).toNat) 0 0 2) (([0,2,4,6,7]).length:Int)).toNat]?).getD 0))) [] ?_ (QbY rfl (Rs.cell rfl rfl Q3 rfl) (Rs.cell rfl rfl Q3 rfl) (Vu rfl)) rfl trivial rfl rfl
 (have b:=‹Ty.tot Zl _≤3000∧_›; exact ⟨b.2,bn b.1 (by decide)⟩)
theorem Qcm (code:List UInt8)(f:List UInt8):FC Tryz.prog 4 [(false,[.dat QZ code]),(false,[.dat QZ f])] [] 0 (Za (lB true)):=by
 classical
 refine Qn Tryz.func4 rfl rfl Tryz.ntmps4 fun O_ b c4 b1 X_ b3 b2=> ?_
 refine w6 ?_
 refine alL 44 fun M=> ?_
 refine w2 ?_
 refine alL 46 fun _=> ?_
 refine w_ ?_
 refine lc (QoL (Qa rfl) (Qa rfl) rfl) ?_
 refine w2 ?_
 refine cd_ (fun _ _=> ?_) fun _ _=> ?_
 refine w3 ?_
 refine Z4 0 [] (WG code) Qo8 e1_ trivial rfl (fun _=>rfl) (fun _=>trivial) (nlr rfl) fun a c3=>lc (xal 0 YM Q5) ?_
 refine w4 ?_
 refine lc (dK (VK a (by omega)).frozenG Qo9) ?_
 refine w8 ?_
 refine lc (dK (Xa a (by omega)).frozenG QgM) ?_
 refine w8 ?_
 refine lc (dK (Yc a).frozenG Qce) ?_
 refine w8 ?_
 refine lc (dK (VM a).frozenG Qpa) ?_
 refine w8 ?_
 refine Z4 1 [] (Wc f) QgN e1_ trivial rfl (fun _=>rfl) (fun _=>trivial) (nlr rfl) fun g c1=> ?_
 refine w3 ?_
 refine lc (xal 1 YM Q5)<|lc (xal 2 Y4 VC) ?_
 refine w6 ?_
 refine lc (dK (XN g.1 g.2 (by omega)).frozenG Qcf) ?_
 refine w3 ?_
 refine lc (xal 3 YM Q5) ?_
 refine w6 ?_
 refine lc (dK (VD g.1 g.2 (by omega)).frozenG QgO) ?_
 refine w3 ?_
 refine lc (xal 4 YM Q5) ?_
 refine w5 ?_
 refine Z4 5 [] (Uh f) Qpb e1_ trivial rfl (fun _=>rfl) (fun _=>trivial) (nlr rfl) fun d c2=> ?_
 refine w4 ?_
 refine lc (xal 5 YM Q5)<|lc (xal 6 YM Q5) ?_
 refine w8 ?_
 refine lc (dK (Wv d.1 d.2.1 d.2.2) QgP) ?_
 refine w10 ?_
 refine lc (dK (K4 d.1 d.2.1 d.2.2) Qpc) ?_
 refine w8 ?_
 refine Z4 7 [] (Y0 f) QgQ e1_ trivial rfl (fun _=>rfl) (fun _=>trivial) (nlr rfl) fun e b0=> ?_
 refine w3 ?_
 refine lc (xal 7 YM Q5)<|lc (xal 8 YM Q5) ?_
 refine w6 ?_
 refine lc (dK (YB e.1 e.2) Qcg) ?_
 refine w9 ?_
 refine lc (dK (XS e.1 e.2) QgR) ?_
 refine w10 ?_
 refine lc (X6 (Qa rfl) (Qa rfl) rfl Jx) ?_
 refine w_ ?_
 cases V:(((sgV a).2)==((sgV a).2))
 refine w16 ?_
 refine w16 ?_
 refine w16 ?_
 refine w4 ?_
 refine Qe<|fqB b ?_
 ·(exfalso; simp_all; done)
 refine w2 ?_
 refine lgy rfl rfl (dK (H4 (Yt a) (Yt a) rfl) Qpd) ?_
 refine w5 ?_
 refine lgy rfl rfl (X6 (Qa rfl) (Qa rfl) rfl Jx) ?_
 refine w2 ?_
 cases W:(((Qb a).2)==((Qb a).2))
 refine w16 ?_
 refine w16 ?_
 refine w9 ?_
 refine Qe<|fqB b ?_
 ·(exfalso; simp_all; done)
 refine w2 ?_
 refine lgy rfl rfl (dK (Qe4 (QN a) (QN a) rfl) Qpe) ?_
 refine w5 ?_
 refine lgy rfl rfl (X6 (Qa rfl) (Qa rfl) rfl Jx) ?_
 refine w2 ?_
 cases X:(((QK g.1 g.2).2)==((QK g.1 g.2).2))
 refine w16 ?_
 refine w14 ?_
 refine Qe<|fqB b ?_
 ·(exfalso; simp_all; done)
 refine w2 ?_
 refine lgy rfl rfl (dK (Qcn ((QK g.1 g.2).1) ((QK g.1 g.2).1) rfl) Qpf) ?_
 refine w5 ?_
 refine lgy rfl rfl (X6 (Qa rfl) (Qa rfl) rfl Jx) ?_
 refine w2 ?_
 cases Y:(((tiV d.1 d.2.1 d.2.2).2)==((tiV d.1 d.2.1 d.2.2).2))
 refine w16 ?_
 refine w3 ?_
 refine Qe<|fqB b ?_
 ·(exfalso; simp_all; done)
 refine w2 ?_
 refine lgy rfl rfl (X6 (Qa rfl) (Qa rfl) rfl Jx) ?_
 refine w2 ?_
 cases Z:(((tiV d.1 d.2.1 d.2.2).1)==((tiV d.1 d.2.1 d.2.2).1))
 refine w14 ?_
 refine Qe<|fqB b ?_
 ·(exfalso; simp_all; done)
 refine w2 ?_
 refine lgy rfl rfl (X6 (Qa rfl) (Qa rfl) rfl Jx) ?_
 refine w2 ?_
 cases a0:(((pfV e.1 e.2).2)==((pfV e.1 e.2).2))
 refine w9 ?_
 refine Qe<|fqB b ?_
 ·(exfalso; simp_all; done)
 refine w2 ?_
 refine lgy rfl rfl (X6 (Qa rfl) (Qa rfl) rfl Jx) ?_
 refine w2 ?_
 refine cx_ (fun _=> ?_) fun _=> ?_
 refine w3 ?_
 refine Qe<|fqB b ?_
 ·(exfalso; simp_all; done)
 refine w4 ?_
 refine alL 177 fun _=> ?_
 refine w4 ?_
 refine lp0 ((Yt a).length) (fun k=>⟨[(5,lP 0 0),(10,lf (.dat Wl (QN a))),(177,lf (.dat Qku (Yt a))),(178,lI ((Yt a).length:Int)),(179,lI (k:Int))],[bx 0 51 [dI a.1.1, .dat QF a.1.2, .dat Qo a.2.1, .dat Qw a.2.2.1,dS a.2.2.2]]⟩) ?_ fun k _=> ?_
 exact wo []
 refine w4 ?_
 cases h:(decide ((k:Int) < ((Yt a).length:Int)))
 have x:=aa h
 refine w7 ?_
 exact fe_ b
 have x:=ab h
 refine w6 ?_
 obtain ⟨c,P⟩:=gx (Yt a) k
 obtain ⟨b4,c0,b7,b8,b9,M,b6,b5⟩:=QuC (ai P)
 refine w2 ?_
 refine lc (xal 9 Y4 VC) ?_
 refine w6 ?_
 refine lc (dK (XN a c (by omega)).frozenG Qcf) ?_
 refine w3 ?_
 refine lc (xal 10 YM Q5) ?_
 refine w6 ?_
 refine lc (dK (Wv ((QK a c).1) a 4) QgP) ?_
 refine w9 ?_
 refine lc (dK (YB a ((QK a c).1)) Qcg) ?_
 refine w11 ?_
 cases a1:((QK a c).2)
 refine w2 ?_
 refine Zh rfl rfl rfl ?_ rfl
 refine Zh rfl rfl rfl ?_ rfl
 refine w16 ?_
 refine w12 ?_
 refine Qe<|fqB b ?_
 ·(exfalso; simp_all; done)
 refine w2 ?_
 cases a2:((tiV ((QK a c).1) a 4).2)
 refine w9 ?_
 cases a3:((pfV a ((QK a c).1)).2)
 refine w16 ?_
 refine w5 ?_
 refine Qe<|fqB b ?_
 ·(exfalso; simp_all; done)
 refine w4 ?_
 cases a4:((pfV a ((QK a c).1)).1)
 refine w16 ?_
 refine w_ ?_
 refine Qe<|fqB b ?_
 ·(exfalso; simp_all; done)
 refine w5 ?_
 cases i:(decide (c.2.1 < 0))
 have y:=aa i
 refine w4 ?_
 refine alL 228 fun _=> ?_
 refine w4 ?_
 cases j:(decide ((a.2.2.1.length:Int)≤c.2.1))
 have z:=aa j
 refine w7 ?_
 refine alI 235 fun _=> ?_
 obtain ⟨O,Q⟩:=gx a.2.2.1 ((c.2.1).toNat)
 have N:=M _ Q
 refine w2 ?_
 refine lc (xal 11 QL Xy) ?_
 refine w6 ?_
 refine alI 239 fun _=> ?_
 refine w2 ?_
 cases l:(decide (O.1 < 0))
 have A:=aa l
 refine w4 ?_
 refine alL 245 fun _=> ?_
 refine w4 ?_
 cases m:(decide ((a.2.1.length:Int)≤O.1))
 have B:=aa m
 refine w4 ?_
 obtain ⟨sg,R⟩:=gx a.2.1 ((O.1).toNat)
 have U:=N.2 _ R
 refine w6 ?_
 cases n:(decide (sg.2=1))
 have C:=aa n
 refine w4 ?_
 refine lc (dK (Yc ((QK a c).1)).frozenG Qce) ?_
 refine w11 ?_
 cases a5:((Qb ((QK a c).1)).2)
 refine w11 ?_
 refine Qe<|fqB b ?_
 ·(exfalso; simp_all; done)
 refine w_ ?_
 refine alL 267 fun _=> ?_
 refine w2 ?_
 refine alL 269 fun _=> ?_
 refine w4 ?_
 cases o:(decide (((QN a).length:Int) < ((QN ((QK a c).1)).length:Int)))
 have D:=aa o
 refine w6 ?_
 cases p:(decide (5 < (k:Int)))
 have E:=aa p
 refine w6 ?_
 refine Qf ?_
 refine l0_ ?_
 exact wo []
 have E:=ab p
 refine w7 ?_
 exact fe_ b
 have D:=ab o
 refine w4 ?_
 refine Qe<|fqB b ?_
 (exfalso; omega)
 have C:=ab n
 refine w4 ?_
 refine Qe<|fqB b ?_
 (exfalso; omega)
 have B:=ab m
 refine w14 ?_
 refine Qe<|fqB b ?_
 (exfalso; omega)
 have A:=ab l
 refine w16 ?_
 refine w6 ?_
 refine Qe<|fqB b ?_
 (exfalso; omega)
 have z:=ab j
 refine w4 ?_
 refine Qe<|fqB b ?_
 (exfalso; omega)
 have y:=ab i
 refine w12 ?_
 refine Qe<|fqB b ?_
 (exfalso; omega)
 refine w5 ?_
 cases a6:((tiV ((QK a c).1) a 4).1)
 refine w16 ?_
 refine w9 ?_
 refine Qe<|fqB b ?_
 ·(exfalso; simp_all; done)
 refine w4 ?_
 cases a7:((pfV a ((QK a c).1)).2)
 refine w16 ?_
 refine w5 ?_
 refine Qe<|fqB b ?_
 ·(exfalso; simp_all; done)
 refine w4 ?_
 cases a8:((pfV a ((QK a c).1)).1)
 refine w16 ?_
 refine w_ ?_
 refine Qe<|fqB b ?_
 ·(exfalso; simp_all; done)
 refine w5 ?_
 cases q:(decide (c.2.1 < 0))
 have F:=aa q
 refine w4 ?_
 refine alL 228 fun _=> ?_
 refine w4 ?_
 cases r:(decide ((a.2.2.1.length:Int)≤c.2.1))
 have G:=aa r
 refine w7 ?_
 refine alI 235 fun _=> ?_
 obtain ⟨O,S⟩:=gx a.2.2.1 ((c.2.1).toNat)
 have N:=M _ S
 refine w2 ?_
 refine lc (xal 12 QL Xy) ?_
 refine w6 ?_
 refine alI 239 fun _=> ?_
 refine w2 ?_
 cases s:(decide (O.1 < 0))
 have H:=aa s
 refine w4 ?_
 refine alL 245 fun _=> ?_
 refine w4 ?_
 cases t:(decide ((a.2.1.length:Int)≤O.1))
 have I:=aa t
 refine w4 ?_
 obtain ⟨sg,T⟩:=gx a.2.1 ((O.1).toNat)
 have U:=N.2 _ T
 refine w6 ?_
 cases u:(decide (sg.2=1))
 have J:=aa u
 refine w4 ?_
 refine lc (dK (Yc ((QK a c).1)).frozenG Qce) ?_
 refine w11 ?_
 cases a9:((Qb ((QK a c).1)).2)
 refine w11 ?_
 refine Qe<|fqB b ?_
 ·(exfalso; simp_all; done)
 refine w_ ?_
 refine alL 267 fun _=> ?_
 refine w2 ?_
 refine alL 269 fun _=> ?_
 refine w4 ?_
 cases v:(decide (((QN a).length:Int) < ((QN ((QK a c).1)).length:Int)))
 have K:=aa v
 refine w6 ?_
 cases w:(decide (5 < (k:Int)))
 have L:=aa w
 refine w6 ?_
 refine Qf ?_
 refine l0_ ?_
 exact wo []
 have L:=ab w
 refine w7 ?_
 exact fe_ b
 have K:=ab v
 refine w4 ?_
 refine Qe<|fqB b ?_
 (exfalso; omega)
 have J:=ab u
 refine w4 ?_
 refine Qe<|fqB b ?_
 (exfalso; omega)
 have I:=ab t
 refine w14 ?_
 refine Qe<|fqB b ?_
 (exfalso; omega)
 have H:=ab s
 refine w16 ?_
 refine w6 ?_
 refine Qe<|fqB b ?_
 (exfalso; omega)
 have G:=ab r
 refine w4 ?_
 refine Qe<|fqB b ?_
 (exfalso; omega)
 have F:=ab q
 refine w12 ?_
 refine Qe<|fqB b ?_
 (exfalso; omega)
 refine w4 ?_
 exact fe_ b
end Go.Proofs.YtndabgcpnmeeoaaGreat
