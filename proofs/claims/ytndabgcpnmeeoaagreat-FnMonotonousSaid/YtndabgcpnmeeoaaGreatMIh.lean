/- Walks over abstract states: monotonous covers as texts, both sides; small functions. -/
import Derived.Test.YtndabgcpnmeeoaaGreatMIf
import Derived.Test.YtndabgcpnmeeoaaGreatMHn
import Derived.Test.YtndabgcpnmeeoaaGreatMIa
set_option linter.unusedSimpArgs false
set_option linter.unusedVariables false
set_option linter.unusedSectionVars false
namespace Go.Proofs.YtndabgcpnmeeoaaGreat
open Go.RowKit
set_option maxRecDepth 100000
set_option maxHeartbeats 4000000
abbrev eqT:ByteArray:=⟨#[32,61,32]⟩
abbrev nlT:ByteArray:=⟨#[10]⟩
def rgT (c:DSg)(m:DRc):ByteArray:=edT c.1 (m.1,m.2.1)++eqT++cvT c.1 m.2.2++nlT
def fmK (c:DSg)(l:List DRc)(k:Nat):ByteArray:=((l.take k).map (rgT c)).foldl (fun a b=>a++b) ⟨#[]⟩
def FmP [∀c,Decidable (SgOk c)](c:DSg)(l:List DRc):Prop:=AmP c l∧∀m∈l,Yx (c.1.length:Int) m.2.2
instance [∀c,Decidable (SgOk c)] (c:DSg) (l:List DRc):Decidable (FmP c l):=inferInstanceAs (Decidable (_∧_))
def KJ [∀c,Decidable (SgOk c)](c:DSg)(l:List DRc):ByteArray:=if FmP c l then fmK c l l.length else ⟨#[]⟩
section
variable {c:DSg}{l:List DRc}{m:DRc}{k:Nat}{s:List Qz}{e:Int×Bool}{t:ByteArray}
theorem Qtt (d:SgOk c):WZ c.1:=fun g b=>by
 obtain ⟨k,a⟩:=aL.1 b
 exact (d.sigs.1 k (ah.1 a).1 g a).1.2
theorem Qwf (h:WZ s):∀g∈s,g.1.size≤6:=fun g a=>(h g a).2
theorem QkR (a:WZ s):(edT s e).size≤7:=by
 unfold edT
 split
 ·exact (by decide:(⟨#[126]⟩:ByteArray).size≤7)
 ·rw[aA]
  have d:(sgB e.2).size=1:=by unfold sgB; split <;> rfl
  cases b:s[e.1.toNat]? with
  | none=>
   have:((none:Option Qz).getD (ByteArray.empty,0)).1.size=0:=rfl
   omega
  | some g=>
   have f:=(a g (ae b)).2
   show g.1.size+_≤7
   omega
theorem QlB (a:WZ c.1)(b:c.1.length≤8)(d:m.2.2.length≤60):(rgT c m).size≤4031:=by
 unfold rgT
 simp only[aA]
 have f:=QkR (e:=(m.1,m.2.1)) a
 have g:=(Qgm (l:=m.2.2) a b d).2
 have h:eqT.size=3:=rfl
 have i:nlT.size=1:=rfl
 omega
theorem QtF (a:l[k]? =some m)(e:t=fmK c l k):t++rgT c m=fmK c l (k+1):=by
 rw[e]
 unfold fmK
 rw[Qw a,bt,bq]; rfl
theorem QrR (a:l.length≤k):fmK c l k=fmK c l l.length:=by unfold fmK; rw[aR a,aR (aK _)]
section
variable [∀c,Decidable (SgOk c)]
theorem QaD (h:¬FmP c l):(⟨#[]⟩:ByteArray)=KJ c l∧false=decide (FmP c l):=⟨(if_neg h).symm,(aB h).symm⟩
theorem QsX (f:AmP c l)(h:∀j,j < k→∀m,l[j]? =some m→Yx (c.1.length:Int) m.2.2)(d:l.length≤k)(e:t=fmK c l k):t=KJ c l∧true=decide (FmP c l):=by
 have a:FmP c l:=⟨f,fun m g=>by
  obtain ⟨j,b⟩:=aL.1 g
  exact h j (aX (ah.1 b).1 d) m b⟩
 exact ⟨by rw[e,QrR d,KJ,if_pos a],(aE a).symm⟩
theorem Qsl (a:l[k]? =some m)(h:¬Yx (c.1.length:Int) m.2.2):¬FmP c l:=fun g=>h (g.2 m (ae a))
theorem QeK (h:¬AmP c l):¬FmP c l:=fun g=>h g.1
end
def ltQ (l:List ByteArray):Prop:=l=[]∨Yx (n0 l:Int) l
end
section
variable {l:List ByteArray}{c:ByteArray}
instance (l:List ByteArray):Decidable (ltQ l):=inferInstanceAs (Decidable (_∨_))
def ltV (l:List ByteArray):Int:=if ltQ l then YC l else 0
theorem Qug {n:Int}(h:Yx n l):GdL l:=⟨by have:=h.2.1; omega,fun x a=>by have b:=Qu4 h a; have:=h.1; omega⟩
theorem Qvv (h:(l.length:Int)=0):(0:Int)=ltV l∧true=decide (ltQ l):=by
 have:l=[]:=bf (by omega)
 subst this
 exact ⟨(if_pos (.inl rfl)).symm,(aE (.inl rfl)).symm⟩
theorem QwT (h0:l[0]? =some c)(h:Yx (c.size:Int) l):YC l=ltV l∧true=decide (ltQ l):=by
 have:ltQ l:= .inr (by rw[QtG h0]; exact h)
 exact ⟨(if_pos this).symm,(aE this).symm⟩
theorem Qvp (a:¬(l.length:Int)=0)(h0:l[0]? =some c)(h:¬Yx (c.size:Int) l):(0:Int)=ltV l∧false=decide (ltQ l):=by
 have:¬ltQ l:=fun g=>by
  rcases g with rfl | g
  ·exact a rfl
  ·rw[QtG h0] at g; exact h g
 exact ⟨(if_neg this).symm,(aB this).symm⟩
end
theorem QcM (c:ZX)(a:QnF)(i:∀g∈c.1,g.1.size≤6)(v:a.2.1 < (c.1.length:Int)):FC Tryz.prog 94 [(true,[.dat Ql c.1, .dat Qj c.2.1, .dat Qv c.2.2]),(true,[dI a.1,dI a.2.1,dB a.2.2.1,dI a.2.2.2])] [] 0 (QX (lf (dS (edT c.1 (a.2.1,a.2.2.1))))):=by
 refine Qp Tryz.func94 rfl rfl Tryz.ntmps94 fun r f q j u o n=> ?_
 refine acG 1 0 fun _=> ?_
 refine acG 1 1 fun _=> ?_
 refine acG 1 3 fun _=> ?_
 refine w_ ?_
 refine xbx 0 ?_
 refine xbx 1 ?_
 refine w10 ?_
 refine cd_ (fun _ _=> ?_) fun _ _=> ?_
 refine w5 ?_
 cases p:(a.2.2.1)
 refine w8 ?_
 obtain ⟨w,b⟩:=gx c.1 ((a.2.1).toNat)
 have h:=i _ (ae b)
 refine w3 ?_
 refine lc (QA (Qa rfl) (Evl.str rfl) rfl (by (simp only[Zh]; omega))) ?_
 refine w2 ?_
 refine Qd<|fqS f ?_
 exact QwH (l:=(a.2.1,a.2.2.1)) ‹_› b ‹_›
 refine w6 ?_
 obtain ⟨x,d⟩:=gx c.1 ((a.2.1).toNat)
 have h:=i _ (ae d)
 refine w3 ?_
 refine lc (QA (Qa rfl) (Evl.str rfl) rfl (by (simp only[Zh]; omega))) ?_
 refine w2 ?_
 refine Qd<|fqS f ?_
 exact Qxn (l:=(a.2.1,a.2.2.1)) ‹_› d ‹_›
 refine w3 ?_
 refine Qd<|fqS f ?_
 first | exact Qxa (l:=(a.2.1,_)) ‹_›
theorem QH (c:ZX)(l:QhE)[∀c,Decidable (SgOk c)]:FC Tryz.prog 14 [(true,[.dat Ql c.1, .dat Qj c.2.1, .dat Qv c.2.2]),(false,[.dat V6 l])] [] 0 (QX (PV.tup [(false,[dS (KJ c l)]),(false,[dB (decide (FmP c l))])])):=by
 refine Qp Tryz.func14 rfl rfl Tryz.ntmps14 fun O_ F a9 R X_ X W=> ?_
 refine w_ ?_
 refine xbx 0 ?_
 refine w6 ?_
 refine lc (dK (X3 c) Jp) ?_
 refine w2 ?_
 cases B:(decide (SgOk c∧QL c=QB))
 have C:=aa B
 refine w12 ?_
 have S:((⟨#[]⟩:ByteArray):ByteArray)=(KJ c l):=by
  exact (QaD (QeK (fun g=>absurd g.1 ‹_›))).1
 have T:(false:Bool)=(decide (FmP c l)):=by
  exact (QaD (QeK (fun g=>absurd g.1 ‹_›))).2
 exact fr_ F (e:=by rw[S,← T] <;> rfl)
 have C:=ab B
 refine w2 ?_
 refine lgy rfl rfl (dK (WV c l (by have:=(by assumption:SgOk c∧QL c=QB).1.sigs.2.2; omega)) QfO) ?_
 refine w3 ?_
 refine cx_ (fun _=> ?_) fun _=> ?_
 refine w5 ?_
 have U:((⟨#[]⟩:ByteArray):ByteArray)=(KJ c l):=by
  exact (QaD (QeK (fun g=>absurd (g.2.symm.trans ‹_›) (by decide)))).1
 have V:(false:Bool)=(decide (FmP c l)):=by
  exact (QaD (QeK (fun g=>absurd (g.2.symm.trans ‹_›) (by decide)))).2
 exact fr_ F (e:=by rw[U,← V] <;> rfl)
 refine w_ ?_
 refine Zy ?_
 have n:AmP c l:=⟨by assumption,by assumption⟩
 have Y:=n.1
 have D:=Y.1
 have L:=n.2
 have hr:∀a∈c.2.2,InR c.2.1.length a:=fun a Z=>ZL (D.arcs a Z)
 have a6:=D.some_
 have a1:=D.few
 have h8:=D.sigs.2.2
 have M:=Qa7 (c:=c)
 have a3:=Qgu L
 have i:=Qtt D
 have A:c.1.length≤8:=by omega
 refine w6 ?_
 refine alL 18 fun _=> ?_
 refine w4 ?_
 refine QD (fun O Q=>∃(k:Nat) (r:ByteArray),k≤l.length∧O=l.length - k∧(r=fmK c l k)∧(∀j,j < k→∀m,l[j]? =some m→Yx (c.1.length:Int) m.2.2)∧(r.size≤4031*k)∧Q=⟨[(2,lP 0 0),(6,lf (dS r)),(18,lf (.dat V6 l)),(19,lI (l.length:Int)),(20,lI (k:Int))],[bx 0 28 [.dat Ql c.1, .dat Qj c.2.1, .dat Qv c.2.2]]⟩) ⟨0,(⟨#[]⟩:ByteArray),aP _,rfl,rfl,(fun j hj=>absurd hj (aW j)),(aP _),rfl⟩ ?_ ?_
 exact wo []
 rintro O Q ⟨k,r,a2,a4,x,u,a7,rfl⟩
 refine w4 ?_
 cases p:(decide ((k:Int) < (l.length:Int)))
 have y:=aa p
 refine w9 ?_
 have G:(r:ByteArray)=(KJ c l):=by
  exact (QsX n u (by omega) x).1
 have H:(true:Bool)=(decide (FmP c l)):=by
  exact (QsX n u (by omega) x).2
 exact fr_ F (e:=by rw[← G,← H] <;> rfl)
 have y:=ab p
 refine w5 ?_
 obtain ⟨b,E⟩:=gx l k
 have h:=E
 refine w2 ?_
 refine lc (xal 1 Ym XF) ?_
 refine w6 ?_
 refine alL 25 fun _=> ?_
 refine w3 ?_
 refine lc (dK (WI (c.1.length:Int) b.2.2) QfG) ?_
 refine w2 ?_
 cases q:(decide (Yx (c.1.length:Int) b.2.2))
 have z:=aa q
 refine w6 ?_
 have I:((⟨#[]⟩:ByteArray):ByteArray)=(KJ c l):=by
  exact (QaD (Qsl h ‹_›)).1
 have J:(false:Bool)=(decide (FmP c l)):=by
  exact (QaD (Qsl h ‹_›)).2
 exact fr_ F (e:=by rw[I,← J] <;> rfl)
 have z:=ab q
 refine w2 ?_
 have f:=(by assumption:Yx (c.1.length:Int) b.2.2)
 have a0:=(Qgm (l:=b.2.2) i A f.2.1).2
 have K:=QkR (e:=(b.1,b.2.1)) i
 have N:(edT c.1 (((0:Int),b.1,b.2.1,(0:Int)).2.1,((0:Int),b.1,b.2.1,(0:Int)).2.2.1)).size≤7:=K
 have a8:=QlB (m:=b) i A f.2.1
 have o:(⟨#[32,61,32]⟩:ByteArray).size=3:=rfl
 have a5:=Qi0 L h
 apply dV (i7 31 _ _ _ _ _ _ _ (io 38 (ag [dI b.1,dB b.2.1]) :: io 39 (lf (dS (edT c.1 (b.1,b.2.1)))) :: io 40 (lf (dS ((edT c.1 (b.1,b.2.1))++(⟨#[32,61,32]⟩:ByteArray)))) :: i4 41 _ _ _ _ [io 45 (lf (dS (cvT c.1 b.2.2))),io 46 (lf (dS (((edT c.1 (b.1,b.2.1))++(⟨#[32,61,32]⟩:ByteArray))++(cvT c.1 b.2.2)))),io 47 (lf (dS ((((edT c.1 (b.1,b.2.1))++(⟨#[32,61,32]⟩:ByteArray))++(cvT c.1 b.2.2))++(⟨#[10]⟩:ByteArray)))),io 48 (lf (dS (r++((((edT c.1 (b.1,b.2.1))++(⟨#[32,61,32]⟩:ByteArray))++(cvT c.1 b.2.2))++(⟨#[10]⟩:ByteArray))))),io 6 _])) [0,1,1,7,7,31,31,7,1,1,1023,1023,4095,4095,513,1,1,0,0]
 refine z7 ?_
 refine zz (fun _ d=>ac (Qq XJ ⟨_,_,rfl,(d.w rfl),⟨_,_,rfl,(d.w rfl),rfl⟩⟩ (av.1 rfl) rfl rfl) rfl) ?_
 refine zz (fun _ d=>ac (dK (Qa0 c.1 (b.1,b.2.1) (Qwf i) (by omega)) Qn6) rfl) ?_
 refine zz (fun _ d=>ac (QA (d.v rfl) (Evl.str rfl) rfl (by first | omega | (simp only[aA,Zh,o]; omega))) rfl) ?_
 refine z4 ?_
 refine zz (fun _ d=>ac (dK (Qax c.1 b.2.2 i A f.2.1 f.2.2) Qm6) rfl) ?_
 refine zz (fun _ d=>ac (QA (d.v rfl) (d.v rfl) rfl (by first | omega | (simp only[aA,Zh,o]; omega))) rfl)<|zz (fun _ d=>ac (QA (d.v rfl) (Evl.str rfl) rfl (by first | omega | (simp only[aA,Zh,o]; omega))) rfl)<|zz (fun _ d=>ac (QA (d.v rfl) (d.v rfl) rfl (by first | omega | (simp only[aA,Zh,o]; omega))) rfl) ?_
 exact y1
 refine w4 ?_
 refine Qb<|Zb ⟨k+1,(r++((((edT c.1 (b.1,b.2.1))++(⟨#[32,61,32]⟩:ByteArray))++(cvT c.1 b.2.2))++(⟨#[10]⟩:ByteArray))),by omega,rfl,(QtF h x),(XV (P:=fun m=>Yx (c.1.length:Int) m.2.2) u h f),(by have d:(r++rgT c b).size≤4031*(k+1):=(by rw[aA]; omega); exact d),rfl⟩ (by omega) ?_
 exact wo []
theorem QF (c:ZX)(l:QhE)[∀c,Decidable (SgOk c)]:FC Tryz.prog 16 [(true,[.dat Ql c.1, .dat Qj c.2.1, .dat Qv c.2.2]),(false,[.dat V6 l])] [] 0 (QX (PV.tup [(false,[dS (KJ c l)]),(false,[dB (decide (FmP c l))])])):=by
 refine Qp Tryz.func16 rfl rfl Tryz.ntmps16 fun O_ B b0 W X_ a1 a0=> ?_
 refine w_ ?_
 refine xbx 0 ?_
 refine w6 ?_
 refine lc (dK (X0 c) JA) ?_
 refine w2 ?_
 cases C:(decide (SgOk c))
 have D:=aa C
 refine w16 ?_
 refine w_ ?_
 have X:((⟨#[]⟩:ByteArray):ByteArray)=(KJ c l):=by
  exact (QaD (QeK (fun g=>absurd g.1.1 ‹_›))).1
 have Y:(false:Bool)=(decide (FmP c l)):=by
  exact (QaD (QeK (fun g=>absurd g.1.1 ‹_›))).2
 exact fr_ B (e:=by rw[X,← Y] <;> rfl)
 have D:=ab C
 refine w_ ?_
 refine lgy rfl rfl (dK (XD c (by assumption:SgOk c).w) Uc) ?_
 refine w3 ?_
 cases E:(!decide ((QL c)=(⟨#[109,97,100,101]⟩:ByteArray)))
 have F:((QL c)=(⟨#[109,97,100,101]⟩:ByteArray)):=Qu E
 refine w2 ?_
 refine lgy rfl rfl (dK (U6 c l (by have:=(by assumption:SgOk c).sigs.2.2; omega)) QfR) ?_
 refine w3 ?_
 refine cx_ (fun _=> ?_) fun _=> ?_
 refine w5 ?_
 have Z:((⟨#[]⟩:ByteArray):ByteArray)=(KJ c l):=by
  exact (QaD (QeK (fun g=>absurd (g.2.symm.trans ‹_›) (by decide)))).1
 have e7:(false:Bool)=(decide (FmP c l)):=by
  exact (QaD (QeK (fun g=>absurd (g.2.symm.trans ‹_›) (by decide)))).2
 exact fr_ B (e:=by rw[Z,← e7] <;> rfl)
 refine w_ ?_
 refine Zy ?_
 have n:AmP c l:=⟨⟨by assumption,by assumption⟩,by assumption⟩
 have hM:=n.1
 have G:=hM.1
 have Q:=n.2
 have hr:∀a∈c.2.2,InR c.2.1.length a:=fun a ha=>ZL (G.arcs a ha)
 have a7:=G.some_
 have a3:=G.few
 have h8:=G.sigs.2.2
 have R:=Qa7 (c:=c)
 have a5:=Qgu Q
 have i:=Qtt G
 have A:c.1.length≤8:=by omega
 refine w6 ?_
 refine alL 23 fun _=> ?_
 refine w4 ?_
 refine QD (fun U V=>∃(k:Nat) (r:ByteArray),k≤l.length∧U=l.length - k∧(r=fmK c l k)∧(∀j,j < k→∀m,l[j]? =some m→Yx (c.1.length:Int) m.2.2)∧(r.size≤4031*k)∧V=⟨[(2,lP 0 0),(6,lf (dS r)),(23,lf (.dat V6 l)),(24,lI (l.length:Int)),(25,lI (k:Int))],[bx 0 28 [.dat Ql c.1, .dat Qj c.2.1, .dat Qv c.2.2]]⟩) ⟨0,(⟨#[]⟩:ByteArray),aP _,rfl,rfl,(fun j hj=>absurd hj (aW j)),(aP _),rfl⟩ ?_ ?_
 exact wo []
 rintro U V ⟨k,r,a4,T,x,u,a8,rfl⟩
 refine w4 ?_
 cases p:(decide ((k:Int) < (l.length:Int)))
 have y:=aa p
 refine w9 ?_
 have I:(r:ByteArray)=(KJ c l):=by
  exact (QsX n u (by omega) x).1
 have J:(true:Bool)=(decide (FmP c l)):=by
  exact (QsX n u (by omega) x).2
 exact fr_ B (e:=by rw[← I,← J] <;> rfl)
 have y:=ab p
 refine w5 ?_
 obtain ⟨b,H⟩:=gx l k
 have h:=H
 refine w2 ?_
 refine lc (xal 1 Ym XF) ?_
 refine w6 ?_
 refine alL 30 fun _=> ?_
 refine w3 ?_
 refine lc (dK (QbS (c.1.length:Int) b.2.2) Qn1) ?_
 refine w2 ?_
 cases q:(decide (Yx (c.1.length:Int) b.2.2))
 have z:=aa q
 refine w6 ?_
 have K:((⟨#[]⟩:ByteArray):ByteArray)=(KJ c l):=by
  exact (QaD (Qsl h ‹_›)).1
 have L:(false:Bool)=(decide (FmP c l)):=by
  exact (QaD (Qsl h ‹_›)).2
 exact fr_ B (e:=by rw[K,← L] <;> rfl)
 have z:=ab q
 refine w2 ?_
 have f:=(by assumption:Yx (c.1.length:Int) b.2.2)
 have a2:=(Qgm (l:=b.2.2) i A f.2.1).2
 have O:=QkR (e:=(b.1,b.2.1)) i
 have S:(edT c.1 (((0:Int),b.1,b.2.1,(0:Int)).2.1,((0:Int),b.1,b.2.1,(0:Int)).2.2.1)).size≤7:=O
 have a9:=QlB (m:=b) i A f.2.1
 have o:(⟨#[32,61,32]⟩:ByteArray).size=3:=rfl
 have a6:=Qi0 Q h
 apply dV (i6 36 _ _ _ _ _ _ (io 42 (ag [dI 0,dI b.1,dB b.2.1,dI 0]) :: io 43 (lf (dS (edT c.1 ((0,b.1,b.2.1,0).2.1,(0,b.1,b.2.1,0).2.2.1)))) :: io 44 (lf (dS ((edT c.1 ((0,b.1,b.2.1,0).2.1,(0,b.1,b.2.1,0).2.2.1))++(⟨#[32,61,32]⟩:ByteArray)))) :: i4 45 _ _ _ _ [io 49 (lf (dS (cvT c.1 b.2.2))),io 50 (lf (dS (((edT c.1 ((0,b.1,b.2.1,0).2.1,(0,b.1,b.2.1,0).2.2.1))++(⟨#[32,61,32]⟩:ByteArray))++(cvT c.1 b.2.2)))),io 51 (lf (dS ((((edT c.1 ((0,b.1,b.2.1,0).2.1,(0,b.1,b.2.1,0).2.2.1))++(⟨#[32,61,32]⟩:ByteArray))++(cvT c.1 b.2.2))++(⟨#[10]⟩:ByteArray)))),io 52 (lf (dS (r++((((edT c.1 ((0,b.1,b.2.1,0).2.1,(0,b.1,b.2.1,0).2.2.1))++(⟨#[32,61,32]⟩:ByteArray))++(cvT c.1 b.2.2))++(⟨#[10]⟩:ByteArray))))),io 6 _])) [0,1,3,3,15,15,3,1,1,511,511,2047,2047,257,1,1,0,0]
 refine z6 ?_
 refine zz (fun _ d=>ac (Qq QlU ⟨_,_,rfl,(d.w rfl),⟨_,_,rfl,(d.w rfl),rfl⟩⟩ (av.1 rfl) rfl rfl) rfl) ?_
 refine zz (fun _ d=>ac (dK (QcM c (0,b.1,b.2.1,0) (Qwf i) (show b.1 < (c.1.length:Int) by omega)) QnS) rfl) ?_
 refine zz (fun _ d=>ac (QA (d.v rfl) (Evl.str rfl) rfl (by first | omega | (simp only[aA,Zh,o]; omega))) rfl) ?_
 refine z4 ?_
 refine zz (fun _ d=>ac (dK (QbL c.1 b.2.2 i A f.2.1 f.2.2) Qm7) rfl) ?_
 refine zz (fun _ d=>ac (QA (d.v rfl) (d.v rfl) rfl (by first | omega | (simp only[aA,Zh,o]; omega))) rfl)<|zz (fun _ d=>ac (QA (d.v rfl) (Evl.str rfl) rfl (by first | omega | (simp only[aA,Zh,o]; omega))) rfl)<|zz (fun _ d=>ac (QA (d.v rfl) (d.v rfl) rfl (by first | omega | (simp only[aA,Zh,o]; omega))) rfl) ?_
 exact y1
 refine w4 ?_
 refine Qb<|Zb ⟨k+1,(r++((((edT c.1 ((0,b.1,b.2.1,0).2.1,(0,b.1,b.2.1,0).2.2.1))++(⟨#[32,61,32]⟩:ByteArray))++(cvT c.1 b.2.2))++(⟨#[10]⟩:ByteArray))),by omega,rfl,(QtF h x),(XV (P:=fun m=>Yx (c.1.length:Int) m.2.2) u h f),(by have d:(r++rgT c b).size≤4031*(k+1):=(by rw[aA]; omega); exact d),rfl⟩ (by omega) ?_
 exact wo []
 have F:¬((QL c)=(⟨#[109,97,100,101]⟩:ByteArray)):=QE E
 refine w12 ?_
 have M:((⟨#[]⟩:ByteArray):ByteArray)=(KJ c l):=by
  exact (QaD (QeK (fun g=>absurd g.1.2 ‹_›))).1
 have N:(false:Bool)=(decide (FmP c l)):=by
  exact (QaD (QeK (fun g=>absurd g.1.2 ‹_›))).2
 exact fr_ B (e:=by rw[M,← N] <;> rfl)
theorem ZI (l:List ByteArray):FC Tryz.prog 22 [(false,[.dat Qj l])] [] 0 (QX (PV.tup [(false,[dI (ltV l)]),(false,[dB (decide (ltQ l))])])):=by
 refine Qp Tryz.func22 rfl rfl Tryz.ntmps22 fun x i w o y v u=> ?_
 refine w7 ?_
 refine alL 4 fun _=> ?_
 refine w3 ?_
 refine cd_ (fun _ _=> ?_) fun _ _=> ?_
 refine w4 ?_
 obtain ⟨n,j⟩:=gx l 0
 have a:=j
 refine w2 ?_
 refine alS 9 fun _=> ?_
 refine lc (Zd (Qa rfl) rfl Zz) ?_
 refine w_ ?_
 refine lc (dK (WI (n.size:Int) l) QfG) ?_
 refine w2 ?_
 cases b:(decide (Yx (n.size:Int) l))
 have d:=aa b
 refine w6 ?_
 have p:(0:Int)=(ltV l):=by
  exact (Qvp ‹_› a ‹_›).1
 have q:(false:Bool)=(decide (ltQ l)):=by
  exact (Qvp ‹_› a ‹_›).2
 exact fr_ i (e:=by rw[← p,← q] <;> rfl)
 have d:=ab b
 refine w4 ?_
 refine lc (dK (Wj l (Qug ‹_›)) Hc) ?_
 refine w4 ?_
 have r:(YC l:Int)=(ltV l):=by
  exact (QwT a ‹_›).1
 have f:(true:Bool)=(decide (ltQ l)):=by
  exact (QwT a ‹_›).2
 exact fr_ i (e:=by rw[r,← f] <;> rfl)
 refine w5 ?_
 have g:(0:Int)=(ltV l):=by
  exact (Qvv ‹_›).1
 have h:(true:Bool)=(decide (ltQ l)):=by
  exact (Qvv ‹_›).2
 exact fr_ i (e:=by rw[← g,← h] <;> rfl)
theorem Hf (a:QhE)(b:QhE)(h:a=b):FC Tryz.prog 12 [(false,[.dat V6 a]),(false,[.dat V6 b])] [] 0 (QX (lB true)):=by
 have D:a.length=b.length:=by rw[h]
 refine Qp Tryz.func12 rfl rfl Tryz.ntmps12 fun F r E A G C B=> ?_
 refine w6 ?_
 refine alL 6 fun _=> ?_
 refine w2 ?_
 refine alL 8 fun _=> ?_
 refine w3 ?_
 refine cn_ (fun _ _=> ?_) fun _ _=> ?_
 refine w4 ?_
 refine alL 11 fun _=> ?_
 refine w4 ?_
 refine lp0 a.length (fun k=>⟨[(0,lf (.dat V6 a)),(1,lf (.dat V6 b)),(12,lI (a.length:Int)),(13,lI (k:Int))],[]⟩) ?_ fun k _=> ?_
 exact wo []
 refine w4 ?_
 cases o:(decide ((k:Int) < (a.length:Int)))
 have p:=aa o
 refine w7 ?_
 exact fe_ r
 have p:=ab o
 refine w8 ?_
 obtain ⟨j,y⟩:=gx a k
 have u:=y
 obtain ⟨n,q⟩:=gx b k
 have w:=q
 have x:j=n:=di (u.symm.trans ((congrArg (fun l=>l[k]?) h).trans w))
 cases f:(!decide (j.1=n.1))
 have i:(j.1=n.1):=Qu f
 cases g:(j.2.1==n.2.1)
 apply dW (i9 16 _ _ _ _ _ _ _ _ _ (io 25 _ :: io 26 (lB false) :: i9 27 _ _ _ _ _ _ _ _ _ (i2 36 _ _ (io 38 (lB true) :: i9 39 _ _ _ _ _ _ _ _ _ (i6 48 _ _ _ _ _ _ []))))) [0,1,0,0,0,31,63,31,31,31,0,0,0,4096,0,0,0,126976,258048,126976,126976,126976,0,0,0,0,33554432,0,0,0,1040187392,2113929216,1040187392,1040187392,1040187392,0,0,0]
 refine z10 ?_
 refine zz (fun _ d=>ac (QS (VI (JO f)) (VD (d.v rfl) (d.v rfl) rfl)) rfl) ?_
 refine z11 ?_
 refine zz (fun _ d=>day rfl (d.k rfl) (QS (VI (g)) (ZW (d.v rfl) (d.v rfl) rfl Zv)) rfl) ?_
 exact y15
 refine w4 ?_
 refine Qd<|fqB r ?_
 ·(subst h; exfalso; simp_all; done)
 apply dW (i9 16 _ _ _ _ _ _ _ _ _ (io 25 _ :: io 26 (lB false) :: i9 27 _ _ _ _ _ _ _ _ _ (i2 36 _ _ (io 38 (lB false) :: i9 39 _ _ _ _ _ _ _ _ _ (i3 48 _ _ _ (io 51 (lB true) :: i2 52 _ _ [])))))) [0,1,0,0,0,31,63,31,31,31,0,0,0,4096,0,0,0,126976,258048,126976,126976,126976,0,0,0,0,33554432,0,0,0,1040187392,2113929216,1040187392,1040187392,1040187392,0,0,0]
 refine z10 ?_
 refine zz (fun _ d=>ac (QS (VI (JO f)) (VD (d.v rfl) (d.v rfl) rfl)) rfl) ?_
 refine z11 ?_
 refine zz (fun _ d=>day rfl (d.k rfl) (QS (VI (g)) (ZW (d.v rfl) (d.v rfl) rfl Zv)) rfl) ?_
 refine z12 ?_
 refine zz (fun _ d=>day rfl (d.k rfl) (dK (HQ j.2.2 n.2.2 (congrArg (fun z=>z.2.2) x)) Qoa) rfl) ?_
 exact y2
 refine w6 ?_
 refine Qb ?_
 refine l0_ ?_
 exact wo []
 have i:¬(j.1=n.1):=QE f
 apply dW (i9 16 _ _ _ _ _ _ _ _ _ (io 25 _ :: io 26 (lB true) :: i9 27 _ _ _ _ _ _ _ _ _ (i9 36 _ _ _ _ _ _ _ _ _ (i9 45 _ _ _ _ _ _ _ _ _ [])))) [0,1,0,0,0,31,63,31,31,31,0,0,0,4096,0,0,0,126976,258048,126976,126976,126976,0,0,0,0,33554432,0,0,0,1040187392,2113929216,1040187392,1040187392,1040187392,0,0,0]
 refine z10 ?_
 refine zz (fun _ d=>ac (QS (VI (JO f)) (VD (d.v rfl) (d.v rfl) rfl)) rfl) ?_
 refine z16 ?_
 exact y11
 refine w4 ?_
 refine Qd<|fqB r ?_
 ·(subst h; exfalso; simp_all; done)
 refine w3 ?_
 refine Qd<|fqB r ?_
 ·(subst h; exfalso; simp_all; done)
end Go.Proofs.YtndabgcpnmeeoaaGreat
namespace Go.Proofs.YtndabgcpnmeeoaaGreat
open Go.RowKit
set_option maxRecDepth 100000
set_option maxHeartbeats 4000000
abbrev B3:List ByteArray:=[⟨#[48]⟩,⟨#[49]⟩,⟨#[45]⟩]
def cbG (code:List UInt8):Nat→ByteArray×Int×Int→ByteArray×Int×Int
 | 0,st=>st
 | k+1,st=>cbG code k (st.1++(B3[(pkV code st.2.1 st.2.2 (B3.length:Int)).toNat]?).getD ByteArray.empty,pkA (B3.length:Int) st.2.1,pkS code st.2.1 st.2.2 (B3.length:Int))
def cbV (code:List UInt8)(n at_ sd:Int):ByteArray×Int×Int:=cbG code n.toNat (⟨#[]⟩,at_,sd)
theorem Qrs {code:List UInt8}{n k b a:Int}{c:ByteArray}{z:ByteArray×Int×Int}(h:k < n)(d:z=cbG code (n - k).toNat (c,b,a)):
 z=cbG code (n - (k+1)).toNat (c++(B3[(pkV code b a (B3.length:Int)).toNat]?).getD ByteArray.empty,pkA (B3.length:Int) b,pkS code b a (B3.length:Int)):=by
 rw[d,show (n - k).toNat=(n - (k+1)).toNat+1 by omega,cbG]
theorem Qj5 {code:List UInt8}{n k b a:Int}{c:ByteArray}{z:ByteArray×Int×Int}(h:¬k < n)(d:z=cbG code (n - k).toNat (c,b,a)):z=(c,b,a):=by
 rw[d,show (n - k).toNat=0 by omega,cbG]
theorem QbD (code:List UInt8)(at_:Int)(sd:Int)(n:Int)(v:0≤at_∧at_≤900000000)(y:0≤n∧n≤9):FC Tryz.prog 98 [(false,[.ptr 0 0]),(false,[dI n])] [bx 0 134 [.dat QN code,dI at_, .val (.int .u64 sd)]] 1 (Is (lf (dS ((cbV code n at_ sd).1))) [bx 0 134 [.dat QN code,dI ((cbV code n at_ sd).2.1), .val (.int .u64 ((cbV code n at_ sd).2.2))]]):=by
 refine Qp Tryz.func98 rfl rfl Tryz.ntmps98 fun t p s k u o m=> ?_
 refine acI 1 fun _=> ?_
 refine w11 ?_
 refine QD (fun i j=>∃(c:Int) (d:ByteArray) (b:Int) (a:Int),i=(n - c).toNat∧(0≤c∧c≤n)∧((d.size:Int)≤c)∧(at_≤b∧b≤at_+2*c)∧((cbV code n at_ sd)=cbG code (n - c).toNat (d,b,a))∧j=⟨[(0,lP 0 0),(1,lI n),(4,lf (dS (⟨#[]⟩:ByteArray))),(5,lf (dS d)),(6,lI c)],[bx 0 134 [.dat QN code,dI b, .val (.int .u64 a)]]⟩) ⟨0,(⟨#[]⟩:ByteArray),at_,sd,rfl,by omega,(cK _),by omega,(by unfold cbV; rw[Int.sub_zero]),rfl⟩ ?_ ?_
 exact wo []
 rintro i j ⟨c,d,b,a,q,x,z,w,h,rfl⟩
 refine w6 ?_
 cases f:(decide (c < n))
 have g:=aa f
 refine w8 ?_
 have l:(d:ByteArray)=((cbV code n at_ sd).1):=by
  (rw[Qj5 (by omega) h])
 exact fi_ [] p ⟨(((congrArg (fun z_=>some (Ent.box 134 [.dat QN code,dI z_, .val (.int .u64 a)])) (show (b:Int)=((cbV code n at_ sd).2.1) by (rw[Qj5 (by omega) h])))).trans (congrArg (fun z_:Int=>some (Ent.box 134 [.dat QN code,dI ((cbV code n at_ sd).2.1), .val (.int .u64 z_)])) (show (a:Int)=((cbV code n at_ sd).2.2) by (rw[Qj5 (by omega) h])))),trivial⟩ (h0:=by rw[← l] <;> rfl)
 have g:=ab f
 refine w7 ?_
 refine lc (dBs 1 (e:= .str) Ya) ?_
 have r:=Zu code b a (([(⟨#[48]⟩:ByteArray),(⟨#[49]⟩:ByteArray),(⟨#[45]⟩:ByteArray)]).length:Int)
 refine lc (dP 2 [] (Wd code b a ([(⟨#[48]⟩:ByteArray),(⟨#[49]⟩:ByteArray),(⟨#[45]⟩:ByteArray)]) (by omega) (by decide)) Hj) ?_
 refine lc (QA (Qa rfl) (Qa rfl) rfl (by (refine bu (cF (Qb8 [(⟨#[48]⟩:ByteArray),(⟨#[49]⟩:ByteArray),(⟨#[45]⟩:ByteArray)] 1 (by decide+kernel) _) _) ?_; omega))) ?_
 refine w_ ?_
 refine Qb ?_
 refine w5 ?_
 refine Qb ?_
 refine Zb ⟨(c+1),(d++((([(⟨#[48]⟩:ByteArray),(⟨#[49]⟩:ByteArray),(⟨#[45]⟩:ByteArray)])[(pkV code b a (([(⟨#[48]⟩:ByteArray),(⟨#[49]⟩:ByteArray),(⟨#[45]⟩:ByteArray)]).length:Int)).toNat]?).getD ByteArray.empty)),(pkA (([(⟨#[48]⟩:ByteArray),(⟨#[49]⟩:ByteArray),(⟨#[45]⟩:ByteArray)]).length:Int) b),(pkS code b a (([(⟨#[48]⟩:ByteArray),(⟨#[49]⟩:ByteArray),(⟨#[45]⟩:ByteArray)]).length:Int)),rfl,by omega,(by rw[aA]; refine Int.le_trans (Int.ofNat_le.2 (cF (Qb8 [(⟨#[48]⟩:ByteArray),(⟨#[49]⟩:ByteArray),(⟨#[45]⟩:ByteArray)] 1 (by decide+kernel) _) _)) ?_; omega),(by omega),(Qrs (by omega) h),rfl⟩ (by omega) ?_
 exact wo []
theorem WP (code:List UInt8)[∀s,Decidable (StgOk s)][∀s,Decidable (Y5 s)][∀c,Decidable (SgOk c)]:FC Tryz.prog 9 [(false,[.dat QN code])] [] 0 (Ex (fun x:DSg=>x.1.length≤8) (fun x:DSg=>ag [.dat Ql x.1, .dat Qj x.2.1, .dat Qv x.2.2]) (fun x:DSg=>[])):=by
 refine Qp Tryz.func9 rfl rfl Tryz.ntmps9 fun j f i b k e d=> ?_
 refine w_ ?_
 refine lc (xal 0 Xn Zt) ?_
 refine w3 ?_
 refine lc (WJ [.val (.slice none 0 0),dI 0, .val (.int .u64 0)] (QaG (offs:=[(0,1),(1,1),(2,1)]) (zs:=[.slice none 0 0, .int .i64 0, .int .u64 0]) Tryz.underlying134 (by kernel_rfl) (by kernel_rfl)) (fun _ _ _=>⟨_,_,rfl,rfl,⟨_,_,rfl,(Xm _ _ _ .int).one rfl,⟨_,_,rfl,rfl,rfl⟩⟩⟩) ⟨_,_,rfl,(Qo rfl),rfl⟩ (av.1 rfl) rfl rfl) ?_
 refine xbx 1 ?_
 refine w4 ?_
 refine Q8 2 [(0,1)] (XK code 0 0 (by omega)) QaJ e1_ ⟨rfl,trivial⟩ rfl (fun _=>rfl) (fun _=>⟨trivial,trivial⟩) (nlr rfl) fun a h=> ?_
 refine w3 ?_
 subst f
 refine QP (x:=(a.1.1,(a.1.2.1,a.1.2.2))) [] ?_ (Res.one rfl (Rs.cell rfl rfl ZM rfl)) rfl trivial rfl rfl
 (have g:=‹_≤8∧_›; exact g.1)
theorem Yi (code:List UInt8)[∀s,Decidable (StgOk s)][∀s,Decidable (Y5 s)][∀c,Decidable (SgOk c)]:FC Tryz.prog 17 [(false,[.dat QN code])] [] 0 (Ex (fun x:DSg×Int×Bool×Int×ByteArray=>x.1.1.length≤8) (fun x:DSg×Int×Bool×Int×ByteArray=>PV.tup [(true,[.dat Ql x.1.1, .dat Qj x.1.2.1, .dat Qv x.1.2.2]),(false,[dI x.2.1]),(false,[dB x.2.2.1]),(false,[dI x.2.2.2.1]),(false,[dS x.2.2.2.2])]) (fun x:DSg×Int×Bool×Int×ByteArray=>[])):=by
 refine Qp Tryz.func17 rfl rfl Tryz.ntmps17 fun n d m e o g f=> ?_
 refine w_ ?_
 refine lc (xal 0 Xn Zt) ?_
 refine w7 ?_
 refine lc (WJ [.val (.slice none 0 0),dI 0, .val (.int .u64 0)] (QaG (offs:=[(0,1),(1,1),(2,1)]) (zs:=[.slice none 0 0, .int .i64 0, .int .u64 0]) Tryz.underlying134 (by kernel_rfl) (by kernel_rfl)) (fun _ _ _=>⟨_,_,rfl,rfl,⟨_,_,rfl,(Xm _ _ _ .int).one rfl,⟨_,_,rfl,rfl,rfl⟩⟩⟩) ⟨_,_,rfl,(Qo rfl),rfl⟩ (av.1 rfl) rfl rfl) ?_
 refine xbx 1 ?_
 refine w4 ?_
 refine Q8 2 [] (W6 code) Qny e1_ trivial rfl (fun _=>rfl) (fun _=>trivial) (nlr rfl) fun a l=> ?_
 refine w5 ?_
 refine lc (xal 2 Xn Zt) ?_
 refine w11 ?_
 refine lc (dK (ZV a.1 a.2.1 a.2.2.1 a.2.2.2) Jd) ?_
 refine w9 ?_
 cases h:((fdV a.1 a.2.1 a.2.2.1 a.2.2.2).2)
 refine w6 ?_
 have i:=Zu code 0 0 15
 apply dW (i9 42 _ _ _ _ _ _ _ _ _ (⟨some 51,lI (pkV code 0 0 15),[bx 1 134 [.dat QN code,dI (pkA 15 0), .val (.int .u64 (pkS code 0 0 15))],(1,none)]⟩ :: io 52 (lI ((pkV code 0 0 15) / 14)) :: io 53 _ :: ⟨some 54,lf (dS ((cbV code ((a.1.1.length:Int)+((pkV code 0 0 15) / 14)) (pkA 15 0) (pkS code 0 0 15)).1)),[bx 1 134 [.dat QN code,dI ((cbV code ((a.1.1.length:Int)+((pkV code 0 0 15) / 14)) (pkA 15 0) (pkS code 0 0 15)).2.1), .val (.int .u64 ((cbV code ((a.1.1.length:Int)+((pkV code 0 0 15) / 14)) (pkA 15 0) (pkS code 0 0 15)).2.2))],(1,none)]⟩ :: ⟨none,lf (.val undef),[bx 0 28 [.dat Ql a.1.1, .dat Qj a.1.2.1, .dat Qv a.1.2.2]]⟩ :: i4 3 _ _ _ _ [])) [0,1,3,7,15,31,31,31,255,255,255,31,15,14,12,8,0,0]
 refine z9 ?_
 refine zz (fun _ b=>ac (dP 3 [(0,1)] (Qr code 0 0 15 (by omega)) Zl) rfl) ?_
 refine zz (fun _ b=>ac (KW (b.v rfl) (Qn rfl) rfl (by omega) (by omega)) rfl) ?_
 refine z_ ?_
 refine zz (fun _ b=>ac (dP 4 [(0,1)] (QbD code (pkA 15 0) (pkS code 0 0 15) ((a.1.1.length:Int)+((pkV code 0 0 15) / 14)) (by omega) (by omega)) Qba) rfl) ?_
 exact y5
 refine w_ ?_
 subst d
 refine QP (x:=((a.1.1,(a.1.2.1,a.1.2.2)),(a.2.1,(a.2.2.1,(a.2.2.2,(cbV code ((a.1.1.length:Int)+((pkV code 0 0 15) / 14)) (pkA 15 0) (pkS code 0 0 15)).1))))) [] ?_ (Qer rfl (Rs.cell rfl rfl ZM rfl) (Zi rfl) (Zi rfl) (Zi rfl) (Zi rfl)) rfl trivial rfl rfl
 assumption
 refine w_ ?_
 have j:=Zu code 0 0 3
 refine lgy rfl rfl (dP 5 [(0,1)] (ZT code 0 0 3 (by omega)) Wg) ?_
 refine w2 ?_
 refine cd_ (fun _ _=> ?_) fun _ _=> ?_
 refine w_ ?_
 have k:=Zu code (pkA 3 0) (pkS code 0 0 3) 15
 apply dW (i9 42 _ _ _ _ _ _ _ _ _ (⟨some 51,lI (pkV code (pkA 3 0) (pkS code 0 0 3) 15),[bx 1 134 [.dat QN code,dI (pkA 15 (pkA 3 0)), .val (.int .u64 (pkS code (pkA 3 0) (pkS code 0 0 3) 15))],(1,none)]⟩ :: io 52 (lI ((pkV code (pkA 3 0) (pkS code 0 0 3) 15) / 14)) :: io 53 _ :: ⟨some 54,lf (dS ((cbV code ((a.1.1.length:Int)+((pkV code (pkA 3 0) (pkS code 0 0 3) 15) / 14)) (pkA 15 (pkA 3 0)) (pkS code (pkA 3 0) (pkS code 0 0 3) 15)).1)),[bx 1 134 [.dat QN code,dI ((cbV code ((a.1.1.length:Int)+((pkV code (pkA 3 0) (pkS code 0 0 3) 15) / 14)) (pkA 15 (pkA 3 0)) (pkS code (pkA 3 0) (pkS code 0 0 3) 15)).2.1), .val (.int .u64 ((cbV code ((a.1.1.length:Int)+((pkV code (pkA 3 0) (pkS code 0 0 3) 15) / 14)) (pkA 15 (pkA 3 0)) (pkS code (pkA 3 0) (pkS code 0 0 3) 15)).2.2))],(1,none)]⟩ :: ⟨none,lf (.val undef),[bx 0 28 [.dat Ql a.1.1, .dat Qj a.1.2.1, .dat Qv a.1.2.2]]⟩ :: i4 3 _ _ _ _ [])) [0,1,3,7,15,31,31,31,255,255,255,31,15,14,12,8,0,0]
 refine z9 ?_
 refine zz (fun _ b=>ac (dP 6 [(0,1)] (Qr code (pkA 3 0) (pkS code 0 0 3) 15 (by omega)) Zl) rfl) ?_
 refine zz (fun _ b=>ac (KW (b.v rfl) (Qn rfl) rfl (by omega) (by omega)) rfl) ?_
 refine z_ ?_
 refine zz (fun _ b=>ac (dP 7 [(0,1)] (QbD code (pkA 15 (pkA 3 0)) (pkS code (pkA 3 0) (pkS code 0 0 3) 15) ((a.1.1.length:Int)+((pkV code (pkA 3 0) (pkS code 0 0 3) 15) / 14)) (by omega) (by omega)) Qba) rfl) ?_
 exact y5
 refine w_ ?_
 subst d
 refine QP (x:=((a.1.1,(a.1.2.1,a.1.2.2)),(a.2.1,(a.2.2.1,(a.2.2.2,(cbV code ((a.1.1.length:Int)+((pkV code (pkA 3 0) (pkS code 0 0 3) 15) / 14)) (pkA 15 (pkA 3 0)) (pkS code (pkA 3 0) (pkS code 0 0 3) 15)).1))))) [] ?_ (Qer rfl (Rs.cell rfl rfl ZM rfl) (Zi rfl) (Zi rfl) (Zi rfl) (Zi rfl)) rfl trivial rfl rfl
 assumption
 refine w13 ?_
 subst d
 refine QP (x:=((a.1.1,(a.1.2.1,a.1.2.2)),(a.2.1,(a.2.2.1,(a.2.2.2,(fdV a.1 a.2.1 a.2.2.1 a.2.2.2).1))))) [] ?_ (Qer rfl (Rs.cell rfl rfl ZM rfl) (Zi rfl) (Zi rfl) (Zi rfl) (Zi rfl)) rfl trivial rfl rfl
 assumption
theorem QO (code:List UInt8)[∀s,Decidable (StgOk s)][∀s,Decidable (Y5 s)][∀c,Decidable (SgOk c)]:FC Tryz.prog 23 [(false,[.dat QN code])] [] 0 (Ex (fun x:DSg×List DRc=>x.1.1.length≤8) (fun x:DSg×List DRc=>PV.tup [(true,[.dat Ql x.1.1, .dat Qj x.1.2.1, .dat Qv x.1.2.2]),(false,[.dat V6 x.2])]) (fun x:DSg×List DRc=>[])):=by
 refine Qp Tryz.func23 rfl rfl Tryz.ntmps23 fun F n D w G z y=> ?_
 refine w_ ?_
 refine lc (xal 0 Xn Zt) ?_
 refine w4 ?_
 refine lc (WJ [.val (.slice none 0 0),dI 0, .val (.int .u64 0)] (QaG (offs:=[(0,1),(1,1),(2,1)]) (zs:=[.slice none 0 0, .int .i64 0, .int .u64 0]) Tryz.underlying134 (by kernel_rfl) (by kernel_rfl)) (fun _ _ _=>⟨_,_,rfl,rfl,⟨_,_,rfl,(Xm _ _ _ .int).one rfl,⟨_,_,rfl,rfl,rfl⟩⟩⟩) ⟨_,_,rfl,(Qo rfl),rfl⟩ (av.1 rfl) rfl rfl) ?_
 refine xbx 1 ?_
 refine w4 ?_
 refine Q8 2 [(0,1)] (XK code 0 0 (by omega)) QaJ e1_ ⟨rfl,trivial⟩ rfl (fun _=>rfl) (fun _=>⟨trivial,trivial⟩) (nlr rfl) fun d C=>lc (xal 3 Xn Zt) ?_
 refine w4 ?_
 refine lc (dG 4 (XB d.1) QeU) ?_
 refine w12 ?_
 refine cd_ (fun _ _=> ?_) fun _ _=> ?_
 refine w_ ?_
 refine Zy<|AC.wk (Wk.freeze (i:=6) (q:=4) rfl rfl) ?_
 refine w7 ?_
 subst n
 refine QP (x:=((d.1.1,(d.1.2.1,d.1.2.2)),if Q4 d.1 then mcL d.1 else [])) [] ?_ (YT rfl (Rs.cell rfl rfl ZM rfl) (Zi rfl)) rfl trivial rfl rfl
 (have j:=‹_≤8∧_›; exact j.1)
 refine w4 ?_
 have A:=Zu code d.2.1 d.2.2 ((if Q4 d.1 then mcL d.1 else []).length:Int)
 refine lc (dP 5 [(0,1)] (Qr code d.2.1 d.2.2 ((if Q4 d.1 then mcL d.1 else []).length:Int) (by omega)) Zl) ?_
 refine w4 ?_
 have B:=Zu code (pkA ((if Q4 d.1 then mcL d.1 else []).length:Int) d.2.1) (pkS code d.2.1 d.2.2 ((if Q4 d.1 then mcL d.1 else []).length:Int)) 5
 refine lc (dP 6 [(0,1)] (Qr code (pkA ((if Q4 d.1 then mcL d.1 else []).length:Int) d.2.1) (pkS code d.2.1 d.2.2 ((if Q4 d.1 then mcL d.1 else []).length:Int)) 5 (by omega)) Zl) ?_
 refine w6 ?_
 refine cd_ (fun _ _=> ?_) fun _ _=> ?_
 refine w4 ?_
 refine cd_ (fun _ _=> ?_) fun _ _=> ?_
 refine w4 ?_
 refine cd_ (fun _ _=> ?_) fun _ _=> ?_
 refine w2 ?_
 refine Zy<|AC.wk (Wk.freeze (i:=6) (q:=4) rfl rfl) ?_
 refine w7 ?_
 subst n
 refine QP (x:=((d.1.1,(d.1.2.1,d.1.2.2)),if Q4 d.1 then mcL d.1 else [])) [] ?_ (YT rfl (Rs.cell rfl rfl ZM rfl) (Zi rfl)) rfl trivial rfl rfl
 (have j:=‹_≤8∧_›; exact j.1)
 refine AC.wk (Wk.freeze (i:=6) (q:=4) rfl rfl) ?_
 refine w2 ?_
 refine lc (Qiw (l:=(some 1)) (h:=none) (Qa rfl) (by exact (Qn rfl)) (by exact trivial) QfY Qb4 rfl (by simp only[ao,ak]; omega) (by simp only[ao,ak]; omega) (by simp only[ao,ak]; omega)) ?_
 refine w_ ?_
 refine Qb ?_
 refine w_ ?_
 refine Zy ?_
 refine w7 ?_
 subst n
 refine QP (x:=((d.1.1,(d.1.2.1,d.1.2.2)),((if Q4 d.1 then mcL d.1 else []).take (if Q4 d.1 then mcL d.1 else []).length).drop (1:Int).toNat)) [] ?_ (YT rfl (Rs.cell rfl rfl ZM rfl) (Zi rfl)) rfl trivial rfl rfl
 (have j:=‹_≤8∧_›; exact j.1)
 refine w5 ?_
 refine lc (QY (e:=Ym) (Qa rfl) rfl (Qa rfl) QfY Qb4 rfl (by omega) (by first | omega | (simp only[ay]; omega))) ?_
 refine w_ ?_
 obtain ⟨g,k⟩:=gx (if Q4 d.1 then mcL d.1 else []) ((pkV code d.2.1 d.2.2 ((if Q4 d.1 then mcL d.1 else []).length:Int)).toNat)
 refine lc (Qk1 (e:=Ym) (t:= .bool) (Qa rfl) rfl k rfl Up rfl rfl) ?_
 refine w_ ?_
 refine AL.wk (K2 (q:=4) rfl (by omega))<|lc (Yk (Qa rfl) rfl (Qa rfl) QfY Qb4 rfl (by omega) (by omega)) ?_
 refine w_ ?_
 refine lc (Qg4 (Qa rfl) rfl ((QdN (E:=9) (a:=g.1) (b:=g.2.1) (c:=g.2.2) (b':=false) k).1) (Qa rfl) Up)<|Qb ?_
 refine w_ ?_
 refine Zy<|AC.wk (Uu (q:=4) (e:=Ym) ((if Q4 d.1 then mcL d.1 else []).set ((pkV code d.2.1 d.2.2 ((if Q4 d.1 then mcL d.1 else []).length:Int)).toNat) (g.1, !g.2.1,g.2.2)) rfl (ay ..).symm (by show (Q5 Ym (if Q4 d.1 then mcL d.1 else [])).set ((pkV code d.2.1 d.2.2 ((if Q4 d.1 then mcL d.1 else []).length:Int)).toNat*3+1) (dB (!g.2.1))=_; exact (QdN (E:=9) (a:=g.1) (b:=g.2.1) (c:=g.2.2) ‹_›).2))<|AC.wk (Wk.freeze (i:=6) (q:=4) rfl rfl) ?_
 refine w7 ?_
 subst n
 refine QP (x:=((d.1.1,(d.1.2.1,d.1.2.2)),(if Q4 d.1 then mcL d.1 else []).set ((pkV code d.2.1 d.2.2 ((if Q4 d.1 then mcL d.1 else []).length:Int)).toNat) (g.1, !g.2.1,g.2.2))) [] ?_ (YT rfl (Rs.cell rfl rfl ZM rfl) (Zi rfl)) rfl trivial rfl rfl
 (have j:=‹_≤8∧_›; exact j.1)
 obtain ⟨f,r⟩:=gx (if Q4 d.1 then mcL d.1 else []) ((pkV code d.2.1 d.2.2 ((if Q4 d.1 then mcL d.1 else []).length:Int)).toNat)
 have o:=QdI (E:=9) (a:=f.1) (b:=f.2.1) (c:=f.2.2) (c':=[]) r
 have u:=(ah.1 o.1).1
 refine AC.wk (K2 (q:=4) rfl (by omega))<|AC.wk (Ub 7 (q:=4) (p:=(pkV code d.2.1 d.2.2 ((if Q4 d.1 then mcL d.1 else []).length:Int)).toNat*3+2) (E':=9) (e':= .str) (ys:=f.2.2) rfl (o.1) (Fresh.of rfl) (aF rfl)) ?_
 refine w6 ?_
 refine alL 34 fun _=> ?_
 refine w_ ?_
 refine Q8 8 [(0,1)] (JN code (pkA 5 (pkA ((if Q4 d.1 then mcL d.1 else []).length:Int) d.2.1)) (pkS code (pkA ((if Q4 d.1 then mcL d.1 else []).length:Int) d.2.1) (pkS code d.2.1 d.2.2 ((if Q4 d.1 then mcL d.1 else []).length:Int)) 5) (d.1.1.length:Int) (by omega) (by have j:=‹_≤8∧_›; omega)) QiP e2_ ⟨rfl,trivial⟩ rfl (fun _=>rfl) (fun _=>⟨trivial,(Fresh.of rfl),trivial⟩) (nlr rfl) fun m v=>lc (Yk (Qa rfl) rfl (Qa rfl) QfY Qb4 rfl (by omega) (by omega)) ?_
 refine w_ ?_
 refine lc (WA (t:=7) (Qa rfl) rfl (aY u) (Qa rfl) rfl QqQ) ?_
 refine Qb ?_
 refine w_ ?_
 refine Zy ?_
 refine AC.wk (Kv (q:=4) (t:=9) (p:=(pkV code d.2.1 d.2.2 ((if Q4 d.1 then mcL d.1 else []).length:Int)).toNat*3+2) rfl (aY (by simp only[ovr,ay]; exact u)) rfl) ?_
 refine AC.wk (Uu (q:=4) (e:=Ym) ((if Q4 d.1 then mcL d.1 else []).set ((pkV code d.2.1 d.2.2 ((if Q4 d.1 then mcL d.1 else []).length:Int)).toNat) (f.1,f.2.1,m.1)) rfl (ay ..).symm (by show (((Q5 Ym (if Q4 d.1 then mcL d.1 else [])).set ((pkV code d.2.1 d.2.2 ((if Q4 d.1 then mcL d.1 else []).length:Int)).toNat*3+2) (.ref 7)).set ((pkV code d.2.1 d.2.2 ((if Q4 d.1 then mcL d.1 else []).length:Int)).toNat*3+2) (.ref 9)).set ((pkV code d.2.1 d.2.2 ((if Q4 d.1 then mcL d.1 else []).length:Int)).toNat*3+2) (.dat Qj (m.1))=_; rw[dl,dl]; exact (QdI (E:=9) (a:=f.1) (b:=f.2.1) (c:=f.2.2) ‹_›).2))<|AC.wk (Wk.freeze (i:=6) (q:=4) rfl rfl) ?_
 refine w7 ?_
 subst n
 refine QP (x:=((d.1.1,(d.1.2.1,d.1.2.2)),(if Q4 d.1 then mcL d.1 else []).set ((pkV code d.2.1 d.2.2 ((if Q4 d.1 then mcL d.1 else []).length:Int)).toNat) (f.1,f.2.1,m.1))) [] ?_ (YT rfl (Rs.cell rfl rfl ZM rfl) (Zi rfl)) rfl trivial rfl rfl
 (have j:=‹_≤8∧_›; exact j.1)
end Go.Proofs.YtndabgcpnmeeoaaGreat
