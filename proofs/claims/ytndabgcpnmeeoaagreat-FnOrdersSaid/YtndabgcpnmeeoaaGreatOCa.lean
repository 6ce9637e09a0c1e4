/- Walks over abstract states: traces, the program. -/
import Derived.Test.YtndabgcpnmeeoaaGreatOEe
import Derived.Test.YtndabgcpnmeeoaaGreatOEf
import Derived.Test.YtndabgcpnmeeoaaGreatOBn
import Derived.Test.YtndabgcpnmeeoaaGreatOWb
import Derived.Test.YtndabgcpnmeeoaaGreatOWq
import Derived.Test.YtndabgcpnmeeoaaGreatOUj
import Derived.Test.YtndabgcpnmeeoaaGreatOSo
import Derived.Test.YtndabgcpnmeeoaaGreatOFz
import Derived.Test.YtndabgcpnmeeoaaGreatOWw
set_option linter.unusedSimpArgs false
set_option linter.unusedVariables false
set_option linter.unusedSectionVars false
namespace Go.Proofs.YtndabgcpnmeeoaaGreat
open Go.RowKit
set_option maxRecDepth 100000
set_option maxHeartbeats 4000000
section
variable {ss:List QB}{l:Int×Bool}{g:QB}
theorem Qy3 (h:l.1 < 0):(⟨#[126]⟩:ByteArray)=edT ss l:=(if_pos h).symm
theorem Qy4 (h:¬l.1 < 0)(a:ss[l.1.toNat]? =some g)(b:l.2=true):g.1++(⟨#[43]⟩:ByteArray)=edT ss l:=by unfold edT sgB; rw[if_neg h,a,if_pos b]; rfl
theorem Qy5 (h:¬l.1 < 0)(a:ss[l.1.toNat]? =some g)(b:l.2=false):g.1++(⟨#[45]⟩:ByteArray)=edT ss l:=by unfold edT sgB; rw[if_neg h,a,b]; rfl
end
theorem Qcj (a:Qk1)(l:Int×Bool)(f:∀g∈a,g.1.size≤6)(p:l.1 < (a.length:Int)):FC Tryz.prog 90 [(false,[.dat Qo a]),(true,[dI l.1,dB l.2])] [] 0 (Za (lf (dS (edT a l)))):=by
 refine Qn Tryz.func90 rfl rfl Tryz.ntmps90 fun n d m h o j i=> ?_
 refine acG 1 0 fun _=> ?_
 refine w_ ?_
 refine xbx 0 ?_
 refine w10 ?_
 refine cd_ (fun _ _=> ?_) fun _ _=> ?_
 refine w5 ?_
 cases k:(l.2)
 refine w7 ?_
 obtain ⟨q,b⟩:=gx a ((l.1).toNat)
 have e:=f _ (ai b)
 refine w3 ?_
 refine lc (Q7 (Qa rfl) (Evl.str rfl) rfl (by (simp only[Yy]; omega))) ?_
 refine w2 ?_
 refine Qe<|fqS d ?_
 exact Qy5 ‹_› b ‹_›
 refine w5 ?_
 obtain ⟨r,c⟩:=gx a ((l.1).toNat)
 have e:=f _ (ai c)
 refine w3 ?_
 refine lc (Q7 (Qa rfl) (Evl.str rfl) rfl (by (simp only[Yy]; omega))) ?_
 refine w2 ?_
 refine Qe<|fqS d ?_
 exact Qy4 ‹_› c ‹_›
 refine w3 ?_
 refine Qe<|fqS d ?_
 first | exact Qy3 ‹_›
theorem Qe0 (s:List Int)(m:s.length≤100000000):FC Tryz.prog 344 [(false,[.dat Qm s])] [] 0 (XB 3 .int s):=by
 refine Qn Tryz.func344 rfl rfl Tryz.ntmps344 fun i b h c j f d=> ?_
 refine w6 ?_
 refine QiQ (Qa rfl) Evl.val ZZ rfl fun k a=> ?_
 refine w_ ?_
 refine cb_ (fun _=> ?_) fun _=> ?_
 refine w2 ?_
 refine lc (dBs 0 (e:= .int) Zq) ?_
 refine w_ ?_
 refine lc (QI 1 (Qa rfl) rfl (Evl.rep (Qa rfl)) rfl ZZ YO (by first | omega | (simp only[ae,aB,ao,aq,az]; omega) | (simp only[ae,aW,ao,aq,az]; omega)) rfl (Fresh.of rfl) (nlr rfl)) ?_
 refine w2 ?_
 refine Qe<|fo_ b ?_
 rfl
 refine w3 ?_
 refine AC.wk (Wk.nilS 2 2 3 .int rfl (Fresh.of rfl) (nlr rfl))<|Qe<|fo_ b ?_
 exact (a ‹_›).symm
theorem JU (c:Qew)(set:List Int)(b:Int)(D:SgOk c)(C:Rng c set):FC Tryz.prog 266 [(true,[.dat Qo c.1, .dat Qu c.2.1, .dat Yo c.2.2]),(false,[.dat Qm set]),(false,[dI b])] [] 0 (XB 3 .int (clV c b set)):=by
 have R:=D.few
 have U:=D.some_
 have W:=Qsb C.1 C.2
 refine Qn Tryz.func266 rfl rfl Tryz.ntmps266 fun O_ O Z L X_ N M=> ?_
 refine acI 2 fun _=> ?_
 refine w_ ?_
 refine xbx 0 ?_
 refine w4 ?_
 refine lc (dO 1 (Qe0 set (by omega)) QlW) ?_
 refine w7 ?_
 refine QH (fun J K=>∃(k:Nat) (j:List Int),k≤301∧J=301 - k∧(clL c.2.2 b (301 - k) k j=clV c b set)∧(ClI c.2.2 b (fun v=>v∈set) k j)∧K=⟨[(2,lI b),(3,lP 0 0),(6,lf (.val (.slice none 0 0))),(7,lR 2),(8,lI (k:Int))],[bx 0 28 [.dat Qo c.1, .dat Qu c.2.1, .dat Yo c.2.2],ar 2 3 .int j]⟩) ⟨0,set,aP _,rfl,rfl,(ClI.zero C.1 fun _=>Iff.rfl),rfl⟩ ?_ ?_
 exact wo [(2,1)]
 rintro J K ⟨k,j,S,T,G,F,rfl⟩
 have V:=Qno D C F
 refine w7 ?_
 cases x:(decide ((k:Int) < (j.length:Int)))
 have z:=aa x
 refine w7 ?_
 refine Qe<|fo_ O ?_
 exact QvP G (by omega)
 have z:=ab x
 refine w7 ?_
 refine alL 20 fun _=> ?_
 refine w4 ?_
 obtain ⟨u,E⟩:=gx j k
 refine lp0 c.2.2.length (fun i=>⟨[(2,lI b),(3,lP 0 0),(6,lf (.val (.slice none 0 0))),(7,lR 3),(8,lI (k:Int)),(13,lI (k:Int)),(15,lI (j.length:Int)),(16,lB true),(19,lP 0 2),(20,lf (.dat Yo c.2.2)),(21,lI (c.2.2.length:Int)),(22,lI (i:Int))],[bx 0 28 [.dat Qo c.1, .dat Qu c.2.1, .dat Yo c.2.2],ar 3 3 .int (clA (c.2.2.take i) b u j)]⟩) ?_ fun i _=> ?_
 exact wp [(3,2)] ⟨rfl,(Qh (rfl)),trivial⟩
 have Q:=QvL (as_:=c.2.2.take i) (h:=b) (u:=u) (out:=j)
 have P:=QxE (as_:=c.2.2.take i) (h:=b) (u:=u) (out:=j)
 have X:(c.2.2.take i).length≤c.2.2.length:=by simp only[ao]; omega
 refine w4 ?_
 cases A:(decide ((i:Int) < (c.2.2.length:Int)))
 have B:=aa A
 refine w7 ?_
 refine Qf<|ZF ⟨k+1,(clA (c.2.2.take i) b u j),by omega,rfl,(by rw[aJ (by omega)]; exact QtQ G E (by omega)),(by rw[aJ (by omega)]; exact F.step E),rfl⟩ (by omega) ?_
 exact wp [(2,3)] ⟨rfl,(Qh (by first | rfl | simp)),trivial⟩
 have B:=ab A
 refine w5 ?_
 obtain ⟨a,d⟩:=gx c.2.2 i
 refine w2 ?_
 refine lc (xal 4 W8 XH) ?_
 refine w2 ?_
 obtain ⟨r,p⟩:=gx (clA (c.2.2.take i) b u j) k
 have Y:=QxD E p
 cases m:(decide (a.1=r))
 have s:=aa m
 apply dW (i4 26 _ _ _ _ (io 30 (lf (.ept 3 1 k 0)) :: io 31 (lI r) :: io 32 (lB false) :: i9 33 _ _ _ _ _ _ _ _ _ (i9 42 _ _ _ _ _ _ _ _ _ []))) [0,0,3,7,3,3,0,0,0,0,0,0,0,0,12288,0,0,0,0,0,524288,524288,0,0,0]
 refine z4 ?_
 refine zz (fun _ f=>ac (QU (e:= .int) (f.v rfl) (f.en 3 rfl) (f.v rfl) ZZ Xe rfl (by omega) (by first | omega | (simp only[au]; omega))) rfl)<|zz (fun _ f=>ac (Zi (e:= .int) (f.v rfl) (f.n 3 rfl) p rfl Xe rfl rfl) rfl)<|zz (fun _ f=>ac (Q4 (m) (Xh (f.v rfl) (f.v rfl) rfl)) rfl) ?_
 refine z16 ?_
 exact y2
 refine w6 ?_
 refine Qf ?_
 refine l0_ ?_
 exact wp [] ⟨rfl,(Qh (by first | exact QgG d (by omega) ‹_› ‹_› | exact QgH d (by omega) ‹_› ‹_› | exact QgD d (by omega) | exact QgE d ‹_› ‹_› | exact QgF d ‹_›)),trivial⟩
 have s:=ab m
 cases o:(decide (a.2.1=(-1)))
 have t:=aa o
 cases q:(decide (a.2.1=b))
 have w:=aa q
 apply dW (i4 26 _ _ _ _ (io 30 (lf (.ept 3 1 k 0)) :: io 31 (lI r) :: io 32 (lB true) :: i3 33 _ _ _ (io 36 (lB false) :: i4 37 _ _ _ _ (io 41 (lB false) :: i9 42 _ _ _ _ _ _ _ _ _ [])))) [0,0,3,7,3,3,0,0,0,0,0,0,0,0,12288,0,0,0,0,0,524288,524288,0,0,0]
 refine z4 ?_
 refine zz (fun _ f=>ac (QU (e:= .int) (f.v rfl) (f.en 3 rfl) (f.v rfl) ZZ Xe rfl (by omega) (by first | omega | (simp only[au]; omega))) rfl)<|zz (fun _ f=>ac (Zi (e:= .int) (f.v rfl) (f.n 3 rfl) p rfl Xe rfl rfl) rfl)<|zz (fun _ f=>ac (Q4 (m) (Xh (f.v rfl) (f.v rfl) rfl)) rfl) ?_
 refine z3 ?_
 refine zz (fun _ f=>day rfl (f.k rfl) (Q4 (o) (Xh (f.v rfl) (Qr rfl) rfl)) rfl) ?_
 refine z4 ?_
 refine zz (fun _ f=>day rfl (f.k rfl) (Q4 (q) (Xh (f.v rfl) (f.v rfl) rfl)) rfl) ?_
 exact y9
 refine w6 ?_
 refine Qf ?_
 refine l0_ ?_
 exact wp [] ⟨rfl,(Qh (by first | exact QgG d (by omega) ‹_› ‹_› | exact QgH d (by omega) ‹_› ‹_› | exact QgD d (by omega) | exact QgE d ‹_› ‹_› | exact QgF d ‹_›)),trivial⟩
 have w:=ab q
 apply dW (i4 26 _ _ _ _ (io 30 (lf (.ept 3 1 k 0)) :: io 31 (lI r) :: io 32 (lB true) :: i3 33 _ _ _ (io 36 (lB false) :: i4 37 _ _ _ _ (io 41 (lB true) :: i6 42 _ _ _ _ _ _ (io 48 (lB ((clA (c.2.2.take i) b u j).any (fun y=>decide (a.2.2.2=y)))) :: i2 49 _ _ []))))) [0,0,3,7,3,3,0,0,0,0,0,0,0,0,12288,0,0,0,0,0,524288,524288,0,0,0]
 refine z4 ?_
 refine zz (fun _ f=>ac (QU (e:= .int) (f.v rfl) (f.en 3 rfl) (f.v rfl) ZZ Xe rfl (by omega) (by first | omega | (simp only[au]; omega))) rfl)<|zz (fun _ f=>ac (Zi (e:= .int) (f.v rfl) (f.n 3 rfl) p rfl Xe rfl rfl) rfl)<|zz (fun _ f=>ac (Q4 (m) (Xh (f.v rfl) (f.v rfl) rfl)) rfl) ?_
 refine z3 ?_
 refine zz (fun _ f=>day rfl (f.k rfl) (Q4 (o) (Xh (f.v rfl) (Qr rfl) rfl)) rfl) ?_
 refine z4 ?_
 refine zz (fun _ f=>day rfl (f.k rfl) (Q4 (q) (Xh (f.v rfl) (f.v rfl) rfl)) rfl) ?_
 refine z6 ?_
 refine zz (fun _ f=>day rfl (f.k rfl) (dB_ (Zj (clA (c.2.2.take i) b u j) a.2.2.2) Ud) rfl) ?_
 exact y2
 cases H:((clA (c.2.2.take i) b u j).any (fun y=>decide (a.2.2.2=y)))
 refine w5 ?_
 refine alI 53 fun _=> ?_
 refine lc (dBs 5 (e:= .int) Zq) ?_
 refine lc (dA 6 YO) ?_
 refine w_ ?_
 refine Qf ?_
 refine w4 ?_
 refine Qf ?_
 refine l0_ ?_
 exact wp [(3,6)] ⟨rfl,(Qh (by first | exact QgG d (by omega) ‹_› ‹_› | exact QgH d (by omega) ‹_› ‹_› | exact QgD d (by omega) | exact QgE d ‹_› ‹_› | exact QgF d ‹_›)),trivial⟩
 refine w6 ?_
 refine Qf ?_
 refine l0_ ?_
 exact wp [] ⟨rfl,(Qh (by first | exact QgG d (by omega) ‹_› ‹_› | exact QgH d (by omega) ‹_› ‹_› | exact QgD d (by omega) | exact QgE d ‹_› ‹_› | exact QgF d ‹_›)),trivial⟩
 have t:=ab o
 apply dW (i4 26 _ _ _ _ (io 30 (lf (.ept 3 1 k 0)) :: io 31 (lI r) :: io 32 (lB true) :: i3 33 _ _ _ (io 36 (lB true) :: i9 37 _ _ _ _ _ _ _ _ _ (i2 46 _ _ (io 48 (lB ((clA (c.2.2.take i) b u j).any (fun y=>decide (a.2.2.2=y)))) :: i2 49 _ _ []))))) [0,0,3,7,3,3,0,0,0,0,0,0,0,0,12288,0,0,0,0,0,524288,524288,0,0,0]
 refine z4 ?_
 refine zz (fun _ f=>ac (QU (e:= .int) (f.v rfl) (f.en 3 rfl) (f.v rfl) ZZ Xe rfl (by omega) (by first | omega | (simp only[au]; omega))) rfl)<|zz (fun _ f=>ac (Zi (e:= .int) (f.v rfl) (f.n 3 rfl) p rfl Xe rfl rfl) rfl)<|zz (fun _ f=>ac (Q4 (m) (Xh (f.v rfl) (f.v rfl) rfl)) rfl) ?_
 refine z3 ?_
 refine zz (fun _ f=>day rfl (f.k rfl) (Q4 (o) (Xh (f.v rfl) (Qr rfl) rfl)) rfl) ?_
 refine z11 ?_
 refine zz (fun _ f=>day rfl (f.k rfl) (dB_ (Zj (clA (c.2.2.take i) b u j) a.2.2.2) Ud) rfl) ?_
 exact y2
 cases I:((clA (c.2.2.take i) b u j).any (fun y=>decide (a.2.2.2=y)))
 refine w5 ?_
 refine alI 53 fun _=> ?_
 refine lc (dBs 7 (e:= .int) Zq) ?_
 refine lc (dA 8 YO) ?_
 refine w_ ?_
 refine Qf ?_
 refine w4 ?_
 refine Qf ?_
 refine l0_ ?_
 exact wp [(3,8)] ⟨rfl,(Qh (by first | exact QgG d (by omega) ‹_› ‹_› | exact QgH d (by omega) ‹_› ‹_› | exact QgD d (by omega) | exact QgE d ‹_› ‹_› | exact QgF d ‹_›)),trivial⟩
 refine w6 ?_
 refine Qf ?_
 refine l0_ ?_
 exact wp [] ⟨rfl,(Qh (by first | exact QgG d (by omega) ‹_› ‹_› | exact QgH d (by omega) ‹_› ‹_› | exact QgD d (by omega) | exact QgE d ‹_› ‹_› | exact QgF d ‹_›)),trivial⟩
theorem Qgc (c:Qew)(set:List Int)(b:Int)(n:SgOk c):FC Tryz.prog 267 [(true,[.dat Qo c.1, .dat Qu c.2.1, .dat Yo c.2.2]),(false,[.dat Qm set]),(false,[dI b])] [] 0 (Is (lR 0) [(0,some (.res (moR (vOw 3 .int) .str (afV c set b) none)))]):=by
 have B:=n.few
 refine Qn Tryz.func267 rfl rfl Tryz.ntmps267 fun F w E t G v u=> ?_
 refine acI 2 fun _=> ?_
 refine w_ ?_
 refine xbx 0 ?_
 refine w3 ?_
 refine lc (QkD (k:= .str) (vOw 3 .int) 1 rfl (Fresh.of rfl) (nlr rfl)) ?_
 refine w6 ?_
 refine alL 13 fun _=> ?_
 refine w4 ?_
 refine lp0 c.2.2.length (fun k=>⟨[(1,lf (.dat Qm set)),(2,lI b),(3,lP 0 0),(6,lf (.val (.map none))),(7,lR 1),(13,lf (.dat Yo c.2.2)),(14,lI (c.2.2.length:Int)),(15,lI (k:Int))],[bx 0 28 [.dat Qo c.1, .dat Qu c.2.1, .dat Yo c.2.2],(1,some (.res (moR (vOw 3 .int) .str (afT c set b k) none)))]⟩) ?_ fun k _=> ?_
 exact wp [] ⟨rfl,(Qo7 (rfl)),trivial⟩
 refine w4 ?_
 cases o:(decide ((k:Int) < (c.2.2.length:Int)))
 have q:=aa o
 refine w8 ?_
 exact fi_ [(0,1)] w ⟨(Qo7 (by exact Qm5 (by omega))),trivial⟩
 have q:=ab o
 refine w5 ?_
 obtain ⟨a,d⟩:=gx c.2.2 k
 have am:=ai d
 refine w2 ?_
 refine lc (xal 2 W8 XH) ?_
 refine w6 ?_
 refine alI 21 fun _=> ?_
 refine lc (dK (Zj set a.1) Ud) ?_
 refine w_ ?_
 cases A:(set.any (fun y=>decide (a.1=y)))
 refine w16 ?_
 refine w_ ?_
 refine Qf ?_
 refine l0_ ?_
 exact wp [] ⟨rfl,(Qo7 (by first | exact Qty d ‹_› ‹_› ‹_› (by have:=Hm n am ‹_›; omega) | exact Qm7 d ‹_› | exact Qm8 d ‹_› | exact Qm9 d ‹_›)),trivial⟩
 refine w5 ?_
 cases r:(!decide (a.2.1=(-1)))
 have s:(a.2.1=(-1)):=QY r
 refine w12 ?_
 refine Qf ?_
 refine l0_ ?_
 exact wp [] ⟨rfl,(Qo7 (by first | exact Qty d ‹_› ‹_› ‹_› (by have:=Hm n am ‹_›; omega) | exact Qm7 d ‹_› | exact Qm8 d ‹_› | exact Qm9 d ‹_›)),trivial⟩
 have s:¬(a.2.1=(-1)):=Zb r
 refine w6 ?_
 cases f:(!decide (a.2.1=b))
 have m:(a.2.1=b):=QY f
 refine w6 ?_
 refine Qf ?_
 refine l0_ ?_
 exact wp [] ⟨rfl,(Qo7 (by first | exact Qty d ‹_› ‹_› ‹_› (by have:=Hm n am ‹_›; omega) | exact Qm7 d ‹_› | exact Qm8 d ‹_› | exact Qm9 d ‹_›)),trivial⟩
 have m:¬(a.2.1=b):=Zb f
 refine w_ ?_
 apply dW (i3 34 _ _ _ [io 37 (ag [dI a.2.1,dB a.2.2.1]),io 38 (lf (dS (edT c.1 (a.2.1,a.2.2.1)))),io 10 _]) [0,0,3,3,0,0]
 refine z3 ?_
 refine zz (fun _ x=>ac (dK (QaL a) QlX) rfl) ?_
 refine zz (fun _ x=>ac (dK (Qcj c.1 (a.2.1,a.2.2.1) (fun g C=>by obtain ⟨j,D⟩:=aO.1 C; exact QdX n D) (by have:=Hm n am ‹_›; omega)) Qph) rfl) ?_
 exact y1
 refine w5 ?_
 refine lc (QkC (p:=edT c.1 (a.2.1,a.2.2.1)) 3 Qc4 Jg X0 (Qa rfl) rfl (Ql rfl) rfl rfl (Fresh.of rfl) (nlr rfl)) ?_
 refine w2 ?_
 refine alI 45 fun _=> ?_
 refine lc (dBs 4 (e:= .int) Zq) ?_
 refine lc (dA 5 YO (hb:=by (have z:=QqO (c:=c) (S:=set) (h:=b) (i:=k) (edT c.1 (a.2.1,a.2.2.1)); simp only[aq,az]; omega))) ?_
 refine lc (QoQ (p:=edT c.1 (a.2.1,a.2.2.1)) Qc4 Jg (Qa rfl) rfl (Ql rfl) rfl (Qa rfl) rfl)<|Qf ?_
 refine w4 ?_
 refine Qf ?_
 refine l0_ ?_
 exact wp [] ⟨rfl,(Qo7 (by first | exact Qty d ‹_› ‹_› ‹_› (by have:=Hm n am ‹_›; omega) | exact Qm7 d ‹_› | exact Qm8 d ‹_› | exact Qm9 d ‹_›)),trivial⟩
end Go.Proofs.YtndabgcpnmeeoaaGreat
namespace Go.Proofs.YtndabgcpnmeeoaaGreat
open Go.RowKit
set_option maxRecDepth 100000
set_option maxHeartbeats 4000000
def kyL (B:DLv):List ByteArray:=B.map fun p=>p.1
section
variable {c:DSg}[Decidable (SgOk c)]{h m:Int}{n k:Nat}{M B Z:DLv}{out:List ByteArray}{z:ByteArray×List Int}
theorem Qy9:out=out++kyL []:=(bG _).symm
theorem Qza:(out++kyL B)++[z.1]=out++kyL (B++[z]):=by unfold kyL; rw[bE,aK]; rfl
theorem QrY:(kyL B).length=B.length:=by unfold kyL; rw[aB]
theorem Qwp (d:SgOk c)(g:Lev c h (n+1) M)(e:(txL c h n).length≤400):M.length≤1600000:=by
 have o:=QnM (h:=h) (n:=n) d
 have q:=Qh8 (h:=h) (n:=n) d
 have i:(kyL M).Nodup:=by
  unfold kyL List.Nodup
  rw[bX]; exact g.nod
 have e:=UY i (m:=(ZY c h (n+1)).map fun x=>x.1) fun t j=>by
  obtain ⟨p,f,rfl⟩:=aR.1 j
  obtain ⟨u,l⟩:=(g.mem p f).1
  exact aR.2 ((Qfo (HE d (n+1)).1.1).2 ⟨u,((g.mem p f).2 u).1 l⟩)
 rw[QrY,aB] at e
 omega
theorem QwD (g:(B++Z).Perm M):B.length≤M.length:=by have:=g.length_eq; rw[ae] at this; omega
theorem Qyv (f:SgOk c)(d:OuI c h n out)(k:(400:Int) < (out.length:Int))(e:n≤m.toNat):([],false)=trV c h m:=by
 have:=d.len f W2
 exact (Qks W2 (n:=n) (by omega) e).symm
theorem Qyw (g:Qje c h m)(d:OuI c h n out)(f:out.length≤400)(e:n=m.toNat):(Us out,true)=trV c h m:=by
 subst e
 have:=d.len g.1 W2
 rw[Qwx g.1 d]
 exact (QiH g (by omega)).symm
end
theorem JS (c:Qew)(d:Int)(f:Int)[∀c,Decidable (SgOk c)]:FC Tryz.prog 128 [(true,[.dat Qo c.1, .dat Qu c.2.1, .dat Yo c.2.2]),(false,[dI d]),(false,[dI f])] [] 0 (Is (PV.tup [(false,[.ref 0]),(false,[dB ((trV c d f).2)])]) [ar 0 9 .str ((trV c d f).1)]):=by
 classical
 refine Qn Tryz.func128 rfl rfl Tryz.ntmps128 fun O_ N b5 b1 X_ b3 b2=> ?_
 refine acI 1 fun _=> ?_
 refine acI 2 fun _=> ?_
 refine w_ ?_
 refine xbx 0 ?_
 refine w6 ?_
 refine lc (dK (Uy c) Qll) ?_
 refine w2 ?_
 cases O:(decide (SgOk c))
 have P:=aa O
 refine w16 ?_
 refine w3 ?_
 refine AC.wk (Wk.nilS 1 6 9 .str rfl (Fresh.of rfl) (nlr rfl))<|Qe ?_
 have e4:(false:Bool)=((trV c d f).2):=by
  exact congrArg Prod.snd (Jv (fun g=>by first | exact absurd g.1 ‹_› | exact absurd g.2.1 ‹_› | exact absurd g.2.2 ‹_›))
 exact fi_ [(0,1)] N ⟨(Qh (by exact congrArg Prod.fst (Jv (fun g=>by first | exact absurd g.1 ‹_› | exact absurd g.2.1 ‹_› | exact absurd g.2.2 ‹_›)))),trivial⟩ (h0:=by rw[← e4] <;> rfl)
 have P:=ab O
 refine w3 ?_
 refine alL 22 fun _=> ?_
 refine w2 ?_
 refine lgy rfl rfl (dK (QP d (-1) ((c.1.length:Int) - 1)) Zf) ?_
 refine w3 ?_
 cases Q:(decide ((-1)≤d∧d≤((c.1.length:Int) - 1)))
 have S:=aa Q
 refine w10 ?_
 refine AC.wk (Wk.nilS 2 6 9 .str rfl (Fresh.of rfl) (nlr rfl))<|Qe ?_
 have e7:(false:Bool)=((trV c d f).2):=by
  exact congrArg Prod.snd (Jv (fun g=>by first | exact absurd g.1 ‹_› | exact absurd g.2.1 ‹_› | exact absurd g.2.2 ‹_›))
 exact fi_ [(0,2)] N ⟨(Qh (by exact congrArg Prod.fst (Jv (fun g=>by first | exact absurd g.1 ‹_› | exact absurd g.2.1 ‹_› | exact absurd g.2.2 ‹_›)))),trivial⟩ (h0:=by rw[← e7] <;> rfl)
 have S:=ab Q
 refine w_ ?_
 refine lgy rfl rfl (dK (QP f 0 6) Zf) ?_
 refine w3 ?_
 cases T:(decide (0≤f∧f≤6))
 have U:=aa T
 refine w5 ?_
 refine AC.wk (Wk.nilS 3 6 9 .str rfl (Fresh.of rfl) (nlr rfl))<|Qe ?_
 have e9:(false:Bool)=((trV c d f).2):=by
  exact congrArg Prod.snd (Jv (fun g=>by first | exact absurd g.1 ‹_› | exact absurd g.2.1 ‹_› | exact absurd g.2.2 ‹_›))
 exact fi_ [(0,3)] N ⟨(Qh (by exact congrArg Prod.fst (Jv (fun g=>by first | exact absurd g.1 ‹_› | exact absurd g.2.1 ‹_› | exact absurd g.2.2 ‹_›)))),trivial⟩ (h0:=by rw[← e9] <;> rfl)
 have U:=ab T
 refine w3 ?_
 refine lc (dBs 4 (e:= .str) Ut) ?_
 refine lc (VH (kt:=9) (et:=123) (kb:=false) (k:= .str) (vb:=false) (v:=Qm) 5 rfl (Fresh.of rfl) (nlr rfl)) ?_
 refine w_ ?_
 refine lc (dBs 6 (e:= .int) Zq) ?_
 refine w_ ?_
 refine lc (QcO 7 (JU c ([0]) d ‹_› (Qkb ‹SgOk c›)) QeM ⟨_,_,rfl,(Ev.b (Ql rfl)),⟨_,_,rfl,(KI (Qa rfl) rfl),⟨_,_,rfl,(Ev.b (Ql rfl)),rfl⟩⟩⟩ rfl (Fresh.of rfl) (nlr rfl))<|lc (QcU Qc4 Jg (Qa rfl) rfl (Evl.ev (Evl.str rfl)) (p:=(⟨#[]⟩:ByteArray)) rfl (Ql rfl) (u:=clV c d ([0])) rfl) ?_
 refine w10 ?_
 refine QH (fun r t=>∃(k:Nat) (out:List ByteArray) (j:List (ByteArray×List Int)),k≤f.toNat∧r=f.toNat - k∧(OuI c d k out)∧(Lev c d k j)∧(out.length≤400)∧t=⟨[(1,lI d),(3,lP 0 0),(8,lR 8),(9,lR 9),(40,lI f),(41,lI (k:Int))],[bx 0 28 [.dat Qo c.1, .dat Qu c.2.1, .dat Yo c.2.2],ar 8 9 .str out,(9,some (.mp false .str false Qm j))]⟩) ⟨0,[(⟨#[]⟩:ByteArray)],Yl .str ([]) (⟨#[]⟩:ByteArray) (clV c d ([0])),aP _,rfl,OuI.zero,(Qr3 ‹SgOk c›),(by simp),rfl⟩ ?_ ?_
 exact wp [(8,4),(9,5)] ⟨rfl,(Qh (by first | rfl | simp)),(Qk3 (by first | rfl | simp)),trivial⟩
 rintro r t ⟨k,out,j,a5,a6,x,hL,h4,rfl⟩
 refine w4 ?_
 cases y:(decide ((k:Int) < f))
 have G:=aa y
 refine w5 ?_
 refine lc (dP 10 [(0,8)] (QrB out (by omega)) QlG) ?_
 refine w7 ?_
 have a3:(true:Bool)=((trV c d f).2):=by
  exact congrArg Prod.snd (Qyw ⟨by assumption,by omega,by omega⟩ x h4 (by omega))
 exact fi_ [(0,8)] N ⟨(Qh (by exact congrArg Prod.fst (Qyw ⟨by assumption,by omega,by omega⟩ x h4 (by omega)))),trivial⟩ (h0:=by rw[← a3] <;> rfl)
 have G:=ab y
 refine w5 ?_
 refine lc (VH (kt:=9) (et:=123) (kb:=false) (k:= .str) (vb:=false) (v:=Qm) 11 rfl (Fresh.of rfl) (nlr rfl)) ?_
 refine w5 ?_
 refine AL.wk (Qm3 (q:=9) rfl rfl)<|Qd4 false (q:=9) Jg (Qa rfl) rfl rfl fun s=> ?_
 refine w2 ?_
 refine QH (fun r t=>∃(L:DLv) (l:List (ByteArray×List Int)) (D:DLv),r=L.length∧((D++L).Perm j)∧(NxI c d (Vs c d D) l)∧t=⟨[(1,lI d),(3,lP 0 0),(8,lR 8),(9,lR 9),(10,lR 12),(40,lI f),(41,lI (k:Int)),(42,lB true),(44,lR 9),(45,lf (.val s))],[bx 0 28 [.dat Qo c.1, .dat Qu c.2.1, .dat Yo c.2.2],ar 8 9 .str out,(9,some (.res (itR (vFz Qm) .str false j L none s))),(12,some (.mp false .str false Qm l))]⟩) ⟨j,[],[],rfl,(dh _),QuA,rfl⟩ ?_ ?_
 exact wp [(12,11)] ⟨rfl,rfl,rfl,(Qk3 (by first | rfl | simp)),trivial⟩
 rintro r t ⟨L,l,D,V,hD,hN,rfl⟩
 refine w_ ?_
 refine QhD (q:=9) (Qa rfl) rfl (.inl rfl) rfl (fun J=> ?_) (fun Y a2 q1 q q2 J=> ?_)
 refine AL.wk (Qm1 (q:=9) rfl)<|AL.wk (Qm2 (q:=9) rfl rfl) ?_
 refine w7 ?_
 refine Yg ?_
 have hK:=Qwq hL hN hD J
 have b4:=Qwp ‹SgOk c› hK (by have:=x.len ‹SgOk c› W2; omega)
 refine w2 ?_
 refine AL.wk (Qm3 (q:=12) rfl rfl)<|Qd4 false (q:=12) Jg (Qa rfl) rfl rfl fun a0=> ?_
 refine w2 ?_
 refine QH (fun r t=>∃(Z:DLv) (B:DLv),r=Z.length∧((B++Z).Perm l)∧t=⟨[(1,lI d),(3,lP 0 0),(8,lR 13),(9,lR 9),(10,lR 12),(40,lI f),(41,lI (k:Int)),(42,lB true),(44,lR 9),(45,lf (.val s)),(46,PV.tup [(false,[dB false])]),(47,lB false),(70,lR 12),(71,lf (.val a0))],[bx 0 28 [.dat Qo c.1, .dat Qu c.2.1, .dat Yo c.2.2],(9,some (.mp false .str false Qm j)),(12,some (.res (itR (vFz Qm) .str false l Z none a0))),ar 13 9 .str (out++kyL B)]⟩) ⟨l,[],rfl,(dh _),rfl⟩ ?_ ?_
 exact wp [(13,8)] ⟨rfl,rfl,rfl,(Qh (Qy9)),trivial⟩
 rintro r t ⟨Z,B,W,hB,rfl⟩
 refine w_ ?_
 refine QhD (q:=12) (Qa rfl) rfl (.inl rfl) rfl (fun hz=> ?_) (fun a7 a9 z1 z z2 hz=> ?_)
 refine AL.wk (Qm1 (q:=12) rfl)<|AL.wk (Qm2 (q:=12) rfl rfl) ?_
 refine w7 ?_
 refine Yg ?_
 have F:OuI c d (k+1) (out++kyL B):=OuI.next ‹SgOk c› x hK (QfE hB hz)
 refine w5 ?_
 cases A:(decide (400 < ((out++kyL B).length:Int)))
 have H:=aa A
 refine w5 ?_
 refine Qf ?_
 refine w4 ?_
 refine Qf<|ZF ⟨k+1,(out++kyL B),l,by omega,rfl,F,hK,(by omega),rfl⟩ (by omega) ?_
 exact wp [(8,13),(9,12)] ⟨rfl,(Qh (by first | rfl | simp)),rfl,trivial⟩
 have H:=ab A
 refine w5 ?_
 refine AC.wk (Wk.nilS 14 6 9 .str rfl (Fresh.of rfl) (nlr rfl))<|Qe ?_
 have a4:(false:Bool)=((trV c d f).2):=by
  exact congrArg Prod.snd (Qyv ‹SgOk c› F ‹_› (by omega))
 exact fi_ [(0,14)] N ⟨(Qh (by exact congrArg Prod.fst (Qyv ‹SgOk c› F ‹_› (by omega)))),trivial⟩ (h0:=by rw[← a4] <;> rfl)
 refine w7 ?_
 refine lc (QcQ (q:=12) rfl (Qa rfl) rfl rfl rfl rfl)<|AL.wk (Qm0 (q:=12) rfl rfl) ?_
 refine w6 ?_
 refine lc (dBs 15 (e:= .str) Ut) ?_
 refine lc (dA 16 Jm (hb:=by (have h1:=QwD hB; have h2:=QrY (B:=B); simp only[ae,aq,az]; omega))) ?_
 refine w_ ?_
 refine Qf<|ZF ⟨(z1++z2),(B++[z]),rfl,(QcD hB hz),rfl⟩ (by rw[W]; simp only[ae]; have K:=congrArg List.length hz; simp only[ae,aq] at K; omega) ?_
 exact wp [(13,16)] ⟨rfl,rfl,(Qt7 (by first | rfl | simp)),(Qh (Qza)),trivial⟩
 refine w7 ?_
 refine lc (QcQ (q:=9) rfl (Qa rfl) rfl rfl rfl rfl)<|AL.wk (Qm0 (q:=9) rfl rfl) ?_
 refine w9 ?_
 refine lc (dG 17 (Qgc c q.2 d ‹_›) QlE) ?_
 refine Qd4 true (q:=17) Jg (Qa rfl) rfl rfl fun a1=> ?_
 refine w2 ?_
 refine QH (fun r t=>∃(R:DLv) (i:List (ByteArray×List Int)) (E:DLv),r=R.length∧((E++R).Perm (afV c q.2 d))∧(NxI c d (Vm c d D q E) i)∧t=⟨[(1,lI d),(3,lP 0 0),(8,lR 8),(9,lR 9),(10,lR 18),(11,lf (dS q.1)),(12,lf (.dat Qm q.2)),(40,lI f),(41,lI (k:Int)),(42,lB true),(44,lR 9),(45,lf (.val s)),(46,PV.tup [(false,[dB true]),(false,[.val Y]),(false,[.val a2])]),(47,lB true),(48,PV.tup [(false,[dS q.1]),(false,[.dat Qm q.2])]),(49,lf (dS q.1)),(50,lf (.dat Qm q.2)),(51,ag [.dat Qo c.1, .dat Qu c.2.1, .dat Yo c.2.2]),(52,lf (.dat Qm q.2)),(53,lI d),(54,lR 17),(55,lf (.val a1))],[bx 0 28 [.dat Qo c.1, .dat Qu c.2.1, .dat Yo c.2.2],ar 8 9 .str out,(9,some (.res (itR (vFz Qm) .str false j (q1++q2) none s))),(17,some (.res (itR (vOw 3 .int) .str true (afV c q.2 d) R none a1))),(18,some (.mp false .str false Qm i))]⟩) ⟨afV c q.2 d,l,[],rfl,(dh _),(Qx8 hN),rfl⟩ ?_ ?_
 exact wp [(18,12)] ⟨rfl,rfl,rfl,(Qt7 (by first | rfl | simp)),rfl,trivial⟩
 rintro r t ⟨R,i,E,X,I,hM,rfl⟩
 refine w_ ?_
 refine QhD (q:=17) (Qa rfl) rfl (.inr rfl) rfl (fun C=> ?_) (fun a8 b0 p1 p p2 C=> ?_)
 refine w4 ?_
 refine QhB<|ZF ⟨(q1++q2),i,(D++[q]),rfl,(QcD hD J),(Qwr hM I C),rfl⟩ (by rw[V]; simp only[ae]; have K:=congrArg List.length J; simp only[ae,aq] at K; omega) ?_
 exact wp [(12,18)] ⟨rfl,rfl,(Qt7 (by first | rfl | simp)),rfl,trivial⟩
 refine w7 ?_
 refine lc (QiZ (q:=17) 19 rfl (Qa rfl) rfl rfl rfl (Fresh.of rfl) (nlr rfl)) ?_
 refine w5 ?_
 apply dV (i3 61 _ _ _ (io 64 (lf (dS (q.1++p.1))) :: i2 65 _ _ [⟨some 67,lR 20,[ar 20 3 .int (ofG ltI p.2),(19,none)]⟩,io 68 (lI d),io 69 (lf (.dat Qm (clV c d (ofG ltI p.2)))),⟨none,lf (.val undef),[(18,some (.mp false .str false Qm (Yl .str i (q.1++p.1) (clV c d (ofG ltI p.2)))))]⟩])) [0,1,3,1,15,31,31,127,15,0]
 refine z3 ?_
 refine zz (fun _ o=>ac (Q7 (o.v rfl) (o.v rfl) rfl (by (have h1:=Qur ‹SgOk c› hL (HQ hD J); have h2:=Qtx ‹SgOk c› (HQ I C); omega))) rfl) ?_
 refine z2 ?_
 refine zz (fun _ o=>ac (dP 20 [(0,19)] (QhZ p.2 (by have:=QvF ‹SgOk c› (HQ I C); omega)) QlF) rfl) ?_
 refine z_ ?_
 refine zz (fun _ o=>ac (QcO 21 (JU c (ofG ltI p.2) d ‹_› (QqP ‹SgOk c› (HQ I C))) QeM ⟨_,_,rfl,(Ev.b (o.w rfl)),⟨_,_,rfl,(KI (o.v rfl) (o.en 20 rfl)),⟨_,_,rfl,(Ev.b (o.w rfl)),rfl⟩⟩⟩ rfl (o.fr 21 rfl) (nlr rfl)) rfl)<|zz (fun _ o=>ac (V7 Qc4 Jg (o.v rfl) (o.n 18 rfl) (o.w rfl) (p:=q.1++p.1) rfl (o.w rfl) (u:=clV c d (ofG ltI p.2)) rfl) rfl) ?_
 exact zN
 refine ZF ⟨(p1++p2),(Yl .str i (q.1++p.1) (clV c d (ofG ltI p.2))),(E++[p]),rfl,(QcD I C),(Quz ‹SgOk c› hL hM hD J I C),rfl⟩ (by rw[X]; simp only[ae]; have K:=congrArg List.length C; simp only[ae,aq] at K; omega) ?_
 exact wp [] ⟨rfl,rfl,rfl,(Qt7 (by first | rfl | simp)),(Qk3 (by first | rfl | simp)),trivial⟩
theorem Vj (s:List ByteArray)(v:ByteArray):FC Tryz.prog 271 [(false,[.dat Qu s]),(false,[dS v])] [] 0 (Za (lI (ZO (fun y=>decide (v=y)) s))):=by
 refine Qn Tryz.func271 rfl rfl Tryz.ntmps271 fun u l r o w q p=> ?_
 refine w6 ?_
 refine alL 6 fun _=> ?_
 refine w4 ?_
 refine lpK s.length (fun k=>NoneTo (fun y=>decide (v=y)) s k) (fun k=>⟨[(0,lf (.dat Qu s)),(1,lf (dS v)),(7,lI (s.length:Int)),(8,lI (k:Int))],[]⟩) (NoneTo.zero) ?_ fun k _ d=> ?_
 exact wo []
 refine w4 ?_
 cases e:(decide ((k:Int) < (s.length:Int)))
 have f:=aa e
 refine w6 ?_
 refine Qe<|fqI l ?_
 first | exact (d.no (by omega)).symm
 have f:=ab e
 refine w12 ?_
 obtain ⟨t,j⟩:=gx s k
 refine w4 ?_
 cases g:(decide (v=t))
 have i:=aa g
 refine w6 ?_
 refine Qf ?_
 refine lK_ (d.step j ‹_›) ?_
 exact wo []
 have i:=ab g
 refine w5 ?_
 refine Qe<|fqI l ?_
 exact (d.at j ‹_›).symm
theorem Ww (s:List ByteArray)(v:ByteArray):FC Tryz.prog 131 [(false,[.dat Qu s]),(false,[dS v])] [] 0 (Za (lB (s.any (fun y=>decide (v=y))))):=by
 refine Qn Tryz.func131 rfl rfl Tryz.ntmps131 fun j g i d l f e=> ?_
 refine w6 ?_
 refine lc (dK (Vj s v) QlI) ?_
 refine w3 ?_
 refine Qe<|fqB g ?_
 exact Vk _ _
theorem Qzg {b:Bool}(h:b=false):(!b)=true:=by rw[h]; rfl
theorem Qzf {b:Bool}(h:b=true):(!b)=false:=by rw[h]; rfl
theorem UV (p:ByteArray)(d:List ByteArray):FC Tryz.prog 130 [(false,[dS p]),(false,[.ptr 0 0])] [bx 0 25 [.dat Qu d]] 1 (Is (lB (!(d.any (fun y=>decide (p=y))))) [bx 0 25 [.dat Qu d]]):=by
 refine Qn Tryz.func130 rfl rfl Tryz.ntmps130 fun l i j e o g f=> ?_
 refine w6 ?_
 refine lc (dK (Ww d p) Qld) ?_
 refine w4 ?_
 exact fi_ [] i ⟨rfl,trivial⟩
theorem K3 (s:List ByteArray)(d:List ByteArray):FC Tryz.prog 270 [(false,[.dat Qu s]),(false,[.clo 130 [0]])] [bx 0 25 [.dat Qu d]] 1 (Is (lI (ZO (fun p=> !(d.any (fun y=>decide (p=y)))) s)) [bx 0 25 [.dat Qu d]]):=by
 refine Qn Tryz.func270 rfl rfl Tryz.ntmps270 fun x l w o A u t=> ?_
 refine w6 ?_
 refine alL 6 fun _=> ?_
 refine w4 ?_
 refine lpK s.length (fun k=>NoneTo (fun p=> !(d.any (fun y=>decide (p=y)))) s k) (fun k=>⟨[(0,lf (.dat Qu s)),(1,lf (.clo 130 [0])),(7,lI (s.length:Int)),(8,lI (k:Int))],[bx 0 25 [.dat Qu d]]⟩) (NoneTo.zero) ?_ fun k _ e=> ?_
 exact wo []
 refine w4 ?_
 cases f:(decide ((k:Int) < (s.length:Int)))
 have g:=aa f
 refine w7 ?_
 have q:((-1):Int)=(ZO (fun p=> !(d.any (fun y=>decide (p=y)))) s):=by
  first | exact (e.no (by omega)).symm
 exact fi_ [] l ⟨rfl,trivial⟩ (h0:=by rw[← q] <;> rfl)
 have g:=ab f
 refine w12 ?_
 obtain ⟨j,i⟩:=gx s k
 refine w2 ?_
 refine lc (V6 (args0:=[(false,[dS j])]) (caps:=[0]) 1 [(0,0)] (UV j d) Qlc rfl (Qa rfl) rfl rfl ⟨_,_,rfl,(Ql rfl),rfl⟩ ⟨rfl,trivial⟩ rfl ⟨trivial,trivial⟩ (nlr rfl)) ?_
 refine w_ ?_
 cases v:(d.any (fun y=>decide (j=y)))
 refine w6 ?_
 have r:((k:Int):Int)=(ZO (fun p=> !(d.any (fun y=>decide (p=y)))) s):=by
  exact (e.at i (Qzg ‹_›)).symm
 exact fi_ [] l ⟨rfl,trivial⟩ (h0:=by rw[r] <;> rfl)
 refine w6 ?_
 refine Qf ?_
 refine lK_ (e.step i (Qzf ‹_›)) ?_
 exact wo []
theorem Uw (s:List ByteArray)(d:List ByteArray):FC Tryz.prog 129 [(false,[.dat Qu s]),(false,[.clo 130 [0]])] [bx 0 25 [.dat Qu d]] 1 (Is (lB (s.any (fun p=> !(d.any (fun y=>decide (p=y)))))) [bx 0 25 [.dat Qu d]]):=by
 refine Qn Tryz.func129 rfl rfl Tryz.ntmps129 fun o j l e q i g=> ?_
 refine w6 ?_
 refine lc (dP 1 [] (K3 s d) QlH) ?_
 refine w4 ?_
 have f:(decide (0≤(ZO (fun p=> !(d.any (fun y=>decide (p=y)))) s)):Bool)=(s.any (fun p=> !(d.any (fun y=>decide (p=y))))):=by
  exact Vk _ _
 exact fi_ [] j ⟨rfl,trivial⟩ (h0:=by rw[f] <;> rfl)
section
variable {a b:Qy}[∀s,Decidable (StgOk s)][∀c,Decidable (SgOk c)]{m:Int}
theorem Qzs (l w:List ByteArray):(!(l.any fun p=> !(w.any fun y=>decide (p=y))))=l.all fun s=>Qcu w s:=by
 rw[List.not_any_eq_all_not]
 congr 1
 funext p
 rw[Bool.not_not]; rfl
theorem Qs5 (d:(sgV a).2=true)(e:(sgV b).2=true)(f:(trV (sgV a).1 (-1) m).2=true)(g:(trV (sgV b).1 (-1) m).2=true):(!((trV (sgV a).1 (-1) m).1.any fun p=> !((trV (sgV b).1 (-1) m).1.any fun y=>decide (p=y))),true)=tiV a b m:=by rw[QmV d e f g,Qzs]
end
theorem Wv (a:YA)(b:YA)(d:Int)[∀s,Decidable (StgOk s)][∀c,Decidable (SgOk c)]:FC Tryz.prog 33 [(true,[dI a.1.1, .dat QF a.1.2, .dat Qo a.2.1, .dat Qw a.2.2.1,dS a.2.2.2]),(true,[dI b.1.1, .dat QF b.1.2, .dat Qo b.2.1, .dat Qw b.2.2.1,dS b.2.2.2]),(false,[dI d])] [] 0 (Za (PV.tup [(false,[dB ((tiV a b d).1)]),(false,[dB ((tiV a b d).2)])])):=by
 refine Qn Tryz.func33 rfl rfl Tryz.ntmps33 fun F f E t G C A=> ?_
 refine acG 0 0 fun _=> ?_
 refine acG 1 0 fun _=> ?_
 refine acI 2 fun _=> ?_
 refine w_ ?_
 refine xbx 0 ?_
 refine xbx 1 ?_
 refine w5 ?_
 refine lc (dK (Z2 a).frozenG KS) ?_
 refine w3 ?_
 refine lc (xal 2 Qf1 VB) ?_
 refine w5 ?_
 refine lc (dK (Z2 b).frozenG KS) ?_
 refine w3 ?_
 refine lc (xal 3 Qf1 VB) ?_
 refine w8 ?_
 cases D:((sgV a).2)
 refine w10 ?_
 have u:(false:Bool)=((tiV a b d).1):=by
  exact congrArg Prod.fst (Qot ‹_›)
 have v:(false:Bool)=((tiV a b d).2):=by
  exact congrArg Prod.snd (Qot ‹_›)
 exact fr_ f (e:=by rw[← u,← v] <;> rfl)
 refine w4 ?_
 refine cx_ (fun _=> ?_) fun _=> ?_
 refine w5 ?_
 have w:(false:Bool)=((tiV a b d).1):=by
  exact congrArg Prod.fst (Qou ‹_›)
 have x:(false:Bool)=((tiV a b d).2):=by
  exact congrArg Prod.snd (Qou ‹_›)
 exact fr_ f (e:=by rw[← w,← x] <;> rfl)
 refine w4 ?_
 refine lc (dK (JS ((sgV a).1) (-1) d).frozenG QeB) ?_
 refine w9 ?_
 refine lc (dK (JS ((sgV b).1) (-1) d).frozenG QeB) ?_
 refine w3 ?_
 refine lc (xal 4 Qu Qw6) ?_
 refine w8 ?_
 cases r:((trV ((sgV a).1) (-1) d).2)
 refine w10 ?_
 have g:(false:Bool)=((tiV a b d).1):=by
  exact congrArg Prod.fst (Qov ‹_›)
 have i:(false:Bool)=((tiV a b d).2):=by
  exact congrArg Prod.snd (Qov ‹_›)
 exact fr_ f (e:=by rw[← g,← i] <;> rfl)
 refine w4 ?_
 refine cx_ (fun _=> ?_) fun _=> ?_
 refine w5 ?_
 have j:(false:Bool)=((tiV a b d).1):=by
  exact congrArg Prod.fst (Qow ‹_›)
 have l:(false:Bool)=((tiV a b d).2):=by
  exact congrArg Prod.snd (Qow ‹_›)
 exact fr_ f (e:=by rw[← j,← l] <;> rfl)
 refine w3 ?_
 refine lc (XR ⟨_,_,rfl,(Qa rfl),rfl,rfl⟩ rfl) ?_
 refine lc (dP 5 [(0,4)] (Uw ((trV ((sgV a).1) (-1) d).1) ((trV ((sgV b).1) (-1) d).1)) Qlb) ?_
 refine w5 ?_
 have o:(!(((trV ((sgV a).1) (-1) d).1).any (fun p=> !(((trV ((sgV b).1) (-1) d).1).any (fun y=>decide (p=y))))):Bool)=((tiV a b d).1):=by
  exact congrArg Prod.fst (Qs5 ‹_› ‹_› ‹_› ‹_›)
 have q:(true:Bool)=((tiV a b d).2):=by
  exact congrArg Prod.snd (Qs5 ‹_› ‹_› ‹_› ‹_›)
 exact fr_ f (e:=by rw[o,← q] <;> rfl)
end Go.Proofs.YtndabgcpnmeeoaaGreat
namespace Go.Proofs.YtndabgcpnmeeoaaGreat
open Go.RowKit
set_option maxRecDepth 100000
set_option maxHeartbeats 4000000
def Xk (f:Hdr→List Int):Option (List Int)→List Hdr→List Hdr
 | _,[]=>[]
 | p,y :: l=>if p=some (f y) then Xk f p l else y :: Xk f (some (f y)) l
section
variable {f:Hdr→List Int}{vs zs:List Hdr}{m k:Nat}{x y:Hdr}{l:List (List Int)}{i j n:Int}
theorem Qeq:∀(l:List Hdr) (p:Option (List Int)),(Xk f p l).Sublist l
 | [],_=>cI _
 | y :: l,p=>by
  unfold Xk
  split
  ·exact (Qeq l p).cons y
  ·exact (Qeq l _).cons_cons y
theorem Qca:∀(l:List Hdr) (x:List Int),x :: (Xk f (some x) l).map f=Yi (x :: l.map f)
 | [],x=>rfl
 | y :: l,x=>by
  unfold Xk
  rw[aU,Yi]
  by_cases h:x=f y
  ·rw[if_pos (congrArg some h),if_pos h,← h]; exact Qca l x
  ·rw[if_neg (fun e=>h (ci e)),if_neg h,aU,Qca l (f y)]
theorem Qjq:∀l:List Hdr,(Xk f none l).map f=Yi (l.map f)
 | []=>rfl
 | y :: l=>by rw[Xk,if_neg (by simp),aU,Qca l (f y),aU]
theorem Qb9 (y:Hdr):∀(l:List Hdr) (p:Option (List Int)),Xk f p (l++[y])=Xk f p l++(if ((l.getLast?).map f).or p=some (f y) then [] else [y])
 | [],p=>by
  by_cases h:p=some (f y)
  ·simp[Xk,h]
  ·simp[Xk,h]
 | z :: l,p=>by
  have a:∀q:Option (List Int),(((z :: l).getLast?).map f).or q=((l.getLast?).map f).or (some (f z)):=fun q=>by
   rw[List.getLast?_cons]
   cases l.getLast? <;> rfl
  rw[a,bH,Xk,Xk]
  by_cases h:p=some (f z)
  ·rw[if_pos h,if_pos h,Qb9 y l p,h]
  ·rw[if_neg h,if_neg h,Qb9 y l (some (f z)),bH]
theorem QgL (a:vs[m]? =some x)(b:vs[m+1]? =some y):Xk f none (vs.take (m+1+1))=Xk f none (vs.take (m+1))++(if f x=f y then [] else [y]):=by
 rw[Qs b,Qb9]
 have:(vs.take (m+1)).getLast? =some x:=by rw[Qs a]; simp
 rw[this]; simp
theorem Qns (hi:1≤i)(a:vs[(i - 1).toNat]? =some x)(b:vs[i.toNat]? =some y)(h:f y=f x):Xk f none (vs.take (i+1).toNat)=Xk f none (vs.take i.toNat):=by
 have:=QgL (f:=f) a (y:=y) (by rw[show (i - 1).toNat+1=i.toNat by omega]; exact b)
 rw[show (i - 1).toNat+1=i.toNat by omega,show i.toNat+1=(i+1).toNat by omega,if_pos h.symm,bG] at this
 exact this
theorem Qnt (hi:1≤i)(a:vs[(i - 1).toNat]? =some x)(b:vs[i.toNat]? =some y)(h:¬f y=f x):Xk f none (vs.take (i+1).toNat)=Xk f none (vs.take i.toNat)++[y]:=by
 have:=QgL (f:=f) a (y:=y) (by rw[show (i - 1).toNat+1=i.toNat by omega]; exact b)
 rw[show (i - 1).toNat+1=i.toNat by omega,show i.toNat+1=(i+1).toNat by omega,if_neg (fun e=>h e.symm)] at this
 exact this
theorem QtZ (h:2≤(vs.length:Int)):Xk f none (vs.take (1:Int).toNat)=vs.take (1:Int).toNat:=by
 match vs,h with
 | a :: b :: vs,_=>simp[Xk]
theorem Qt0 (hi:1≤i)(b:Xk f none (vs.take i.toNat)=vs.take i.toNat)(c:vs[(i - 1).toNat]? =some x)(a:vs[i.toNat]? =some y)(h:¬f y=f x):Xk f none (vs.take (i+1).toNat)=vs.take (i+1).toNat:=by
 rw[Qnt hi c a h,b,show (i+1).toNat=i.toNat+1 by omega,Qs a]
theorem QtV (hi:1≤i)(a:Xk f none (vs.take i.toNat)=vs.take i.toNat)(b:vs[(i - 1).toNat]? =some x)(c:vs[i.toNat]? =some y)(h:f y=f x):vs.take i.toNat=Xk f none (vs.take (i+1).toNat):=by
 rw[Qns hi b c h,a]
theorem Qrg (a:vs.map f=l)(b:Xk f none (vs.take i.toNat)=vs.take i.toNat)(h:¬i < (vs.length:Int)):vs.map f=Yi l:=by
 rw[aJ (by omega)] at b
 rw[← a,← Qjq,b]
theorem QtU (c:vs.map f=l)(h:(vs.length:Int) < 2):vs.map f=Yi l:=by
 rw[← c]
 match vs,h with
 | [],_=>rfl
 | [a],_=>rfl
 | a :: b :: vs,h=>simp at h; omega
theorem QtW (d:1≤n)(c:1≤j)(b:zs.take i.toNat=Xk f none (vs.take (n+j).toNat))(a:∀t:Nat,n+j - 1≤(t:Int)→zs[t]? =vs[t]?)
 (hx:zs[n.toNat+(j - 1).toNat]? =some x) (hy:zs[n.toNat+j.toNat]? =some y) (h:f y=f x):zs.take i.toNat=Xk f none (vs.take (n+(j+1)).toNat):=by
 rw[b,show n+(j+1)=(n+j)+1 by omega]
 refine (Qns (by omega) (x:=x) (y:=y) ?_ ?_ h).symm
 ·rw[← a _ (by omega),← hx]; congr 1; omega
 ·rw[← a _ (by omega),← hy]; congr 1; omega
theorem QtX (g:1≤n)(d:1≤j)(h0:0≤i)(e:i < (zs.length:Int))(c:zs.take i.toNat=Xk f none (vs.take (n+j).toNat))(a:∀t:Nat,n+j - 1≤(t:Int)→zs[t]? =vs[t]?)
 (hx:zs[n.toNat+(j - 1).toNat]? =some x) (hy:zs[n.toNat+j.toNat]? =some y) (h:¬f y=f x):(zs.set i.toNat y).take (i+1).toNat=Xk f none (vs.take (n+(j+1)).toNat):=by
 have b:(zs.set i.toNat y)[i.toNat]? =some y:=aX (by omega)
 rw[show (i+1).toNat=i.toNat+1 by omega,Qs b,List.take_set_of_le (aL _),c,show n+(j+1)=(n+j)+1 by omega]
 refine (Qnt (by omega) (x:=x) (y:=y) ?_ ?_ h).symm
 ·rw[← a _ (by omega),← hx]; congr 1; omega
 ·rw[← a _ (by omega),← hy]; congr 1; omega
theorem QtY (hi:i≤n+j - 1)(h0:0≤i)(a:∀t:Nat,n+j - 1≤(t:Int)→zs[t]? =vs[t]?):∀t:Nat,n+(j+1) - 1≤(t:Int)→(zs.set i.toNat y)[t]? =vs[t]? :=fun t h=>by
 rw[aZ (by omega)]; exact a t (by omega)
theorem Qnu (h0:0≤i)(a:i≤(zs.length:Int))(r:List Hdr):(zs.take i.toNat++r).take i.toNat=zs.take i.toNat:=by
 rw[List.take_left' (by rw[ao]; omega)]
theorem Qri (h0:0≤i)(a:i≤(zs.length:Int))(r:List Hdr)(b:zs.take i.toNat=Xk f none (vs.take (n+j).toNat)):∃l:List Hdr,l.Perm ((zs.take i.toNat++r).take i.toNat)∧l.Sublist vs:=by
 rw[Qnu h0 a,b]
 exact ⟨_,dh _,(Qeq _ _).trans (List.take_sublist ..)⟩
theorem Qrh (a:vs.map f=l)(h0:0≤i)(b:i≤(zs.length:Int))(r:List Hdr)(c:zs.take i.toNat=Xk f none (vs.take (n+j).toNat))(d:(vs.length:Int)≤n+j):((zs.take i.toNat++r).take i.toNat).map f=Yi l:=by
 rw[Qnu h0 b,c,aJ (by omega),Qjq,a]
end
theorem Vi (l:List (List Int))(hl:l.length≤1000000):FC Tryz.prog 247 [(false,[.ref 0]),(false,[.clo 138 []])] [ar 0 123 Qm l] 0 (XB 123 Qm (Yi l)):=by
 refine Qn Tryz.func247 rfl rfl Tryz.ntmps247 fun O_ O a1 U X_ W V=> ?_
 refine Yg<|AC.poolO (q:=0) (e:= .int) 1 rfl (Fresh.of rfl) (nlr rfl) fun vs d s=> ?_
 have Z:vs.length=l.length:=by rw[← s,aB]
 refine w9 ?_
 refine cd_ (fun _ _=> ?_) fun _ _=> ?_
 refine w6 ?_
 refine QH (fun J K=>∃(m:Int),J=((vs.length:Int) - m).toNat∧(1≤m∧m≤(vs.length:Int))∧(Xk d none (vs.take m.toNat)=vs.take m.toNat)∧K=⟨[(0,lR 0),(1,lf (.clo 138 [])),(5,lI m)],[ar 0 123 .vl vs,(1,some (.pl true Qm vs d))]⟩) ⟨1,rfl,(by omega),(QtZ (by omega)),rfl⟩ ?_ ?_
 exact wo []
 rintro J K ⟨m,Y,hm,P,rfl⟩
 refine w7 ?_
 cases F:(decide (m < (vs.length:Int)))
 have G:=aa F
 refine w7 ?_
 refine AC.wk (VW (q:=0) (p:=1) (zs:=vs) rfl rfl (by exact ⟨_,dh _,cI _⟩))<|Qe<|fo_ O ?_
 exact Qrg s P (by omega)
 have G:=ab F
 refine w4 ?_
 obtain ⟨y,D⟩:=gx vs ((m).toNat)
 have T:=D
 obtain ⟨x,E⟩:=gx vs ((m - 1).toNat)
 have S:=E
 apply dW (i3 18 _ _ _ (io 21 (lf (.ept 0 1 ((m).toNat) 0)) :: io 22 (lf (.dat .vl y)) :: i3 23 _ _ _ [io 26 (lf (.ept 0 1 ((m - 1).toNat) 0)),io 27 (lf (.dat .vl x)),io 28 (lB (decide ((d y)=(d x))))])) [0,1,3,1,1,31,63,63,31,31,0]
 refine z3 ?_
 refine zz (fun _ c=>ac (QU (e:= .vl) (c.v rfl) (c.en 0 rfl) (c.v rfl) ZW QX rfl (by omega) (by first | omega | (simp only[au]; omega))) rfl)<|zz (fun _ c=>ac (Zi (e:= .vl) (c.v rfl) (c.n 0 rfl) D rfl QX rfl rfl) rfl) ?_
 refine z3 ?_
 refine zz (fun _ c=>ac (QU (e:= .vl) (c.v rfl) (c.en 0 rfl) (c.v rfl) ZW QX rfl (by omega) (by first | omega | (simp only[au]; omega))) rfl)<|zz (fun _ c=>ac (Zi (e:= .vl) (c.v rfl) (c.n 0 rfl) E rfl QX rfl rfl) rfl)<|zz (fun _ c=>ac (QcP (YI (d y) (d x)) Qax (c.v rfl) ⟨_,_,rfl,(Hl (p:=1) (c.v rfl) (c.n 1 rfl) (ai D)),⟨_,_,rfl,(Hl (p:=1) (c.v rfl) (c.n 1 rfl) (ai E)),rfl⟩⟩ rfl rfl rfl) rfl) ?_
 exact zN
 cases H:(decide ((d y)=(d x)))
 have I:=aa H
 refine w7 ?_
 refine Qf<|ZF ⟨(m+1),rfl,(by omega),(Qt0 (by omega) P S T (aa ‹_›)),rfl⟩ (by omega) ?_
 exact wo []
 have I:=ab H
 refine w4 ?_
 refine lc (Zz (e:= .vl) (a:=(m).toNat) (b:=vs.length - (m).toNat) (l:=(some m)) (h:=none) (Qa rfl) rfl (by exact (Qa rfl)) (by exact trivial) ZW QX rfl (by first | (simp only[ak,aj]; omega) | omega | (simp only[ak,aj,ae,ao,aF]; omega)) (by first | (simp only[ak,aj]; omega) | omega | (simp only[ak,aj,ae,ao,aF]; omega)) (by first | (simp only[ak,aj]; omega) | omega | (simp only[ak,aj,ae,ao,aF]; omega)) (by first | rfl | simp) (by first | rfl | simp)) ?_
 refine w7 ?_
 refine QH (fun J K=>∃(zs:List Hdr) (i:Int) (j:Int),J=((vs.length:Int) - m - j).toNat∧(zs.length=vs.length)∧(m≤i∧1≤j∧i≤m+j - 1∧m+j≤(vs.length:Int))∧(zs.take i.toNat=Xk d none (vs.take (m+j).toNat))∧(∀t:Nat,m+j - 1≤(t:Int)→zs[t]? =vs[t]?)∧K=⟨[(0,lR 2),(1,lf (.clo 138 [])),(5,lI i),(6,lf (.sub 2 1 ((m).toNat) (vs.length - (m).toNat))),(7,lI j),(12,lI m),(14,lI (vs.length:Int)),(15,lB true),(18,lf (.clo 138 [])),(20,lI m),(22,lf (.dat .vl y)),(24,lI m),(25,lI (m - 1)),(27,lf (.dat .vl x)),(28,lB true),(30,lI m)],[(1,some (.pl true Qm vs d)),ar 2 123 .vl zs]⟩) ⟨vs,m,1,rfl,rfl,(by omega),(QtV (by omega) P S T (ab ‹_›)),(fun t _=>rfl),rfl⟩ ?_ ?_
 exact wo [(2,0)]
 rintro J K ⟨zs,i,j,Q,a0,X,u,g,rfl⟩
 refine w4 ?_
 refine lc (Qi2 (e:= .vl) (Qa rfl) rfl (by omega) ZW rfl) ?_
 refine w2 ?_
 cases w:(decide (j < ((vs.length - (m).toNat:Nat):Int)))
 have B:=aa w
 refine w6 ?_
 refine lc (Zz (e:= .vl) (a:=(i).toNat) (b:=zs.length - (i).toNat) (l:=(some i)) (h:=none) (Qa rfl) rfl (by exact (Qa rfl)) (by exact trivial) ZW QX rfl (by first | (simp only[ak,aj]; omega) | omega | (simp only[ak,aj,ae,ao,aF]; omega)) (by first | (simp only[ak,aj]; omega) | omega | (simp only[ak,aj,ae,ao,aF]; omega)) (by first | (simp only[ak,aj]; omega) | omega | (simp only[ak,aj,ae,ao,aF]; omega)) (by first | rfl | simp) (by first | rfl | simp))<|lc (QiY (e:= .vl) (Qa rfl) rfl (by omega) ZW X0 rfl rfl rfl) ?_
 refine w4 ?_
 refine lc (Zz (e:= .vl) (a:=0) (b:=(i).toNat) (l:=none) (h:=(some i)) (Qa rfl) rfl (by exact trivial) (by exact (Qa rfl)) ZW QX rfl (by first | (simp only[ak,aj]; omega) | omega | (simp only[ak,aj,ae,ao,aF]; omega)) (by first | (simp only[ak,aj]; omega) | omega | (simp only[ak,aj,ae,ao,aF]; omega)) (by first | (simp only[ak,aj]; omega) | omega | (simp only[ak,aj,ae,ao,aF]; omega)) (by first | rfl | simp) (by first | rfl | simp)) ?_
 refine w2 ?_
 refine AC.wk (QkO 3 4 (e:= .vl) (xs:=zs.take ((i).toNat)++List.replicate (zs.length - (i).toNat) (Ty.zero .vl)) rfl rfl (by first | omega | (simp only[ae,ao,aF]; omega)) rfl (Fresh.of rfl) (nlr rfl))<|AC.wk (VW (q:=3) (p:=1) (zs:=(zs.take ((i).toNat)++List.replicate (zs.length - (i).toNat) (Ty.zero .vl)).take ((i).toNat)) rfl rfl (by exact Qri (by omega) (by omega) _ u))<|Qe<|fo_ O ?_
 exact Qrh s (by omega) (by omega) _ u (by omega)
 have B:=ab w
 refine w4 ?_
 obtain ⟨y2,o⟩:=gx zs (((m).toNat)+(j).toNat)
 have M:=o
 obtain ⟨N,r⟩:=gx zs (((m).toNat)+(j - 1).toNat)
 have L:=r
 apply dW (i3 38 _ _ _ (io 41 (lf (.ept 2 1 (((m).toNat)+(j).toNat) 0)) :: io 42 (lf (.dat .vl y2)) :: i3 43 _ _ _ [io 46 (lf (.ept 2 1 (((m).toNat)+(j - 1).toNat) 0)),io 47 (lf (.dat .vl N)),io 48 (lB (decide ((d y2)=(d N)))),io 49 _])) [0,1,3,1,1,31,63,63,31,31,0,0]
 refine z3 ?_
 refine zz (fun _ c=>ac (US (e:= .vl) (k:=((m).toNat)+(j).toNat) (c.v rfl) (c.en 2 rfl) (by omega) (c.v rfl) ZW QX rfl (by omega) (by omega) (by first | rfl | omega)) rfl)<|zz (fun _ c=>ac (Zi (e:= .vl) (c.v rfl) (c.n 2 rfl) o rfl QX rfl rfl) rfl) ?_
 refine z3 ?_
 refine zz (fun _ c=>ac (US (e:= .vl) (k:=((m).toNat)+(j - 1).toNat) (c.v rfl) (c.en 2 rfl) (by omega) (c.v rfl) ZW QX rfl (by omega) (by omega) (by first | rfl | omega)) rfl)<|zz (fun _ c=>ac (Zi (e:= .vl) (c.v rfl) (c.n 2 rfl) r rfl QX rfl rfl) rfl)<|zz (fun _ c=>ac (QcP (YI (d y2) (d N)) Qax (c.v rfl) ⟨_,_,rfl,(Hl (p:=1) (c.v rfl) (c.en 1 rfl) (ai ((g _ (by omega)).symm.trans o))),⟨_,_,rfl,(Hl (p:=1) (c.v rfl) (c.en 1 rfl) (ai ((g _ (by omega)).symm.trans r))),rfl⟩⟩ rfl rfl rfl) rfl) ?_
 exact y1
 cases z:(decide ((d y2)=(d N)))
 have C:=aa z
 refine w6 ?_
 refine lc (US (e:= .vl) (k:=((m).toNat)+(j).toNat) (Qa rfl) rfl (by omega) (Qa rfl) ZW QX rfl (by omega) (by omega) (by first | rfl | omega)) ?_
 refine w2 ?_
 obtain ⟨a2,A⟩:=gx zs ((i).toNat)
 have R:=A
 refine lc (Qz (e:= .vl) (z':=y2) (Qa rfl) rfl A rfl (Ql rfl) rfl QX rfl rfl) ?_
 refine w5 ?_
 refine Qf ?_
 refine w5 ?_
 refine Qf<|ZF ⟨(zs.set ((i).toNat) y2),(i+1),(j+1),rfl,(by (rw[au]; assumption)),(by omega),(by exact QtX (by omega) (by omega) (by omega) (by omega) u g L M (aa ‹_›)),(by exact QtY (by omega) (by omega) g),rfl⟩ (by omega) ?_
 exact wp [] ⟨rfl,(Qh (by first | rfl | simp)),trivial⟩
 have C:=ab z
 refine w7 ?_
 refine Qf<|ZF ⟨zs,i,(j+1),rfl,‹_›,(by omega),(by exact QtW (by omega) (by omega) u g L M (ab ‹_›)),(by exact fun t h=>g t (by omega)),rfl⟩ (by omega) ?_
 exact wo []
 refine w4 ?_
 refine AC.wk (VW (q:=0) (p:=1) (zs:=vs) rfl rfl (by exact ⟨_,dh _,cI _⟩))<|Qe<|fo_ O ?_
 exact QtU s (by omega)
end Go.Proofs.YtndabgcpnmeeoaaGreat
