/- Walks over abstract states: traces, the reference. -/
import Derived.Test.YtndabgcpnmeeoaaGreatOEd
import Derived.Test.YtndabgcpnmeeoaaGreatOBn
import Derived.Test.YtndabgcpnmeeoaaGreatOWq
import Derived.Test.YtndabgcpnmeeoaaGreatOUj
set_option linter.unusedSimpArgs false
set_option linter.unusedVariables false
set_option linter.unusedSectionVars false
namespace Go.Proofs.YtndabgcpnmeeoaaGreat
open Go.RowKit
set_option maxRecDepth 100000
set_option maxHeartbeats 4000000
def Qcu (l:List ByteArray)(s:ByteArray):Bool:=l.any fun y=>decide (s=y)
theorem Qcv {l:List ByteArray}{s:ByteArray}:Qcu l s=true↔s∈l:=by
 unfold Qcu
 rw[bW]
 exact ⟨fun ⟨y,d,e⟩=>by rw[ab e]; exact d,fun h=>⟨s,h,aY rfl⟩⟩
theorem QrS {l:List ByteArray}{s:ByteArray}(h:¬s∈l):Qcu l s=false:=co.2 fun e=>h (Qcv.1 e)
section
variable {l:List ByteArray}{s y:ByteArray}{m:Int}
theorem QuG (f:∀j:Nat,(j:Int) < m→∀y,l[j]? =some y→ltB y s=true)(g:l[m.toNat]? =some y)(h:Op.bytesLess y.toList s.toList=true):∀j:Nat,(j:Int) < m+1→∀z,l[j]? =some z→ltB z s=true:=fun j i z d=>by
 by_cases e:(j:Int) < m
 ·exact f j e z d
 ·have:j=m.toNat:=by omega
  subst this
  rw[g] at d; cases d; exact h
theorem Qx9 (d:∀j:Nat,(j:Int) < m→∀y,l[j]? =some y→ltB y s=true)(h0:0≤m)(f:l[m.toNat]? =some y)(e:y=s):l=Zr ltB s l:=
 (HS (k:=m.toNat) (fun j i z g=>d j (by omega) z g) (e▸f) (W2.irr s)).symm
theorem Qvp (d:∀j:Nat,(j:Int) < m→∀y,l[j]? =some y→ltB y s=true)(h0:0≤m)(f:m≤(l.length:Int))(h:∀y,l[m.toNat]? =some y→ltB y s=false∧y≠s):l.take m.toNat++[s]++l.drop m.toNat=Zr ltB s l:=by
 rw[QdV (k:=m.toNat) (fun j g z e=>d j (by omega) z e) (by omega) h]; simp
theorem Qwy (f:∀j:Nat,(j:Int) < m→∀y,l[j]? =some y→ltB y s=true)(h0:0≤m)(e:m≤(l.length:Int))(h:¬m < (l.length:Int)):l.take m.toNat++[s]++l.drop m.toNat=Zr ltB s l:=
 Qvp f h0 e fun y d=>by rw[bp (by omega)] at d; cases d
theorem Qwz (i:∀j:Nat,(j:Int) < m→∀y,l[j]? =some y→ltB y s=true)(h0:0≤m)(e:m≤(l.length:Int))(o:l[m.toNat]? =some y)(f:Op.bytesLess y.toList s.toList=false)(g:¬y=s):l.take m.toNat++[s]++l.drop m.toNat=Zr ltB s l:=
 Qvp i h0 e fun z d=>by rw[o] at d; cases d; exact ⟨f,g⟩
end
theorem Qdh (c:Qew)(a:Qt3)(i:SgOk c)(v:0≤a.2.1∧a.2.1 < (c.1.length:Int)):FC Tryz.prog 392 [(true,[.dat Qo c.1, .dat Qu c.2.1, .dat Yo c.2.2]),(true,[dI a.1,dI a.2.1,dB a.2.2.1,dI a.2.2.2])] [] 0 (Za (lf (dS (wdA c a)))):=by
 refine Qn Tryz.func392 rfl rfl Tryz.ntmps392 fun t g r j u p o=> ?_
 refine acG 1 0 fun _=> ?_
 refine acG 1 1 fun _=> ?_
 refine acG 1 3 fun _=> ?_
 refine w_ ?_
 refine xbx 0 ?_
 refine xbx 1 ?_
 refine w7 ?_
 cases q:(a.2.2.1)
 refine w7 ?_
 obtain ⟨w,d⟩:=gx c.1 ((a.2.1).toNat)
 have f:=QdX i d
 refine w3 ?_
 refine lc (Q7 (Qa rfl) (Evl.str rfl) rfl (by (simp only[Yy]; omega))) ?_
 refine w2 ?_
 refine Qe<|fqS g ?_
 exact Qw4 d ‹_›
 refine w6 ?_
 obtain ⟨x,e⟩:=gx c.1 ((a.2.1).toNat)
 have f:=QdX i e
 refine w3 ?_
 refine lc (Q7 (Qa rfl) (Evl.str rfl) rfl (by (simp only[Yy]; omega))) ?_
 refine w2 ?_
 refine Qe<|fqS g ?_
 exact Qw5 e ‹_›
theorem Kk (c:Qew)(d:Int)(set:List Int)(C:SgOk c)(O:set.length≤100000000):FC Tryz.prog 274 [(true,[.dat Qo c.1, .dat Qu c.2.1, .dat Yo c.2.2]),(false,[dI d]),(false,[.ref 0])] [ar 0 3 .int set] 0 (XB 3 .int (stl c d set)):=by
 have B:=C.few
 have H:=C.some_
 refine Qn Tryz.func274 rfl rfl Tryz.ntmps274 fun M G L D N F E=> ?_
 refine acI 1 fun _=> ?_
 refine w_ ?_
 refine xbx 1 ?_
 refine w6 ?_
 refine alL 10 fun _=> ?_
 refine w4 ?_
 refine lp0 c.2.1.length (fun k=>⟨[(1,lI d),(2,lR 2),(3,lP 1 0),(6,lf (.val (.slice none 0 0))),(11,lI (c.2.1.length:Int)),(12,lI (k:Int))],[bx 1 28 [.dat Qo c.1, .dat Qu c.2.1, .dat Yo c.2.2],ar 2 3 .int (stN d c.2.2 k set)]⟩) ?_ fun k _=> ?_
 exact wp [(2,0)] ⟨rfl,(Qh (rfl)),trivial⟩
 have I:=QuT (h:=d) (k:=k) (S:=set) B
 refine w4 ?_
 cases w:(decide ((k:Int) < (c.2.1.length:Int)))
 have x:=aa w
 refine w7 ?_
 refine Qe<|fo_ G ?_
 (have e:k=c.2.1.length:=by omega); subst e; rfl
 have x:=ab w
 refine w7 ?_
 refine alL 15 fun _=> ?_
 refine w4 ?_
 refine lp0 c.2.2.length (fun i=>⟨[(1,lI d),(2,lR 3),(3,lP 1 0),(6,lf (.val (.slice none 0 0))),(11,lI (c.2.1.length:Int)),(12,lI (k:Int)),(13,lB true),(14,lP 1 2),(15,lf (.dat Yo c.2.2)),(16,lI (c.2.2.length:Int)),(17,lI (i:Int))],[bx 1 28 [.dat Qo c.1, .dat Qu c.2.1, .dat Yo c.2.2],ar 3 3 .int (stP d (c.2.2.take i) (stN d c.2.2 k set))]⟩) ?_ fun i _=> ?_
 exact wp [(3,2)] ⟨rfl,(Qh (rfl)),trivial⟩
 have J:=Qop (h:=d) (as_:=c.2.2.take i) (S:=stN d c.2.2 k set)
 have K:(c.2.2.take i).length≤c.2.2.length:=by simp only[ao]; omega
 refine w4 ?_
 cases z:(decide ((i:Int) < (c.2.2.length:Int)))
 have A:=aa z
 refine w6 ?_
 refine Qf ?_
 refine l0_ ?_
 exact wp [(2,3)] ⟨rfl,(Qh (QwP (by omega))),trivial⟩
 have A:=ab z
 refine w5 ?_
 obtain ⟨q,f⟩:=gx c.2.2 i
 refine w2 ?_
 refine lc (xal 4 W8 XH) ?_
 refine w5 ?_
 refine alI 22 fun _=> ?_
 refine w2 ?_
 cases g:(decide (q.2.1=(-1)))
 have r:=aa g
 refine w6 ?_
 cases j:(decide (q.2.1=d))
 have t:=aa j
 refine w12 ?_
 refine Qf ?_
 refine l0_ ?_
 exact wp [] ⟨rfl,(Qh (by first | exact Qkm f ‹_› ‹_› | exact Qkn f ‹_› ‹_› | exact Qkk f ‹_› ‹_› | exact Qkl f ‹_›)),trivial⟩
 have t:=ab j
 refine w3 ?_
 refine lgy rfl rfl (dB_ (Vd (stP d (c.2.2.take i) (stN d c.2.2 k set)) q.1) KX) ?_
 refine w2 ?_
 cases o:(decide (q.1∈(stP d (c.2.2.take i) (stN d c.2.2 k set))))
 have u:=aa o
 refine w6 ?_
 refine Qf ?_
 refine l0_ ?_
 exact wp [] ⟨rfl,(Qh (by first | exact Qkm f ‹_› ‹_› | exact Qkn f ‹_› ‹_› | exact Qkk f ‹_› ‹_› | exact Qkl f ‹_›)),trivial⟩
 have u:=ab o
 refine w5 ?_
 refine alI 38 fun _=> ?_
 refine lc (dP 5 [(0,3)] (XT (stP d (c.2.2.take i) (stN d c.2.2 k set)) q.2.2.2 (by omega)) Uf) ?_
 refine w_ ?_
 refine Qf ?_
 refine w4 ?_
 refine Qf ?_
 refine l0_ ?_
 exact wp [(3,5)] ⟨rfl,(Qh (by first | exact Qkm f ‹_› ‹_› | exact Qkn f ‹_› ‹_› | exact Qkk f ‹_› ‹_› | exact Qkl f ‹_›)),trivial⟩
 have r:=ab g
 refine w9 ?_
 refine lgy rfl rfl (dB_ (Vd (stP d (c.2.2.take i) (stN d c.2.2 k set)) q.1) KX) ?_
 refine w2 ?_
 cases p:(decide (q.1∈(stP d (c.2.2.take i) (stN d c.2.2 k set))))
 have v:=aa p
 refine w6 ?_
 refine Qf ?_
 refine l0_ ?_
 exact wp [] ⟨rfl,(Qh (by first | exact Qkm f ‹_› ‹_› | exact Qkn f ‹_› ‹_› | exact Qkk f ‹_› ‹_› | exact Qkl f ‹_›)),trivial⟩
 have v:=ab p
 refine w5 ?_
 refine alI 38 fun _=> ?_
 refine lc (dP 6 [(0,3)] (XT (stP d (c.2.2.take i) (stN d c.2.2 k set)) q.2.2.2 (by omega)) Uf) ?_
 refine w_ ?_
 refine Qf ?_
 refine w4 ?_
 refine Qf ?_
 refine l0_ ?_
 exact wp [(3,6)] ⟨rfl,(Qh (by first | exact Qkm f ‹_› ‹_› | exact Qkn f ‹_› ‹_› | exact Qkk f ‹_› ‹_› | exact Qkl f ‹_›)),trivial⟩
theorem Qe7 (l:List ByteArray)(s:ByteArray):FC Tryz.prog 134 [(false,[.dat Qu l]),(false,[dS s])] [] 0 (Za (lB (Qcu l s))):=by
 refine Qn Tryz.func134 rfl rfl Tryz.ntmps134 fun z q w r A u t=> ?_
 refine w6 ?_
 refine alL 7 fun _=> ?_
 refine w4 ?_
 refine lpK l.length (fun k=>∀j,j < k→∀y,l[j]? =some y→¬y=s) (fun k=>⟨[(1,lf (dS s)),(7,lf (.dat Qu l)),(8,lI (l.length:Int)),(9,lI (k:Int))],[]⟩) ((fun j p=>absurd p (bi j))) ?_ fun k _ i=> ?_
 exact wo []
 refine w4 ?_
 cases d:(decide ((k:Int) < (l.length:Int)))
 have e:=aa d
 refine w6 ?_
 refine Qe<|fqB q ?_
 first | exact (QrS fun v=>by obtain ⟨j,p⟩:=aO.1 v; exact i j (by have:=(ah.1 p).1; omega) s p rfl).symm
 have e:=ab d
 refine w5 ?_
 obtain ⟨x,o⟩:=gx l k
 refine w9 ?_
 cases f:(decide (x=s))
 have g:=aa f
 refine w6 ?_
 refine Qf ?_
 refine lK_ ((Y6 i o ‹_›)) ?_
 exact wo []
 have g:=ab f
 refine w4 ?_
 refine Qe<|fqB q ?_
 exact (Qcv.2 (by have:=ai o; simp_all)).symm
theorem Qfb (l:List ByteArray)(s:ByteArray)(H:l.length≤900000000):FC Tryz.prog 275 [(false,[.dat Qu l]),(false,[dS s])] [] 0 (Za (lf (.dat Qu (Zr ltB s l)))):=by
 refine Qn Tryz.func275 rfl rfl Tryz.ntmps275 fun E p D x F A z=> ?_
 refine w8 ?_
 refine QH (fun v w=>∃(m:Int),v=((l.length:Int) - m).toNat∧(0≤m∧m≤(l.length:Int))∧(∀j:Nat,(j:Int) < m→∀y,l[j]? =some y→ltB y s=true)∧w=⟨[(0,lf (.dat Qu l)),(1,lf (dS s)),(4,lf (.val (.slice none 0 0))),(5,lI m)],[]⟩) ⟨0,rfl,(by omega),(fun j G=>by omega),rfl⟩ ?_ ?_
 exact wo []
 rintro v w ⟨m,C,I,o,rfl⟩
 refine w4 ?_
 refine alL 8 fun _=> ?_
 refine w3 ?_
 cases d:(decide (m < (l.length:Int)))
 have g:=aa d
 refine w15 ?_
 refine alL 22 fun _=> ?_
 refine w3 ?_
 have r:(decide (m < (l.length:Int)))=false:=d
 try rw[r]
 refine w13 ?_
 refine lc (Yr (l:=(some m)) (h:=none) (Qa rfl) (by exact (Qa rfl)) (by exact trivial) XQ Xw rfl (by simp only[ak,aj]; omega) (by simp only[ak,aj]; omega) (by simp only[ak,aj]; omega)) ?_
 refine lc (dK (Wx ((l.take l.length).drop (m).toNat) (by simp only[ao,aW]; omega)).frozen KY) ?_
 refine w5 ?_
 refine lc (Yr (l:=none) (h:=(some m)) (Qa rfl) (by exact trivial) (by exact (Qa rfl)) XQ Xw rfl (by simp only[ak,aj]; omega) (by simp only[ak,aj]; omega) (by simp only[ak,aj]; omega)) ?_
 refine lc (dO 0 (Wx ((l.take (m).toNat).drop 0) (by simp only[ao,aW]; omega)) KY) ?_
 refine w_ ?_
 refine lc (dBs 1 (e:= .str) Ut) ?_
 refine lc (dA 2 Jm) ?_
 refine w_ ?_
 refine lc (QI 3 (Qa rfl) rfl (Evl.rep (Qa rfl)) rfl XQ Jm (by first | omega | (simp only[ae,aB,ao,aq,az]; omega) | (simp only[ae,aW,ao,aq,az]; omega)) rfl (Fresh.of rfl) (nlr rfl)) ?_
 refine w2 ?_
 refine AC.wk (Wk.freeze (i:=4) (q:=3) rfl rfl)<|Qe<|fq_ p ?_
 (rw[de,bM]; exact Qwy o (by omega) (by omega) (by omega))
 have g:=ab d
 refine w2 ?_
 obtain ⟨y,t⟩:=gx l ((m).toNat)
 have u:=t
 refine w3 ?_
 refine lgy rfl rfl (QoO (Qa rfl) (Qa rfl) rfl) ?_
 refine w2 ?_
 cases B:(Op.bytesLess y.toList s.toList)
 refine w7 ?_
 refine alL 22 fun _=> ?_
 refine w3 ?_
 have f:(decide (m < (l.length:Int)))=true:=d
 try rw[f]
 refine w8 ?_
 refine cd_ (fun _ _=> ?_) fun _ _=> ?_
 refine w4 ?_
 refine lc (Yr (l:=(some m)) (h:=none) (Qa rfl) (by exact (Qa rfl)) (by exact trivial) XQ Xw rfl (by simp only[ak,aj]; omega) (by simp only[ak,aj]; omega) (by simp only[ak,aj]; omega)) ?_
 refine lc (dK (Wx ((l.take l.length).drop (m).toNat) (by simp only[ao,aW]; omega)).frozen KY) ?_
 refine w5 ?_
 refine lc (Yr (l:=none) (h:=(some m)) (Qa rfl) (by exact trivial) (by exact (Qa rfl)) XQ Xw rfl (by simp only[ak,aj]; omega) (by simp only[ak,aj]; omega) (by simp only[ak,aj]; omega)) ?_
 refine lc (dO 4 (Wx ((l.take (m).toNat).drop 0) (by simp only[ao,aW]; omega)) KY) ?_
 refine w_ ?_
 refine lc (dBs 5 (e:= .str) Ut) ?_
 refine lc (dA 6 Jm) ?_
 refine w_ ?_
 refine lc (QI 7 (Qa rfl) rfl (Evl.rep (Qa rfl)) rfl XQ Jm (by first | omega | (simp only[ae,aB,ao,aq,az]; omega) | (simp only[ae,aW,ao,aq,az]; omega)) rfl (Fresh.of rfl) (nlr rfl)) ?_
 refine w2 ?_
 refine AC.wk (Wk.freeze (i:=4) (q:=7) rfl rfl)<|Qe<|fq_ p ?_
 (rw[de,bM]; exact Qwz o (by omega) (by omega) u ‹_› ‹_›)
 refine w4 ?_
 refine Qe<|fq_ p ?_
 exact Qx9 o (by omega) u ‹_›
 refine w7 ?_
 refine Qf<|ZF ⟨(m+1),rfl,(by omega),(QuG o u ‹_›),rfl⟩ (by omega) ?_
 exact wo []
theorem Qrc {xs:List DTx}{i:Nat}{y:DTx}(h:xs[i]? =some y):(QR Z8 xs)[i*3+1]? =some (.dat Qm y.2.1):=KN (e:= .pr .str (.pr (.sl 3 .int) .int)) (j:=1) h rfl
theorem Qen {xs:List DTx}{i:Nat}{y:DTx}{ys:List Int}(h:xs[i]? =some y):(QR Z8 xs).set (i*3+1) (.dat Qm ys)=QR Z8 (xs.set i (y.1,ys,y.2.2)):=
 (KO (e:= .pr .str (.pr (.sl 3 .int) .int)) (j:=1) (x':=(y.1,ys,y.2.2)) h rfl (by decide)).symm
theorem Qe5 (l:List (ByteArray×List Int×Int))(x:ByteArray×List Int×Int)(M:Sm 100000000 l)(Y:x.2.1.length≤1):FC Tryz.prog 391 [(false,[.ref 0]),(true,[dS x.1, .ref 1,dI x.2.2])] [ar 0 303 Z8 l,ar 1 3 .int x.2.1] 0 (XB 303 Z8 (VQ l x)):=by
 have S:=M.1
 refine Qn Tryz.func391 rfl rfl Tryz.ntmps391 fun W K V N X P O=> ?_
 refine acG 1 2 fun _=> ?_
 refine w_ ?_
 refine xbx 2 ?_
 refine w9 ?_
 refine lpK l.length (fun k=>∀j,j < k→∀z,l[j]? =some z→¬(z.1=x.1∧z.2.2=x.2.2)) (fun k=>⟨[(0,lR 0),(3,lP 2 0),(9,lI (l.length:Int)),(10,lI (k:Int))],[ar 0 303 Z8 l,ar 1 3 .int x.2.1,bx 2 303 [dS x.1, .ref 1,dI x.2.2]]⟩) ((fun j L=>absurd L (bi j))) ?_ fun k _ I=> ?_
 exact wo []
 refine w4 ?_
 cases A:(decide ((k:Int) < (l.length:Int)))
 have B:=aa A
 refine w6 ?_
 refine lc (dBs 3 (e:=Z8) QbV (hab:=by exact ⟨_,_,_,_,rfl,⟨[dS x.1],[.ref 1,dI x.2.2],_,_,_,_,rfl,rfl,⟨rfl,rfl⟩,⟨[.ref 1],[dI x.2.2],_,_,_,_,rfl,rfl,(.inl ⟨_,rfl,rfl,rfl⟩),⟨rfl,rfl⟩,rfl⟩,rfl⟩,⟨rfl,rfl⟩,rfl⟩)) ?_
 refine lc (dA 4 Qt5) ?_
 refine w2 ?_
 refine Qe<|fo_ K ?_
 exact Qj7 (fun j L=>I j (by omega))
 have B:=ab A
 refine w8 ?_
 obtain ⟨y,f⟩:=gx l k
 have J:=f
 have T:=M.2 _ (ai f)
 cases o:(decide (y.1=x.1))
 have C:=aa o
 apply dW (i2 13 _ _ (io 15 (lf (.ept 0 3 k 0)) :: io 16 (lf (.ept 0 3 k 0)) :: io 17 (lf (dS y.1)) :: i2 18 _ _ (io 20 (lB false) :: i9 21 _ _ _ _ _ _ _ _ _ [io 30 _]))) [0,1,0,0,0,31,31,0,0,0,512,0,0,0,15872,15872,0,0]
 refine z2 ?_
 refine zz (fun _ d=>ac (QU (e:=Z8) (d.v rfl) (d.en 0 rfl) (d.v rfl) Jh Jd rfl (by omega) (by first | omega | (simp only[au]; omega))) rfl)<|zz (fun _ d=>ac (QT (d.v rfl) Qg2 (by rw[(d.en 0 rfl)]; rfl) rfl) rfl)<|zz (fun _ d=>ac (Qaj (e:=Z8) (t:= .str) (d.v rfl) (d.n 0 rfl) f rfl Xw rfl rfl) rfl) ?_
 refine z2 ?_
 refine zz (fun _ d=>ac (Q4 (o) (VT (d.v rfl) (d.v rfl) rfl)) rfl) ?_
 exact y10
 refine w6 ?_
 refine Qf ?_
 refine lK_ ((Y6 I J (fun g=>by first | exact absurd g.1 ‹_› | exact absurd g.2 ‹_›))) ?_
 exact wo []
 have C:=ab o
 apply dW (i2 13 _ _ (io 15 (lf (.ept 0 3 k 0)) :: io 16 (lf (.ept 0 3 k 0)) :: io 17 (lf (dS y.1)) :: i2 18 _ _ (io 20 (lB true) :: i3 21 _ _ _ (io 24 (lf (.ept 0 3 k 0)) :: io 25 (lf (.ept 0 3 k 2)) :: io 26 (lI y.2.2) :: i4 27 _ _ _ _ [])))) [0,1,0,0,0,31,31,0,0,0,512,0,0,0,15872,15872,0,0]
 refine z2 ?_
 refine zz (fun _ d=>ac (QU (e:=Z8) (d.v rfl) (d.en 0 rfl) (d.v rfl) Jh Jd rfl (by omega) (by first | omega | (simp only[au]; omega))) rfl)<|zz (fun _ d=>ac (QT (d.v rfl) Qg2 (by rw[(d.en 0 rfl)]; rfl) rfl) rfl)<|zz (fun _ d=>ac (Qaj (e:=Z8) (t:= .str) (d.v rfl) (d.n 0 rfl) f rfl Xw rfl rfl) rfl) ?_
 refine z2 ?_
 refine zz (fun _ d=>ac (Q4 (o) (VT (d.v rfl) (d.v rfl) rfl)) rfl) ?_
 refine z3 ?_
 refine zz (fun _ d=>day rfl (d.k rfl) (QU (e:=Z8) (d.v rfl) (d.en 0 rfl) (d.v rfl) Jh Jd rfl (by omega) (by first | omega | (simp only[au]; omega))) rfl)<|zz (fun _ d=>day rfl (d.k rfl) (QT (d.v rfl) Qpq (by rw[(d.en 0 rfl)]; rfl) rfl) rfl)<|zz (fun _ d=>day rfl (d.k rfl) (Qaj (e:=Z8) (t:= .int) (d.v rfl) (d.n 0 rfl) f rfl Xe rfl rfl) rfl) ?_
 exact y4
 cases D:(decide (y.2.2=x.2.2))
 have E:=aa D
 refine w6 ?_
 refine Qf ?_
 refine lK_ ((Y6 I J (fun g=>by first | exact absurd g.1 ‹_› | exact absurd g.2 ‹_›))) ?_
 exact wo []
 have E:=ab D
 refine w9 ?_
 refine lp0 x.2.1.length (fun j=>⟨[(0,lR 5),(3,lP 2 0),(5,lI (k:Int)),(9,lI (l.length:Int)),(10,lI (k:Int)),(11,lB true),(12,lI (k:Int)),(14,lI (k:Int)),(17,lf (dS y.1)),(18,lP 2 0),(19,lf (dS x.1)),(20,lB true),(21,lB true),(23,lI (k:Int)),(26,lI y.2.2),(27,lP 2 2),(28,lI x.2.2),(29,lB true),(30,lB true),(31,lP 2 1),(32,lR 1),(33,lI (x.2.1.length:Int)),(34,lI (j:Int))],[ar 1 3 .int x.2.1,bx 2 303 [dS x.1, .ref 1,dI x.2.2],ar 5 303 Z8 (l.set k (ftT x j y))]⟩) ?_ fun j _=> ?_
 exact wp [(5,0)] ⟨rfl,rfl,(Qh ((Qkj J).symm)),trivial⟩
 have R:=Quj (x:=x) (j:=j) (y:=y)
 refine w4 ?_
 cases F:(decide ((j:Int) < (x.2.1.length:Int)))
 have G:=aa F
 refine w7 ?_
 refine Qe<|fo_ K ?_
 exact Qod I J ‹_› ‹_› (by omega)
 have G:=ab F
 refine w6 ?_
 obtain ⟨u,H⟩:=gx x.2.1 j
 have U:=H
 refine w_ ?_
 refine alI 37 fun _=> ?_
 refine w2 ?_
 have i:(l.set k (ftT x j y))[k]? =some (ftT x j y):=aX (by omega)
 have Q:=(ah.1 i).1
 have r:=Qrc i
 have w:k*3+1 < (QR Z8 (l.set k (ftT x j y))).length:=by rw[Yz]; have:=(ah.1 i).1; show k*3+1 < (l.set k (ftT x j y)).length*3; omega
 refine AC.wk (KK (q:=5) rfl ((by have:=(ah.1 i).1; omega))) ?_
 refine AC.wk (XC 6 (q:=5) (p:=k*3+1) (E':=3) (e':= .int) (ys:=(ftT x j y).2.1) rfl (r) (Fresh.of rfl) (aA rfl)) ?_
 refine w5 ?_
 refine lc (Zc (Qa rfl) rfl (Qa rfl) Jh Jd rfl (by omega) (by omega)) ?_
 refine w_ ?_
 refine lc (YR (Qa rfl) rfl (show (ovr _ _)[k*3+1]? =some (.ref 6) from by simp only[ovr,aV,au,w,r,cB,if_true,if_false,↓reduceIte]) rfl QX rfl) ?_
 refine w_ ?_
 refine lc (dP 7 [(0,6)] (XT ((ftT x j y).2.1) u (by omega)) Uf) ?_
 refine lc (Zc (Qa rfl) rfl (Qa rfl) Jh Jd rfl (by omega) (by omega)) ?_
 refine w_ ?_
 refine lc (Ys (t:=6) (Qa rfl) rfl (show (ovr _ _)[k*3+1]? =some (.ref 6) from by simp only[ovr,aV,au,w,r,cB,if_true,if_false,↓reduceIte]) (Qa rfl) rfl QX) ?_
 refine Qf ?_
 refine w_ ?_
 refine AC.wk (Wo (q:=5) (t:=7) (p:=k*3+1) rfl (by show (ovr (QR Z8 (l.set k (ftT x j y))) [(k*3+1, .ref 7),(k*3+1, .ref 6)])[k*3+1]? =some (.ref 7); simp only[ovr,aV,au,w,r,cB,if_true,if_false,↓reduceIte]) rfl) ?_
 refine AC.wk (V9 (q:=5) (e:=Z8) ((l.set k (ftT x j y)).set k ((ftT x j y).1,Zr ltI u ((ftT x j y).2.1),(ftT x j y).2.2)) rfl (by simp only[au]) (by show ovr (QR Z8 (l.set k (ftT x j y))) [(k*3+1, .dat Qm (Zr ltI u ((ftT x j y).2.1))),(k*3+1, .ref 7),(k*3+1, .ref 6)]=_; refine .trans ?_ (Qen i); simp only[ovr,dr])) ?_
 refine w3 ?_
 refine Qf ?_
 refine l0_ ?_
 exact wp [] ⟨rfl,rfl,(Qh ((by rw[dr]; exact congrArg (l.set k) (QrK (y:=y) U)))),trivial⟩
theorem Qdg (c:Qew)(d:Int)(f:List (ByteArray×List Int×Int))(N:SgOk c)(S:f.length≤1000)(hz:∀x∈f,x.1.size≤1000∧0≤x.2.2∧x.2.2≤1000):FC Tryz.prog 276 [(true,[.dat Qo c.1, .dat Qu c.2.1, .dat Yo c.2.2]),(false,[dI d]),(false,[.dat Qdv f])] [] 0 (XB 303 Z8 (QpA c d f)):=by
 have M:=N.few
 refine Qn Tryz.func276 rfl rfl Tryz.ntmps276 fun O_ X a2 T X_ V U=> ?_
 refine acI 1 fun _=> ?_
 refine w_ ?_
 refine xbx 0 ?_
 refine w8 ?_
 refine alL 13 fun _=> ?_
 refine w4 ?_
 refine AC.wk (Wk.nilS 1 7 303 Z8 rfl (Fresh.of rfl) (nlr rfl)) ?_
 refine lp0 f.length (fun k=>⟨[(1,lI d),(3,lP 0 0),(6,lf (.val (.slice none 0 0))),(7,lR 2),(13,lf (.dat Qdv f)),(14,lI (f.length:Int)),(15,lI (k:Int))],[bx 0 28 [.dat Qo c.1, .dat Qu c.2.1, .dat Yo c.2.2],ar 2 303 Z8 (YT c d (f.take k) [])]⟩) ?_ fun k _=> ?_
 exact wp [(2,1)] ⟨rfl,(Qh (rfl)),trivial⟩
 refine w4 ?_
 cases I:(decide ((k:Int) < (f.length:Int)))
 have J:=aa I
 refine w4 ?_
 refine Yg ?_
 have Q:f.take k=f:=aJ (by omega)
 rw[Q]
 have O:=QsL (h:=d) M S
 have Y:=O.1
 refine w6 ?_
 refine lp0 ((YT c d f []).length) (fun o=>⟨[(1,lI d),(3,lP 0 0),(6,lf (.val (.slice none 0 0))),(7,lR 3),(60,lI ((YT c d f []).length:Int)),(61,lI (o:Int))],[bx 0 28 [.dat Qo c.1, .dat Qu c.2.1, .dat Yo c.2.2],ar 3 303 Z8 (((YT c d f []).take o).map (UU c d)++(YT c d f []).drop o)]⟩) ?_ fun o _=> ?_
 exact wp [(3,2)] ⟨rfl,(Qh (QxG.symm)),trivial⟩
 have Z:(((YT c d f []).take o).map (UU c d)++(YT c d f []).drop o).length=(YT c d f []).length:=QtS
 refine w4 ?_
 cases K:(decide ((o:Int) < ((YT c d f []).length:Int)))
 have L:=aa K
 refine w7 ?_
 refine Qe<|fo_ X ?_
 exact QtR (by omega)
 have L:=ab K
 refine w8 ?_
 obtain ⟨y,R⟩:=gx (YT c d f []) o
 have a1:=O.2 _ (ai R)
 have r:(((YT c d f []).take o).map (UU c d)++(YT c d f []).drop o)[o]? =some (y):=QvQ R
 have W:=(ah.1 r).1
 have u:=Qrc r
 have H:o*3+1 < (QR Z8 (((YT c d f []).take o).map (UU c d)++(YT c d f []).drop o)).length:=by rw[Yz]; have:=(ah.1 r).1; show o*3+1 < (((YT c d f []).take o).map (UU c d)++(YT c d f []).drop o).length*3; omega
 refine AC.wk (KK (q:=3) rfl ((by have:=(ah.1 r).1; omega))) ?_
 refine AC.wk (XC 4 (q:=3) (p:=o*3+1) (E':=3) (e':= .int) (ys:=(y).2.1) rfl (u) (Fresh.of rfl) (aA rfl)) ?_
 apply dV (i6 64 _ _ _ _ _ _ [io 70 (lf (.ept 3 3 o 0)),io 71 (lf (.ept 3 3 o 1)),io 72 (lR 4),⟨some 73,lR 5,[ar 5 3 .int (stl c d ((y).2.1)),(4,none)]⟩,io 74 (lf (.ept 3 3 o 0)),io 75 (lf (.ept 3 3 o 1)),⟨none,lf (.val undef),[(3,some (.obx 303 3 ((((YT c d f []).take o).map (UU c d)++(YT c d f []).drop o).length) (QR Z8 (((YT c d f []).take o).map (UU c d)++(YT c d f []).drop o)) [(o*3+1, .ref 5),(o*3+1, .ref 4)]))]⟩]) [0,1,3,7,15,31,15,15,15,3,0,0,0]
 refine z6 ?_
 refine zz (fun _ j=>ac (Zc (j.v rfl) (j.en 3 rfl) (j.v rfl) Jh Jd rfl (by omega) (by omega)) rfl)<|zz (fun _ j=>ac (QT (j.v rfl) Qg3 (by rw[(j.en 3 rfl)]; rfl) rfl) rfl) ?_
 refine zz (fun _ j=>ac (YR (j.v rfl) (j.n 3 rfl) (show (ovr _ _)[o*3+1]? =some (.ref 4) from by simp only[ovr,aV,au,H,u,cB,if_true,if_false,↓reduceIte]) (j.n 4 rfl) QX rfl) rfl) ?_
 refine zz (fun _ j=>ac (dP 5 [(0,4)] (Kk c d ((y).2.1) N (by omega)) QeO) rfl) ?_
 refine zz (fun _ j=>ac (Zc (j.v rfl) (j.en 3 rfl) (j.v rfl) Jh Jd rfl (by omega) (by omega)) rfl)<|zz (fun _ j=>ac (QT (j.v rfl) Qg3 (by rw[(j.en 3 rfl)]; rfl) rfl) rfl) ?_
 refine zz (fun _ j=>ac (Ys (t:=4) (j.v rfl) (j.n 3 rfl) (show (ovr _ _)[o*3+1]? =some (.ref 4) from by simp only[ovr,aV,au,H,u,cB,if_true,if_false,↓reduceIte]) (j.v rfl) (j.n 5 rfl) QX) rfl) ?_
 exact zN
 refine w_ ?_
 refine AC.wk (Wo (q:=3) (t:=5) (p:=o*3+1) rfl (by show (ovr (QR Z8 (((YT c d f []).take o).map (UU c d)++(YT c d f []).drop o)) [(o*3+1, .ref 5),(o*3+1, .ref 4)])[o*3+1]? =some (.ref 5); simp only[ovr,aV,au,H,u,cB,if_true,if_false,↓reduceIte]) rfl) ?_
 refine AC.wk (V9 (q:=3) (e:=Z8) ((((YT c d f []).take o).map (UU c d)++(YT c d f []).drop o).set o ((y).1,stl c d ((y).2.1),(y).2.2)) rfl (by simp only[au]) (by show ovr (QR Z8 (((YT c d f []).take o).map (UU c d)++(YT c d f []).drop o)) [(o*3+1, .dat Qm (stl c d ((y).2.1))),(o*3+1, .ref 5),(o*3+1, .ref 4)]=_; refine .trans ?_ (Qen r); simp only[ovr,dr])) ?_
 refine w3 ?_
 refine Qf ?_
 refine l0_ ?_
 exact wp [] ⟨rfl,(Qh (QtT R)),trivial⟩
 have J:=ab I
 refine w5 ?_
 obtain ⟨x,P⟩:=gx f k
 have a0:=hz _ (ai P)
 refine w2 ?_
 refine lc (xal 6 Z8 QbV) ?_
 refine w5 ?_
 refine alL 20 fun _=> ?_
 refine w4 ?_
 refine lp0 c.2.2.length (fun i=>⟨[(1,lI d),(3,lP 0 0),(6,lf (.val (.slice none 0 0))),(7,lR 7),(9,lP 6 0),(13,lf (.dat Qdv f)),(14,lI (f.length:Int)),(15,lI (k:Int)),(16,lB true),(17,lf (.elt Z8 x 0)),(18,ag [dS x.1, .dat Qm x.2.1,dI x.2.2]),(19,lP 0 2),(20,lf (.dat Yo c.2.2)),(21,lI (c.2.2.length:Int)),(22,lI (i:Int))],[bx 0 28 [.dat Qo c.1, .dat Qu c.2.1, .dat Yo c.2.2],bx 6 303 [dS x.1, .dat Qm x.2.1,dI x.2.2],ar 7 303 Z8 (UZ c d (c.2.2.take i) x (YT c d (f.take k) []))]⟩) ?_ fun i _=> ?_
 exact wp [(7,2)] ⟨rfl,rfl,(Qh (rfl)),trivial⟩
 refine w4 ?_
 cases z:(decide ((i:Int) < (c.2.2.length:Int)))
 have D:=aa z
 refine w6 ?_
 refine Qf ?_
 refine l0_ ?_
 exact wp [(2,7)] ⟨rfl,(Qh (Qt1 P (by omega))),trivial⟩
 have D:=ab z
 refine w5 ?_
 obtain ⟨a,g⟩:=gx c.2.2 i
 have am:=ai g
 refine w2 ?_
 refine lc (xal 8 W8 XH) ?_
 refine w5 ?_
 refine alI 27 fun _=> ?_
 refine w2 ?_
 cases A:(!decide (a.2.1=(-1)))
 have E:(a.2.1=(-1)):=QY A
 refine w16 ?_
 refine w3 ?_
 refine Qf ?_
 refine l0_ ?_
 exact wp [] ⟨rfl,rfl,(Qh (by first | exact Qoi g ‹_› ‹_› ‹_› | exact Qiu g ‹_› | exact Qiv g ‹_› | exact Qiw g ‹_›)),trivial⟩
 have E:¬(a.2.1=(-1)):=Zb A
 refine w6 ?_
 cases B:(!decide (a.2.1=d))
 have F:(a.2.1=d):=QY B
 refine w13 ?_
 refine Qf ?_
 refine l0_ ?_
 exact wp [] ⟨rfl,rfl,(Qh (by first | exact Qoi g ‹_› ‹_› ‹_› | exact Qiu g ‹_› | exact Qiv g ‹_› | exact Qiw g ‹_›)),trivial⟩
 have F:¬(a.2.1=d):=Zb B
 refine w4 ?_
 refine lgy rfl rfl (dK (Vd x.2.1 a.1) KX) ?_
 refine w2 ?_
 cases C:(decide (a.1∈x.2.1))
 have G:=aa C
 refine w6 ?_
 refine Qf ?_
 refine l0_ ?_
 exact wp [] ⟨rfl,rfl,(Qh (by first | exact Qoi g ‹_› ‹_› ‹_› | exact Qiu g ‹_› | exact Qiv g ‹_› | exact Qiw g ‹_›)),trivial⟩
 have G:=ab C
 refine w_ ?_
 apply dV (i5 42 _ _ _ _ _ (io 47 (lf (dS (wdA c a))) :: io 48 (lf (dS (x.1++(wdA c a)))) :: i2 49 _ _ [⟨some 51,lR 9,[ar 9 3 .int ([a.2.2.2])]⟩,io 52 (lP 6 2),io 53 (lI x.2.2),io 54 (lI (x.2.2+1)),io 55 (ag [dS (x.1++(wdA c a)), .ref 9,dI (x.2.2+1)]),⟨some 56,lR 10,[ar 10 303 Z8 (VQ (UZ c d (c.2.2.take i) x (YT c d (f.take k) [])) (x.1++(wdA c a),[a.2.2.2],x.2.2+1)),(7,none),(9,none)]⟩,io 7 _])) [0,1,1,7,15,7,1,127,127,127,1023,1023,1023,1,0,0]
 refine z5 ?_
 refine zz (fun _ j=>ac (dK (Qdh c a N (Hm N am ‹_›)) Qma) rfl) ?_
 refine zz (fun _ j=>ac (Q7 (j.v rfl) (j.v rfl) rfl (by (have:=Qf4 (a:=a) N; omega))) rfl) ?_
 refine z2 ?_
 refine zz (fun _ j=>ac (dBs 9 (e:= .int) Zq) rfl) ?_
 refine z3 ?_
 refine zz (fun _ j=>ac (Qj Qnn ⟨_,_,rfl,(j.w rfl),⟨_,_,rfl,(j.w rfl),⟨_,_,rfl,(j.w rfl),rfl⟩⟩⟩ (av.1 (by simp only[QW,XG,bd,bt]; rw[(j.en 9 rfl)]; rfl)) rfl rfl) rfl) ?_
 refine zz (fun _ j=>ac (dP 10 [(0,7),(1,9)] (Qe5 (UZ c d (c.2.2.take i) x (YT c d (f.take k) [])) (x.1++(wdA c a),[a.2.2.2],x.2.2+1) ((Qyg M S).le (by omega)) (aL _)) Ql9) rfl) ?_
 exact y1
 refine w4 ?_
 refine Qf ?_
 refine l0_ ?_
 exact wp [(7,10)] ⟨rfl,rfl,(Qh (by first | exact Qoi g ‹_› ‹_› ‹_› | exact Qiu g ‹_› | exact Qiv g ‹_› | exact Qiw g ‹_›)),trivial⟩
section
variable {c:DSg}[Decidable (SgOk c)]{h m mo:Int}{n:Nat}
theorem Qwk (e:SgOk c)(d:(txP c h n).length≤400):(ZY c h n).length≤1600000:=by
 cases n with
 | zero=>show 1≤_; omega
 | succ n=>have f:=QnM (h:=h) (n:=n) e; have g:=Qh8 (h:=h) (n:=n) e; have d:(txL c h n).length≤400:=d; omega
theorem Qzc:[(ByteArray.empty,stl c h [0],0)]=ZY c h (m - m).toNat:=by rw[Int.sub_self]; rfl
theorem Qyq:[]=txP c h (m - m).toNat:=by rw[Int.sub_self]; rfl
theorem Qzd (d:0≤mo∧mo≤m)(e:¬mo=0):QpA c h (ZY c h (m - mo).toNat)=ZY c h (m - (mo - 1)).toNat:=by rw[show (m - (mo - 1)).toNat=(m - mo).toNat+1 by omega]; rfl
theorem Qyr (d:0≤mo∧mo≤m)(e:¬mo=0):txL c h (m - mo).toNat=txP c h (m - (mo - 1)).toNat:=by rw[show (m - (mo - 1)).toNat=(m - mo).toNat+1 by omega]; rfl
theorem Jv (k:¬Qje c h m):([],false)=trV c h m:=(QwV k).symm
theorem Qys (d:0≤mo∧mo≤m)(k:(400:Int) < ((txL c h (m - mo).toNat).length:Int)):([],false)=trV c h m:=(Qks W2 (n:=(m - mo).toNat) (by omega) (by omega)).symm
theorem Qyt (g:Qje c h m)(d:0≤mo∧mo≤m)(k:¬(400:Int) < ((txL c h (m - mo).toNat).length:Int))(e:((ZY c h (m - mo).toNat).length:Int)=0):(txL c h (m - mo).toNat,true)=trV c h m:=(Qu2 g (by omega) (bu (by omega)) (by omega)).symm
theorem Qyu (g:Qje c h m)(k:¬(400:Int) < ((txL c h (m - mo).toNat).length:Int))(e:mo=0):(txL c h (m - mo).toNat,true)=trV c h m:=by
 subst e
 rw[Int.sub_zero] at k ⊢
 exact (QiH g (by omega)).symm
end
theorem JY (c:Qew)(d:Int)(f:Int)[∀c,Decidable (SgOk c)]:FC Tryz.prog 133 [(true,[.dat Qo c.1, .dat Qu c.2.1, .dat Yo c.2.2]),(false,[dI d]),(false,[dI f])] [] 0 (Za (PV.tup [(false,[.dat Qu ((trV c d f).1)]),(false,[dB ((trV c d f).2)])])):=by
 classical
 refine Qn Tryz.func133 rfl rfl Tryz.ntmps133 fun O_ C a5 X X_ a1 a0=> ?_
 refine acI 1 fun _=> ?_
 refine acI 2 fun _=> ?_
 refine w_ ?_
 refine xbx 0 ?_
 refine w6 ?_
 refine lc (dK (Qfa c) Qpg) ?_
 refine w2 ?_
 cases D:(decide (SgOk c))
 have E:=aa D
 refine w16 ?_
 refine w3 ?_
 refine AC.wk (Wk.nilS 1 6 9 .str rfl (Fresh.of rfl) (nlr rfl))<|AC.wk (Wk.freeze (i:=6) (q:=1) rfl rfl)<|Qe ?_
 have Y:([]:(Qu:Ty).Den)=((trV c d f).1):=by
  exact congrArg Prod.fst (Jv (fun g=>by first | exact absurd g.1 ‹_› | exact absurd g.2.1 ‹_› | exact absurd g.2.2 ‹_›))
 have Z:(false:Bool)=((trV c d f).2):=by
  exact congrArg Prod.snd (Jv (fun g=>by first | exact absurd g.1 ‹_› | exact absurd g.2.1 ‹_› | exact absurd g.2.2 ‹_›))
 exact fr_ C (e:=by rw[Y,← Z] <;> rfl)
 have E:=ab D
 refine w3 ?_
 refine alL 18 fun _=> ?_
 refine w2 ?_
 refine lgy rfl rfl (dK (Zo d (-1) ((c.1.length:Int) - 1)) ZV) ?_
 refine w3 ?_
 cases F:(decide ((-1)≤d∧d≤((c.1.length:Int) - 1)))
 have G:=aa F
 refine w10 ?_
 refine AC.wk (Wk.nilS 2 6 9 .str rfl (Fresh.of rfl) (nlr rfl))<|AC.wk (Wk.freeze (i:=6) (q:=2) rfl rfl)<|Qe ?_
 have e8:([]:(Qu:Ty).Den)=((trV c d f).1):=by
  exact congrArg Prod.fst (Jv (fun g=>by first | exact absurd g.1 ‹_› | exact absurd g.2.1 ‹_› | exact absurd g.2.2 ‹_›))
 have e9:(false:Bool)=((trV c d f).2):=by
  exact congrArg Prod.snd (Jv (fun g=>by first | exact absurd g.1 ‹_› | exact absurd g.2.1 ‹_› | exact absurd g.2.2 ‹_›))
 exact fr_ C (e:=by rw[e8,← e9] <;> rfl)
 have G:=ab F
 refine w_ ?_
 refine lgy rfl rfl (dK (Zo f 0 6) ZV) ?_
 refine w3 ?_
 cases j:(decide (0≤f∧f≤6))
 have v:=aa j
 refine w5 ?_
 refine AC.wk (Wk.nilS 3 6 9 .str rfl (Fresh.of rfl) (nlr rfl))<|AC.wk (Wk.freeze (i:=6) (q:=3) rfl rfl)<|Qe ?_
 have I:([]:(Qu:Ty).Den)=((trV c d f).1):=by
  exact congrArg Prod.fst (Jv (fun g=>by first | exact absurd g.1 ‹_› | exact absurd g.2.1 ‹_› | exact absurd g.2.2 ‹_›))
 have J:(false:Bool)=((trV c d f).2):=by
  exact congrArg Prod.snd (Jv (fun g=>by first | exact absurd g.1 ‹_› | exact absurd g.2.1 ‹_› | exact absurd g.2.2 ‹_›))
 exact fr_ C (e:=by rw[I,← J] <;> rfl)
 have v:=ab j
 refine w5 ?_
 refine lc (dBs 4 (e:= .int) Zq) ?_
 refine lc (dP 5 [(0,4)] (Kk c d ([0]) ‹_› (by simp)) QeO) ?_
 refine lc (Qj Qnn ⟨_,_,rfl,(Ql rfl),rfl⟩ (av.1 rfl) rfl rfl) ?_
 refine lc (dBs 6 (e:=Z8) QbV (hab:=by exact ⟨_,_,_,_,rfl,⟨[dS ByteArray.empty],[.ref 5,dI 0],_,_,_,_,rfl,rfl,⟨rfl,rfl⟩,⟨[.ref 5],[dI 0],_,_,_,_,rfl,rfl,(.inl ⟨_,rfl,rfl,rfl⟩),⟨rfl,rfl⟩,rfl⟩,rfl⟩,⟨rfl,rfl⟩,rfl⟩)) ?_
 refine w6 ?_
 refine AC.wk (Wk.freeze (i:=8) (q:=6) rfl rfl)<|AC.wk (Wk.nilS 7 9 9 .str rfl (Fresh.of rfl) (nlr rfl))<|AC.wk (Wk.freeze (i:=9) (q:=7) rfl rfl) ?_
 refine QH (fun V W=>∃(mo:Int),V=mo.toNat∧(0≤mo∧mo≤f)∧((txP c d (f - mo).toNat).length≤400)∧W=⟨[(1,lI d),(2,lI mo),(3,lP 0 0),(8,lf (.dat Qdv (ZY c d (f - mo).toNat))),(9,lf (.dat Qu (txP c d (f - mo).toNat)))],[bx 0 28 [.dat Qo c.1, .dat Qu c.2.1, .dat Yo c.2.2]]⟩) ⟨f,rfl,(by omega),(by rw[← Qyq]; exact aP _),rfl⟩ ?_ ?_
 exact Wk.of [] rfl ⟨rfl,rfl,rfl,(show some (lf (.dat Qdv ([(ByteArray.empty,stl c d ([0]),0)])))=some (lf (.dat Qdv (ZY c d (f - f).toNat))) from congrArg (fun z_=>some (lf (.dat Qdv z_))) (Qzc)),(show some (lf (.dat Qu ([])))=some (lf (.dat Qu (txP c d (f - f).toNat))) from congrArg (fun z_=>some (lf (.dat Qu z_))) (Qyq)),trivial⟩ ⟨rfl,trivial⟩ rfl rfl
 rintro V W ⟨mo,T,a4,Q,rfl⟩
 have a2:=Qwk (h:=d) (n:=(f - mo).toNat) ‹SgOk c› Q
 refine w4 ?_
 refine alL 35 fun _=> ?_
 refine w4 ?_
 refine lp0 ((ZY c d (f - mo).toNat).length) (fun i=>⟨[(1,lI d),(2,lI mo),(3,lP 0 0),(8,lf (.dat Qdv (ZY c d (f - mo).toNat))),(9,lf (.dat Qu (JB ((ZY c d (f - mo).toNat).take i) (txP c d (f - mo).toNat)))),(35,lf (.dat Qdv (ZY c d (f - mo).toNat))),(36,lI ((ZY c d (f - mo).toNat).length:Int)),(37,lI (i:Int))],[bx 0 28 [.dat Qo c.1, .dat Qu c.2.1, .dat Yo c.2.2]]⟩) ?_ fun i _=> ?_
 exact Wk.of [] rfl ⟨rfl,rfl,rfl,rfl,(show some (lf (.dat Qu (txP c d (f - mo).toNat)))=some (lf (.dat Qu (JB ((ZY c d (f - mo).toNat).take 0) (txP c d (f - mo).toNat)))) from congrArg (fun z_=>some (lf (.dat Qu z_))) (rfl)),rfl,rfl,rfl,trivial⟩ ⟨rfl,trivial⟩ rfl rfl
 refine w4 ?_
 cases p:(decide ((i:Int) < ((ZY c d (f - mo).toNat).length:Int)))
 have w:=aa p
 refine w4 ?_
 refine Yg ?_
 have R:JB ((ZY c d (f - mo).toNat).take i) (txP c d (f - mo).toNat)=txL c d (f - mo).toNat:=by rw[aJ (by omega),QyA]
 rw[R]
 have a3:=Qh8 (h:=d) (n:=(f - mo).toNat) ‹SgOk c›
 refine w2 ?_
 refine alL 46 fun _=> ?_
 refine w3 ?_
 cases r:(decide (400 < ((txL c d (f - mo).toNat).length:Int)))
 have z:=aa r
 refine w5 ?_
 refine alL 49 fun _=> ?_
 refine w3 ?_
 cases t:(decide (((ZY c d (f - mo).toNat).length:Int)=0))
 have A:=aa t
 refine w4 ?_
 cases u:(decide (mo=0))
 have B:=aa u
 refine w6 ?_
 refine lc (dK (Qdg c d (ZY c d (f - mo).toNat) ‹_› (by omega) (fun x U=>by have S:=Qr2 ‹SgOk c› U; have h2:=Qr1 ‹SgOk c› U; omega)).frozen QlL) ?_
 refine w6 ?_
 refine Qf<|ZF ⟨(mo - 1),rfl,(by omega),(by rw[← Qyr (by omega) ‹_›]; omega),rfl⟩ (by omega) ?_
 exact Wk.of [] rfl ⟨rfl,rfl,rfl,(show some (lf (.dat Qdv (QpA c d (ZY c d (f - mo).toNat))))=some (lf (.dat Qdv (ZY c d (f - (mo - 1)).toNat))) from congrArg (fun z_=>some (lf (.dat Qdv z_))) (Qzd (by omega) ‹_›)),(show some (lf (.dat Qu (txL c d (f - mo).toNat)))=some (lf (.dat Qu (txP c d (f - (mo - 1)).toNat))) from congrArg (fun z_=>some (lf (.dat Qu z_))) (Qyr (by omega) ‹_›)),trivial⟩ ⟨rfl,trivial⟩ rfl rfl
 have B:=ab u
 refine w7 ?_
 have K:(txL c d (f - mo).toNat:(Qu:Ty).Den)=((trV c d f).1):=by
  exact congrArg Prod.fst (Qyu ⟨by assumption,by omega,by omega⟩ ‹_› ‹_›)
 have L:(true:Bool)=((trV c d f).2):=by
  exact congrArg Prod.snd (Qyu ⟨by assumption,by omega,by omega⟩ ‹_› ‹_›)
 exact fr_ C (e:=by rw[K,← L] <;> rfl)
 have A:=ab t
 refine w11 ?_
 have M:(txL c d (f - mo).toNat:(Qu:Ty).Den)=((trV c d f).1):=by
  exact congrArg Prod.fst (Qyt ⟨by assumption,by omega,by omega⟩ (by omega) ‹_› ‹_›)
 have N:(true:Bool)=((trV c d f).2):=by
  exact congrArg Prod.snd (Qyt ⟨by assumption,by omega,by omega⟩ (by omega) ‹_› ‹_›)
 exact fr_ C (e:=by rw[M,← N] <;> rfl)
 have z:=ab r
 refine w5 ?_
 refine AC.wk (Wk.nilS 8 6 9 .str rfl (Fresh.of rfl) (nlr rfl))<|AC.wk (Wk.freeze (i:=6) (q:=8) rfl rfl)<|Qe ?_
 have O:([]:(Qu:Ty).Den)=((trV c d f).1):=by
  exact congrArg Prod.fst (Qys (mo:=mo) (by omega) ‹_›)
 have P:(false:Bool)=((trV c d f).2):=by
  exact congrArg Prod.snd (Qys (mo:=mo) (by omega) ‹_›)
 exact fr_ C (e:=by rw[O,← P] <;> rfl)
 have w:=ab p
 refine w5 ?_
 obtain ⟨x,H⟩:=gx (ZY c d (f - mo).toNat) i
 refine w2 ?_
 refine lc (xal 9 Z8 QbV) ?_
 refine w6 ?_
 refine lc (dK (Qfb (JB ((ZY c d (f - mo).toNat).take i) (txP c d (f - mo).toNat)) x.1 (by have S:=QjZ ((ZY c d (f - mo).toNat).take i) (o:=txP c d (f - mo).toNat); simp only[ao] at S; omega)) QlK) ?_
 refine w_ ?_
 refine Qf ?_
 refine w4 ?_
 refine Qf ?_
 refine l0_ ?_
 exact Wk.of [] rfl ⟨rfl,rfl,rfl,rfl,(show some (lf (.dat Qu (Zr ltB x.1 (JB ((ZY c d (f - mo).toNat).take i) (txP c d (f - mo).toNat)))))=some (lf (.dat Qu (JB ((ZY c d (f - mo).toNat).take (i+1)) (txP c d (f - mo).toNat)))) from congrArg (fun z_=>some (lf (.dat Qu z_))) (QpD H)),rfl,rfl,rfl,trivial⟩ ⟨rfl,trivial⟩ rfl rfl
section
variable {a b:Qy}[∀s,Decidable (StgOk s)][∀c,Decidable (SgOk c)]{m:Int}{k:Nat}{s:ByteArray}
def tiV (a b:Qy)[∀s,Decidable (StgOk s)][∀c,Decidable (SgOk c)](m:Int):Bool×Bool:=
 if (sgV a).2=true∧(sgV b).2=true∧(trV (sgV a).1 (-1) m).2=true∧(trV (sgV b).1 (-1) m).2=true then ((trV (sgV a).1 (-1) m).1.all fun s=>Qcu (trV (sgV b).1 (-1) m).1 s,true) else (false,false)
theorem Qox (h:¬((sgV a).2=true∧(sgV b).2=true∧(trV (sgV a).1 (-1) m).2=true∧(trV (sgV b).1 (-1) m).2=true)):(false,false)=tiV a b m:=(if_neg h).symm
theorem Qot (h:(sgV a).2=false):(false,false)=tiV a b m:=Qox fun g=>di (h.symm.trans g.1)
theorem Qou (h:(sgV b).2=false):(false,false)=tiV a b m:=Qox fun g=>di (h.symm.trans g.2.1)
theorem Qov (h:(trV (sgV a).1 (-1) m).2=false):(false,false)=tiV a b m:=Qox fun g=>di (h.symm.trans g.2.2.1)
theorem Qow (h:(trV (sgV b).1 (-1) m).2=false):(false,false)=tiV a b m:=Qox fun g=>di (h.symm.trans g.2.2.2)
theorem QmV (d:(sgV a).2=true)(e:(sgV b).2=true)(f:(trV (sgV a).1 (-1) m).2=true)(g:(trV (sgV b).1 (-1) m).2=true):tiV a b m=((trV (sgV a).1 (-1) m).1.all fun s=>Qcu (trV (sgV b).1 (-1) m).1 s,true):=if_pos ⟨d,e,f,g⟩
theorem Qs6 (d:(sgV a).2=true)(e:(sgV b).2=true)(f:(trV (sgV a).1 (-1) m).2=true)(g:(trV (sgV b).1 (-1) m).2=true)(i:(trV (sgV a).1 (-1) m).1[k]? =some s)(h:¬s∈(trV (sgV b).1 (-1) m).1):(false,true)=tiV a b m:=by
 rw[QmV d e f g,show ((trV (sgV a).1 (-1) m).1.all fun s=>Qcu (trV (sgV b).1 (-1) m).1 s)=false from List.all_eq_false.2 ⟨s,ai i,by rw[QrS h]; decide⟩]
theorem Qvy (d:(sgV a).2=true)(e:(sgV b).2=true)(f:(trV (sgV a).1 (-1) m).2=true)(g:(trV (sgV b).1 (-1) m).2=true)(h:∀s∈(trV (sgV a).1 (-1) m).1,s∈(trV (sgV b).1 (-1) m).1):(true,true)=tiV a b m:=by
 rw[QmV d e f g,show ((trV (sgV a).1 (-1) m).1.all fun s=>Qcu (trV (sgV b).1 (-1) m).1 s)=true from av.2 fun s i=>Qcv.2 (h s i)]
end
theorem K4 (a:YA)(b:YA)(d:Int)[∀s,Decidable (StgOk s)][∀c,Decidable (SgOk c)]:FC Tryz.prog 34 [(true,[dI a.1.1, .dat QF a.1.2, .dat Qo a.2.1, .dat Qw a.2.2.1,dS a.2.2.2]),(true,[dI b.1.1, .dat QF b.1.2, .dat Qo b.2.1, .dat Qw b.2.2.1,dS b.2.2.2]),(false,[dI d])] [] 0 (Za (PV.tup [(false,[dB ((tiV a b d).1)]),(false,[dB ((tiV a b d).2)])])):=by
 refine Qn Tryz.func34 rfl rfl Tryz.ntmps34 fun O q N E P K J=> ?_
 refine acG 0 0 fun _=> ?_
 refine acG 1 0 fun _=> ?_
 refine acI 2 fun _=> ?_
 refine w_ ?_
 refine xbx 0 ?_
 refine xbx 1 ?_
 refine w5 ?_
 refine lc (dK (YJ a).frozenG Qaw) ?_
 refine w3 ?_
 refine lc (xal 2 Qf1 VB) ?_
 refine w5 ?_
 refine lc (dK (YJ b).frozenG Qaw) ?_
 refine w3 ?_
 refine lc (xal 3 Qf1 VB) ?_
 refine w8 ?_
 cases L:((sgV a).2)
 refine w10 ?_
 have F:(false:Bool)=((tiV a b d).1):=by
  exact congrArg Prod.fst (Qot ‹_›)
 have G:(false:Bool)=((tiV a b d).2):=by
  exact congrArg Prod.snd (Qot ‹_›)
 exact fr_ q (e:=by rw[← F,← G] <;> rfl)
 refine w4 ?_
 refine cx_ (fun _=> ?_) fun _=> ?_
 refine w5 ?_
 have H:(false:Bool)=((tiV a b d).1):=by
  exact congrArg Prod.fst (Qou ‹_›)
 have I:(false:Bool)=((tiV a b d).2):=by
  exact congrArg Prod.snd (Qou ‹_›)
 exact fr_ q (e:=by rw[← H,← I] <;> rfl)
 refine w4 ?_
 refine lc (dK (JY ((sgV a).1) (-1) d) QeC) ?_
 refine w9 ?_
 refine lc (dK (JY ((sgV b).1) (-1) d) QeC) ?_
 refine w11 ?_
 cases C:((trV ((sgV a).1) (-1) d).2)
 refine w10 ?_
 have t:(false:Bool)=((tiV a b d).1):=by
  exact congrArg Prod.fst (Qov ‹_›)
 have u:(false:Bool)=((tiV a b d).2):=by
  exact congrArg Prod.snd (Qov ‹_›)
 exact fr_ q (e:=by rw[← t,← u] <;> rfl)
 refine w4 ?_
 refine cx_ (fun _=> ?_) fun _=> ?_
 refine w5 ?_
 have v:(false:Bool)=((tiV a b d).1):=by
  exact congrArg Prod.fst (Qow ‹_›)
 have w:(false:Bool)=((tiV a b d).2):=by
  exact congrArg Prod.snd (Qow ‹_›)
 exact fr_ q (e:=by rw[← v,← w] <;> rfl)
 refine w4 ?_
 refine alL 52 fun _=> ?_
 refine w4 ?_
 refine lpK (((trV ((sgV a).1) (-1) d).1).length) (fun k=>∀j,j < k→∀s,(trV (sgV a).1 (-1) d).1[j]? =some s→s∈(trV (sgV b).1 (-1) d).1) (fun k=>⟨[(14,lf (.dat Qu ((trV ((sgV b).1) (-1) d).1))),(52,lf (.dat Qu ((trV ((sgV a).1) (-1) d).1))),(53,lI (((trV ((sgV a).1) (-1) d).1).length:Int)),(54,lI (k:Int))],[]⟩) ((fun j M=>absurd M (bi j))) ?_ fun k _ p=> ?_
 exact wo []
 refine w4 ?_
 cases i:(decide ((k:Int) < (((trV ((sgV a).1) (-1) d).1).length:Int)))
 have o:=aa i
 refine w8 ?_
 have x:(true:Bool)=((tiV a b d).1):=by
  exact congrArg Prod.fst (Qvy ‹_› ‹_› ‹_› ‹_› (YH p (by omega)))
 have z:(true:Bool)=((tiV a b d).2):=by
  exact congrArg Prod.snd (Qvy ‹_› ‹_› ‹_› ‹_› (YH p (by omega)))
 exact fr_ q (e:=by rw[← x,← z] <;> rfl)
 have o:=ab i
 refine w5 ?_
 obtain ⟨r,f⟩:=gx ((trV ((sgV a).1) (-1) d).1) k
 refine w7 ?_
 refine lc (dK (Qe7 ((trV ((sgV b).1) (-1) d).1) r) Qle) ?_
 refine w2 ?_
 cases D:(Qcu ((trV ((sgV b).1) (-1) d).1) r)
 refine w6 ?_
 have A:(false:Bool)=((tiV a b d).1):=by
  exact congrArg Prod.fst (Qs6 ‹_› ‹_› ‹_› ‹_› f (fun g=>di ((Eq.symm ‹Qcu _ _=false›).trans (Qcv.2 g))))
 have B:(true:Bool)=((tiV a b d).2):=by
  exact congrArg Prod.snd (Qs6 ‹_› ‹_› ‹_› ‹_› f (fun g=>di ((Eq.symm ‹Qcu _ _=false›).trans (Qcv.2 g))))
 exact fr_ q (e:=by rw[← A,← B] <;> rfl)
 refine w6 ?_
 refine Qf ?_
 refine lK_ ((Y6 p f (Qcv.1 ‹_›))) ?_
 exact wo []
end Go.Proofs.YtndabgcpnmeeoaaGreat
