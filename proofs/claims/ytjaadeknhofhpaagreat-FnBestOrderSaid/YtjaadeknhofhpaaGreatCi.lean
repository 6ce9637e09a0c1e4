/- Walks over abstract states: what is enabled together, the program. -/
import Derived.Test.YtjaadeknhofhpaaGreatCc
import Derived.Test.YtjaadeknhofhpaaGreatFs
import Derived.Test.YtjaadeknhofhpaaGreatVc
import Derived.Test.YtjaadeknhofhpaaGreatWi
import Derived.Test.YtjaadeknhofhpaaGreatAg
set_option linter.unusedSimpArgs false
set_option linter.unusedVariables false
set_option linter.unusedSectionVars false
namespace Go.Proofs.YtjaadeknhofhpaaGreat
open Go.RowKit
set_option maxRecDepth 100000
set_option maxHeartbeats 4000000
section
variable {n:Xj}{k i j m:Nat}{mk:ByteArray}{t u:Int}{on l:List Int}{s:QX}{ms:List ByteArray}{as_:List (List Int)}
theorem Qor (h:on.length≤24)(hk:k≤on.length):(Qcb n on k).length≤24*k:=by
  unfold Qcb
  have:=Ht (f:=fun i=>Kd n ((on[i]?).getD 0) (on.drop (i+1))) (m:=24) (l:=List.range k) fun i _=>b5 QhQ (by simp only[ay]; omega)
  simpa using this
theorem Qnf (hn:n.2.length≤24)(hk:k≤ms.length)(hm:ms.length≤300)(he:on.length≤24)(hi:i≤on.length)(hj:l.length≤24):(Yl n (ms.take k)++Qcb n on i++Kd n t l).length≤200000:=by
  have h1:=QdW (n:=n) (ms:=ms.take k) hn
  have h2:=Qor (n:=n) he hi
  have h3:=QhQ (n:=n) (t:=t) (l:=l)
  simp only[aa,ab] at*
  omega
theorem Qpr (hx:ms[k]? =some mk)(hi:i=(Zl n mk).length):Yl n (ms.take k)++Qcb n (Zl n mk) i=Yl n (ms.take (k+1)):=by rw[QqM Qoa hi,QfL hx]
theorem QnF (hx:on[i]? =some t)(hj:on.length≤j+(i+1)):as_++Qcb n on i++Kd n t ((on.drop (i+1)).take j)=as_++Qcb n on (i+1):=by
  rw[aH (by simp only[ay]; omega),aI]
  unfold Qcb
  rw[cd,c8]
  simp only[c7,List.flatMap_nil,bt]
  rw[hx,ak]
theorem Qcc [∀s,Decidable (StgOk s)](h:(Qe s).2=true):(Yl s.1 ((Qe s).1.1.take k)).length≤200000:=by
  have h1:=QdW (n:=s.1) (ms:=(Qe s).1.1.take k) (YL h)
  have h2:=VY (s:=s)
  simp only[ab] at h1
  omega
theorem Qlf (h:((on.take on.length).drop ((i:Int)+1).toNat)[j]? =some u):(on.drop (i+1))[j]? =some u:=by
  rw[br,show ((i:Int)+1).toNat=i+1 by omega] at h; exact h
theorem Qp1 (h:((on.take on.length).drop ((i:Int)+1).toNat)[j]? =some u):on[i+1+j]? =some u:=by
  have:=Qlf h
  rwa [cg] at this
theorem Qie {xt xu:QW}(hx:l[k]? =some u)(h1:n.2[t.toNat]? =some xt)(h2:n.2[u.toNat]? =some xu)(h:(xt.1.any fun z=>xu.1.any fun y=>decide (z=y))=false):(as_++Kd n t (l.take k))++[[t,u]]=as_++Kd n t (l.take (k+1)):=by
  rw[aI,Qpy hx h1 h2 (by rw[h]; rfl)]
theorem Qgk {xt xu:QW}(hx:l[k]? =some u)(h1:n.2[t.toNat]? =some xt)(h2:n.2[u.toNat]? =some xu)(h:(xt.1.any fun z=>xu.1.any fun y=>decide (z=y))=true):as_++Kd n t (l.take k)=as_++Kd n t (l.take (k+1)):=by
  rw[QpP hx h1 h2 (by rw[h]; rfl)]
theorem Qnb [∀s,Decidable (StgOk s)](hk:k=(Qe s).1.1.length):KJ (Yn (Yl s.1 ((Qe s).1.1.take k)))=Zq s:=by rw[hk,br,Qpa]; rfl
end
theorem Qan (s:(Int×(List (List Int×List Int)))×(List (ByteArray×Int))×(List (Int×Bool))×ByteArray)[∀s,Decidable (StgOk s)]:FC Tryz.prog 119 [(true,[dI s.1.1, .dat QZ s.1.2, .dat QJ s.2.1, .dat QR s.2.2.1,dS s.2.2.2])] [] 0 (Is (PV.tup [(false,[.ref 0]),(false,[dB ((Qe s).2)])]) [(0,some (.arr 95 Qs (Zq s)))]):=by
 refine QO Tryz.func119 rfl rfl Tryz.ntmps119 fun O_ hO w0_ N0_ X_ h0_ f0_=> ?_
 refine AC.fact (QI (x:= .tmp 0) (i:=0) (Qb rfl) rfl) fun hi1=> ?_
 refine w_ ?_
 refine lc (Qy 0 (Qb rfl) rfl rfl (Fresh.of rfl) (nlr rfl)) ?_
 iterate 5 refine w_ ?_
 refine lc (Ql (VD s).frozenG Qaq ⟨_,_,rfl,(Qb rfl),rfl⟩ rfl rfl) ?_
 iterate 3 refine w_ ?_
 refine lc (Qj 1 QeK Wf rfl rfl (Fresh.of rfl) (nlr rfl))<|lc (Qc (Qa rfl) rfl (Qb rfl) rfl ZM rfl) ?_
 iterate 7 refine w_ ?_
 cases hb2:((Qe s).2)
 iterate 5 refine w_ ?_
 refine AC.wk (Wk.nilS 2 2 95 Qs rfl (Fresh.of rfl) (nlr rfl))<|Q4 ?_
 subst hO
 have e3:(false:Bool)=((Qe s).2):=by
  simp_all
 exact QD _ _ [(0,2)] (QB rfl (Qd rfl) (Qd rfl)) (by rw[← e3] <;> rfl) ⟨(Qp (by exact Qil ‹_›)),trivial⟩ rfl rfl
 iterate 3 refine w_ ?_
 refine lc (Qf 3 (e:=Qs) Zi QU XX rfl rfl (ae.1 rfl) ⟨rfl,rfl⟩ (by decide) rfl rfl (Fresh.of rfl) (nlr rfl)) ?_
 iterate 6 refine w_ ?_
 refine AL.fact (Qo (x:= .tmp 23) (Qa rfl)) fun hl4=> ?_
 iterate 4 refine w_ ?_
 refine Qu (fun m_ s_=>∃(k:Nat),k≤(((Qe s).1).1).length∧m_=(((Qe s).1).1).length - k∧s_=⟨[(1,lP 0 0),(2,lf (.val (.slice none 0 0))),(3,lB false),(6,lR 4),(23,lf (.dat Zr (((Qe s).1).1))),(24,lI ((((Qe s).1).1).length:Int)),(25,lI (k:Int))],[(0,some (.box 29 [dI s.1.1, .dat QZ s.1.2, .dat QJ s.2.1, .dat QR s.2.2.1,dS s.2.2.2])),(4,some (.arr 95 Qs (Yl s.1 ((Qe s).1.1.take k))))]⟩) ⟨0,aw _,rfl,rfl⟩ ?_ ?_
 exact wp [(0,0),(4,3)] ⟨rfl,(Qp (by first | rfl | simp)),trivial⟩
 rintro m_ s_ ⟨k,hk5,hm6,rfl⟩
 iterate 4 refine w_ ?_
 cases hb7:(decide ((k:Int) < ((((Qe s).1).1).length:Int)))
 have hb7':=a7 hb7
 iterate 5 refine w_ ?_
 refine lc (QK 5 [(0,4)] (Qpb (Yl s.1 ((Qe s).1.1.take k)) (by have:=Qcc (s:=s) (k:=k) ‹_›; omega)) Qer ⟨_,_,rfl,(Qb rfl),⟨_,_,rfl,(Evl.ev QeW),rfl⟩⟩ ⟨rfl,trivial⟩ rfl ⟨trivial,trivial⟩ (nlr rfl)) ?_
 iterate 3 refine w_ ?_
 refine lc (QK 6 [(0,4)] (Vy (Yn (Yl s.1 ((Qe s).1.1.take k))) (by rw[V8]; have:=Qcc (s:=s) (k:=k) ‹_›; omega)) Qjo ⟨_,_,rfl,(Qb rfl),⟨_,_,rfl,(Evl.ev QeW),rfl⟩⟩ ⟨rfl,trivial⟩ rfl ⟨(Fresh.of rfl),trivial⟩ (nlr rfl)) ?_
 iterate 4 refine w_ ?_
 subst hO
 have e8:(true:Bool)=((Qe s).2):=by
  simp_all
 exact QD _ _ [(0,6)] (QB rfl (Qd rfl) (Qd rfl)) (by rw[← e8] <;> rfl) ⟨(Qp (by exact Qnb (by omega))),trivial⟩ rfl rfl
 have hb7':=a8 hb7
 iterate 5 refine w_ ?_
 obtain ⟨mk,hx10⟩:=gx (((Qe s).1).1) k
 have mkh:=hx10
 have hmn:=YL (s:=s) ‹_›
 have hmf:=VY (s:=s)
 refine lc (Qh (Qa rfl) (Qa rfl) Zo Zg rfl (by omega) hx10) ?_
 iterate 7 refine w_ ?_
 refine lc (Ql (Jj s.1 mk (Qcu _ (ai hx10)) (by have:=YL (s:=s) ‹_›; omega)).frozen QdY ⟨_,_,rfl,(Qb rfl),⟨_,_,rfl,(Qb rfl),rfl⟩⟩ rfl rfl) ?_
 iterate 4 refine w_ ?_
 refine AL.fact (Qo (x:= .tmp 33) (Qa rfl)) fun hl11=> ?_
 iterate 4 refine w_ ?_
 refine Qu (fun m_ s_=>∃(i:Nat),i≤(Zl s.1 mk).length∧m_=(Zl s.1 mk).length - i∧s_=⟨[(1,lP 0 0),(2,lf (.val (.slice none 0 0))),(3,lB false),(6,lR 7),(8,lf (dS mk)),(9,lf (.dat Qs (Zl s.1 mk))),(23,lf (.dat Zr (((Qe s).1).1))),(24,lI ((((Qe s).1).1).length:Int)),(25,lI (k:Int)),(26,lB true),(27,lf (.elt .str mk 0)),(28,lf (dS mk)),(29,lP 0 0),(30,ag [dI s.1.1, .dat QZ s.1.2]),(31,lf (dS mk)),(32,lf (.dat Qs (Zl s.1 mk))),(33,lf (.dat Qs (Zl s.1 mk))),(34,lI ((Zl s.1 mk).length:Int)),(35,lI (i:Int))],[(0,some (.box 29 [dI s.1.1, .dat QZ s.1.2, .dat QJ s.2.1, .dat QR s.2.2.1,dS s.2.2.2])),(7,some (.arr 95 Qs (Yl s.1 ((Qe s).1.1.take k)++Qcb s.1 (Zl s.1 mk) i)))]⟩) ⟨0,aw _,rfl,rfl⟩ ?_ ?_
 exact wp [(0,0),(7,4)] ⟨rfl,(Qp (by simp[Qcb])),trivial⟩
 rintro m_ s_ ⟨i,hk12,hm13,rfl⟩
 iterate 4 refine w_ ?_
 cases hb14:(decide ((i:Int) < ((Zl s.1 mk).length:Int)))
 have hb14':=a7 hb14
 iterate 6 refine w_ ?_
 refine Qm<|QV ⟨k+1,by omega,rfl,rfl⟩ (by omega) ?_
 exact wp [(0,0),(4,7)] ⟨rfl,(Qp (Qpr mkh (by omega))),trivial⟩
 have hb14':=a8 hb14
 iterate 6 refine w_ ?_
 obtain ⟨t,hx16⟩:=gx (Zl s.1 mk) i
 have tq:=YW hx16
 have th:=hx16
 have hon:=Uv s.1 mk
 refine lc (Qh (Qa rfl) (Qa rfl) QN QL rfl (by omega) hx16) ?_
 refine w_ ?_
 refine AL.fact (QC (x:= .tmp 39) (Qa rfl)) fun hi17=> ?_
 iterate 7 refine w_ ?_
 refine lc (UH (l:=(some ((i:Int)+1))) (h:=none) (Qa rfl) (by exact (Qa rfl)) (by exact trivial) QN QL rfl (by simp only[ao,ak]; omega) (by simp only[ao,ak]; omega) (by simp only[ao,ak]; omega))<|AL.fact (Qo (x:= .tmp 43) (Qa rfl)) fun hl18=> ?_
 iterate 4 refine w_ ?_
 refine Qu (fun m_ s_=>∃(j:Nat),j≤(((Zl s.1 mk).take (Zl s.1 mk).length).drop ((i:Int)+1).toNat).length∧m_=(((Zl s.1 mk).take (Zl s.1 mk).length).drop ((i:Int)+1).toNat).length - j∧s_=⟨[(1,lP 0 0),(2,lf (.val (.slice none 0 0))),(3,lB false),(6,lR 8),(8,lf (dS mk)),(9,lf (.dat Qs (Zl s.1 mk))),(10,lI (i:Int)),(11,lI t),(23,lf (.dat Zr (((Qe s).1).1))),(24,lI ((((Qe s).1).1).length:Int)),(25,lI (k:Int)),(26,lB true),(27,lf (.elt .str mk 0)),(28,lf (dS mk)),(29,lP 0 0),(30,ag [dI s.1.1, .dat QZ s.1.2]),(31,lf (dS mk)),(32,lf (.dat Qs (Zl s.1 mk))),(33,lf (.dat Qs (Zl s.1 mk))),(34,lI ((Zl s.1 mk).length:Int)),(35,lI (i:Int)),(36,lB true),(37,lI (i:Int)),(38,lf (.elt .int t 0)),(39,lI t),(40,lf (.dat Qs (Zl s.1 mk))),(41,lI (i:Int)),(42,lI ((i:Int)+1)),(43,lf (.dat Qs (((Zl s.1 mk).take (Zl s.1 mk).length).drop ((i:Int)+1).toNat))),(44,lI ((((Zl s.1 mk).take (Zl s.1 mk).length).drop ((i:Int)+1).toNat).length:Int)),(45,lI (j:Int))],[(0,some (.box 29 [dI s.1.1, .dat QZ s.1.2, .dat QJ s.2.1, .dat QR s.2.2.1,dS s.2.2.2])),(8,some (.arr 95 Qs (Yl s.1 ((Qe s).1.1.take k)++Qcb s.1 (Zl s.1 mk) i++Kd s.1 t (((Zl s.1 mk).drop (i+1)).take j))))]⟩) ⟨0,aw _,rfl,rfl⟩ ?_ ?_
 exact wp [(0,0),(8,7)] ⟨rfl,(Qp (by simp[Kd])),trivial⟩
 rintro m_ s_ ⟨j,hk19,hm20,rfl⟩
 iterate 4 refine w_ ?_
 cases hb21:(decide ((j:Int) < ((((Zl s.1 mk).take (Zl s.1 mk).length).drop ((i:Int)+1).toNat).length:Int)))
 have hb21':=a7 hb21
 iterate 6 refine w_ ?_
 refine Qm<|QV ⟨i+1,by omega,rfl,rfl⟩ (by omega) ?_
 exact wp [(0,0),(7,8)] ⟨rfl,(Qp (QnF th (by simp only[ab,ay] at*; omega))),trivial⟩
 have hb21':=a8 hb21
 iterate 5 refine w_ ?_
 obtain ⟨u,hx23⟩:=gx (((Zl s.1 mk).take (Zl s.1 mk).length).drop ((i:Int)+1).toNat) j
 have hdl:(((Zl s.1 mk).take (Zl s.1 mk).length).drop ((i:Int)+1).toNat).length≤24:=by simp only[ay,ab]; omega
 have uh:=Qp1 hx23
 have ud:=Qlf hx23
 have uq:=YW uh
 refine lc (Qh (Qa rfl) (Qa rfl) QN QL rfl (by omega) hx23) ?_
 refine w_ ?_
 refine AL.fact (QC (x:= .tmp 48) (Qa rfl)) fun hi24=> ?_
 iterate 2 refine w_ ?_
 obtain ⟨xt,hx26⟩:=gx s.1.2 ((t).toNat)
 have xth:=hx26
 obtain ⟨xu,hx28⟩:=gx s.1.2 ((u).toNat)
 have xuh:=hx28
 refine dw [io 49 (lP 0 0),io 50 (lP 0 1),io 51 (lf (.dat QZ s.1.2)),io 52 (lI t),io 53 (lf (.elt QS xt 0)),io 54 (lf (.elt QS xt 0)),io 55 (lf (.dat Qs xt.1)),io 56 (lP 0 0),io 57 (lP 0 1),io 58 (lf (.dat QZ s.1.2)),io 59 (lI u),io 60 (lf (.elt QS xu 0)),io 61 (lf (.elt QS xu 0)),io 62 (lf (.dat Qs xu.1)),io 63 (lB (xt.1.any (fun p=>xu.1.any (fun y=>decide (p=y))))),io 64 (lB (!(xt.1.any (fun p=>xu.1.any (fun y=>decide (p=y))))))] [0,1,3,0,15,31,63,0,128,384,0,1920,3968,8064,16383,32767] mixed rfl (by kernel_rfl) ⟨dxf Z1 rfl rfl rfl,dxf Zz rfl rfl rfl,dxl Yf rfl rfl rfl rfl rfl,dxm rfl rfl,fun _ h_=>ac (Qh (h_.v rfl) (h_.v rfl) Zw Zn rfl (by omega) hx26) rfl,fun _ h_=>ac (Yp (h_.v rfl) Z0 rfl) rfl,fun _ h_=>ac (Q3 (h_.v rfl) QU rfl rfl) rfl,dxf Z1 rfl rfl rfl,dxf Zz rfl rfl rfl,dxl Yf rfl rfl rfl rfl rfl,dxm rfl rfl,fun _ h_=>ac (Qh (h_.v rfl) (h_.v rfl) Zw Zn rfl (by omega) hx28) rfl,fun _ h_=>ac (Yp (h_.v rfl) Z0 rfl) rfl,fun _ h_=>ac (Q3 (h_.v rfl) QU rfl rfl) rfl,fun _ h_=>ac (Ql (Qfr xt.1 xu.1) Qkj ⟨_,_,rfl,(h_.w rfl),⟨_,_,rfl,(h_.w rfl),rfl⟩⟩ rfl rfl) rfl,fun _ h_=>ac (WD (h_.v rfl) rfl) rfl,⟨⟩⟩ ?_
 cases hb29:(xt.1.any (fun p=>xu.1.any (fun y=>decide (p=y))))
 iterate 5 refine w_ ?_
 refine lc (Qf 9 (e:= .int) QN QL Yu rfl ⟨_,_,rfl,(Qb rfl),⟨_,_,rfl,(Qb rfl),rfl⟩⟩ (ae.1 rfl) ⟨_,_,_,_,rfl,⟨rfl,rfl⟩,⟨_,_,_,_,rfl,⟨rfl,rfl⟩,⟨rfl,rfl⟩,rfl⟩,rfl⟩ (by decide) rfl rfl (Fresh.of rfl) (nlr rfl))<|lc (Qf 10 (e:=Qs) Zi QU XX rfl ⟨_,_,rfl,(Qb rfl),rfl⟩ (ae.1 rfl) ⟨_,_,_,_,rfl,(.inl ⟨_,rfl,rfl,rfl⟩),⟨rfl,rfl⟩,rfl⟩ (by decide) rfl rfl (Fresh.of rfl) (nlr rfl))<|lc (QH 11 (Qa rfl) rfl (Qa rfl) rfl rfl Zi Va (by (have:=Qnf (n:=s.1) (ms:=((Qe s).1).1) (k:=k) (on:=Zl s.1 mk) (i:=i) (l:=((Zl s.1 mk).drop (i+1)).take j) (t:=t) (YL ‹_›) (by omega) VY (by have:=YL (s:=s) ‹_›; omega) (by omega) (by have:=YL (s:=s) ‹_›; simp only[ab,ay]; omega); simp only[ah,aj] at*; omega)) rfl (Fresh.of rfl) (nlr rfl)) ?_
 refine w_ ?_
 refine Qm ?_
 iterate 4 refine w_ ?_
 refine Qm<|QV ⟨j+1,by omega,rfl,rfl⟩ (by omega) ?_
 exact wp [(0,0),(8,11)] ⟨rfl,(Qp (by first | exact Qie ud xth xuh ‹_› | exact Qgk ud xth xuh ‹_›)),trivial⟩
 iterate 6 refine w_ ?_
 refine Qm<|QV ⟨j+1,by omega,rfl,rfl⟩ (by omega) ?_
 exact wp [(0,0),(8,8)] ⟨rfl,(Qp (by first | exact Qie ud xth xuh ‹_› | exact Qgk ud xth xuh ‹_›)),trivial⟩
end Go.Proofs.YtjaadeknhofhpaaGreat
namespace Go.Proofs.YtjaadeknhofhpaaGreat
open Go.RowKit
set_option maxRecDepth 100000
set_option maxHeartbeats 4000000
section
variable [∀s,Decidable (StgOk s)]{s:QX}{o:Qq}
def Yg (s:QX)(o:Qq):Bool:=(Q7 s o).2&&((pfV s (Q7 s o).1).2&&(pfV s (Q7 s o).1).1)
def X2 (s:QX)(b:Int):Bool:=decide (0≤((s.2.2.1[b.toNat]?).getD (0,false)).1)&& !decide (((s.2.1[(((s.2.2.1[b.toNat]?).getD (0,false)).1).toNat]?).getD (ByteArray.empty,0)).2=1)
theorem QiA (h:(Q7 s o).2=false):false=Yg s o:=by unfold Yg; rw[h]; rfl
theorem QiD (h:(Q7 s o).2=true)(h2:(pfV s (Q7 s o).1).2=false):false=Yg s o:=by unfold Yg; rw[h,h2]; rfl
theorem QlX (h:(Q7 s o).2=true)(h2:(pfV s (Q7 s o).1).2=true):(pfV s (Q7 s o).1).1=Yg s o:=by unfold Yg; rw[h,h2]; rfl
theorem Ur:(ZA s o).2=(Q7 s o).2∧((ZA s o).2=true→(ZA s o).1=(Q7 s o).1):=by
  unfold ZA Q7
  split
  · unfold Z4
    split
    · rename_i h; exact ⟨aK h,fun _=>rfl⟩
    · rename_i h; exact ⟨aP h,fun h2=>absurd (a8 h2) h⟩
  · exact ⟨rfl,fun h=>by cases h⟩
theorem QoR {l:Int×Bool}(hx:s.2.2.1[(o.2.1).toNat]? =some l)(h:l.1 < 0):false=(X2 s o.2.1&&Yg s o):=by unfold X2; rw[hx]; simp; intro h2; omega
theorem Qqo {l:Int×Bool}{g:Q9}(hx:s.2.2.1[(o.2.1).toNat]? =some l)(hg:s.2.1[(l.1).toNat]? =some g)(h:g.2=1):false=(X2 s o.2.1&&Yg s o):=by unfold X2; rw[hx]; simp[hg,h]
theorem Qex {l:Int×Bool}{g:Q9}(hx:s.2.2.1[(o.2.1).toNat]? =some l)(h0:¬l.1 < 0)(hg:s.2.1[(l.1).toNat]? =some g)(h:¬g.2=1):X2 s o.2.1=true:=by unfold X2; rw[hx]; simp[hg,h]; omega
theorem QrT (h1:X2 s o.2.1=true)(h:(ZA s o).2=false):false=(X2 s o.2.1&&Yg s o):=by rw[h1,← QiA (by rw[← Ur.1]; exact h)]; rfl
theorem QrM (h1:X2 s o.2.1=true)(h:(ZA s o).2=true)(h2:(pfV s (ZA s o).1).2=false):false=(X2 s o.2.1&&Yg s o):=by
  rw[Ur.2 h] at h2
  rw[h1,← QiD (by rw[← Ur.1]; exact h) h2]; rfl
theorem Qsj (h1:X2 s o.2.1=true)(h:(ZA s o).2=true)(h2:(pfV s (ZA s o).1).2=true):(pfV s (ZA s o).1).1=(X2 s o.2.1&&Yg s o):=by
  rw[Ur.2 h] at h2 ⊢
  rw[h1,QlX (by rw[← Ur.1]; exact h) h2]; rfl
end
theorem JT (s:(Int×(List (List Int×List Int)))×(List (ByteArray×Int))×(List (Int×Bool))×ByteArray)(o:Int×Int×Bool)[∀s,Decidable (StgOk s)](hz:Ty.tot ZC s≤2000000):FC Tryz.prog 123 [(true,[dI s.1.1, .dat QZ s.1.2, .dat QJ s.2.1, .dat QR s.2.2.1,dS s.2.2.2]),(true,[dI o.1,dI o.2.1,dB o.2.2])] [] 0 (Yj (lB (Yg s o))):=by
 refine QO Tryz.func123 rfl rfl Tryz.ntmps123 fun O_ hO w0_ N0_ X_ h0_ f0_=> ?_
 refine AC.fact (QI (x:= .tmp 0) (i:=0) (Qb rfl) rfl) fun hi1=>AC.fact (QI (x:= .tmp 1) (i:=0) (Qb rfl) rfl) fun hi2=>AC.fact (QI (x:= .tmp 1) (i:=1) (Qb rfl) rfl) fun hi3=> ?_
 refine w_ ?_
 refine lc (Qy 0 (Qb rfl) rfl rfl (Fresh.of rfl) (nlr rfl))<|lc (Qy 1 (Qb rfl) rfl rfl (Fresh.of rfl) (nlr rfl)) ?_
 iterate 5 refine w_ ?_
 refine lc (Ql (X8 s o hz).frozenG Qcg ⟨_,_,rfl,(Qb rfl),⟨_,_,rfl,(Qb rfl),rfl⟩⟩ rfl rfl) ?_
 iterate 3 refine w_ ?_
 refine lc (Qj 2 Xr ZE rfl rfl (Fresh.of rfl) (nlr rfl))<|lc (Qc (Qa rfl) rfl (Qb rfl) rfl Qz rfl) ?_
 iterate 7 refine w_ ?_
 cases hb4:((Q7 s o).2)
 iterate 5 refine w_ ?_
 subst hO
 have e5:(false:Bool)=(Yg s o):=by
  exact QiA ‹_›
 exact Qi (Qg rfl (Qd rfl)) (by rw[← e5] <;> rfl) rfl
 iterate 5 refine w_ ?_
 refine lc (Ql (UY s ((Q7 s o).1)) QmQ ⟨_,_,rfl,(Qb rfl),⟨_,_,rfl,(Qb rfl),rfl⟩⟩ rfl rfl) ?_
 iterate 9 refine w_ ?_
 cases hb6:((pfV s ((Q7 s o).1)).2)
 iterate 5 refine w_ ?_
 subst hO
 have e7:(false:Bool)=(Yg s o):=by
  exact QiD ‹_› ‹_›
 exact Qi (Qg rfl (Qd rfl)) (by rw[← e7] <;> rfl) rfl
 iterate 5 refine w_ ?_
 subst hO
 have e8:((pfV s ((Q7 s o).1)).1:Bool)=(Yg s o):=by
  exact QlX ‹_› ‹_›
 exact Qi (Qg rfl (Qd rfl)) (by rw[e8] <;> rfl) rfl
theorem QcU (s:(Int×(List (List Int×List Int)))×(List (ByteArray×Int))×(List (Int×Bool))×ByteArray)(o:Int×Int×Bool)[∀s,Decidable (StgOk s)](hz:Ty.tot ZC s≤2000000)(hb:0≤o.2.1∧o.2.1 < (s.2.2.1.length:Int))(hl:∀l∈s.2.2.1,l.1 < (s.2.1.length:Int)):FC Tryz.prog 159 [(true,[dI s.1.1, .dat QZ s.1.2, .dat QJ s.2.1, .dat QR s.2.2.1,dS s.2.2.2]),(true,[dI o.1,dI o.2.1,dB o.2.2])] [] 0 (Yj (lB (X2 s o.2.1&&Yg s o))):=by
 refine QO Tryz.func159 rfl rfl Tryz.ntmps159 fun O_ hO w0_ N0_ X_ h0_ f0_=> ?_
 refine AC.fact (QI (x:= .tmp 0) (i:=0) (Qb rfl) rfl) fun hi1=>AC.fact (QI (x:= .tmp 1) (i:=0) (Qb rfl) rfl) fun hi2=>AC.fact (QI (x:= .tmp 1) (i:=1) (Qb rfl) rfl) fun hi3=> ?_
 refine w_ ?_
 refine lc (Qy 0 (Qb rfl) rfl rfl (Fresh.of rfl) (nlr rfl))<|lc (Qy 1 (Qb rfl) rfl rfl (Fresh.of rfl) (nlr rfl)) ?_
 iterate 7 refine w_ ?_
 obtain ⟨lb,hx5⟩:=gx s.2.2.1 ((o.2.1).toNat)
 have lbh:=hx5
 have lbl:=hl _ (ai hx5)
 refine lc (Qh (Qa rfl) (Qa rfl) Yq ZO rfl (by omega) hx5) ?_
 refine w_ ?_
 refine lc (Qj 2 Q5 WF rfl rfl (Fresh.of rfl) (nlr rfl))<|lc (Qc (Qa rfl) rfl (Qb rfl) rfl ZO rfl) ?_
 iterate 5 refine w_ ?_
 refine AL.fact (QC (x:= .tmp 17) (Qa rfl)) fun hi6=> ?_
 iterate 2 refine w_ ?_
 cases hb7:(decide (lb.1 < 0))
 have hb7':=a7 hb7
 iterate 4 refine w_ ?_
 obtain ⟨sg,hx9⟩:=gx s.2.1 ((lb.1).toNat)
 have sgh:=hx9
 refine lgy rfl rfl (Qh (Qa rfl) (Qa rfl) YE YJ rfl (by omega) hx9) ?_
 iterate 5 refine w_ ?_
 cases hb10:(decide (sg.2=1))
 have hb10':=a7 hb10
 iterate 5 refine w_ ?_
 refine lc (Ql (Ul s o hz).frozenG QbW ⟨_,_,rfl,(Qb rfl),⟨_,_,rfl,(Qb rfl),rfl⟩⟩ rfl rfl) ?_
 iterate 3 refine w_ ?_
 refine lc (Qj 3 Xr ZE rfl rfl (Fresh.of rfl) (nlr rfl))<|lc (Qc (Qa rfl) rfl (Qb rfl) rfl Qz rfl) ?_
 iterate 7 refine w_ ?_
 cases hb11:((ZA s o).2)
 iterate 5 refine w_ ?_
 subst hO
 have e12:(false:Bool)=(X2 s o.2.1&&Yg s o):=by
  exact QrT (Qex lbh ‹_› sgh ‹_›) ‹_›
 exact Qi (Qg rfl (Qd rfl)) (by rw[← e12] <;> rfl) rfl
 iterate 5 refine w_ ?_
 refine lc (Ql (UX s ((ZA s o).1)) QmT ⟨_,_,rfl,(Qb rfl),⟨_,_,rfl,(Qb rfl),rfl⟩⟩ rfl rfl) ?_
 iterate 9 refine w_ ?_
 cases hb13:((pfV s ((ZA s o).1)).2)
 iterate 5 refine w_ ?_
 subst hO
 have e14:(false:Bool)=(X2 s o.2.1&&Yg s o):=by
  exact QrM (Qex lbh ‹_› sgh ‹_›) ‹_› ‹_›
 exact Qi (Qg rfl (Qd rfl)) (by rw[← e14] <;> rfl) rfl
 iterate 5 refine w_ ?_
 subst hO
 have e15:((pfV s ((ZA s o).1)).1:Bool)=(X2 s o.2.1&&Yg s o):=by
  exact Qsj (Qex lbh ‹_› sgh ‹_›) ‹_› ‹_›
 exact Qi (Qg rfl (Qd rfl)) (by rw[e15] <;> rfl) rfl
 have hb10':=a8 hb10
 iterate 5 refine w_ ?_
 subst hO
 have e16:(false:Bool)=(X2 s o.2.1&&Yg s o):=by
  exact Qqo lbh sgh ‹_›
 exact Qi (Qg rfl (Qd rfl)) (by rw[← e16] <;> rfl) rfl
 have hb7':=a8 hb7
 iterate 15 refine w_ ?_
 subst hO
 have e17:(false:Bool)=(X2 s o.2.1&&Yg s o):=by
  exact QoR lbh ‹_›
 exact Qi (Qg rfl (Qd rfl)) (by rw[← e17] <;> rfl) rfl
end Go.Proofs.YtjaadeknhofhpaaGreat
namespace Go.Proofs.YtjaadeknhofhpaaGreat
open Go.RowKit
set_option maxRecDepth 100000
set_option maxHeartbeats 4000000
section
variable [∀s,Decidable (StgOk s)]{s:QX}{P:List (List Int)}{a b:Int}{k i j n:Nat}{m:Bool}{ms:List Bool}{x:List Int}{os_:List Qq}
def VG (s:QX)(a b:Int)(ms:List Bool):List Qq:=(ms.filter fun m=>X2 s b&&Yg s (a,b,m)).map fun m=>(a,b,m)
def QgC (s:QX)(P:List (List Int))(a b:Int):List Qq:=if (P.any fun p=>decide (p=[min a b,max a b]))=true∧a≠b then VG s a b [false,true] else []
def QaF (s:QX)(P:List (List Int))(a:Int)(i:Nat):List Qq:=(List.range i).flatMap fun b=>QgC s P a ((b:Nat):Int)
def Qav (s:QX)(P:List (List Int))(n k:Nat):List Qq:=(List.range k).flatMap fun a=>QaF s P ((a:Nat):Int) n
theorem Qh4 (hx:ms[j]? =some m)(h:(X2 s b&&Yg s (a,b,m))=true):VG s a b (ms.take j)++[(a,b,m)]=VG s a b (ms.take (j+1)):=by
  unfold VG
  rw[Q0 hx,bc,bA]; simp[h]
theorem QhD (hx:ms[j]? =some m)(h:(X2 s b&&Yg s (a,b,m))=false):VG s a b (ms.take j)=VG s a b (ms.take (j+1)):=by
  unfold VG
  rw[Q0 hx,bc,bA]; simp[h]
theorem Qa8:(VG s a b ms).length≤ms.length:=by unfold VG; rw[av]; exact bQ ..
theorem Qmt:(QgC s P a b).length≤2:=by
  unfold QgC
  split
  · exact Qa8
  · exact aw _
theorem QfK:QaF s P a i++QgC s P a (i:Int)=QaF s P a (i+1):=by unfold QaF; rw[cd,c8]; simp
theorem Qgo:Qav s P n k++QaF s P (k:Int) n=Qav s P n (k+1):=by unfold Qav; rw[cd,c8]; simp
theorem Qez:∀i,(QaF s P a i).length≤2*i
  | 0=>aL _
  | i+1=>by rw[← QfK,aa]; have:=Qez i; have:=Qmt (s:=s) (P:=P) (a:=a) (b:=(i:Int)); omega
theorem Qe6 (hn:n≤24):∀k,(Qav s P n k).length≤48*k
  | 0=>aL _
  | k+1=>by rw[← Qgo,aa]; have:=Qe6 hn k; have:=Qez n (s:=s) (P:=P) (a:=(k:Int)); omega
theorem QkX {l:List (List Int)}{y:List Int}(hx:l[k]? =some x)(h:x=y):(true:Bool)=((l.take (k+1)).any fun p=>decide (p=y)):=by rw[Q0 hx]; simp[h]
theorem Qpd {l:List (List Int)}{y:List Int}(hx:l[k]? =some x)(h:¬x=y):((l.take k).any fun p=>decide (p=y))=((l.take (k+1)).any fun p=>decide (p=y)):=by rw[Q0 hx]; simp[h]
theorem QlH {l:List (List Int)}{y:List Int}(h:((l.take k).any fun p=>decide (p=y))=true):(true:Bool)=((l.take (k+1)).any fun p=>decide (p=y)):=by
  obtain ⟨z,h1,h2⟩:=bm.1 h
  exact (bm.2 ⟨z,List.mem_of_mem_take (i:=k) (by rw[List.take_take,show min k (k+1)=k by omega]; exact h1),h2⟩).symm
def Ww (s:QX)(c:Bool)(a b:Int)(ms:List Bool):List Qq:=if c=true∧a≠b then VG s a b ms else []
theorem Hu {c:Bool}(hx:ms[j]? =some m)(hc:c=true)(hab:a≠b)(h:(X2 s b&&Yg s (a,b,m))=true):Ww s c a b (ms.take j)++[(a,b,m)]=Ww s c a b (ms.take (j+1)):=by
  unfold Ww
  rw[if_pos ⟨hc,hab⟩,if_pos ⟨hc,hab⟩,Qh4 hx h]
theorem QbB {c:Bool}(hx:ms[j]? =some m)(h:(X2 s b&&Yg s (a,b,m))=false):Ww s c a b (ms.take j)=Ww s c a b (ms.take (j+1)):=by
  unfold Ww
  rw[QhD hx h]
theorem WC {c:Bool}(h:¬(c=true∧a≠b)):Ww s c a b (ms.take j)=Ww s c a b (ms.take (j+1)):=by
  unfold Ww
  rw[if_neg h,if_neg h]
theorem Qmj {c:Bool}:(Ww s c a b ms).length≤ms.length:=by
  unfold Ww
  split
  · exact Qa8
  · exact aw _
theorem Ql8 (hj:P.length≤j):Ww s ((P.take j).any fun p=>decide (p=[min a b,max a b])) a b [false,true]=QgC s P a b:=by rw[aH hj]; rfl
theorem QoI (hm:([false,true]:List Bool).length≤k)(hj:P.length≤j):os_++QaF s P a i++Ww s ((P.take j).any fun p=>decide (p=[min a (i:Int),max a (i:Int)])) a (i:Int) (([false,true]:List Bool).take k)=os_++QaF s P a (i+1):=by
  rw[aH hm,Ql8 hj,aI,QfK]
theorem Qbd {c:Bool}{os2:List Qq}(h:Ww s c a b (ms.take j)++[(a,b,m)]=Ww s c a b (ms.take (j+1))):(os2++Ww s c a b (ms.take j))++[(a,b,m)]=os2++Ww s c a b (ms.take (j+1)):=by rw[aI,h]
theorem Qle {l:List (List Int)}{y:List Int}(hx:l[k]? =some x)(h:((l.take k).any fun p=>decide (p=y))=false):decide (x=y)=((l.take (k+1)).any fun p=>decide (p=y)):=by rw[Q0 hx,List.any_append,h]; simp
theorem QpN (hi:i=n):Qav s P n k++QaF s P (k:Int) i=Qav s P n (k+1):=by rw[hi,Qgo]
theorem QpC {c:Bool}(hn:n≤24)(hk:k≤n)(hi:i≤n)(hj:ms.length≤2):(Qav s P n k++QaF s P a i++Ww s c a b ms).length≤5000:=by
  have h1:=Qe6 hn k (s:=s) (P:=P)
  have h2:=Qez i (s:=s) (P:=P) (a:=a)
  have h3:=Qmj (s:=s) (c:=c) (a:=a) (b:=b) (ms:=ms)
  simp only[aa]; omega
def YX (s:QX):List Qq:=Qav s (Zq s) s.1.2.length s.1.2.length
end
theorem WG (s:(Int×(List (List Int×List Int)))×(List (ByteArray×Int))×(List (Int×Bool))×ByteArray)[∀s,Decidable (StgOk s)](hz:Ty.tot ZC s≤2000000)(he:(Qe s).2=true):FC Tryz.prog 71 [(true,[dI s.1.1, .dat QZ s.1.2, .dat QJ s.2.1, .dat QR s.2.2.1,dS s.2.2.2])] [] 0 (Uz 32 ZH (YX s)):=by
 obtain ⟨hsg,_⟩:=ZX he
 have hnn:=YL he
 have hsl:=hsg.len
 have hlb:∀l∈s.2.2.1,l.1 < (s.2.1.length:Int):=fun l hl=>by rcases hsg.labs l hl with h | h <;> omega
 refine QO Tryz.func71 rfl rfl Tryz.ntmps71 fun O_ hO w0_ N0_ X_ h0_ f0_=> ?_
 refine AC.fact (QI (x:= .tmp 0) (i:=0) (Qb rfl) rfl) fun hi1=> ?_
 refine w_ ?_
 refine lc (Qy 0 (Qb rfl) rfl rfl (Fresh.of rfl) (nlr rfl)) ?_
 iterate 4 refine w_ ?_
 refine lc (Ql (VF s).frozenG QaD ⟨_,_,rfl,(Qb rfl),rfl⟩ rfl rfl) ?_
 iterate 3 refine w_ ?_
 refine lc (Qj 1 QeK Wf rfl rfl (Fresh.of rfl) (nlr rfl))<|lc (Qc (Qa rfl) rfl (Qb rfl) rfl ZM rfl) ?_
 iterate 5 refine w_ ?_
 refine lc (Ql (Qb1 s ((Qe s).1) Qcu (YL he) VY).frozen QkL ⟨_,_,rfl,(Qb rfl),⟨_,_,rfl,(Qb rfl),rfl⟩⟩ rfl rfl) ?_
 iterate 10 refine w_ ?_
 refine AL.fact (Qo (x:= .tmp 25) (Qa rfl)) fun hl2=> ?_
 iterate 4 refine w_ ?_
 refine AC.wk (Wk.nilS 2 6 32 ZH rfl (Fresh.of rfl) (nlr rfl)) ?_
 refine Qu (fun m_ s_=>∃(k:Nat),k≤s.1.2.length∧m_=s.1.2.length - k∧s_=⟨[(1,lP 0 0),(2,lf (.val (.slice none 0 0))),(5,lf (.dat Uo (ofG ltP (Yl s.1 ((Qe s).1).1)))),(6,lR 3),(26,lI (s.1.2.length:Int)),(27,lI (k:Int))],[(0,some (.box 29 [dI s.1.1, .dat QZ s.1.2, .dat QJ s.2.1, .dat QR s.2.2.1,dS s.2.2.2])),(3,some (.arr 32 ZH (Qav s (ofG ltP (Yl s.1 (((Qe s).1).1))) s.1.2.length k)))]⟩) ⟨0,aw _,rfl,rfl⟩ ?_ ?_
 exact wp [(0,0),(3,2)] ⟨rfl,(Qp (by first | rfl | simp)),trivial⟩
 rintro m_ s_ ⟨k,hk3,hm4,rfl⟩
 iterate 4 refine w_ ?_
 cases hb5:(decide ((k:Int) < (s.1.2.length:Int)))
 have hb5':=a7 hb5
 iterate 8 refine w_ ?_
 subst hO
 refine Z3 (e:=ZH) (xs:=(Qav s (ofG ltP (Yl s.1 (((Qe s).1).1))) s.1.2.length k)) (Qg rfl (Qd rfl)) rfl ?_
 (have hkk:k=s.1.2.length:=(by omega); rw[hkk]; rfl)
 have hb5':=a8 hb5
 iterate 12 refine w_ ?_
 refine AL.fact (Qo (x:= .tmp 32) (Qa rfl)) fun hl6=> ?_
 iterate 4 refine w_ ?_
 refine Qu (fun m_ s_=>∃(i:Nat),i≤s.1.2.length∧m_=s.1.2.length - i∧s_=⟨[(1,lP 0 0),(2,lf (.val (.slice none 0 0))),(5,lf (.dat Uo (ofG ltP (Yl s.1 ((Qe s).1).1)))),(6,lR 4),(7,lI (k:Int)),(26,lI (s.1.2.length:Int)),(27,lI (k:Int)),(28,lB true),(29,lI (k:Int)),(30,lP 0 0),(31,lP 0 1),(32,lf (.dat QZ s.1.2)),(33,lI (s.1.2.length:Int)),(34,lI (i:Int))],[(0,some (.box 29 [dI s.1.1, .dat QZ s.1.2, .dat QJ s.2.1, .dat QR s.2.2.1,dS s.2.2.2])),(4,some (.arr 32 ZH (Qav s (ofG ltP (Yl s.1 (((Qe s).1).1))) s.1.2.length k++QaF s (ofG ltP (Yl s.1 (((Qe s).1).1))) (k:Int) i)))]⟩) ⟨0,aw _,rfl,rfl⟩ ?_ ?_
 exact wp [(0,0),(4,3)] ⟨rfl,(Qp (by simp[QaF])),trivial⟩
 rintro m_ s_ ⟨i,hk7,hm8,rfl⟩
 iterate 4 refine w_ ?_
 cases hb9:(decide ((i:Int) < (s.1.2.length:Int)))
 have hb9':=a7 hb9
 iterate 6 refine w_ ?_
 refine Qm<|QV ⟨k+1,by omega,rfl,rfl⟩ (by omega) ?_
 exact wp [(0,0),(3,4)] ⟨rfl,(Qp (QpN (by omega))),trivial⟩
 have hb9':=a8 hb9
 iterate 14 refine w_ ?_
 refine AL.fact (Qo (x:= .tmp 37) (Qa rfl)) fun hl10=> ?_
 iterate 4 refine w_ ?_
 refine Qu (fun m_ s_=>∃(j:Nat),j≤(ofG ltP (Yl s.1 (((Qe s).1).1))).length∧m_=(ofG ltP (Yl s.1 (((Qe s).1).1))).length - j∧s_=⟨[(1,lP 0 0),(2,lf (.val (.slice none 0 0))),(5,lf (.dat Uo (ofG ltP (Yl s.1 ((Qe s).1).1)))),(6,lR 4),(7,lI (k:Int)),(8,lI (i:Int)),(9,lB (((ofG ltP (Yl s.1 (((Qe s).1).1))).take j).any (fun p=>decide (p=[min (k:Int) (i:Int),max (k:Int) (i:Int)])))),(26,lI (s.1.2.length:Int)),(27,lI (k:Int)),(28,lB true),(29,lI (k:Int)),(30,lP 0 0),(31,lP 0 1),(32,lf (.dat QZ s.1.2)),(33,lI (s.1.2.length:Int)),(34,lI (i:Int)),(35,lB true),(36,lI (i:Int)),(37,lf (.dat Uo (ofG ltP (Yl s.1 ((Qe s).1).1)))),(38,lI ((ofG ltP (Yl s.1 ((Qe s).1).1)).length:Int)),(39,lI (j:Int))],[(0,some (.box 29 [dI s.1.1, .dat QZ s.1.2, .dat QJ s.2.1, .dat QR s.2.2.1,dS s.2.2.2])),(4,some (.arr 32 ZH (Qav s (ofG ltP (Yl s.1 (((Qe s).1).1))) s.1.2.length k++QaF s (ofG ltP (Yl s.1 (((Qe s).1).1))) (k:Int) i)))]⟩) ⟨0,aw _,rfl,rfl⟩ ?_ ?_
 exact Wk.of [(0,0),(4,4)] rfl ⟨rfl,rfl,rfl,rfl,rfl,rfl,(show some (lB false)=some (lB (((ofG ltP (Yl s.1 (((Qe s).1).1))).take 0).any (fun p=>decide (p=[min (k:Int) (i:Int),max (k:Int) (i:Int)])))) from congrArg (fun z_=>some (lB z_)) (by simp)),rfl,rfl,rfl,rfl,rfl,rfl,rfl,rfl,rfl,rfl,rfl,rfl,rfl,rfl,trivial⟩ ⟨rfl,rfl,trivial⟩ rfl rfl
 rintro m_ s_ ⟨j,hk12,hm13,rfl⟩
 iterate 4 refine w_ ?_
 cases hb14:(decide ((j:Int) < ((ofG ltP (Yl s.1 ((Qe s).1).1)).length:Int)))
 have hb14':=a7 hb14
 iterate 4 refine w_ ?_
 refine lc (Qf 5 (e:= .bool) Qdg Uj Qrc rfl ⟨_,_,rfl,(Evl.ev Xh),⟨_,_,rfl,(Evl.ev Xh),rfl⟩⟩ (ae.1 rfl) ⟨_,_,_,_,rfl,⟨rfl,rfl⟩,⟨_,_,_,_,rfl,⟨rfl,rfl⟩,⟨rfl,rfl⟩,rfl⟩,rfl⟩ (by decide) rfl rfl (Fresh.of rfl) (nlr rfl)) ?_
 iterate 4 refine w_ ?_
 refine Qu (fun m_ s_=>∃(m:Nat),m≤([false,true]).length∧m_=([false,true]).length - m∧s_=⟨[(1,lP 0 0),(2,lf (.val (.slice none 0 0))),(5,lf (.dat Uo (ofG ltP (Yl s.1 ((Qe s).1).1)))),(6,lR 6),(7,lI (k:Int)),(8,lI (i:Int)),(9,lB (((ofG ltP (Yl s.1 (((Qe s).1).1))).take j).any (fun p=>decide (p=[min (k:Int) (i:Int),max (k:Int) (i:Int)])))),(26,lI (s.1.2.length:Int)),(27,lI (k:Int)),(28,lB true),(29,lI (k:Int)),(30,lP 0 0),(31,lP 0 1),(32,lf (.dat QZ s.1.2)),(33,lI (s.1.2.length:Int)),(34,lI (i:Int)),(35,lB true),(36,lI (i:Int)),(37,lf (.dat Uo (ofG ltP (Yl s.1 ((Qe s).1).1)))),(38,lI ((ofG ltP (Yl s.1 ((Qe s).1).1)).length:Int)),(39,lI (j:Int)),(40,lB false),(56,lR 5),(57,lI (([false,true]).length:Int)),(58,lI (m:Int))],[(0,some (.box 29 [dI s.1.1, .dat QZ s.1.2, .dat QJ s.2.1, .dat QR s.2.2.1,dS s.2.2.2])),(5,some (.arr 4 .bool ([false,true]))),(6,some (.arr 32 ZH (Qav s (ofG ltP (Yl s.1 (((Qe s).1).1))) s.1.2.length k++QaF s (ofG ltP (Yl s.1 (((Qe s).1).1))) (k:Int) i++Ww s (((ofG ltP (Yl s.1 (((Qe s).1).1))).take j).any (fun p=>decide (p=[min (k:Int) (i:Int),max (k:Int) (i:Int)]))) (k:Int) (i:Int) (([false,true]:List Bool).take m))))]⟩) ⟨0,aw _,rfl,rfl⟩ ?_ ?_
 exact wp [(0,0),(5,5),(6,4)] ⟨rfl,rfl,(Qp (by simp[Ww,VG])),trivial⟩
 rintro m_ s_ ⟨m,hk15,hm16,rfl⟩
 have h2l:(([false,true]:List Bool).length)=2:=rfl
 iterate 4 refine w_ ?_
 cases hb17:(decide ((m:Int) < (([false,true]).length:Int)))
 have hb17':=a7 hb17
 iterate 6 refine w_ ?_
 refine Qm<|QV ⟨i+1,by omega,rfl,rfl⟩ (by omega) ?_
 exact wp [(0,0),(4,6)] ⟨rfl,(Qp (QoI (by omega) (by omega))),trivial⟩
 have hb17':=a8 hb17
 iterate 5 refine w_ ?_
 refine lc (Qw (e:= .bool) (Qa rfl) rfl (Qa rfl) Qdg Uj rfl (by omega) (by first | omega | (simp only[aq]; omega))) ?_
 obtain ⟨mg,hx19⟩:=gx ([false,true]) m
 have mgh:=hx19
 refine lc (QP (e:= .bool) (Qa rfl) rfl hx19 rfl Uj rfl rfl) ?_
 iterate 6 refine w_ ?_
 refine lc (QA Qds ⟨_,_,rfl,(Qb rfl),⟨_,_,rfl,(Qb rfl),⟨_,_,rfl,(Qb rfl),rfl⟩⟩⟩ (ae.1 rfl) rfl rfl)<|lc (Qj 7 ZH Yz rfl rfl (Fresh.of rfl) (nlr rfl))<|lc (Qc (Qa rfl) rfl (Qb rfl) rfl Zf rfl) ?_
 iterate 4 refine w_ ?_
 cases hb20:(((ofG ltP (Yl s.1 (((Qe s).1).1))).take j).any (fun p=>decide (p=[min (k:Int) (i:Int),max (k:Int) (i:Int)])))
 iterate 16 refine w_ ?_
 refine Qm<|QV ⟨m+1,by omega,rfl,rfl⟩ (by omega) ?_
 exact wp [(0,0),(5,5),(6,6)] ⟨rfl,rfl,(Qp (by first | exact Qbd (Hu mgh rfl (by omega) ‹_›) | exact congrArg _ (QbB mgh ‹_›) | exact congrArg _ (WC (fun h=>h.2 (by omega))) | exact congrArg _ (WC (fun h=>by cases h.1)))),trivial⟩
 iterate 5 refine w_ ?_
 cases hb21:(!decide ((k:Int)=(i:Int)))
 have hb21':((k:Int)=(i:Int)):=Zm hb21
 iterate 11 refine w_ ?_
 refine Qm<|QV ⟨m+1,by omega,rfl,rfl⟩ (by omega) ?_
 exact wp [(0,0),(5,5),(6,6)] ⟨rfl,rfl,(Qp (by first | exact Qbd (Hu mgh rfl (by omega) ‹_›) | exact congrArg _ (QbB mgh ‹_›) | exact congrArg _ (WC (fun h=>h.2 (by omega))) | exact congrArg _ (WC (fun h=>by cases h.1)))),trivial⟩
 have hb21':¬((k:Int)=(i:Int)):=Zx hb21
 iterate 2 refine w_ ?_
 refine lgy rfl rfl (Ql (QcU s ((k:Int),(i:Int),mg) hz (by show (0:Int)≤(i:Int)∧(i:Int) < _; omega) hlb) Qi3 ⟨_,_,rfl,(Qb rfl),⟨_,_,rfl,(Qb rfl),rfl⟩⟩ rfl rfl) ?_
 iterate 2 refine w_ ?_
 cases hb22:(X2 s ((k:Int),(i:Int),mg).2.1&&Yg s ((k:Int),(i:Int),mg))
 iterate 6 refine w_ ?_
 refine Qm<|QV ⟨m+1,by omega,rfl,rfl⟩ (by omega) ?_
 exact wp [(0,0),(5,5),(6,6)] ⟨rfl,rfl,(Qp (by first | exact Qbd (Hu mgh rfl (by omega) ‹_›) | exact congrArg _ (QbB mgh ‹_›) | exact congrArg _ (WC (fun h=>h.2 (by omega))) | exact congrArg _ (WC (fun h=>by cases h.1)))),trivial⟩
 iterate 4 refine w_ ?_
 refine lc (Qf 8 (e:=ZH) Xn Zf Yz rfl ⟨_,_,rfl,(Qb rfl),rfl⟩ (ae.1 rfl) ⟨_,_,_,_,rfl,⟨[dI (k:Int)],[dI (i:Int),dB mg],_,_,_,_,rfl,rfl,⟨rfl,rfl⟩,⟨[dI (i:Int)],[dB mg],_,_,_,_,rfl,rfl,⟨rfl,rfl⟩,⟨rfl,rfl⟩,rfl⟩,rfl⟩,⟨rfl,rfl⟩,rfl⟩ (by decide) rfl rfl (Fresh.of rfl) (nlr rfl))<|lc (QH 9 (Qa rfl) rfl (Qa rfl) rfl rfl Xn Qjr (by (have:=QpC (s:=s) (P:=ofG ltP (Yl s.1 (((Qe s).1).1))) (n:=s.1.2.length) (k:=k) (i:=i) (a:=(k:Int)) (b:=(i:Int)) (c:=true) (ms:=([false,true]:List Bool).take m) hnn (by omega) (by omega) (by simp only[ab]; omega); simp only[ah,aj] at*; omega)) rfl (Fresh.of rfl) (nlr rfl)) ?_
 refine w_ ?_
 refine Qm ?_
 iterate 4 refine w_ ?_
 refine Qm<|QV ⟨m+1,by omega,rfl,rfl⟩ (by omega) ?_
 exact wp [(0,0),(5,5),(6,9)] ⟨rfl,rfl,(Qp (by first | exact Qbd (Hu mgh rfl (by omega) ‹_›) | exact congrArg _ (QbB mgh ‹_›) | exact congrArg _ (WC (fun h=>h.2 (by omega))) | exact congrArg _ (WC (fun h=>by cases h.1)))),trivial⟩
 have hb14':=a8 hb14
 iterate 5 refine w_ ?_
 obtain ⟨x23,hx24⟩:=gx (ofG ltP (Yl s.1 ((Qe s).1).1)) j
 refine lc (Qh (Qa rfl) (Qa rfl) Zi QU rfl (by omega) hx24) ?_
 iterate 6 refine w_ ?_
 cases hb25:(((ofG ltP (Yl s.1 (((Qe s).1).1))).take j).any (fun p=>decide (p=[min (k:Int) (i:Int),max (k:Int) (i:Int)])))
 iterate 3 refine w_ ?_
 refine lgy rfl rfl (Ql (Jl (k:Int) (i:Int)) QdS ⟨_,_,rfl,(Qb rfl),⟨_,_,rfl,(Qb rfl),rfl⟩⟩ rfl rfl) ?_
 iterate 2 refine w_ ?_
 refine lgy rfl rfl (Ql (Uc (k:Int) (i:Int)) Qal ⟨_,_,rfl,(Qb rfl),⟨_,_,rfl,(Qb rfl),rfl⟩⟩ rfl rfl)<|lgy rfl rfl (Qf 10 (e:= .int) QN QL Yu rfl ⟨_,_,rfl,(Qb rfl),⟨_,_,rfl,(Qb rfl),rfl⟩⟩ (ae.1 rfl) ⟨_,_,_,_,rfl,⟨rfl,rfl⟩,⟨_,_,_,_,rfl,⟨rfl,rfl⟩,⟨rfl,rfl⟩,rfl⟩,rfl⟩ (by decide) rfl rfl (Fresh.of rfl) (nlr rfl))<|lgy rfl rfl (Yv (Xa x23 ([min (k:Int) (i:Int),max (k:Int) (i:Int)])) W6 ⟨_,_,rfl,(Ev.b (Qb rfl)),⟨_,_,rfl,(U3 (Qa rfl) rfl),rfl⟩⟩ rfl rfl rfl) ?_
 iterate 2 refine w_ ?_
 refine Qm ?_
 iterate 4 refine w_ ?_
 refine Qm<|QV ⟨j+1,by omega,rfl,rfl⟩ (by omega) ?_
 exact Wk.of [(0,0),(4,4)] rfl ⟨rfl,rfl,rfl,rfl,rfl,rfl,(show some (lB (decide (x23=([min (k:Int) (i:Int),max (k:Int) (i:Int)]))))=some (lB (((ofG ltP (Yl s.1 (((Qe s).1).1))).take (j+1)).any (fun p=>decide (p=[min (k:Int) (i:Int),max (k:Int) (i:Int)])))) from congrArg (fun z_=>some (lB z_)) (by first | exact QlH ‹_› | exact Qle hx24 ‹_› | exact QkX hx24 (a8 ‹_›) | exact Qpd hx24 (a7 ‹_›))),rfl,rfl,rfl,rfl,rfl,rfl,rfl,rfl,rfl,rfl,rfl,rfl,rfl,rfl,trivial⟩ ⟨rfl,rfl,trivial⟩ rfl rfl
 iterate 11 refine w_ ?_
 refine Qm ?_
 iterate 4 refine w_ ?_
 refine Qm<|QV ⟨j+1,by omega,rfl,rfl⟩ (by omega) ?_
 exact Wk.of [(0,0),(4,4)] rfl ⟨rfl,rfl,rfl,rfl,rfl,rfl,(show some (lB true)=some (lB (((ofG ltP (Yl s.1 (((Qe s).1).1))).take (j+1)).any (fun p=>decide (p=[min (k:Int) (i:Int),max (k:Int) (i:Int)])))) from congrArg (fun z_=>some (lB z_)) (by first | exact QlH ‹_› | exact Qle hx24 ‹_› | exact QkX hx24 (a8 ‹_›) | exact Qpd hx24 (a7 ‹_›))),rfl,rfl,rfl,rfl,rfl,rfl,rfl,rfl,rfl,rfl,rfl,rfl,rfl,rfl,trivial⟩ ⟨rfl,rfl,trivial⟩ rfl rfl
section
variable [∀s,Decidable (StgOk s)]{s:QX}
theorem QbJ (h:(sgV s).2=true):(Qe s).2=true:=by
  cases he:(Qe s).2 with
  | true=>rfl
  | false=>rw[VV he] at h; cases h
def ZP (s:QX):List Qq:=if (sgV s).2=true then YX s else []
theorem J0 (h:(sgV s).2=true):YX s=ZP s:=by unfold ZP; rw[if_pos h]
theorem Qdo (h:(sgV s).2=false):[]=ZP s:=by unfold ZP; rw[if_neg (by rw[h]; decide)]
end
theorem Yd (s:(Int×(List (List Int×List Int)))×(List (ByteArray×Int))×(List (Int×Bool))×ByteArray)[∀s,Decidable (StgOk s)](hz:Ty.tot ZC s≤2000000):FC Tryz.prog 20 [(true,[dI s.1.1, .dat QZ s.1.2, .dat QJ s.2.1, .dat QR s.2.2.1,dS s.2.2.2])] [] 0 (Is (PV.tup [(false,[.ref 0]),(false,[dB ((sgV s).2)])]) [(0,some (.arr 32 ZH (ZP s)))]):=by
 refine QO Tryz.func20 rfl rfl Tryz.ntmps20 fun O_ hO w0_ N0_ X_ h0_ f0_=> ?_
 refine AC.fact (QI (x:= .tmp 0) (i:=0) (Qb rfl) rfl) fun hi1=> ?_
 refine w_ ?_
 refine lc (Qy 0 (Qb rfl) rfl rfl (Fresh.of rfl) (nlr rfl)) ?_
 iterate 6 refine w_ ?_
 refine lc (Ql (Xe s) Kt ⟨_,_,rfl,(Qb rfl),rfl⟩ rfl rfl) ?_
 iterate 2 refine w_ ?_
 cases hb2:((sgV s).2)
 iterate 5 refine w_ ?_
 refine AC.wk (Wk.nilS 1 2 32 ZH rfl (Fresh.of rfl) (nlr rfl))<|Q4 ?_
 subst hO
 have e3:(false:Bool)=((sgV s).2):=by
  simp_all
 exact QD _ _ [(0,1)] (QB rfl (Qd rfl) (Qd rfl)) (by rw[← e3] <;> rfl) ⟨(Qp (by exact Qdo ‹_›)),trivial⟩ rfl rfl
 iterate 4 refine w_ ?_
 refine lc (YF 2 (WG s hz (QbJ ‹_›)) Qcn ⟨_,_,rfl,(Qb rfl),rfl⟩ rfl (Fresh.of rfl) (nlr rfl)) ?_
 iterate 4 refine w_ ?_
 subst hO
 have e4:(true:Bool)=((sgV s).2):=by
  simp_all
 exact QD _ _ [(0,2)] (QB rfl (Qd rfl) (Qd rfl)) (by rw[← e4] <;> rfl) ⟨(Qp (by exact J0 ‹_›)),trivial⟩ rfl rfl
end Go.Proofs.YtjaadeknhofhpaaGreat
namespace Go.Proofs.YtjaadeknhofhpaaGreat
open Go.RowKit
set_option maxRecDepth 100000
set_option maxHeartbeats 4000000
def swp (p:List Int):List Int:=[(p[1]?).getD 0,(p[0]?).getD 0]
def Qmo (P:List (List Int))(n:Nat):List (List Int):=(List.range n).flatMap fun a:Nat=>((List.range n).filter fun b:Nat=>(P.any fun p=>decide (p=[min (a:Int) (b:Int),max (a:Int) (b:Int)]))&&decide ((a:Int)≠(b:Int))).map fun b:Nat=>[(a:Int),(b:Int)]
section
variable {P:List (List Int)}{n:Nat}{x:List Int}{ms:List ByteArray}{g:Xj}
theorem QiU (h:x∈Yl g ms):∃t u:Int,x=[t,u]∧t < u∧0≤t∧u < (g.2.length:Int):=by
  unfold Yl Js UE at h
  simp only[List.mem_flatMap,bM,bX,aF,aN] at h
  obtain ⟨mk,_,t,ht,u,⟨hu,h1,_⟩,rfl⟩:=h
  obtain ⟨i,hi⟩:=aS.1 ht
  obtain ⟨j,hj⟩:=aS.1 hu
  exact ⟨t,u,rfl,h1,(YW hi).1,(YW hj).2⟩
theorem Qn2 (hP:∀x∈P,∃t u:Int,x=[t,u]∧t < u∧0≤t∧u < (n:Int)):x∈Qmo P n↔x∈P++P.map swp:=by
  unfold Qmo
  simp only[List.mem_flatMap,cj,bM,bX,aF,aN,bm,aJ]
  constructor
  · rintro ⟨a, ha, b, ⟨hb, ⟨p, hp, rfl⟩, hne⟩, rfl⟩
    rcases Int.lt_or_gt_of_ne hne with h | h
    · left; rwa [show min (a:Int) (b:Int)=a by omega,show max (a:Int) (b:Int)=b by omega] at hp
    · right; exact ⟨_,hp,by rw[show min (a:Int) (b:Int)=b by omega,show max (a:Int) (b:Int)=a by omega]; rfl⟩
  · rintro (h | ⟨p, hp, rfl⟩)
    · obtain ⟨t, u, rfl, h1, h2, h3⟩ := hP x h
      refine ⟨t.toNat,by omega,u.toNat,⟨by omega,⟨_,h, ?_⟩,by omega⟩, ?_⟩
      · rw[show min (t.toNat:Int) (u.toNat:Int)=t by omega,show max (t.toNat:Int) (u.toNat:Int)=u by omega]
      · rw[show (t.toNat:Int)=t by omega,show (u.toNat:Int)=u by omega]
    · obtain ⟨t, u, rfl, h1, h2, h3⟩ := hP p hp
      refine ⟨u.toNat,by omega,t.toNat,⟨by omega,⟨_,hp, ?_⟩,by omega⟩, ?_⟩
      · rw[show min (u.toNat:Int) (t.toNat:Int)=t by omega,show max (u.toNat:Int) (t.toNat:Int)=u by omega]
      · rw[show (t.toNat:Int)=t by omega,show (u.toNat:Int)=u by omega]; rfl
theorem Qqv {a b c d:Int}(h:a < c):ltP [a,b] [c,d]=true:=by unfold ltP; rw[if_pos h]
theorem QqJ {a b d:Int}(h:b < d):ltP [a,b] [a,d]=true:=by unfold ltP; rw[if_neg (by omega),if_neg (by omega)]; unfold ltP; rw[if_pos h]
theorem QoO:(Qmo P n).Pairwise fun x y=>ltP x y=true:=by
  unfold Qmo
  rw[List.pairwise_flatMap]
  refine ⟨fun a _=> ?_, ?_⟩
  · rw [cH]
    exact (List.pairwise_lt_range.filter _).imp fun h=>QqJ (by omega)
  · refine List.pairwise_lt_range.imp fun {a b} h x hx y hy => ?_
    obtain ⟨_,_,rfl⟩:=bM.1 hx
    obtain ⟨_,_,rfl⟩:=bM.1 hy
    exact Qqv (by omega)
theorem Qeb {l:List (List Int)}(h:l.Pairwise fun x y=>ltP x y=true):l.Nodup:=h.imp fun h e=>by rw[e,HK] at h; cases h
theorem Qoz (hs:P.Pairwise fun x y=>ltP x y=true)(hP:∀x∈P,∃t u:Int,x=[t,u]∧t < u∧0≤t∧u < (n:Int)):Yn (P++P.map swp)=Qmo P n:=by
  have hn:(P++P.map swp).Nodup:=by
    refine b7.2 ⟨Qeb hs, ?_,fun a ha b hb e=> ?_⟩
    · refine List.Pairwise.map (R := fun x y => x ∈ P ∧ y ∈ P ∧ x ≠ y) _ (fun x y h e => ?_) ?_
      · obtain ⟨hx, hy, hne⟩ := h
        obtain ⟨t,u,rfl,_⟩:=hP x hx
        obtain ⟨t',u',rfl,_⟩:=hP y hy
        simp[swp] at e
        exact hne (by rw[e.1,e.2])
      · exact List.Pairwise.imp_of_mem (fun hx hy h=>⟨hx,hy,h⟩) (Qeb hs)
    · obtain ⟨p, hp, rfl⟩ := bM.1 hb
      obtain ⟨t,u,rfl,h1,_⟩:=hP a ha
      obtain ⟨t',u',rfl,h1',_⟩:=hP p hp
      simp[swp] at e
      omega
  have hn2:(Yn (P++P.map swp)).Nodup:=(XY _).nodup_iff.2 hn
  refine Qfc.ext ?_ QoO fun x=> ?_
  · refine ((VX _).and hn2).imp fun ⟨h1, h2⟩ => ?_
    rcases QbC _ _ with h | h | h
    · exact h
    · exact absurd h h2
    · rw[h1] at h; cases h
  · rw[(XY _).mem_iff,Qn2 hP]
theorem Qlg {α β γ:Type}(c:α→Bool)(f:α→β)(h:β→List γ):∀l:List α,((l.filter c).map f).flatMap h=l.flatMap fun a=>if c a=true then h (f a) else []
  | []=>rfl
  | a :: l=>by
    rw[d8,c7,← Qlg c f h l]
    split <;> simp
variable [∀s,Decidable (StgOk s)]{s:QX}
theorem Qid:YX s=(Yn (Zq s++(Zq s).map swp)).flatMap fun p=>VG s ((p[0]?).getD 0) ((p[1]?).getD 0) [false,true]:=by
  have hc:Zq s=ofG ltP (Yl s.1 (Qe s).1.1):=rfl
  rw[Qoz (P:=Zq s) (n:=s.1.2.length) (hc▸Qdd Qfc _) fun x hx=>QiU ((KW Qfc _).1 (hc▸hx))]
  unfold YX Qav Qmo QaF
  rw[List.flatMap_assoc]
  refine congrArg (fun f=>(List.range s.1.2.length).flatMap f) (funext fun a=> ?_)
  rw[Qlg]
  refine congrArg (fun f=>(List.range s.1.2.length).flatMap f) (funext fun b=> ?_)
  unfold QgC
  simp only[aF,aN]
  rfl
end
end Go.Proofs.YtjaadeknhofhpaaGreat
namespace Go.Proofs.YtjaadeknhofhpaaGreat
open Go.RowKit
set_option maxRecDepth 100000
set_option maxHeartbeats 4000000
theorem Ka (s:List (List Int))(hl:s.length≤1000000):FC Tryz.prog 120 [(false,[.ref 0])] [(0,some (.fz 95 Qs s))] 1 (Is (lf (.dat Uo s)) [(0,some (.fz 95 Qs s))]):=by
 refine QO Tryz.func120 rfl rfl Tryz.ntmps120 fun O_ hO w0_ N0_ X_ h0_ f0_=> ?_
 iterate 6 refine w_ ?_
 refine Qm1 (Qa rfl) rfl Evl.val Zi rfl fun b1 hnil=> ?_
 refine w_ ?_
 cases hb2:(b1)
 iterate 3 refine w_ ?_
 refine lc (Qf 1 (e:=Qs) Zi QU XX rfl rfl (ae.1 rfl) ⟨rfl,rfl⟩ (by decide) rfl rfl (Fresh.of rfl) (nlr rfl)) ?_
 refine w_ ?_
 refine AL.wk (Wk.toFz (q:=1) rfl)<|lc (Qfs 2 (Qa rfl) rfl (Qa rfl) rfl Zi Va (by first | omega | (simp only[aa,av,ab,ah,aj]; omega) | (simp only[aa,ay,ab,ah,aj]; omega)) rfl (Fresh.of rfl) (nlr rfl)) ?_
 iterate 2 refine w_ ?_
 refine AC.wk (QaM (i:=2) (q:=2) rfl rfl)<|Q4 ?_
 subst hO
 have e3:(([])++s:(Uo:Ty).Den)=s:=by
  rfl
 exact QD _ _ [(0,0)] (Qg rfl (Qd rfl)) (by rw[e3] <;> rfl) ⟨rfl,trivial⟩ rfl rfl
 iterate 4 refine w_ ?_
 refine AC.wk (Wk.nilS 3 2 95 Qs rfl (Fresh.of rfl) (nlr rfl))<|AC.wk (Wk.toFz (q:=3) rfl)<|AC.wk (QaM (i:=2) (q:=3) rfl rfl)<|Q4 ?_
 subst hO
 have e4:([]:(Uo:Ty).Den)=s:=by
  exact (hnil ‹_›).symm
 exact QD _ _ [(0,0)] (Qg rfl (Qd rfl)) (by rw[e4] <;> rfl) ⟨rfl,trivial⟩ rfl rfl
end Go.Proofs.YtjaadeknhofhpaaGreat
