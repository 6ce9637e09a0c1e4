/- Walks over abstract states: whether an order may be put in, both sides. -/
import Derived.Test.YtndabgcpnmeeoaaGreatOCc
import Derived.Test.YtndabgcpnmeeoaaGreatOWw
import Derived.Test.YtndabgcpnmeeoaaGreatOWj
import Derived.Test.YtndabgcpnmeeoaaGreatOUj
import Derived.Test.YtndabgcpnmeeoaaGreatOFz
import Derived.Test.YtndabgcpnmeeoaaGreatOAv
import Derived.Test.YtndabgcpnmeeoaaGreatOAl
set_option linter.unusedSimpArgs false
set_option linter.unusedVariables false
set_option linter.unusedSectionVars false
namespace Go.Proofs.YtndabgcpnmeeoaaGreat
open Go.RowKit
set_option maxRecDepth 100000
set_option maxHeartbeats 4000000
section
variable [∀s,Decidable (StgOk s)]{s:Qy}{o:Qp}
def Ym (s:Qy)(o:Qp):Bool:=(QK s o).2&&((pfV s (QK s o).1).2&&(pfV s (QK s o).1).1)
def XV (s:Qy)(b:Int):Bool:=decide (0≤((s.2.2.1[b.toNat]?).getD (0,false)).1)&& !decide (((s.2.1[(((s.2.2.1[b.toNat]?).getD (0,false)).1).toNat]?).getD (ByteArray.empty,0)).2=1)
theorem QjE (h:(QK s o).2=false):false=Ym s o:=by unfold Ym; rw[h]; rfl
theorem QjF (h:(QK s o).2=true)(a:(pfV s (QK s o).1).2=false):false=Ym s o:=by unfold Ym; rw[h,a]; rfl
theorem QnH (h:(QK s o).2=true)(a:(pfV s (QK s o).1).2=true):(pfV s (QK s o).1).1=Ym s o:=by unfold Ym; rw[h,a]; rfl
theorem Um:(Zu s o).2=(QK s o).2∧((Zu s o).2=true→(Zu s o).1=(QK s o).1):=by
 unfold Zu QK
 split
 ·unfold ZG
  split
  ·rename_i h; exact ⟨aY h,fun _=>rfl⟩
  ·rename_i h; exact ⟨aQ h,fun a=>absurd (ab a) h⟩
 ·exact ⟨rfl,fun h=>by cases h⟩
theorem Qsm {l:Int×Bool}(a:s.2.2.1[(o.2.1).toNat]? =some l)(h:l.1 < 0):false=(XV s o.2.1&&Ym s o):=by unfold XV; rw[a]; simp; intro b; omega
theorem QuD {l:Int×Bool}{g:QB}(b:s.2.2.1[(o.2.1).toNat]? =some l)(a:s.2.1[(l.1).toNat]? =some g)(h:g.2=1):false=(XV s o.2.1&&Ym s o):=by unfold XV; rw[b]; simp[a,h]
theorem Qfx {l:Int×Bool}{g:QB}(b:s.2.2.1[(o.2.1).toNat]? =some l)(h0:¬l.1 < 0)(a:s.2.1[(l.1).toNat]? =some g)(h:¬g.2=1):XV s o.2.1=true:=by unfold XV; rw[b]; simp[a,h]; omega
theorem Qwb (a:XV s o.2.1=true)(h:(Zu s o).2=false):false=(XV s o.2.1&&Ym s o):=by rw[a,← QjE (by rw[← Um.1]; exact h)]; rfl
theorem Qwc (b:XV s o.2.1=true)(h:(Zu s o).2=true)(a:(pfV s (Zu s o).1).2=false):false=(XV s o.2.1&&Ym s o):=by
 rw[Um.2 h] at a
 rw[b,← QjF (by rw[← Um.1]; exact h) a]; rfl
theorem QxW (b:XV s o.2.1=true)(h:(Zu s o).2=true)(a:(pfV s (Zu s o).1).2=true):(pfV s (Zu s o).1).1=(XV s o.2.1&&Ym s o):=by
 rw[Um.2 h] at a ⊢
 rw[b,QnH (by rw[← Um.1]; exact h) a]; rfl
end
theorem JV (s:YA)(o:Qo6)[∀s,Decidable (StgOk s)](f:Ty.tot Zl s≤2000000):FC Tryz.prog 116 [(true,[dI s.1.1, .dat QF s.1.2, .dat Qo s.2.1, .dat Qw s.2.2.1,dS s.2.2.2]),(true,[dI o.1,dI o.2.1,dB o.2.2])] [] 0 (Za (lB (Ym s o))):=by
 refine Qn Tryz.func116 rfl rfl Tryz.ntmps116 fun h a g b i d c=> ?_
 refine acG 0 0 fun _=> ?_
 refine acG 1 0 fun _=> ?_
 refine acG 1 1 fun _=> ?_
 refine w_ ?_
 refine xbx 0 ?_
 refine xbx 1 ?_
 refine w5 ?_
 refine lc (dK (XN s o f).frozenG Qcf) ?_
 refine w3 ?_
 refine lc (xal 2 YM Q5) ?_
 refine w8 ?_
 refine cx_ (fun _=> ?_) fun _=> ?_
 refine w3 ?_
 refine Qe<|fqB a ?_
 exact QjE ‹_›
 refine w4 ?_
 refine lc (dK (YB s ((QK s o).1)) Qcg) ?_
 refine w9 ?_
 cases e:((pfV s ((QK s o).1)).2)
 refine w4 ?_
 refine Qe<|fqB a ?_
 exact QjF ‹_› ‹_›
 refine w4 ?_
 refine Qe<|fqB a ?_
 exact QnH ‹_› ‹_›
theorem Qdj (s:YA)(o:Qo6)[∀s,Decidable (StgOk s)](p:Ty.tot Zl s≤2000000)(hb:0≤o.2.1∧o.2.1 < (s.2.2.1.length:Int))(n:∀l∈s.2.2.1,l.1 < (s.2.1.length:Int)):FC Tryz.prog 252 [(true,[dI s.1.1, .dat QF s.1.2, .dat Qo s.2.1, .dat Qw s.2.2.1,dS s.2.2.2]),(true,[dI o.1,dI o.2.1,dB o.2.2])] [] 0 (Za (lB (XV s o.2.1&&Ym s o))):=by
 refine Qn Tryz.func252 rfl rfl Tryz.ntmps252 fun t c r j u m k=> ?_
 refine acG 0 0 fun _=> ?_
 refine acG 1 0 fun _=> ?_
 refine acG 1 1 fun _=> ?_
 refine w_ ?_
 refine xbx 0 ?_
 refine xbx 1 ?_
 refine w7 ?_
 obtain ⟨i,f⟩:=gx s.2.2.1 ((o.2.1).toNat)
 have a:=f
 have q:=n _ (ai f)
 refine w2 ?_
 refine lc (xal 2 QL Xy) ?_
 refine w6 ?_
 refine alI 17 fun _=> ?_
 refine w2 ?_
 cases d:(decide (i.1 < 0))
 have e:=aa d
 refine w4 ?_
 obtain ⟨sg,g⟩:=gx s.2.1 ((i.1).toNat)
 have b:=g
 refine w6 ?_
 refine cd_ (fun _ _=> ?_) fun _ _=> ?_
 refine w4 ?_
 refine lc (dK (J1 s o p).frozenG QeA) ?_
 refine w3 ?_
 refine lc (xal 3 YM Q5) ?_
 refine w8 ?_
 refine cx_ (fun _=> ?_) fun _=> ?_
 refine w3 ?_
 refine Qe<|fqB c ?_
 exact Qwb (Qfx a ‹_› b ‹_›) ‹_›
 refine w4 ?_
 refine lc (dK (XS s ((Zu s o).1)) QgR) ?_
 refine w9 ?_
 cases h:((pfV s ((Zu s o).1)).2)
 refine w4 ?_
 refine Qe<|fqB c ?_
 exact Qwc (Qfx a ‹_› b ‹_›) ‹_› ‹_›
 refine w4 ?_
 refine Qe<|fqB c ?_
 exact QxW (Qfx a ‹_› b ‹_›) ‹_› ‹_›
 refine w3 ?_
 refine Qe<|fqB c ?_
 exact QuD a b ‹_›
 have e:=ab d
 refine w14 ?_
 refine Qe<|fqB c ?_
 exact Qsm a ‹_›
end Go.Proofs.YtndabgcpnmeeoaaGreat
namespace Go.Proofs.YtndabgcpnmeeoaaGreat
open Go.RowKit
set_option maxRecDepth 100000
set_option maxHeartbeats 4000000
section
variable [∀s,Decidable (StgOk s)]{s:Qy}{P:List (List Int)}{a b:Int}{k i j n:Nat}{m:Bool}{ms:List Bool}{x:List Int}{os_:List Qp}
def W4 (s:Qy)(a b:Int)(ms:List Bool):List Qp:=(ms.filter fun m=>XV s b&&Ym s (a,b,m)).map fun m=>(a,b,m)
def QgI (s:Qy)(P:List (List Int))(a b:Int):List Qp:=if (P.any fun p=>decide (p=[min a b,max a b]))=true∧a≠b then W4 s a b [false,true] else []
def QaR (s:Qy)(P:List (List Int))(a:Int)(i:Nat):List Qp:=(List.range i).flatMap fun b=>QgI s P a ((b:Nat):Int)
def Qb4 (s:Qy)(P:List (List Int))(n k:Nat):List Qp:=(List.range k).flatMap fun a=>QaR s P ((a:Nat):Int) n
theorem Qke (c:ms[j]? =some m)(h:(XV s b&&Ym s (a,b,m))=true):W4 s a b (ms.take j)++[(a,b,m)]=W4 s a b (ms.take (j+1)):=by
 unfold W4
 rw[Qs c,bO,bE]; simp[h]
theorem Qiq (c:ms[j]? =some m)(h:(XV s b&&Ym s (a,b,m))=false):W4 s a b (ms.take j)=W4 s a b (ms.take (j+1)):=by
 unfold W4
 rw[Qs c,bO,bE]; simp[h]
theorem QbM:(W4 s a b ms).length≤ms.length:=by unfold W4; rw[aB]; exact cP ..
theorem QoV:(QgI s P a b).length≤2:=by
 unfold QgI
 split
 ·exact QbM
 ·exact aP _
theorem Qhn:QaR s P a i++QgI s P a (i:Int)=QaR s P a (i+1):=by unfold QaR; rw[dR,cK]; simp
theorem Qgz:Qb4 s P n k++QaR s P (k:Int) n=Qb4 s P n (k+1):=by unfold Qb4; rw[dR,cK]; simp
theorem QfM:∀i,(QaR s P a i).length≤2*i
 | 0=>aL _
 | i+1=>by rw[← Qhn,ae]; have:=QfM i; have:=QoV (s:=s) (P:=P) (a:=a) (b:=(i:Int)); omega
theorem Qji (c:n≤24):∀k,(Qb4 s P n k).length≤48*k
 | 0=>aL _
 | k+1=>by rw[← Qgz,ae]; have:=Qji c k; have:=QfM n (s:=s) (P:=P) (a:=(k:Int)); omega
theorem Qne {l:List (List Int)}{y:List Int}(c:l[k]? =some x)(h:x=y):(true:Bool)=((l.take (k+1)).any fun p=>decide (p=y)):=by rw[Qs c]; simp[h]
theorem QqW {l:List (List Int)}{y:List Int}(c:l[k]? =some x)(h:¬x=y):((l.take k).any fun p=>decide (p=y))=((l.take (k+1)).any fun p=>decide (p=y)):=by rw[Qs c]; simp[h]
theorem Qnd {l:List (List Int)}{y:List Int}(h:((l.take k).any fun p=>decide (p=y))=true):(true:Bool)=((l.take (k+1)).any fun p=>decide (p=y)):=by
 obtain ⟨z,c,d⟩:=bW.1 h
 exact (bW.2 ⟨z,List.mem_of_mem_take (i:=k) (by rw[eb,show min k (k+1)=k by omega]; exact c),d⟩).symm
def Wa (s:Qy)(c:Bool)(a b:Int)(ms:List Bool):List Qp:=if c=true∧a≠b then W4 s a b ms else []
theorem Ht {c:Bool}(e:ms[j]? =some m)(d:c=true)(hab:a≠b)(h:(XV s b&&Ym s (a,b,m))=true):Wa s c a b (ms.take j)++[(a,b,m)]=Wa s c a b (ms.take (j+1)):=by
 unfold Wa
 rw[if_pos ⟨d,hab⟩,if_pos ⟨d,hab⟩,Qke e h]
theorem Qbb {c:Bool}(d:ms[j]? =some m)(h:(XV s b&&Ym s (a,b,m))=false):Wa s c a b (ms.take j)=Wa s c a b (ms.take (j+1)):=by
 unfold Wa
 rw[Qiq d h]
theorem Wb {c:Bool}(h:¬(c=true∧a≠b)):Wa s c a b (ms.take j)=Wa s c a b (ms.take (j+1)):=by
 unfold Wa
 rw[if_neg h,if_neg h]
theorem QoX {c:Bool}:(Wa s c a b ms).length≤ms.length:=by
 unfold Wa
 split
 ·exact QbM
 ·exact aP _
theorem QoW (c:P.length≤j):Wa s ((P.take j).any fun p=>decide (p=[min a b,max a b])) a b [false,true]=QgI s P a b:=by rw[aJ c]; rfl
theorem Qrb (d:([false,true]:List Bool).length≤k)(c:P.length≤j):os_++QaR s P a i++Wa s ((P.take j).any fun p=>decide (p=[min a (i:Int),max a (i:Int)])) a (i:Int) (([false,true]:List Bool).take k)=os_++QaR s P a (i+1):=by
 rw[aJ d,QoW c,aK,Qhn]
theorem Qbc {c:Bool}{d:List Qp}(h:Wa s c a b (ms.take j)++[(a,b,m)]=Wa s c a b (ms.take (j+1))):(d++Wa s c a b (ms.take j))++[(a,b,m)]=d++Wa s c a b (ms.take (j+1)):=by rw[aK,h]
theorem Qnc {l:List (List Int)}{y:List Int}(c:l[k]? =some x)(h:((l.take k).any fun p=>decide (p=y))=false):decide (x=y)=((l.take (k+1)).any fun p=>decide (p=y)):=by rw[Qs c,List.any_append,h]; simp
theorem QtC (hi:i=n):Qb4 s P n k++QaR s P (k:Int) i=Qb4 s P n (k+1):=by rw[hi,Qgz]
theorem Qsl {c:Bool}(d:n≤24)(l:k≤n)(hi:i≤n)(h:ms.length≤2):(Qb4 s P n k++QaR s P a i++Wa s c a b ms).length≤5000:=by
 have e:=Qji d k (s:=s) (P:=P)
 have f:=QfM i (s:=s) (P:=P) (a:=a)
 have g:=QoX (s:=s) (c:=c) (a:=a) (b:=b) (ms:=ms)
 simp only[ae]; omega
def Qfv (s:Qy):List Qp:=Qb4 s (QN s) s.1.2.length s.1.2.length
end
theorem Qbq (s:YA)[∀s,Decidable (StgOk s)](T:Ty.tot Zl s≤2000000)(E:(Qb s).2=true):FC Tryz.prog 118 [(true,[dI s.1.1, .dat QF s.1.2, .dat Qo s.2.1, .dat Qw s.2.2.1,dS s.2.2.2])] [] 0 (XB 60 Y4 (Qfv s)):=by
 obtain ⟨A,_⟩:=Zs E
 have H:=Ya E
 have S:=A.len
 have G:∀l∈s.2.2.1,l.1 < (s.2.1.length:Int):=fun l R=>by rcases A.labs l R with h | h <;> omega
 refine Qn Tryz.func118 rfl rfl Tryz.ntmps118 fun V Q U L W N M=> ?_
 refine acG 0 0 fun _=> ?_
 refine w_ ?_
 refine xbx 0 ?_
 refine w4 ?_
 refine lc (dK (XY s).frozenG KT) ?_
 refine w3 ?_
 refine lc (xal 1 Qdu XI) ?_
 refine w6 ?_
 refine lc (dK (Km s ((Qb s).1) JQ (Ya E) Wu).frozen Qez) ?_
 refine w10 ?_
 refine alL 25 fun _=> ?_
 refine w4 ?_
 refine AC.wk (Wk.nilS 2 6 60 Y4 rfl (Fresh.of rfl) (nlr rfl)) ?_
 refine lp0 s.1.2.length (fun k=>⟨[(1,lP 0 0),(2,lf (.val (.slice none 0 0))),(5,lf (.dat Wl (ofG ltP (ZP s.1 ((Qb s).1).1)))),(6,lR 3),(26,lI (s.1.2.length:Int)),(27,lI (k:Int))],[bx 0 51 [dI s.1.1, .dat QF s.1.2, .dat Qo s.2.1, .dat Qw s.2.2.1,dS s.2.2.2],ar 3 60 Y4 (Qb4 s (ofG ltP (ZP s.1 (((Qb s).1).1))) s.1.2.length k)]⟩) ?_ fun k _=> ?_
 exact wp [(3,2)] ⟨rfl,(Qh (by first | rfl | simp)),trivial⟩
 refine w4 ?_
 cases v:(decide ((k:Int) < (s.1.2.length:Int)))
 have w:=aa v
 refine w7 ?_
 refine Qe<|fo_ Q ?_
 (have F:k=s.1.2.length:=(by omega); rw[F]; rfl)
 have w:=ab v
 refine w12 ?_
 refine alL 32 fun _=> ?_
 refine w4 ?_
 refine lp0 s.1.2.length (fun i=>⟨[(1,lP 0 0),(2,lf (.val (.slice none 0 0))),(5,lf (.dat Wl (ofG ltP (ZP s.1 ((Qb s).1).1)))),(6,lR 4),(7,lI (k:Int)),(26,lI (s.1.2.length:Int)),(27,lI (k:Int)),(28,lB true),(29,lI (k:Int)),(30,lP 0 0),(31,lP 0 1),(32,lf (.dat QF s.1.2)),(33,lI (s.1.2.length:Int)),(34,lI (i:Int))],[bx 0 51 [dI s.1.1, .dat QF s.1.2, .dat Qo s.2.1, .dat Qw s.2.2.1,dS s.2.2.2],ar 4 60 Y4 (Qb4 s (ofG ltP (ZP s.1 (((Qb s).1).1))) s.1.2.length k++QaR s (ofG ltP (ZP s.1 (((Qb s).1).1))) (k:Int) i)]⟩) ?_ fun i _=> ?_
 exact wp [(4,3)] ⟨rfl,(Qh (by simp[QaR])),trivial⟩
 refine w4 ?_
 cases y:(decide ((i:Int) < (s.1.2.length:Int)))
 have z:=aa y
 refine w6 ?_
 refine Qf ?_
 refine l0_ ?_
 exact wp [(3,4)] ⟨rfl,(Qh (QtC (by omega))),trivial⟩
 have z:=ab y
 refine w14 ?_
 refine alL 37 fun _=> ?_
 refine w4 ?_
 refine lp0 ((ofG ltP (ZP s.1 (((Qb s).1).1))).length) (fun j=>⟨[(1,lP 0 0),(2,lf (.val (.slice none 0 0))),(5,lf (.dat Wl (ofG ltP (ZP s.1 ((Qb s).1).1)))),(6,lR 4),(7,lI (k:Int)),(8,lI (i:Int)),(9,lB (((ofG ltP (ZP s.1 (((Qb s).1).1))).take j).any (fun p=>decide (p=[min (k:Int) (i:Int),max (k:Int) (i:Int)])))),(26,lI (s.1.2.length:Int)),(27,lI (k:Int)),(28,lB true),(29,lI (k:Int)),(30,lP 0 0),(31,lP 0 1),(32,lf (.dat QF s.1.2)),(33,lI (s.1.2.length:Int)),(34,lI (i:Int)),(35,lB true),(36,lI (i:Int)),(37,lf (.dat Wl (ofG ltP (ZP s.1 ((Qb s).1).1)))),(38,lI ((ofG ltP (ZP s.1 ((Qb s).1).1)).length:Int)),(39,lI (j:Int))],[bx 0 51 [dI s.1.1, .dat QF s.1.2, .dat Qo s.2.1, .dat Qw s.2.2.1,dS s.2.2.2],ar 4 60 Y4 (Qb4 s (ofG ltP (ZP s.1 (((Qb s).1).1))) s.1.2.length k++QaR s (ofG ltP (ZP s.1 (((Qb s).1).1))) (k:Int) i)]⟩) ?_ fun j _=> ?_
 exact Wk.of [] rfl ⟨rfl,rfl,rfl,rfl,rfl,rfl,(show some (lB false)=some (lB (((ofG ltP (ZP s.1 (((Qb s).1).1))).take 0).any (fun p=>decide (p=[min (k:Int) (i:Int),max (k:Int) (i:Int)])))) from congrArg (fun z_=>some (lB z_)) (by simp)),rfl,rfl,rfl,rfl,rfl,rfl,rfl,rfl,rfl,rfl,rfl,rfl,rfl,rfl,trivial⟩ ⟨rfl,rfl,trivial⟩ rfl rfl
 refine w4 ?_
 cases g:(decide ((j:Int) < ((ofG ltP (ZP s.1 ((Qb s).1).1)).length:Int)))
 have r:=aa g
 refine w4 ?_
 refine lc (dBs 5 (e:= .bool) QvA) ?_
 refine w4 ?_
 refine lp0 (([false,true]).length) (fun m=>⟨[(1,lP 0 0),(2,lf (.val (.slice none 0 0))),(5,lf (.dat Wl (ofG ltP (ZP s.1 ((Qb s).1).1)))),(6,lR 6),(7,lI (k:Int)),(8,lI (i:Int)),(9,lB (((ofG ltP (ZP s.1 (((Qb s).1).1))).take j).any (fun p=>decide (p=[min (k:Int) (i:Int),max (k:Int) (i:Int)])))),(26,lI (s.1.2.length:Int)),(27,lI (k:Int)),(28,lB true),(29,lI (k:Int)),(30,lP 0 0),(31,lP 0 1),(32,lf (.dat QF s.1.2)),(33,lI (s.1.2.length:Int)),(34,lI (i:Int)),(35,lB true),(36,lI (i:Int)),(37,lf (.dat Wl (ofG ltP (ZP s.1 ((Qb s).1).1)))),(38,lI ((ofG ltP (ZP s.1 ((Qb s).1).1)).length:Int)),(39,lI (j:Int)),(40,lB false),(56,lR 5),(57,lI (([false,true]).length:Int)),(58,lI (m:Int))],[bx 0 51 [dI s.1.1, .dat QF s.1.2, .dat Qo s.2.1, .dat Qw s.2.2.1,dS s.2.2.2],ar 5 4 .bool ([false,true]),ar 6 60 Y4 (Qb4 s (ofG ltP (ZP s.1 (((Qb s).1).1))) s.1.2.length k++QaR s (ofG ltP (ZP s.1 (((Qb s).1).1))) (k:Int) i++Wa s (((ofG ltP (ZP s.1 (((Qb s).1).1))).take j).any (fun p=>decide (p=[min (k:Int) (i:Int),max (k:Int) (i:Int)]))) (k:Int) (i:Int) (([false,true]:List Bool).take m))]⟩) ?_ fun m _=> ?_
 exact wp [(6,4)] ⟨rfl,rfl,(Qh (by simp[Wa,W4])),trivial⟩
 have O:(([false,true]:List Bool).length)=2:=rfl
 refine w4 ?_
 cases o:(decide ((m:Int) < (([false,true]).length:Int)))
 have t:=aa o
 refine w6 ?_
 refine Qf ?_
 refine l0_ ?_
 exact wp [(4,6)] ⟨rfl,(Qh (Qrb (by omega) (by omega))),trivial⟩
 have t:=ab o
 refine w6 ?_
 obtain ⟨C,B⟩:=gx ([false,true]) m
 have f:=B
 refine w7 ?_
 refine lc (Qj QkU ⟨_,_,rfl,(Ql rfl),⟨_,_,rfl,(Ql rfl),⟨_,_,rfl,(Ql rfl),rfl⟩⟩⟩ (av.1 rfl) rfl rfl)<|lc (xal 7 Y4 VC) ?_
 refine w5 ?_
 cases I:(((ofG ltP (ZP s.1 (((Qb s).1).1))).take j).any (fun p=>decide (p=[min (k:Int) (i:Int),max (k:Int) (i:Int)])))
 refine w16 ?_
 refine Qf ?_
 refine l0_ ?_
 exact wp [] ⟨rfl,rfl,(Qh (by first | exact Qbc (Ht f rfl (by omega) ‹_›) | exact congrArg _ (Qbb f ‹_›) | exact congrArg _ (Wb (fun h=>h.2 (by omega))) | exact congrArg _ (Wb (fun h=>by cases h.1)))),trivial⟩
 refine w5 ?_
 cases q:(!decide ((k:Int)=(i:Int)))
 have u:((k:Int)=(i:Int)):=QY q
 refine w11 ?_
 refine Qf ?_
 refine l0_ ?_
 exact wp [] ⟨rfl,rfl,(Qh (by first | exact Qbc (Ht f rfl (by omega) ‹_›) | exact congrArg _ (Qbb f ‹_›) | exact congrArg _ (Wb (fun h=>h.2 (by omega))) | exact congrArg _ (Wb (fun h=>by cases h.1)))),trivial⟩
 have u:¬((k:Int)=(i:Int)):=Zb q
 refine w2 ?_
 refine lgy rfl rfl (dK (Qdj s ((k:Int),(i:Int),C) T (by show (0:Int)≤(i:Int)∧(i:Int) < _; omega) G) Qlw) ?_
 refine w2 ?_
 cases J:(XV s ((k:Int),(i:Int),C).2.1&&Ym s ((k:Int),(i:Int),C))
 refine w6 ?_
 refine Qf ?_
 refine l0_ ?_
 exact wp [] ⟨rfl,rfl,(Qh (by first | exact Qbc (Ht f rfl (by omega) ‹_›) | exact congrArg _ (Qbb f ‹_›) | exact congrArg _ (Wb (fun h=>h.2 (by omega))) | exact congrArg _ (Wb (fun h=>by cases h.1)))),trivial⟩
 refine w4 ?_
 refine lc (dBs 8 (e:=Y4) VC (hab:=by exact ⟨_,_,_,_,rfl,⟨[dI (k:Int)],[dI (i:Int),dB C],_,_,_,_,rfl,rfl,⟨rfl,rfl⟩,⟨[dI (i:Int)],[dB C],_,_,_,_,rfl,rfl,⟨rfl,rfl⟩,⟨rfl,rfl⟩,rfl⟩,rfl⟩,⟨rfl,rfl⟩,rfl⟩)) ?_
 refine lc (dA 9 Qro (hb:=by (have:=Qsl (s:=s) (P:=ofG ltP (ZP s.1 (((Qb s).1).1))) (n:=s.1.2.length) (k:=k) (i:=i) (a:=(k:Int)) (b:=(i:Int)) (c:=true) (ms:=([false,true]:List Bool).take m) H (by omega) (by omega) (by simp only[ao]; omega); simp only[aq,az] at*; omega))) ?_
 refine w_ ?_
 refine Qf ?_
 refine w4 ?_
 refine Qf ?_
 refine l0_ ?_
 exact wp [(6,9)] ⟨rfl,rfl,(Qh (by first | exact Qbc (Ht f rfl (by omega) ‹_›) | exact congrArg _ (Qbb f ‹_›) | exact congrArg _ (Wb (fun h=>h.2 (by omega))) | exact congrArg _ (Wb (fun h=>by cases h.1)))),trivial⟩
 have r:=ab g
 refine w5 ?_
 obtain ⟨D,d⟩:=gx (ofG ltP (ZP s.1 ((Qb s).1).1)) j
 refine w7 ?_
 cases K:(((ofG ltP (ZP s.1 (((Qb s).1).1))).take j).any (fun p=>decide (p=[min (k:Int) (i:Int),max (k:Int) (i:Int)])))
 refine w3 ?_
 refine lgy rfl rfl (dK (Jq (k:Int) (i:Int)) QeH) ?_
 refine w2 ?_
 refine lgy rfl rfl (dK (Uk (k:Int) (i:Int)) QaA) ?_
 refine lgy rfl rfl (dBs 10 (e:= .int) Zq) ?_
 refine lgy rfl rfl (dB_ (YK D ([min (k:Int) (i:Int),max (k:Int) (i:Int)])) WR) ?_
 refine w2 ?_
 refine Qf ?_
 refine w4 ?_
 refine Qf ?_
 refine l0_ ?_
 exact Wk.of [] rfl ⟨rfl,rfl,rfl,rfl,rfl,rfl,(show some (lB (decide (D=([min (k:Int) (i:Int),max (k:Int) (i:Int)]))))=some (lB (((ofG ltP (ZP s.1 (((Qb s).1).1))).take (j+1)).any (fun p=>decide (p=[min (k:Int) (i:Int),max (k:Int) (i:Int)])))) from congrArg (fun z_=>some (lB z_)) (by first | exact Qnd ‹_› | exact Qnc d ‹_› | exact Qne d (ab ‹_›) | exact QqW d (aa ‹_›))),rfl,rfl,rfl,rfl,rfl,rfl,rfl,rfl,rfl,rfl,rfl,rfl,rfl,rfl,trivial⟩ ⟨rfl,rfl,trivial⟩ rfl rfl
 refine w11 ?_
 refine Qf ?_
 refine w4 ?_
 refine Qf ?_
 refine l0_ ?_
 exact Wk.of [] rfl ⟨rfl,rfl,rfl,rfl,rfl,rfl,(show some (lB true)=some (lB (((ofG ltP (ZP s.1 (((Qb s).1).1))).take (j+1)).any (fun p=>decide (p=[min (k:Int) (i:Int),max (k:Int) (i:Int)])))) from congrArg (fun z_=>some (lB z_)) (by first | exact Qnd ‹_› | exact Qnc d ‹_› | exact Qne d (ab ‹_›) | exact QqW d (aa ‹_›))),rfl,rfl,rfl,rfl,rfl,rfl,rfl,rfl,rfl,rfl,rfl,rfl,rfl,rfl,trivial⟩ ⟨rfl,rfl,trivial⟩ rfl rfl
section
variable [∀s,Decidable (StgOk s)]{s:Qy}
theorem Qol (h:(sgV s).2=true):(Qb s).2=true:=by
 cases c:(Qb s).2 with
 | true=>rfl
 | false=>rw[VR c] at h; cases h
def Yt (s:Qy):List Qp:=if (sgV s).2=true then Qfv s else []
theorem Qjh (h:(sgV s).2=true):Qfv s=Yt s:=by unfold Yt; rw[if_pos h]
theorem Qm4 (h:(sgV s).2=false):[]=Yt s:=by unfold Yt; rw[if_neg (by rw[h]; decide)]
end
theorem Xa (s:YA)[∀s,Decidable (StgOk s)](l:Ty.tot Zl s≤2000000):FC Tryz.prog 26 [(true,[dI s.1.1, .dat QF s.1.2, .dat Qo s.2.1, .dat Qw s.2.2.1,dS s.2.2.2])] [] 0 (Is (PV.tup [(false,[.ref 0]),(false,[dB ((sgV s).2)])]) [ar 0 60 Y4 (Yt s)]):=by
 refine Qn Tryz.func26 rfl rfl Tryz.ntmps26 fun p c o d q h g=> ?_
 refine acG 0 0 fun _=> ?_
 refine w_ ?_
 refine xbx 0 ?_
 refine w6 ?_
 refine lc (dK (WU s) Qav) ?_
 refine w2 ?_
 refine cx_ (fun _=> ?_) fun _=> ?_
 refine w4 ?_
 refine AC.wk (Wk.nilS 1 2 60 Y4 rfl (Fresh.of rfl) (nlr rfl))<|Qe ?_
 have e:(false:Bool)=((sgV s).2):=by
  simp_all
 exact fi_ [(0,1)] c ⟨(Qh (by exact Qm4 ‹_›)),trivial⟩ (h0:=by rw[← e] <;> rfl)
 refine w3 ?_
 refine lc (dO 2 (Qbq s l (Qol ‹_›)) Qk7) ?_
 refine w4 ?_
 have f:(true:Bool)=((sgV s).2):=by
  simp_all
 exact fi_ [(0,2)] c ⟨(Qh (by exact Qjh ‹_›)),trivial⟩ (h0:=by rw[← f] <;> rfl)
end Go.Proofs.YtndabgcpnmeeoaaGreat
namespace Go.Proofs.YtndabgcpnmeeoaaGreat
open Go.RowKit
set_option maxRecDepth 100000
set_option maxHeartbeats 4000000
theorem Qqg (n:Int): -9223372036854775808≤IntKind.i64.wrap n∧IntKind.i64.wrap n≤9223372036854775807:=by
 simp only[IntKind.wrap,IntKind.bits,IntKind.signed]
 simp
 split <;> omega
theorem QoL {A:Amb}{P:Program}{s:St}{x y:Operand}{d:Nat}{T c ty:TypeId}{b:String}{e:Array Edge}{g:Option (Nat×Bool)}{m n:Int}(k:Evl A s x (dI m))(l:Evl A s y (dI n))(j:Nat.blt d A.n=true):Does A P ⟨some d, .binOp .add T x y c,ty,b,e,g⟩ s (s.put d (lf (dI (IntKind.i64.wrap (m+n))))):=
 Qi rfl j fun o a w r=>⟨.int .i64 (IntKind.i64.wrap (m+n)),by
  have f:=k.i r
  have h:=l.i r
  simp only[execOp,f,h,eqGuard_at_int,binOp,Op.intArith]
  simp,_,rfl,Yj (Qqg _)⟩
theorem Qbs (a:Qcd)(b:Qcd)(h:a=b):FC Tryz.prog 144 [(true,[dI a.1, .dat QF a.2]),(true,[dI b.1, .dat QF b.2])] [] 0 (Za (lB true)):=by
 have v:a.2.length=b.2.length:=by rw[h]
 refine Qn Tryz.func144 rfl rfl Tryz.ntmps144 fun x j w s y u t=> ?_
 refine acG 0 0 fun _=> ?_
 refine acG 1 0 fun _=> ?_
 refine w_ ?_
 refine xbx 0 ?_
 refine xbx 1 ?_
 refine w10 ?_
 cases l:(!decide (a.1=b.1))
 have m:(a.1=b.1):=QY l
 refine w2 ?_
 refine alL 13 fun _=> ?_
 refine w3 ?_
 refine alL 16 fun _=> ?_
 refine w4 ?_
 refine cn_ (fun _ _=> ?_) fun _ _=> ?_
 refine w5 ?_
 refine alL 21 fun _=> ?_
 refine w4 ?_
 refine lp0 a.2.length (fun k=>⟨[(2,lP 0 0),(3,lP 1 0),(22,lI (a.2.length:Int)),(23,lI (k:Int))],[bx 0 48 [dI a.1, .dat QF a.2],bx 1 48 [dI b.1, .dat QF b.2]]⟩) ?_ fun k _=> ?_
 exact wo []
 refine w4 ?_
 cases n:(decide ((k:Int) < (a.2.length:Int)))
 have o:=aa n
 refine w7 ?_
 exact fe_ j
 have o:=ab n
 refine w8 ?_
 obtain ⟨d,q⟩:=gx a.2 k
 obtain ⟨e,r⟩:=gx b.2 k
 cases c:(decide (d.1=e.1))
 have g:=aa c
 apply dW (i9 26 _ _ _ _ _ _ _ _ _ (i3 35 _ _ _ (io 38 (lB false) :: i9 39 _ _ _ _ _ _ _ _ _ (i8 48 _ _ _ _ _ _ _ _ [])))) [0,0,3,0,0,0,63,63,255,63,63,63,0,0,0,0,0,98304,0,0,0,2064384,2064384,8355840,2064384,2064384,2064384,0,0,0]
 refine z12 ?_
 refine zz (fun _ p=>ac (Q4 (c) (dK (YK d.1 e.1) WR)) rfl) ?_
 refine z16 ?_
 exact y1
 refine w4 ?_
 refine Qe<|fqB j ?_
 ·(exfalso; subst h; simp_all; done)
 have g:=ab c
 apply dW (i9 26 _ _ _ _ _ _ _ _ _ (i3 35 _ _ _ (io 38 (lB true) :: i9 39 _ _ _ _ _ _ _ _ _ (i5 48 _ _ _ _ _ (io 53 (lB (decide (d.2=e.2))) :: i2 54 _ _ []))))) [0,0,3,0,0,0,63,63,255,63,63,63,0,0,0,0,0,98304,0,0,0,2064384,2064384,8355840,2064384,2064384,2064384,0,0,0]
 refine z12 ?_
 refine zz (fun _ p=>ac (Q4 (c) (dK (YK d.1 e.1) WR)) rfl) ?_
 refine z14 ?_
 refine zz (fun _ p=>day rfl (p.k rfl) (dK (YK d.2 e.2) WR) rfl) ?_
 exact y2
 cases f:(decide (d.2=e.2))
 have i:=aa f
 refine w4 ?_
 refine Qe<|fqB j ?_
 ·(exfalso; subst h; simp_all; done)
 have i:=ab f
 refine w6 ?_
 refine Qf ?_
 refine l0_ ?_
 exact wo []
 refine w3 ?_
 refine Qe<|fqB j ?_
 ·(exfalso; subst h; simp_all; done)
 have m:¬(a.1=b.1):=Zb l
 refine w13 ?_
 refine Qe<|fqB j ?_
 ·(exfalso; subst h; simp_all; done)
theorem Qcn (a:YA)(b:YA)(h:a=b):FC Tryz.prog 40 [(true,[dI a.1.1, .dat QF a.1.2, .dat Qo a.2.1, .dat Qw a.2.2.1,dS a.2.2.2]),(true,[dI b.1.1, .dat QF b.1.2, .dat Qo b.2.1, .dat Qw b.2.2.1,dS b.2.2.2])] [] 0 (Za (lB true)):=by
 have y:a.2.2.1.length=b.2.2.1.length:=by rw[h]
 refine Qn Tryz.func40 rfl rfl Tryz.ntmps40 fun A i z t B x v=> ?_
 refine acG 0 0 fun _=> ?_
 refine acG 1 0 fun _=> ?_
 refine w_ ?_
 refine xbx 0 ?_
 refine xbx 1 ?_
 refine w8 ?_
 refine lc (dK (Qbs a.1 b.1 (by rw[h])) Qlj) ?_
 refine w6 ?_
 refine lgy rfl rfl (dK (WL a.2.1 b.2.1) QeE) ?_
 refine w3 ?_
 cases j:(decide (a.2.1=b.2.1))
 have l:=aa j
 refine w16 ?_
 refine w4 ?_
 refine Qe<|fqB i ?_
 ·(exfalso; subst h; simp_all; done)
 have l:=ab j
 refine w2 ?_
 refine alL 22 fun _=> ?_
 refine w3 ?_
 refine alL 25 fun _=> ?_
 refine w4 ?_
 cases m:(!decide ((a.2.2.1.length:Int)=(b.2.2.1.length:Int)))
 have n:((a.2.2.1.length:Int)=(b.2.2.1.length:Int)):=QY m
 refine w7 ?_
 refine cn_ (fun _ _=> ?_) fun _ _=> ?_
 refine w5 ?_
 refine alL 37 fun _=> ?_
 refine w4 ?_
 refine lp0 a.2.2.1.length (fun k=>⟨[(2,lP 0 0),(3,lP 1 0),(38,lI (a.2.2.1.length:Int)),(39,lI (k:Int))],[bx 0 51 [dI a.1.1, .dat QF a.1.2, .dat Qo a.2.1, .dat Qw a.2.2.1,dS a.2.2.2],bx 1 51 [dI b.1.1, .dat QF b.1.2, .dat Qo b.2.1, .dat Qw b.2.2.1,dS b.2.2.2]]⟩) ?_ fun k _=> ?_
 exact wo []
 refine w4 ?_
 cases c:(decide ((k:Int) < (a.2.2.1.length:Int)))
 have e:=aa c
 refine w7 ?_
 exact fe_ i
 have e:=ab c
 refine w8 ?_
 obtain ⟨f,o⟩:=gx a.2.2.1 k
 obtain ⟨g,r⟩:=gx b.2.2.1 k
 apply dW (i9 42 _ _ _ _ _ _ _ _ _ [io 51 _,io 52 (lB (!(Ty.beq QL f g)))]) [0,0,3,0,0,31,31,127,31,31,0]
 refine z10 ?_
 refine zz (fun _ s=>ac (VU QhW QhV (s.w rfl) (s.w rfl) (p:=f) (q:=g) rfl rfl rfl) rfl) ?_
 exact zN
 cases d:(Ty.beq QL f g)
 refine w4 ?_
 refine Qe<|fqB i ?_
 (exfalso; subst h; have u:=ci ((o).symm.trans r); rw[u,QcW] at d; exact absurd d (by decide))
 refine w6 ?_
 refine Qf ?_
 refine l0_ ?_
 exact wo []
 refine w3 ?_
 refine Qe<|fqB i ?_
 ·(exfalso; subst h; simp_all; done)
 have n:¬((a.2.2.1.length:Int)=(b.2.2.1.length:Int)):=Zb m
 refine w11 ?_
 refine Qe<|fqB i ?_
 ·(exfalso; subst h; simp_all; done)
end Go.Proofs.YtndabgcpnmeeoaaGreat
namespace Go.Proofs.YtndabgcpnmeeoaaGreat
open Go.RowKit
set_option maxRecDepth 100000
set_option maxHeartbeats 4000000
theorem Qe3 (a:List Int)(b:List Int)(h:a=b):FC Tryz.prog 143 [(false,[.dat Qm a]),(false,[.dat Qm b])] [] 0 (Za (lB true)):=by
 have q:a.length=b.length:=by rw[h]
 refine Qn Tryz.func143 rfl rfl Tryz.ntmps143 fun t i s n u p o=> ?_
 refine w6 ?_
 refine alL 6 fun _=> ?_
 refine w2 ?_
 refine alL 8 fun _=> ?_
 refine w3 ?_
 refine cn_ (fun _ _=> ?_) fun _ _=> ?_
 refine w4 ?_
 refine alL 11 fun _=> ?_
 refine w4 ?_
 refine lp0 a.length (fun k=>⟨[(0,lf (.dat Qm a)),(1,lf (.dat Qm b)),(12,lI (a.length:Int)),(13,lI (k:Int))],[]⟩) ?_ fun k _=> ?_
 exact wo []
 refine w4 ?_
 cases f:(decide ((k:Int) < (a.length:Int)))
 have g:=aa f
 refine w7 ?_
 exact fe_ i
 have g:=ab f
 refine w8 ?_
 obtain ⟨j,r⟩:=gx a k
 obtain ⟨l,m⟩:=gx b k
 apply dW (i9 16 _ _ _ _ _ _ _ _ _ []) [0,1,0,0,15,31,15,15,0]
 exact y9
 cases d:(!decide (j=l))
 have e:(j=l):=QY d
 refine w6 ?_
 refine Qf ?_
 refine l0_ ?_
 exact wo []
 have e:¬(j=l):=Zb d
 refine w4 ?_
 refine Qe<|fqB i ?_
 ·(exfalso; subst h; simp_all; done)
 refine w3 ?_
 refine Qe<|fqB i ?_
 ·(exfalso; subst h; simp_all; done)
section
variable {c:DSg}[∀c,Decidable (SgOk c)]
def hcV (c:DSg):Bool:=decide (SgOk c)&&decide ((Qnx c).length=0)
end
end Go.Proofs.YtndabgcpnmeeoaaGreat
namespace Go.Proofs.YtndabgcpnmeeoaaGreat
open Go.RowKit
set_option maxRecDepth 100000
set_option maxHeartbeats 4000000
section
variable {n:Yh}{k i j m:Nat}{mk:ByteArray}{t u:Int}{on l:List Int}{s:Qy}{ms:List ByteArray}{as_:List (List Int)}
theorem QqR (h:on.length≤24)(a:k≤on.length):(Qb3 n on k).length≤24*k:=by
 unfold Qb3
 have:=Hz (f:=fun i=>Kz n ((on[i]?).getD 0) (on.drop (i+1))) (m:=24) (l:=List.range k) fun i _=>bn Qkd (by simp only[aW]; omega)
 simpa using this
theorem Qo4 (b:n.2.length≤24)(g:k≤ms.length)(h:ms.length≤300)(a:on.length≤24)(hi:i≤on.length)(f:l.length≤24):(ZP n (ms.take k)++Qb3 n on i++Kz n t l).length≤200000:=by
 have c:=QfZ (n:=n) (ms:=ms.take k) b
 have d:=QqR (n:=n) a hi
 have e:=Qkd (n:=n) (t:=t) (l:=l)
 simp only[ae,ao] at*
 omega
theorem Qs9 (a:ms[k]? =some mk)(hi:i=(QO n mk).length):ZP n (ms.take k)++Qb3 n (QO n mk) i=ZP n (ms.take (k+1)):=by rw[QtB Qrq hi,Qhy a]
theorem QqQ (a:on[i]? =some t)(b:on.length≤j+(i+1)):as_++Qb3 n on i++Kz n t ((on.drop (i+1)).take j)=as_++Qb3 n on (i+1):=by
 rw[aJ (by simp only[aW]; omega),aK]
 unfold Qb3
 rw[dR,cK]
 simp only[dE,List.flatMap_nil,bG]
 rw[a,aj]
theorem Qcc [∀s,Decidable (StgOk s)](h:(Qb s).2=true):(ZP s.1 ((Qb s).1.1.take k)).length≤200000:=by
 have a:=QfZ (n:=s.1) (ms:=(Qb s).1.1.take k) (Ya h)
 have b:=Wu (s:=s)
 simp only[ao] at a
 omega
theorem Qnw (h:((on.take on.length).drop ((i:Int)+1).toNat)[j]? =some u):(on.drop (i+1))[j]? =some u:=by
 rw[bM,show ((i:Int)+1).toNat=i+1 by omega] at h; exact h
theorem Qt2 (h:((on.take on.length).drop ((i:Int)+1).toNat)[j]? =some u):on[i+1+j]? =some u:=by
 have:=Qnw h
 rwa [cw] at this
theorem Qkc {a b:Qt}(e:l[k]? =some u)(c:n.2[t.toNat]? =some a)(d:n.2[u.toNat]? =some b)(h:(a.1.any fun z=>b.1.any fun y=>decide (z=y))=false):(as_++Kz n t (l.take k))++[[t,u]]=as_++Kz n t (l.take (k+1)):=by
 rw[aK,Qsz e c d (by rw[h]; rfl)]
theorem Qhm {a b:Qt}(e:l[k]? =some u)(c:n.2[t.toNat]? =some a)(d:n.2[u.toNat]? =some b)(h:(a.1.any fun z=>b.1.any fun y=>decide (z=y))=true):as_++Kz n t (l.take k)=as_++Kz n t (l.take (k+1)):=by
 rw[QuM e c d (by rw[h]; rfl)]
theorem Qo1 [∀s,Decidable (StgOk s)](a:k=(Qb s).1.1.length):Yi (ZQ (ZP s.1 ((Qb s).1.1.take k)))=QN s:=by rw[a,bM,Qs7]; rfl
end
theorem Ug (s:YA)[∀s,Decidable (StgOk s)]:FC Tryz.prog 112 [(true,[dI s.1.1, .dat QF s.1.2, .dat Qo s.2.1, .dat Qw s.2.2.1,dS s.2.2.2])] [] 0 (Is (PV.tup [(false,[.ref 0]),(false,[dB ((Qb s).2)])]) [ar 0 123 Qm (QN s)]):=by
 refine Qn Tryz.func112 rfl rfl Tryz.ntmps112 fun S E R G T K J=> ?_
 refine acG 0 0 fun _=> ?_
 refine w_ ?_
 refine xbx 0 ?_
 refine w5 ?_
 refine lc (dK (Vw s).frozenG Qaz) ?_
 refine w3 ?_
 refine lc (xal 1 Qdu XI) ?_
 refine w8 ?_
 refine cx_ (fun _=> ?_) fun _=> ?_
 refine w4 ?_
 refine AC.wk (Wk.nilS 2 2 123 Qm rfl (Fresh.of rfl) (nlr rfl))<|Qe ?_
 have H:(false:Bool)=((Qb s).2):=by
  simp_all
 exact fi_ [(0,2)] E ⟨(Qh (by exact Qet ‹_›)),trivial⟩ (h0:=by rw[← H] <;> rfl)
 refine w2 ?_
 refine lc (dBs 3 (e:=Qm) X0) ?_
 refine w6 ?_
 refine alL 23 fun _=> ?_
 refine w4 ?_
 refine lp0 ((((Qb s).1).1).length) (fun k=>⟨[(1,lP 0 0),(2,lf (.val (.slice none 0 0))),(3,lB false),(6,lR 4),(23,lf (.dat Qu (((Qb s).1).1))),(24,lI ((((Qb s).1).1).length:Int)),(25,lI (k:Int))],[bx 0 51 [dI s.1.1, .dat QF s.1.2, .dat Qo s.2.1, .dat Qw s.2.2.1,dS s.2.2.2],ar 4 123 Qm (ZP s.1 ((Qb s).1.1.take k))]⟩) ?_ fun k _=> ?_
 exact wp [(4,3)] ⟨rfl,(Qh (by first | rfl | simp)),trivial⟩
 refine w4 ?_
 cases r:(decide ((k:Int) < ((((Qb s).1).1).length:Int)))
 have v:=aa r
 refine w5 ?_
 refine lc (KG 5 [(0,4)] (QrA (ZP s.1 ((Qb s).1.1.take k)) (by have:=Qcc (s:=s) (k:=k) ‹_›; omega)) Qey ⟨_,_,rfl,(Ql rfl),⟨_,_,rfl,(Evl.ev Qee),rfl⟩⟩ ⟨rfl,trivial⟩ rfl ⟨trivial,trivial⟩ (nlr rfl)) ?_
 refine w3 ?_
 refine lc (KG 6 [(0,4)] (Vi (ZQ (ZP s.1 ((Qb s).1.1.take k))) (by rw[V1]; have:=Qcc (s:=s) (k:=k) ‹_›; omega)) Qlv ⟨_,_,rfl,(Ql rfl),⟨_,_,rfl,(Evl.ev Qee),rfl⟩⟩ ⟨rfl,trivial⟩ rfl ⟨(Fresh.of rfl),trivial⟩ (nlr rfl)) ?_
 refine w4 ?_
 have I:(true:Bool)=((Qb s).2):=by
  simp_all
 exact fi_ [(0,6)] E ⟨(Qh (by exact Qo1 (by omega))),trivial⟩ (h0:=by rw[← I] <;> rfl)
 have v:=ab r
 refine w5 ?_
 obtain ⟨mk,z⟩:=gx (((Qb s).1).1) k
 have B:=z
 have N:=Ya (s:=s) ‹_›
 have M:=Wu (s:=s)
 refine w8 ?_
 refine lc (dK (Jn s.1 mk (JQ _ (ai z)) (by have:=Ya (s:=s) ‹_›; omega)).frozen QeJ) ?_
 refine w4 ?_
 refine alL 33 fun _=> ?_
 refine w4 ?_
 refine lp0 ((QO s.1 mk).length) (fun i=>⟨[(1,lP 0 0),(2,lf (.val (.slice none 0 0))),(3,lB false),(6,lR 7),(8,lf (dS mk)),(9,lf (.dat Qm (QO s.1 mk))),(23,lf (.dat Qu (((Qb s).1).1))),(24,lI ((((Qb s).1).1).length:Int)),(25,lI (k:Int)),(26,lB true),(27,lf (.elt .str mk 0)),(28,lf (dS mk)),(29,lP 0 0),(30,ag [dI s.1.1, .dat QF s.1.2]),(31,lf (dS mk)),(32,lf (.dat Qm (QO s.1 mk))),(33,lf (.dat Qm (QO s.1 mk))),(34,lI ((QO s.1 mk).length:Int)),(35,lI (i:Int))],[bx 0 51 [dI s.1.1, .dat QF s.1.2, .dat Qo s.2.1, .dat Qw s.2.2.1,dS s.2.2.2],ar 7 123 Qm (ZP s.1 ((Qb s).1.1.take k)++Qb3 s.1 (QO s.1 mk) i)]⟩) ?_ fun i _=> ?_
 exact wp [(7,4)] ⟨rfl,(Qh (by simp[Qb3])),trivial⟩
 refine w4 ?_
 cases c:(decide ((i:Int) < ((QO s.1 mk).length:Int)))
 have o:=aa c
 refine w6 ?_
 refine Qf ?_
 refine l0_ ?_
 exact wp [(4,7)] ⟨rfl,(Qh (Qs9 B (by omega))),trivial⟩
 have o:=ab c
 refine w6 ?_
 obtain ⟨t,f⟩:=gx (QO s.1 mk) i
 have V:=Yu f
 have P:=f
 have O:=Ub s.1 mk
 refine w2 ?_
 refine alI 39 fun _=> ?_
 refine w7 ?_
 refine lc (Yr (l:=(some ((i:Int)+1))) (h:=none) (Qa rfl) (by exact (Qa rfl)) (by exact trivial) ZZ Xe rfl (by simp only[ak,aj]; omega) (by simp only[ak,aj]; omega) (by simp only[ak,aj]; omega)) ?_
 refine alL 43 fun _=> ?_
 refine w4 ?_
 refine lp0 ((((QO s.1 mk).take (QO s.1 mk).length).drop ((i:Int)+1).toNat).length) (fun j=>⟨[(1,lP 0 0),(2,lf (.val (.slice none 0 0))),(3,lB false),(6,lR 8),(8,lf (dS mk)),(9,lf (.dat Qm (QO s.1 mk))),(10,lI (i:Int)),(11,lI t),(23,lf (.dat Qu (((Qb s).1).1))),(24,lI ((((Qb s).1).1).length:Int)),(25,lI (k:Int)),(26,lB true),(27,lf (.elt .str mk 0)),(28,lf (dS mk)),(29,lP 0 0),(30,ag [dI s.1.1, .dat QF s.1.2]),(31,lf (dS mk)),(32,lf (.dat Qm (QO s.1 mk))),(33,lf (.dat Qm (QO s.1 mk))),(34,lI ((QO s.1 mk).length:Int)),(35,lI (i:Int)),(36,lB true),(37,lI (i:Int)),(38,lf (.elt .int t 0)),(39,lI t),(40,lf (.dat Qm (QO s.1 mk))),(41,lI (i:Int)),(42,lI ((i:Int)+1)),(43,lf (.dat Qm (((QO s.1 mk).take (QO s.1 mk).length).drop ((i:Int)+1).toNat))),(44,lI ((((QO s.1 mk).take (QO s.1 mk).length).drop ((i:Int)+1).toNat).length:Int)),(45,lI (j:Int))],[bx 0 51 [dI s.1.1, .dat QF s.1.2, .dat Qo s.2.1, .dat Qw s.2.2.1,dS s.2.2.2],ar 8 123 Qm (ZP s.1 ((Qb s).1.1.take k)++Qb3 s.1 (QO s.1 mk) i++Kz s.1 t (((QO s.1 mk).drop (i+1)).take j))]⟩) ?_ fun j _=> ?_
 exact wp [(8,7)] ⟨rfl,(Qh (by simp[Kz])),trivial⟩
 refine w4 ?_
 cases d:(decide ((j:Int) < ((((QO s.1 mk).take (QO s.1 mk).length).drop ((i:Int)+1).toNat).length:Int)))
 have q:=aa d
 refine w6 ?_
 refine Qf ?_
 refine l0_ ?_
 exact wp [(7,8)] ⟨rfl,(Qh (QqQ P (by simp only[ao,aW] at*; omega))),trivial⟩
 have q:=ab d
 refine w5 ?_
 obtain ⟨u,g⟩:=gx (((QO s.1 mk).take (QO s.1 mk).length).drop ((i:Int)+1).toNat) j
 have L:(((QO s.1 mk).take (QO s.1 mk).length).drop ((i:Int)+1).toNat).length≤24:=by simp only[aW,ao]; omega
 have Q:=Qt2 g
 have A:=Qnw g
 have W:=Yu Q
 refine w2 ?_
 refine alI 48 fun _=> ?_
 refine w2 ?_
 obtain ⟨C,w⟩:=gx s.1.2 ((t).toNat)
 have a:=w
 obtain ⟨D,x⟩:=gx s.1.2 ((u).toNat)
 have b:=x
 apply dW (i9 49 _ _ _ _ _ _ _ _ _ (i5 58 _ _ _ _ _ [io 63 (lB (C.1.any (fun p=>D.1.any (fun y=>decide (p=y))))),io 64 _])) [0,0,0,7,0,0,0,127,127,127,1023,127,127,127,0,0]
 refine z14 ?_
 refine zz (fun _ U=>ac (dK (Qgd C.1 D.1) Qlu) rfl) ?_
 exact y1
 cases F:(C.1.any (fun p=>D.1.any (fun y=>decide (p=y))))
 refine w5 ?_
 refine lc (dBs 9 (e:= .int) Zq) ?_
 refine lc (dBs 10 (e:=Qm) X0 (hab:=by exact ⟨_,_,_,_,rfl,(.inl ⟨_,rfl,rfl,rfl⟩),⟨rfl,rfl⟩,rfl⟩)) ?_
 refine lc (dA 11 Ws (hb:=by (have:=Qo4 (n:=s.1) (ms:=((Qb s).1).1) (k:=k) (on:=QO s.1 mk) (i:=i) (l:=((QO s.1 mk).drop (i+1)).take j) (t:=t) (Ya ‹_›) (by omega) Wu (by have:=Ya (s:=s) ‹_›; omega) (by omega) (by have:=Ya (s:=s) ‹_›; simp only[ao,aW]; omega); simp only[aq,az] at*; omega))) ?_
 refine w_ ?_
 refine Qf ?_
 refine w4 ?_
 refine Qf ?_
 refine l0_ ?_
 exact wp [(8,11)] ⟨rfl,(Qh (by first | exact Qkc A a b ‹_› | exact Qhm A a b ‹_›)),trivial⟩
 refine w6 ?_
 refine Qf ?_
 refine l0_ ?_
 exact wp [] ⟨rfl,(Qh (by first | exact Qkc A a b ‹_› | exact Qhm A a b ‹_›)),trivial⟩
theorem Yc (s:YA)[∀s,Decidable (StgOk s)]:FC Tryz.prog 27 [(true,[dI s.1.1, .dat QF s.1.2, .dat Qo s.2.1, .dat Qw s.2.2.1,dS s.2.2.2])] [] 0 (Is (PV.tup [(false,[.ref 0]),(false,[dB ((Qb s).2)])]) [ar 0 123 Qm (QN s)]):=by
 refine Qn Tryz.func27 rfl rfl Tryz.ntmps27 fun f d e a g c b=> ?_
 refine acG 0 0 fun _=> ?_
 refine w_ ?_
 refine xbx 0 ?_
 refine w5 ?_
 refine lc (dG 1 (Ug s) Qex) ?_
 refine w6 ?_
 exact fi_ [(0,1)] d ⟨rfl,trivial⟩
end Go.Proofs.YtndabgcpnmeeoaaGreat
namespace Go.Proofs.YtndabgcpnmeeoaaGreat
open Go.RowKit
set_option maxRecDepth 100000
set_option maxHeartbeats 4000000
def swp (p:List Int):List Int:=[(p[1]?).getD 0,(p[0]?).getD 0]
def Qpi (P:List (List Int))(n:Nat):List (List Int):=(List.range n).flatMap fun a:Nat=>((List.range n).filter fun b:Nat=>(P.any fun p=>decide (p=[min (a:Int) (b:Int),max (a:Int) (b:Int)]))&&decide ((a:Int)≠(b:Int))).map fun b:Nat=>[(a:Int),(b:Int)]
section
variable {P:List (List Int)}{n:Nat}{x:List Int}{ms:List ByteArray}{g:Yh}
theorem Qkr (h:x∈ZP g ms):∃t u:Int,x=[t,u]∧t < u∧0≤t∧u < (g.2.length:Int):=by
 unfold ZP KL Uq at h
 simp only[dN,aR,cD,aM,aS] at h
 obtain ⟨f,_,t,d,u,⟨e,a,_⟩,rfl⟩:=h
 obtain ⟨i,b⟩:=aO.1 d
 obtain ⟨j,c⟩:=aO.1 e
 exact ⟨t,u,rfl,a,(Yu b).1,(Yu c).2⟩
theorem Qrt (e:∀x∈P,∃t u:Int,x=[t,u]∧t < u∧0≤t∧u < (n:Int)):x∈Qpi P n↔x∈P++P.map swp:=by
 unfold Qpi
 simp only[dN,dx,aR,cD,aM,aS,bW,aG]
 constructor
 ·rintro ⟨a,k,b,⟨l,⟨p,c,rfl⟩,d⟩,rfl⟩
  rcases Int.lt_or_gt_of_ne d with h | h
  ·left; rwa [show min (a:Int) (b:Int)=a by omega,show max (a:Int) (b:Int)=b by omega] at c
  ·right; exact ⟨_,c,by rw[show min (a:Int) (b:Int)=b by omega,show max (a:Int) (b:Int)=a by omega]; rfl⟩
 ·rintro (h | ⟨p,c,rfl⟩)
  ·obtain ⟨t,u,rfl,f,i,j⟩:=e x h
   refine ⟨t.toNat,by omega,u.toNat,⟨by omega,⟨_,h, ?_⟩,by omega⟩, ?_⟩
   ·rw[show min (t.toNat:Int) (u.toNat:Int)=t by omega,show max (t.toNat:Int) (u.toNat:Int)=u by omega]
   ·rw[show (t.toNat:Int)=t by omega,show (u.toNat:Int)=u by omega]
  ·obtain ⟨t,u,rfl,f,i,j⟩:=e p c
   refine ⟨u.toNat,by omega,t.toNat,⟨by omega,⟨_,c, ?_⟩,by omega⟩, ?_⟩
   ·rw[show min (u.toNat:Int) (t.toNat:Int)=t by omega,show max (u.toNat:Int) (t.toNat:Int)=u by omega]
   ·rw[show (t.toNat:Int)=t by omega,show (u.toNat:Int)=u by omega]; rfl
theorem Qus {a b c d:Int}(h:a < c):ltP [a,b] [c,d]=true:=by unfold ltP; rw[if_pos h]
theorem Qut {a b d:Int}(h:b < d):ltP [a,b] [a,d]=true:=by unfold ltP; rw[if_neg (by omega),if_neg (by omega)]; unfold ltP; rw[if_pos h]
theorem Qru:(Qpi P n).Pairwise fun x y=>ltP x y=true:=by
 unfold Qpi
 rw[List.pairwise_flatMap]
 refine ⟨fun a _=> ?_, ?_⟩
 ·rw[bX]
  exact (List.pairwise_lt_range.filter _).imp fun h=>Qut (by omega)
 ·refine List.pairwise_lt_range.imp fun {a b} h x c y d=> ?_
  obtain ⟨_,_,rfl⟩:=aR.1 c
  obtain ⟨_,_,rfl⟩:=aR.1 d
  exact Qus (by omega)
theorem QaV {l:List (List Int)}(h:l.Pairwise fun x y=>ltP x y=true):l.Nodup:=h.imp fun h e=>by rw[e,HG] at h; cases h
theorem QsN (l:P.Pairwise fun x y=>ltP x y=true)(c:∀x∈P,∃t u:Int,x=[t,u]∧t < u∧0≤t∧u < (n:Int)):ZQ (P++P.map swp)=Qpi P n:=by
 have v:(P++P.map swp).Nodup:=by
  refine aT.2 ⟨QaV l, ?_,fun a q b r e=> ?_⟩
  ·refine List.Pairwise.map (R:=fun x y=>x∈P∧y∈P∧x≠y) _ (fun x y h e=> ?_) ?_
   ·obtain ⟨i,j,f⟩:=h
    obtain ⟨t,u,rfl,_⟩:=c x i
    obtain ⟨z,A,rfl,_⟩:=c y j
    simp[swp] at e
    exact f (by rw[e.1,e.2])
   ·exact List.Pairwise.imp_of_mem (fun i j h=>⟨i,j,h⟩) (QaV l)
  ·obtain ⟨p,w,rfl⟩:=aR.1 r
   obtain ⟨t,u,rfl,k,_⟩:=c a q
   obtain ⟨z,A,rfl,m,_⟩:=c p w
   simp[swp] at e
   omega
 have d:(ZQ (P++P.map swp)).Nodup:=(Xo _).nodup_iff.2 v
 refine J7.ext ?_ Qru fun x=> ?_
 ·refine ((VN _).and d).imp fun ⟨k,o⟩=> ?_
  rcases QbB _ _ with h | h | h
  ·exact h
  ·exact absurd h o
  ·rw[k] at h; cases h
 ·rw[(Xo _).mem_iff,Qrt c]
theorem QnE {α β γ:Type}(c:α→Bool)(f:α→β)(h:β→List γ):∀l:List α,((l.filter c).map f).flatMap h=l.flatMap fun a=>if c a=true then h (f a) else []
 | []=>rfl
 | a :: l=>by
  rw[cN,dE,← QnE c f h l]
  split <;> simp
variable [∀s,Decidable (StgOk s)]{s:Qy}
theorem Qfw:Qfv s=(ZQ (QN s++(QN s).map swp)).flatMap fun p=>W4 s ((p[0]?).getD 0) ((p[1]?).getD 0) [false,true]:=by
 have c:QN s=ofG ltP (ZP s.1 (Qb s).1.1):=rfl
 rw[QsN (P:=QN s) (n:=s.1.2.length) (c▸HK J7 _) fun x d=>Qkr ((WC J7 _).1 (c▸d))]
 unfold Qfv Qb4 Qpi QaR
 rw[List.flatMap_assoc]
 refine congrArg (fun f=>(List.range s.1.2.length).flatMap f) (funext fun a=> ?_)
 rw[QnE]
 refine congrArg (fun f=>(List.range s.1.2.length).flatMap f) (funext fun b=> ?_)
 unfold QgI
 simp only[aM,aS]
 rfl
end
end Go.Proofs.YtndabgcpnmeeoaaGreat
namespace Go.Proofs.YtndabgcpnmeeoaaGreat
open Go.RowKit
set_option maxRecDepth 100000
set_option maxHeartbeats 4000000
theorem Kh (s:List (List Int))(n:s.length≤1000000):FC Tryz.prog 113 [(false,[.ref 0])] [(0,some (.fz 123 Qm s))] 1 (Is (lf (.dat Wl s)) [(0,some (.fz 123 Qm s))]):=by
 refine Qn Tryz.func113 rfl rfl Tryz.ntmps113 fun k b j c l h g=> ?_
 refine w6 ?_
 refine QoH (Qa rfl) rfl Evl.val ZW rfl fun m a=> ?_
 refine w_ ?_
 refine cb_ (fun _=> ?_) fun _=> ?_
 refine w2 ?_
 refine lc (dBs 1 (e:=Qm) X0) ?_
 refine w_ ?_
 refine AL.wk (Wk.toFz (q:=1) rfl)<|lc (Qf6 2 (Qa rfl) rfl (Qa rfl) rfl ZW Ws (by first | omega | (simp only[ae,aB,ao,aq,az]; omega) | (simp only[ae,aW,ao,aq,az]; omega)) rfl (Fresh.of rfl) (nlr rfl)) ?_
 refine w2 ?_
 refine AC.wk (Qap (i:=2) (q:=2) rfl rfl)<|Qe ?_
 have d:(([])++s:(Wl:Ty).Den)=s:=by
  rfl
 exact fi_ [] b ⟨rfl,trivial⟩ (h0:=by rw[d] <;> rfl)
 refine w3 ?_
 refine AC.wk (Wk.nilS 3 2 123 Qm rfl (Fresh.of rfl) (nlr rfl))<|AC.wk (Wk.toFz (q:=3) rfl)<|AC.wk (Qap (i:=2) (q:=3) rfl rfl)<|Qe ?_
 have f:([]:(Wl:Ty).Den)=s:=by
  exact (a ‹_›).symm
 exact fi_ [] b ⟨rfl,trivial⟩ (h0:=by rw[f] <;> rfl)
end Go.Proofs.YtndabgcpnmeeoaaGreat
