/- Walks over abstract states: the orders that may be put in, the program. -/
import Derived.Test.YtndabgcpnmeeoaaGreatOCi
import Derived.Test.YtndabgcpnmeeoaaGreatOWj
import Derived.Test.YtndabgcpnmeeoaaGreatOUj
import Derived.Test.YtndabgcpnmeeoaaGreatOVa
import Derived.Test.YtndabgcpnmeeoaaGreatOWq
import Derived.Test.YtndabgcpnmeeoaaGreatOBe
import Derived.Test.YtndabgcpnmeeoaaGreatOAv
import Derived.Laws.Bits64b
set_option linter.unusedSimpArgs false
set_option linter.unusedVariables false
set_option linter.unusedSectionVars false
namespace Go.Proofs.YtndabgcpnmeeoaaGreat
open Go.RowKit
set_option maxRecDepth 100000
set_option maxHeartbeats 4000000
section
variable [∀s,Decidable (StgOk s)]{s:Qy}{l:List (List Int)}{p:List Int}{k i m:Nat}{a b:Int}
def Qfu (s:Qy)(l:List (List Int)):List Qp:=l.flatMap fun p=>W4 s ((p[0]?).getD 0) ((p[1]?).getD 0) [false,true]
theorem Qbf (s:Qy):(QN s).length≤200000:=by
 cases h:(Qb s).2 with
 | false=>rw[← Qet h]; exact aP _
 | true=>
  have d:=QnY (lt:=ltP) (ZP s.1 (Qb s).1.1)
  have c:=Qcc (k:=(Qb s).1.1.length) h
  rw[bM] at c
  exact bn d c
theorem Qcb:∀x∈QN s,∃t u:Int,x=[t,u]∧t < u∧0≤t∧u < (s.1.2.length:Int):=fun x c=>Qkr ((WC J7 _).1 c)
theorem QuZ {as_:List (List Int)}(d:l[k]? =some p)(h0:p[0]? =some a)(c:p[1]? =some b):(as_++(l.take k).map swp)++[[b,a]]=as_++(l.take (k+1)).map swp:=by
 rw[Qs d,bE,aK]; simp[swp,h0,c]
theorem QfT (h:p∈ZQ (QN s++((QN s).take k).map swp)):∃t u:Int,p=[t,u]∧0≤t∧t < (s.1.2.length:Int)∧0≤u∧u < (s.1.2.length:Int):=by
 rcases aG.1 ((Xo _).mem_iff.1 h) with h | h
 ·obtain ⟨t,u,rfl,c,d,e⟩:=Qcb p h; exact ⟨t,u,rfl,by omega,by omega,by omega,by omega⟩
 ·obtain ⟨q,f,rfl⟩:=aR.1 h
  obtain ⟨t,u,rfl,c,d,e⟩:=Qcb q (List.mem_of_mem_take f); exact ⟨u,t,rfl,by omega,by omega,by omega,by omega⟩
theorem QpC (e:l[i]? =some p){ms:List Bool}(d:ms.length≤m)(c:ms=[false,true]):Qfu s (l.take i)++W4 s ((p[0]?).getD 0) ((p[1]?).getD 0) (ms.take m)=Qfu s (l.take (i+1)):=by
 rw[aJ d,c]; unfold Qfu; rw[Qs e,cK]; simp
theorem QjY:∀l:List (List Int),(Qfu s l).length≤2*l.length
 | []=>aL _
 | p :: l=>by
  have d:=QjY l
  have c:=QbM (s:=s) (a:=(p[0]?).getD 0) (b:=(p[1]?).getD 0) (ms:=[false,true])
  unfold Qfu at*
  rw[dE,ae,aq]
  simp only[aq,az] at c
  omega
theorem QnZ {ms:List Bool}(d:ms.length≤2):(Qfu s ((ZQ (QN s++((QN s).take k).map swp)).take i)++W4 s a b ms).length≤900000:=by
 have c:=QjY (s:=s) ((ZQ (QN s++((QN s).take k).map swp)).take i)
 have e:=QbM (s:=s) (a:=a) (b:=b) (ms:=ms)
 have f:=(Xo (QN s++((QN s).take k).map swp)).length_eq
 have g:=Qbf s
 simp only[ae,aB,ao] at*
 omega
theorem Qsk:(Qfu s ((ZQ (QN s++((QN s).take k).map swp)).take i)).length≤900000:=by
 have h:=QnZ (s:=s) (k:=k) (i:=i) (a:=0) (b:=0) (ms:=[]) (aP _)
 rw[ae] at h; omega
theorem QfS (h:p∈ZQ (QN s++((QN s).take k).map swp)){z:Int}(c:z∈p):0≤z∧z < (s.1.2.length:Int):=by
 obtain ⟨t,u,rfl,d,e,f,g⟩:=QfT h
 rcases aE.1 c with rfl | c
 ·exact ⟨d,e⟩
 ·rcases aE.1 c with rfl | c
  ·exact ⟨f,g⟩
  ·cases c
theorem QmR (h:p∈ZQ (QN s++((QN s).take k).map swp)):p.length=2:=by
 obtain ⟨t,u,rfl,_⟩:=QfT h; rfl
theorem Qo2 (h:p∈QN s):p.length=2:=by
 obtain ⟨t,u,rfl,_⟩:=Qcb p h; rfl
theorem QbN {A:List Qp}{ms:List Bool}{g:Bool}(h0:p[0]? =some a)(c:p[1]? =some b)(f:ms[m]? =some g)(e:XV s b=true)(d:Ym s (a,b,g)=true):
 (A++W4 s ((p[0]?).getD 0) ((p[1]?).getD 0) (ms.take m))++[(a,b,g)]=A++W4 s ((p[0]?).getD 0) ((p[1]?).getD 0) (ms.take (m+1)):=by
 rw[h0,c,aK]
 exact congrArg _ (Qke f (by show (XV s b&&Ym s (a,b,g))=true; rw[e,d]; rfl))
theorem UO {A:List Qp}{ms:List Bool}{g:Bool}(c:p[1]? =some b)(e:ms[m]? =some g)(d:XV s b=false):
 A++W4 s ((p[0]?).getD 0) ((p[1]?).getD 0) (ms.take m)=A++W4 s ((p[0]?).getD 0) ((p[1]?).getD 0) (ms.take (m+1)):=by
 rw[c]
 exact congrArg _ (Qiq e (by show (XV s b&&_)=false; rw[d]; rfl))
theorem QdW {A:List Qp}{ms:List Bool}{g:Bool}(h0:p[0]? =some a)(c:p[1]? =some b)(e:ms[m]? =some g)(d:Ym s (a,b,g)=false):
 A++W4 s ((p[0]?).getD 0) ((p[1]?).getD 0) (ms.take m)=A++W4 s ((p[0]?).getD 0) ((p[1]?).getD 0) (ms.take (m+1)):=by
 rw[h0,c]
 exact congrArg _ (Qiq e (by show (_&&Ym s (a,b,g))=false; rw[d]; simp))
theorem HM {l:Int×Bool}(c:s.2.2.1[b.toNat]? =some l)(h:¬0≤l.1):XV s b=false:=by unfold XV; rw[c]; simp; intro d; omega
theorem HO {l:Int×Bool}{g:QB}(d:s.2.2.1[b.toNat]? =some l)(c:s.2.1[(l.1).toNat]? =some g)(h:g.2=1):XV s b=false:=by unfold XV; rw[d]; simp[c,h]
theorem QdR {l:Int×Bool}{g:QB}(d:s.2.2.1[b.toNat]? =some l)(h0:0≤l.1)(c:s.2.1[(l.1).toNat]? =some g)(h:¬g.2=1):XV s b=true:=by unfold XV; rw[d]; simp[c,h,h0]
theorem Qsi (c:(QN s).length≤k)(hi:(ZQ (QN s++((QN s).take k).map swp)).length≤i):Qfu s ((ZQ (QN s++((QN s).take k).map swp)).take i)=Qfv s:=by
 rw[aJ hi,aJ c,Qfw]; rfl
end
theorem VK (s:YA)[∀s,Decidable (StgOk s)](hz:Ty.tot Zl s≤2000000):FC Tryz.prog 25 [(true,[dI s.1.1, .dat QF s.1.2, .dat Qo s.2.1, .dat Qw s.2.2.1,dS s.2.2.2])] [] 0 (Is (PV.tup [(false,[.ref 0]),(false,[dB ((sgV s).2)])]) [ar 0 60 Y4 (Yt s)]):=by
 refine Qn Tryz.func25 rfl rfl Tryz.ntmps25 fun O_ hO b4 a3 X_ a5 a4=> ?_
 refine acG 0 0 fun _=> ?_
 refine w_ ?_
 refine xbx 0 ?_
 refine w6 ?_
 refine lc (dK (Z2 s).frozenG KS) ?_
 refine w3 ?_
 refine lc (xal 1 Qf1 VB) ?_
 refine w7 ?_
 refine cx_ (fun _=> ?_) fun _=> ?_
 refine w4 ?_
 refine AC.wk (Wk.nilS 2 2 60 Y4 rfl (Fresh.of rfl) (nlr rfl))<|Qe ?_
 have e3:(false:Bool)=((sgV s).2):=by
  simp_all
 exact fi_ [(0,2)] hO ⟨(Qh (by exact Qm4 ‹_›)),trivial⟩ (h0:=by rw[← e3] <;> rfl)
 refine w3 ?_
 refine lc (dG 3 (Ug s) Qex) ?_
 refine w7 ?_
 refine Yg ?_
 have X:(sgV s).2=true:=by assumption
 obtain ⟨N,_⟩:=Zs (Qol X)
 have b1:=N.len
 have U:∀l∈s.2.2.1,l.1 < (s.2.1.length:Int):=fun l hl=>by rcases N.labs l hl with h | h <;> omega
 refine AC.wk (Wk.toFz (q:=3) rfl) ?_
 refine w2 ?_
 refine lc (dP 4 [(0,3)] (Kh (QN s) (by have:=Qbf s; omega)) Qk5) ?_
 refine alL 30 fun _=> ?_
 refine w4 ?_
 refine lp0 ((QN s).length) (fun k=>⟨[(1,lP 0 0),(2,lf (.val (.slice none 0 0))),(3,lB false),(6,lR 5),(30,lf (.dat Wl (QN s))),(31,lI ((QN s).length:Int)),(32,lI (k:Int))],[bx 0 51 [dI s.1.1, .dat QF s.1.2, .dat Qo s.2.1, .dat Qw s.2.2.1,dS s.2.2.2],(5,some (.fz 123 Qm (QN s++((QN s).take k).map swp)))]⟩) ?_ fun k _=> ?_
 exact wp [(5,3)] ⟨rfl,(QxO (by simp)),trivial⟩
 have a7:=Qbf s
 have a8:(QN s++((QN s).take k).map swp).length≤400000:=by simp only[ae,aB,ao]; omega
 refine w4 ?_
 cases J:(decide ((k:Int) < ((QN s).length:Int)))
 have K:=aa J
 refine w5 ?_
 refine lc (KG 6 [(0,5)] (QrC (QN s++((QN s).take k).map swp) (by have:=Qbf s; simp only[ae,aB,ao]; omega)) Qey ⟨_,_,rfl,(Ql rfl),⟨_,_,rfl,(Evl.ev Qee),rfl⟩⟩ ⟨rfl,trivial⟩ rfl ⟨trivial,trivial⟩ (nlr rfl)) ?_
 refine w2 ?_
 refine lc (dBs 7 (e:=Y4) VC) ?_
 refine w3 ?_
 refine Yg<|AC.wk (Qap (i:=6) (q:=5) rfl rfl) ?_
 refine w2 ?_
 refine alL 50 fun _=> ?_
 refine w4 ?_
 refine lp0 ((ZQ (QN s++((QN s).take k).map swp)).length) (fun i=>⟨[(1,lP 0 0),(2,lf (.val (.slice none 0 0))),(3,lB false),(10,lR 8),(50,lf (.dat Wl (ZQ (QN s++((QN s).take k).map swp)))),(51,lI ((ZQ (QN s++((QN s).take k).map swp)).length:Int)),(52,lI (i:Int))],[bx 0 51 [dI s.1.1, .dat QF s.1.2, .dat Qo s.2.1, .dat Qw s.2.2.1,dS s.2.2.2],ar 8 60 Y4 (Qfu s ((ZQ (QN s++((QN s).take k).map swp)).take i))]⟩) ?_ fun i _=> ?_
 exact wp [(8,7)] ⟨rfl,(Qh (by simp[Qfu])),trivial⟩
 have a9:=Qsk (s:=s) (k:=k) (i:=i)
 refine w4 ?_
 cases L:(decide ((i:Int) < ((ZQ (QN s++((QN s).take k).map swp)).length:Int)))
 have M:=aa L
 refine w9 ?_
 have T:(true:Bool)=((sgV s).2):=by
  simp_all
 exact fi_ [(0,8)] hO ⟨(Qh (by (rw[Qsi (by omega) (by omega)]; exact Qjh ‹_›))),trivial⟩ (h0:=by rw[← T] <;> rfl)
 have M:=ab L
 refine w5 ?_
 obtain ⟨o,y⟩:=gx (ZQ (QN s++((QN s).take k).map swp)) i
 have G:=y
 have b3:=QmR (ai y)
 refine w4 ?_
 obtain ⟨r,z⟩:=gx o 1
 have c:=z
 have a2:=QfS (ai G) (ai z)
 obtain ⟨H,A⟩:=gx s.2.2.1 ((r).toNat)
 have f:=A
 have b2:=U _ (ai A)
 apply dW (i8 56 _ _ _ _ _ _ _ _ [io 13 _]) [0,0,3,3,3,0,0,0,0]
 exact y9
 refine w_ ?_
 refine lc (dBs 9 (e:= .bool) QvA) ?_
 refine w4 ?_
 refine lp0 (([false,true]).length) (fun m=>⟨[(1,lP 0 0),(2,lf (.val (.slice none 0 0))),(3,lB false),(10,lR 10),(12,lf (.dat Qm o)),(13,lI H.1),(50,lf (.dat Wl (ZQ (QN s++((QN s).take k).map swp)))),(51,lI ((ZQ (QN s++((QN s).take k).map swp)).length:Int)),(52,lI (i:Int)),(53,lB true),(54,lf (.elt Qm o 0)),(55,lf (.dat Qm o)),(56,lP 0 3),(57,lf (.dat Qw s.2.2.1)),(58,lf (.dat Qm o)),(59,lf (.elt .int r 0)),(60,lI r),(61,lf (.elt QL H 0)),(62,lf (.elt QL H 0)),(63,lI H.1),(64,lR 9),(65,lI (([false,true]).length:Int)),(66,lI (m:Int))],[bx 0 51 [dI s.1.1, .dat QF s.1.2, .dat Qo s.2.1, .dat Qw s.2.2.1,dS s.2.2.2],ar 9 4 .bool ([false,true]),ar 10 60 Y4 (Qfu s ((ZQ (QN s++((QN s).take k).map swp)).take i)++W4 s ((o[0]?).getD 0) ((o[1]?).getD 0) (([false,true]:List Bool).take m))]⟩) ?_ fun m _=> ?_
 exact wp [(10,8)] ⟨rfl,rfl,(Qh (by simp[W4])),trivial⟩
 have a6:(([false,true]:List Bool).length)=2:=rfl
 have b0:=QnZ (s:=s) (k:=k) (i:=i) (a:=(o[0]?).getD 0) (b:=(o[1]?).getD 0) (ms:=([false,true]:List Bool).take m) (by simp only[ao]; omega)
 refine w4 ?_
 cases t:(decide ((m:Int) < (([false,true]).length:Int)))
 have D:=aa t
 refine w6 ?_
 refine Qf ?_
 refine l0_ ?_
 exact wp [(8,10)] ⟨rfl,(Qh (QpC G (by omega) rfl)),trivial⟩
 have D:=ab t
 refine w6 ?_
 obtain ⟨I,O⟩:=gx ([false,true]) m
 have d:=O
 refine w3 ?_
 obtain ⟨S,B⟩:=gx o 0
 have j:=B
 have a1:=QfS (ai G) (ai B)
 apply dW (i7 70 _ _ _ _ _ _ _ [io 77 (ag [dI S,dI r,dB I]),⟨some 16,lP 11 0,[bx 11 60 [dI 0,dI 0,dB false]]⟩,⟨none,lf (.val undef),[bx 11 60 [dI S,dI r,dB I]]⟩]) [0,0,0,7,7,7,63,0,255,0]
 refine z7 ?_
 refine zz (fun _ g=>ac (Qj QkU ⟨_,_,rfl,(g.w rfl),⟨_,_,rfl,(g.w rfl),⟨_,_,rfl,(g.w rfl),rfl⟩⟩⟩ (av.1 rfl) rfl rfl) rfl)<|zz (fun _ g=>ac (YP 11 Y4 VC rfl rfl (g.fr 11 rfl) (nlr rfl)) rfl) ?_
 exact y1
 refine w4 ?_
 cases u:(decide (0≤H.1))
 have E:=aa u
 refine w16 ?_
 refine w4 ?_
 refine Qf ?_
 refine l0_ ?_
 exact wp [] ⟨rfl,rfl,(Qh (by first | exact QbN j c d (QdR f ‹_› n ‹_›) ‹_› | exact UO c d (HM f ‹_›) | exact UO c d (HO f n ‹_›) | exact QdW j c d ‹_›)),trivial⟩
 have E:=ab u
 refine w3 ?_
 obtain ⟨sg,P⟩:=gx s.2.1 ((H.1).toNat)
 have n:=P
 refine w6 ?_
 cases x:(!decide (sg.2=1))
 have F:(sg.2=1):=QY x
 refine w11 ?_
 refine Qf ?_
 refine l0_ ?_
 exact wp [] ⟨rfl,rfl,(Qh (by first | exact QbN j c d (QdR f ‹_› n ‹_›) ‹_› | exact UO c d (HM f ‹_›) | exact UO c d (HO f n ‹_›) | exact QdW j c d ‹_›)),trivial⟩
 have F:¬(sg.2=1):=Zb x
 refine w2 ?_
 refine lgy rfl rfl (dK (JV s (S,r,I) hz) Qk6) ?_
 refine w2 ?_
 cases a0:(Ym s (S,r,I))
 refine w6 ?_
 refine Qf ?_
 refine l0_ ?_
 exact wp [] ⟨rfl,rfl,(Qh (by first | exact QbN j c d (QdR f ‹_› n ‹_›) ‹_› | exact UO c d (HM f ‹_›) | exact UO c d (HO f n ‹_›) | exact QdW j c d ‹_›)),trivial⟩
 refine w4 ?_
 refine lc (dBs 12 (e:=Y4) VC (hab:=by exact ⟨_,_,_,_,rfl,⟨[dI S],[dI r,dB I],_,_,_,_,rfl,rfl,⟨rfl,rfl⟩,⟨[dI r],[dB I],_,_,_,_,rfl,rfl,⟨rfl,rfl⟩,⟨rfl,rfl⟩,rfl⟩,rfl⟩,⟨rfl,rfl⟩,rfl⟩)) ?_
 refine lc (dA 13 Qro (hb:=by first | omega | (simp only[ae,aB,ao,aq,az] at*; omega))) ?_
 refine w_ ?_
 refine Qf ?_
 refine w4 ?_
 refine Qf ?_
 refine l0_ ?_
 exact wp [(10,13)] ⟨rfl,rfl,(Qh (by first | exact QbN j c d (QdR f ‹_› n ‹_›) ‹_› | exact UO c d (HM f ‹_›) | exact UO c d (HO f n ‹_›) | exact QdW j c d ‹_›)),trivial⟩
 have K:=ab J
 refine w5 ?_
 obtain ⟨p,C⟩:=gx (QN s) k
 have ph:=C
 have pl:=Qo2 (ai C)
 refine w4 ?_
 obtain ⟨Z,Q⟩:=gx p 1
 have W:=Q
 obtain ⟨Y,R⟩:=gx p 0
 have V:=R
 apply dV (i7 36 _ _ _ _ _ _ _ [⟨some 43,lR 14,[ar 14 3 .int ([Z,Y])]⟩,⟨some 44,lR 15,[ar 15 123 Qm ([[Z,Y]]),(14,none)]⟩,⟨some 45,lR 16,[(16,some (.fz 123 Qm ((QN s++((QN s).take k).map swp)++([[Z,Y]])))),(5,none),(15,none)]⟩,io 6 _]) [0,1,1,1,15,15,15,1,1,0,0]
 refine z7 ?_
 refine zz (fun _ g=>ac (dBs 14 (e:= .int) Zq) rfl) ?_
 refine zz (fun _ g=>ac (Yp 15 (e:=Qm) ZW QX X0 rfl ⟨_,_,rfl,(g.w rfl),rfl⟩ (av.1 (by simp only[QW,XG,bd,bt]; rw[(g.en 14 rfl)]; rfl)) ⟨_,_,_,_,rfl,(.inl ⟨_,rfl,(g.en 14 rfl),rfl⟩),⟨rfl,rfl⟩,rfl⟩ (by decide) rfl rfl (g.fr 15 rfl) (nlr rfl)) rfl)<|zz (fun _ g=>ac (Qf7 16 (g.v rfl) (g.en 5 rfl) (g.v rfl) (g.en 15 rfl) rfl ZW Ws (by first | omega | (simp only[ae,aB,ao,aq,az] at*; omega)) rfl (g.fr 16 rfl) (nlr rfl)) rfl) ?_
 exact y1
 refine w4 ?_
 refine Qf ?_
 refine l0_ ?_
 exact wp [(5,16)] ⟨rfl,(QxO (QuZ ph V W)),trivial⟩
end Go.Proofs.YtndabgcpnmeeoaaGreat
namespace Go.Proofs.YtndabgcpnmeeoaaGreat
open Go.RowKit
set_option maxRecDepth 100000
set_option maxHeartbeats 4000000
section
variable [∀s,Decidable (StgOk s)]{s:Qy}{o x:Qp}{k:Nat}{l:List Qp}
theorem Quk (h:Ym s o=true):Vf s o∧(QK s o).1=QC s o∧(Zu s o).1=QC s o∧(sgV (QC s o)).2=true:=by
 unfold Ym at h
 simp only[aM] at h
 obtain ⟨a,c,_⟩:=h
 have b:Vf s o∧(QK s o).1=QC s o:=by
  unfold QK at a ⊢
  split at a
  ·rename_i g
   rw[if_pos g]
   unfold ZG at a ⊢
   split at a
   ·rename_i d; rw[if_pos d]; exact ⟨g,rfl⟩
   ·cases a
  ·cases a
 refine ⟨b.1,b.2, ?_, ?_⟩
 ·rw[Um.2 (by rw[Um.1]; exact a),b.2]
 ·rw[b.2] at c
  cases e:(sgV (QC s o)).2 with
  | true=>rfl
  | false=>rw[Qim e] at c; cases c
theorem QsA {a b:Int}{ms:List Bool}(h:o∈W4 s a b ms):Ym s o=true:=by
 unfold W4 at h
 obtain ⟨m,c,rfl⟩:=aR.1 h
 have:=(cD.1 c).2
 simp only[aM] at this
 exact this.2
theorem QqN (h:o∈Qfv s):Ym s o=true:=by
 rw[Qfw] at h
 obtain ⟨p,_,h⟩:=dN.1 h
 exact QsA h
theorem QoT (h:o∈Yt s):Ym s o=true:=by
 unfold Yt at h
 split at h
 ·exact QqN h
 ·cases h
def ocG (s:Qy)(o:Qp):DSg:=(sgV (QC s o)).1
def oc1 (s:Qy)(o:Qp):Int:=((Qnx (ocG s o)).length:Int)
def oc2 (s:Qy)(o:Qp):Int:=((ocG s o).2.1.length:Int)
def ocB (s:Qy)(o:Qp):Bool:=(Yt s).any fun y=>decide (o=y)
def ox1 (s:Qy)(o:Qp):Int:=if ocB s o=true then oc1 s o else 0
def ox2 (s:Qy)(o:Qp):Int:=if ocB s o=true then oc2 s o else 0
def QxC (s:Qy)(a:Qp×Int×Int)(o:Qp):Qp×Int×Int:=
 if a.2.1 < 0∨oc1 s o < a.2.1∨(oc1 s o=a.2.1∧a.2.2 < oc2 s o) then (o,oc1 s o,oc2 s o) else a
def Qq6 (s:Qy)(l:List Qp):Qp×Int×Int:=l.foldl (QxC s) ((0,0,false), -1,0)
def BeS (s:Qy)(l:List Qp)(k:Nat)(b:Qp)(c t:Int):Prop:=Qq6 s (l.take k)=(b,c,t)
def BeI (s:Qy)(l:List Qp)(k:Nat)(b:Qp)(c t:Int):Prop:=Qq6 s (l.take k)=(b,if k=0 then -1 else c,t)∧(k=0→c=0)
def boV (s:Qy):Qp:=(Qq6 s (Yt s)).1
def boB (s:Qy):Bool:=decide (0 < ((Yt s).length:Int))
end
end Go.Proofs.YtndabgcpnmeeoaaGreat
namespace Go.Proofs.YtndabgcpnmeeoaaGreat
open Go.RowKit
set_option maxRecDepth 100000
set_option maxHeartbeats 4000000
def fbS:Qy:=((4,[([3],[0]),([0],[1]),([1],[2]),([2],[3])]),[(⟨#[97]⟩,1),(⟨#[98]⟩,2)],[(0,true),(1,true),(0,false),(1,false)],⟨#[48,48,48,49]⟩)
end Go.Proofs.YtndabgcpnmeeoaaGreat
namespace Go.Proofs.YtndabgcpnmeeoaaGreat
open Go.RowKit
theorem KF (n:Int):0≤IntKind.u64.wrap n∧IntKind.u64.wrap n < 18446744073709551616:=by
 simp only[IntKind.wrap,IntKind.bits,IntKind.signed]
 simp
 omega
theorem He {a:Int}(h:0≤a∧a < 18446744073709551616):0≤a / 2 ^ 40∧a / 2 ^ 40 < 18446744073709551616:=by omega
theorem Qek {a:Int}(h:0≤a∧a < 18446744073709551616):0≤bits BinOp.and IntKind.u64 a 255∧bits BinOp.and IntKind.u64 a 255≤255:=by
 have c:=bits_and_u64_nat a.toNat 255 (by omega) (by decide)
 rw[show ((a.toNat:Nat):Int)=a by omega,show ((255:Nat):Int)=255 from rfl] at c
 have e:a.toNat &&& 255≤255:=Nat.and_le_right
 rw[c]
 omega
section
variable {A:Amb}{P:Program}{s:St}{x y:Operand}{d:Nat}{T T' ty:TypeId}{pos:String}{af:Array Edge}{g:Option (Nat×Bool)}{a b:Int}
theorem Qgt (j:Evl A s x (.val (.int .u64 a)))(k:Evl A s y (.val (.int .u64 b)))(i:Nat.blt d A.n=true):Does A P ⟨some d, .binOp .mul T x y T',ty,pos,af,g⟩ s (s.put d (lf (.val (.int .u64 (IntKind.u64.wrap (a*b)))))):=
 Qi rfl i fun e c w r=>by
  have f:c.eval x= .int .u64 a:=j e c w r
  have h:c.eval y= .int .u64 b:=k e c w r
  refine ⟨_, ?_,_,rfl,rfl⟩
  simp only[execOp,f,h,eqGuard_at_int,binOp,Op.intArith]
  simp
theorem Hi (j:Evl A s x (.val (.int .u64 a)))(k:Evl A s y (.val (.int .u64 b)))(i:Nat.blt d A.n=true):Does A P ⟨some d, .binOp .add T x y T',ty,pos,af,g⟩ s (s.put d (lf (.val (.int .u64 (IntKind.u64.wrap (a+b)))))):=
 Qi rfl i fun e c w r=>by
  have f:c.eval x= .int .u64 a:=j e c w r
  have h:c.eval y= .int .u64 b:=k e c w r
  refine ⟨_, ?_,_,rfl,rfl⟩
  simp only[execOp,f,h,eqGuard_at_int,binOp,Op.intArith]
  simp
theorem Qgp (k:Evl A s x (.val (.int .u64 a)))(l:Evl A s y (.val (.int .u64 b)))(j:Nat.blt d A.n=true):Does A P ⟨some d, .binOp .and T x y T',ty,pos,af,g⟩ s (s.put d (lf (.val (.int .u64 (bits .and .u64 a b))))):=
 Qi rfl j fun e c w r=>by
  have f:c.eval x= .int .u64 a:=k e c w r
  have h:c.eval y= .int .u64 b:=l e c w r
  have i:Op.intBits .and .u64 a b=pure (.int .u64 (bits .and .u64 a b)):=rfl
  refine ⟨_, ?_,_,rfl,rfl⟩
  simp only[execOp,f,h,eqGuard_at_int,binOp,i]
  simp
theorem Qgv {k:IntKind}(l:Evl A s x (.val (.int .u64 a)))(m:Evl A s y (.val (.int k b)))(j:Nat.blt d A.n=true)(h0:0≤b∧b≤62):Does A P ⟨some d, .binOp .shr T x y T',ty,pos,af,g⟩ s (s.put d (lf (.val (.int .u64 (a / 2 ^ b.toNat))))):=
 Qi rfl j fun e c w r=>by
  have f:c.eval x= .int .u64 a:=l e c w r
  have h:c.eval y= .int k b:=m e c w r
  have i:Op.shift .shr .u64 a k b=pure (.int .u64 (a / 2 ^ b.toNat)):=by
   rw[shift_shr_any _ _ _ _ h0.1,show IntKind.u64.bits=64 from rfl,cu (by omega)]
  refine ⟨_, ?_,_,rfl,rfl⟩
  simp only[execOp,f,h,eqGuard_at_int,binOp,i]
  simp
theorem QoP {n:UInt8}(m:Evl A s x (.dat .u8 n))(l:P.underlying T=some (.int .u8))(j:P.underlying T'=some (.int .i64))(k:Nat.blt d A.n=true):
 Does A P ⟨some d, .convert T T' x,ty,pos,af,g⟩ s (s.put d (lf (dI n.toNat))):=
 Qi rfl k fun c a w r=>by
  have f:a.eval x= .int .u8 n.toNat:=by
   have h:Rd c.N .u8 w [a.eval x] n:=m c a w r
   have i:[a.eval x]=[.int .u8 n.toNat]:=h.rep
   simpa using i
  have o:n.toNat < 256:=n.toNat_lt
  have e:IntKind.i64.wrap (n.toNat:Int)=(n.toNat:Int):=IntWalk.i64_in _ (by omega)
  refine ⟨.int .i64 n.toNat, ?_,_,rfl,Yj (by omega)⟩
  simp only[execOp,f,convert,run_underlying l,run_underlying j,ay,aI,Conv.intToInt,e]
  simp
end
theorem Trd.u8 {P:Program}{T:TypeId}(h:P.underlying T=some (.int .u8))(p:P.cellsOf T=1):Trd P T .u8:=⟨p,fun o w i f k j r x q=>by
 obtain ⟨n,rfl,_,l⟩:=DataW.trod_int h q
 simp[Lit.wf] at l
 have c:IntKind.u8.min=0:=rfl
 have e:IntKind.u8.max=255:=rfl
 rw[c,e] at l
 refine ⟨UInt8.ofNat n.toNat, ?_⟩
 have m:(UInt8.ofNat n.toNat).toNat=n.toNat:=by
  rw[UInt8.toNat_ofNat']
  exact dM (by omega)
 show [Value.int .u8 n]=[Value.int .u8 ((UInt8.ofNat n.toNat).toNat:Nat)]
 rw[m,cM (by omega)]⟩
def Qxz (P:Program)(T:TypeId)(offs:List (Nat×Nat))(zs:List Value):Prop:=
 ∃fs,P.underlying T=some (.struct fs)∧(∀w,(fs.mapM fun (f:Field)=>do pure (f.offset,← sizeOf f.type)).run P w= .ok offs.toArray w)∧zer P T=some (.agg zs.toArray)
theorem Qdz {P:Program}{T:TypeId}{c:List Field}{offs:List (Nat×Nat)}{zs:List Value}(f:P.underlying T=some (.struct c.toArray))(e:plB P c offs=true)(h:zer P T=some (.agg zs.toArray)):Qxz P T offs zs:=
 ⟨_,f,fun w=>by
  rw[List.mapM_toArray]
  have:=QaS (P:=P) (w:=w) e
  simp only[map_eq_pure_bind,ay,this,aI,bl],h⟩
section
variable {A:Amb}{P:Program}{s:St}{d:Nat}{T ty:TypeId}{pos:String}{af:Array Edge}{g:Option (Nat×Bool)}
theorem UB {zs:List Value}(Q:List LV){offs:List (Nat×Nat)}{f:Array (Nat×Operand)}{j:List (Bool×List LV)}{ls:List LV}(hb:Qxz P T offs zs)(G:∀al gh w,LVs al gh w Q zs)(hv:EvL A s (f.toList.map (·.2)) j)(o:∀c∈j,QW s.tab c.2=true)
 (hf:QgT offs Q ((f.toList.map (·.1)).zip (j.map (·.2)))=some ls) (hn:Nat.blt d A.n=true):Does A P ⟨some d, .build T f,ty,pos,af,g⟩ s (s.put d (ag ls)):=
 Qi rfl hn fun gh a w r=>by
  obtain ⟨fs,R,S,F⟩:=hb
  have C:=hv.cms r
  have N:=C.len
  generalize M:(f.toList.map (·.2)).map a.eval=t at*
  have a0:f.toList.length=t.length:=by rw[← M]; simp
  have m:∀(B:List (Bool×List LV)) (t:List Value),CmsR s.tab.al gh w B t→(∀c∈B,QW s.tab c.2=true)→∀(i:Nat) (c:Bool×List LV) (v:Value),B[i]? =some c→t[i]? =some v→∃O,v.cells=O.toArray∧LVs s.tab.al gh w c.2 O:=by
   intro B
   induction B with
   | nil=>intro t _ _ i c v h; simp at h
   | cons c B I=>
    rintro t ⟨v,K,rfl,D,J⟩ o i E v' z k
    cases i with
    | zero=>
     simp at z k
     subst z; subst k
     have z:=o c (aw ..)
     obtain ⟨b,ls⟩:=c
     exact CmR.cells D fun hb=>by
      subst hb
      obtain ⟨l,rfl,q1⟩:=D
      simp only[QW,dt] at z
      obtain ⟨F,U⟩:=VO z
      exact q1.oneCell U F fun q ⟨e,X⟩=>(r.cx.en q e X).oneCell
    | succ i=>exact I K J (fun c z=>o c (ax _ z)) i E v' (by simpa using z) (by simpa using k)
  have H:((f.toList.map (·.1)).zip (j.map (·.2))).length=t.length:=by rw[List.length_zip,aB,aB]; omega
  obtain ⟨u,D,J⟩:=Qbu (al:=s.tab.al) (gh:=gh) (w:=w) (cur:=zs.toArray) hf H.symm (fun i p v Z k=>by
   have Y:=List.getElem?_zip_eq_some.1 Z
   have L:=Y.2
   rw[bo] at L
   obtain ⟨E,V,W⟩:=bP.1 L
   rw[← W]
   exact m j t C o i E v V k) (by simpa using G s.tab.al gh w)
  refine ⟨.agg u, ?_,u.toList,by simp,J⟩
  have hz:(((f.toList.map (·.1)).zip (j.map (·.2))).map (·.1)).zip t=(f.map fun p=>(p.1,a.eval p.2)).toList:=by
   rw[List.map_fst_zip (by rw[aB,aB]; omega),dy,← M,cX]
   generalize f.toList=pl
   induction pl with
   | nil=>rfl
   | cons p ps I=>simp[I]
  rw[hz] at D
  simp only[execOp,Instr.build,ay,Vq F,aI,run_underlying R,S,Value.cells]
  rw[D]
  simp
end
end Go.Proofs.YtndabgcpnmeeoaaGreat
namespace Go.Proofs.YtndabgcpnmeeoaaGreat
open Go.RowKit
set_option maxRecDepth 100000
set_option maxHeartbeats 4000000
def nxB (code:List UInt8)(at_:Int):Int:=if at_ < (code.length:Int) then ((((code[at_.toNat]?).getD 0).toNat:Nat):Int) else 0
def nxS (code:List UInt8)(at_ sd:Int):Int:=IntKind.u64.wrap (IntKind.u64.wrap (IntKind.u64.wrap (sd*6364136223846793005)+nxB code at_)+1442695040888963407)
def nxV (code:List UInt8)(at_ sd:Int):Int:=if at_+1≤(code.length:Int) then nxB code at_ else bits .and .u64 (nxS code at_ sd / 2 ^ 40) 255
def pkV (code:List UInt8)(at_ sd n:Int):Int:=if n≤1 then 0 else if 200 < n then (nxV code at_ sd*256+nxV code (at_+1) (nxS code at_ sd)) % n else nxV code at_ sd % n
def pkA (n at_:Int):Int:=if n≤1 then at_ else if 200 < n then at_+1+1 else at_+1
def pkS (code:List UInt8)(at_ sd n:Int):Int:=if n≤1 then sd else if 200 < n then nxS code (at_+1) (nxS code at_ sd) else nxS code at_ sd
section
variable {code:List UInt8}{at_ sd n:Int}{c:UInt8}
theorem Qux (code:List UInt8)(at_:Int):0≤nxB code at_∧nxB code at_≤255:=by
 unfold nxB
 split
 ·have:((code[at_.toNat]?).getD 0).toNat < 256:=UInt8.toNat_lt _
  omega
 ·omega
theorem Quy (code:List UInt8)(at_ sd:Int):0≤nxS code at_ sd∧nxS code at_ sd < 18446744073709551616:=KF _
theorem QdP (code:List UInt8)(at_ sd:Int):0≤nxV code at_ sd∧nxV code at_ sd≤255:=by
 unfold nxV
 split
 ·exact Qux ..
 ·exact Qek (He (Quy ..))
theorem QdO (h:code[at_.toNat]? =some c)(a:at_ < (code.length:Int)):(((c.toNat:Nat):Int))=nxB code at_:=by unfold nxB; rw[if_pos a,h]; rfl
theorem Qif (h:¬at_ < (code.length:Int)):(0:Int)=nxB code at_:=(if_neg h).symm
theorem QnX (h:at_+1≤(code.length:Int)):nxB code at_=nxV code at_ sd:=(if_pos h).symm
theorem Qsc (h:¬at_+1≤(code.length:Int)):bits .and .u64 (nxS code at_ sd / 2 ^ 40) 255=nxV code at_ sd:=(if_neg h).symm
theorem Zk (code:List UInt8)(at_ sd n:Int):(0≤pkV code at_ sd n∧(1≤n→pkV code at_ sd n < n))∧(at_≤pkA n at_∧pkA n at_≤at_+2):=by
 refine ⟨?_, ?_⟩
 ·unfold pkV
  have a:=QdP code at_ sd
  have b:=QdP code (at_+1) (nxS code at_ sd)
  split
  ·omega
  ·split
   ·exact ⟨Int.emod_nonneg _ (by omega),fun _=>Int.emod_lt_of_pos _ (by omega)⟩
   ·exact ⟨Int.emod_nonneg _ (by omega),fun _=>Int.emod_lt_of_pos _ (by omega)⟩
 ·unfold pkA
  split
  ·omega
  ·split <;> omega
theorem QwA (h:n≤1):pkV code at_ sd n=0∧pkA n at_=at_∧pkS code at_ sd n=sd:=⟨if_pos h,if_pos h,if_pos h⟩
theorem QwC (h:¬n≤1)(a:200 < n):pkV code at_ sd n=(nxV code at_ sd*256+nxV code (at_+1) (nxS code at_ sd)) % n∧pkA n at_=at_+1+1∧pkS code at_ sd n=nxS code (at_+1) (nxS code at_ sd):=by
 refine ⟨?_, ?_, ?_⟩
 ·unfold pkV; rw[if_neg h,if_pos a]
 ·unfold pkA; rw[if_neg h,if_pos a]
 ·unfold pkS; rw[if_neg h,if_pos a]
theorem QwB (h:¬n≤1)(a:¬200 < n):pkV code at_ sd n=nxV code at_ sd % n∧pkA n at_=at_+1∧pkS code at_ sd n=nxS code at_ sd:=by
 refine ⟨?_, ?_, ?_⟩
 ·unfold pkV; rw[if_neg h,if_neg a]
 ·unfold pkA; rw[if_neg h,if_neg a]
 ·unfold pkS; rw[if_neg h,if_neg a]
end
def cuN (code:List UInt8)(c:Int×Int)(n:Int):Int×Int:=(pkA n c.1,pkS code c.1 c.2 n)
def cuV (code:List UInt8)(c:Int×Int)(n:Int):Int:=pkV code c.1 c.2 n
def spT (t w:ByteArray)(i q:Int):ByteArray:=if q=0 then t.extract 0 i.toNat++w++t.extract i.toNat t.size else if q=1 then t.extract 0 i.toNat++w++t.extract (i+1).toNat t.size else t.extract 0 i.toNat++t.extract (i+1).toNat t.size
def spW (code:List UInt8)(wt:ByteArray)(c:Int×Int):ByteArray:=⟨#[(wt[(cuV code c (wt.size:Int)).toNat]?).getD 0]⟩
def spN (code:List UInt8)(wt:ByteArray)(s:ByteArray×Int×Int):ByteArray×Int×Int:=
 let c1:=cuN code s.2 (s.1.size:Int); let c2:=cuN code c1 (wt.size:Int)
 (spT s.1 (spW code wt c1) (cuV code s.2 (s.1.size:Int)) (cuV code c2 3),cuN code c2 3)
def spG (code:List UInt8)(wt:ByteArray):Nat→ByteArray×Int×Int→ByteArray×Int×Int
 | 0,s=>s
 | n+1,s=>if 0 < s.1.size then spG code wt n (spN code wt s) else s
def spV (code:List UInt8)(wt t:ByteArray)(at_ sd:Int):ByteArray×Int×Int:=spG code wt (1+pkV code at_ sd 2).toNat (t,pkA 2 at_,pkS code at_ sd 2)
section
variable {code:List UInt8}{wt t:ByteArray}{at_ sd n q i:Int}{s:ByteArray×Int×Int}{w:ByteArray}
theorem QsQ (h:0≤i∧i < (t.size:Int))(a:w.size=1):(spT t w i q).size≤t.size+1:=by
 unfold spT
 split
 ·simp only[bc,ba,a]; omega
 ·split
  ·simp only[bc,ba,a]; omega
  ·simp only[bc,ba]; omega
theorem QuQ (h:0 < s.1.size):(spN code wt s).1.size≤s.1.size+1∧s.2.1≤(spN code wt s).2.1∧(spN code wt s).2.1≤s.2.1+6:=by
 have a:=Zk code s.2.1 s.2.2 (s.1.size:Int)
 have b:=Zk code (pkA (s.1.size:Int) s.2.1) (pkS code s.2.1 s.2.2 (s.1.size:Int)) (wt.size:Int)
 have d:=Zk code (pkA (wt.size:Int) (pkA (s.1.size:Int) s.2.1)) (pkS code (pkA (s.1.size:Int) s.2.1) (pkS code s.2.1 s.2.2 (s.1.size:Int)) (wt.size:Int)) 3
 refine ⟨QsQ ⟨a.1.1,a.1.2 (by omega)⟩ rfl, ?_, ?_⟩
 ·show s.2.1≤pkA 3 (pkA (wt.size:Int) (pkA (s.1.size:Int) s.2.1)); omega
 ·show pkA 3 (pkA (wt.size:Int) (pkA (s.1.size:Int) s.2.1))≤s.2.1+6; omega
theorem Qom:∀(k:Nat) (s:ByteArray×Int×Int),(spG code wt k s).1.size≤s.1.size+k∧s.2.1≤(spG code wt k s).2.1∧(spG code wt k s).2.1≤s.2.1+6*k
 | 0,s=>⟨aL _,dU _,by simp[spG]⟩
 | k+1,s=>by
  rw[spG]
  split
  ·rename_i h
   have a:=QuQ (code:=code) (wt:=wt) h
   have b:=Qom k (spN code wt s)
   refine ⟨by omega,by omega,by omega⟩
  ·exact ⟨by omega,dU _,by omega⟩
theorem QsR {k a b:Int}(e:0 < k)(d:0 < t.size):spG code wt k.toNat (t,a,b)=spG code wt (k - 1).toNat (spN code wt (t,a,b)):=by
 rw[show k.toNat=(k - 1).toNat+1 by omega,spG,if_pos d]
theorem QcL {k a b:Int}(h:k≤0∨t.size=0):spG code wt k.toNat (t,a,b)=(t,a,b):=by
 by_cases d:k≤0
 ·rw[show k.toNat=0 by omega,spG]
 ·rw[show k.toNat=(k - 1).toNat+1 by omega,spG,if_neg (by show¬0 < t.size; omega)]
theorem Qyh {a b:Int}{c:UInt8}(e:wt[(pkV code (pkA (t.size:Int) a) (pkS code a b (t.size:Int)) (wt.size:Int)).toNat]? =some c)(d:pkV code (pkA (wt.size:Int) (pkA (t.size:Int) a)) (pkS code (pkA (t.size:Int) a) (pkS code a b (t.size:Int)) (wt.size:Int)) 3=0):
 spN code wt (t,a,b)=(t.extract 0 (pkV code a b (t.size:Int)).toNat++(⟨#[c]⟩:ByteArray)++t.extract (pkV code a b (t.size:Int)).toNat t.size,pkA 3 (pkA (wt.size:Int) (pkA (t.size:Int) a)),pkS code (pkA (wt.size:Int) (pkA (t.size:Int) a)) (pkS code (pkA (t.size:Int) a) (pkS code a b (t.size:Int)) (wt.size:Int)) 3):=by
 unfold spN spT spW cuV cuN
 dsimp only
 rw[if_pos d,e]; rfl
theorem Qyi {a b:Int}{c:UInt8}(e:wt[(pkV code (pkA (t.size:Int) a) (pkS code a b (t.size:Int)) (wt.size:Int)).toNat]? =some c)(d:¬pkV code (pkA (wt.size:Int) (pkA (t.size:Int) a)) (pkS code (pkA (t.size:Int) a) (pkS code a b (t.size:Int)) (wt.size:Int)) 3=0)
 (hq:pkV code (pkA (wt.size:Int) (pkA (t.size:Int) a)) (pkS code (pkA (t.size:Int) a) (pkS code a b (t.size:Int)) (wt.size:Int)) 3=1):
 spN code wt (t,a,b)=(t.extract 0 (pkV code a b (t.size:Int)).toNat++(⟨#[c]⟩:ByteArray)++t.extract (pkV code a b (t.size:Int)+1).toNat t.size,pkA 3 (pkA (wt.size:Int) (pkA (t.size:Int) a)),pkS code (pkA (wt.size:Int) (pkA (t.size:Int) a)) (pkS code (pkA (t.size:Int) a) (pkS code a b (t.size:Int)) (wt.size:Int)) 3):=by
 unfold spN spT spW cuV cuN
 dsimp only
 rw[if_neg d,if_pos hq,e]; rfl
theorem Qyj {a b:Int}(d:¬pkV code (pkA (wt.size:Int) (pkA (t.size:Int) a)) (pkS code (pkA (t.size:Int) a) (pkS code a b (t.size:Int)) (wt.size:Int)) 3=0)
 (hq:¬pkV code (pkA (wt.size:Int) (pkA (t.size:Int) a)) (pkS code (pkA (t.size:Int) a) (pkS code a b (t.size:Int)) (wt.size:Int)) 3=1):
 spN code wt (t,a,b)=(t.extract 0 (pkV code a b (t.size:Int)).toNat++t.extract (pkV code a b (t.size:Int)+1).toNat t.size,pkA 3 (pkA (wt.size:Int) (pkA (t.size:Int) a)),pkS code (pkA (wt.size:Int) (pkA (t.size:Int) a)) (pkS code (pkA (t.size:Int) a) (pkS code a b (t.size:Int)) (wt.size:Int)) 3):=by
 unfold spN spT cuV cuN
 dsimp only
 rw[if_neg d,if_neg hq]
theorem QaT (code:List UInt8)(wt t:ByteArray)(at_ sd:Int):(spV code wt t at_ sd).1.size≤t.size+2∧at_≤(spV code wt t at_ sd).2.1∧(spV code wt t at_ sd).2.1≤at_+14:=by
 have a:=Zk code at_ sd 2
 have b:=Qom (code:=code) (wt:=wt) (1+pkV code at_ sd 2).toNat (t,pkA 2 at_,pkS code at_ sd 2)
 have d:(1+pkV code at_ sd 2).toNat≤2:=by have:=a.1.2 (by decide); omega
 unfold spV
 dsimp only at b
 refine ⟨by omega,by omega,by omega⟩
end
theorem Ui (code:List UInt8)(at_:Int)(sd:Int)(y:0≤at_∧at_≤1000000000):FC Tryz.prog 235 [(false,[.ptr 0 0])] [bx 0 134 [.dat QZ code,dI at_, .val (.int .u64 sd)]] 1 (Is (lI (nxV code at_ sd)) [bx 0 134 [.dat QZ code,dI (at_+1), .val (.int .u64 (nxS code at_ sd))]]):=by
 refine Qn Tryz.func235 rfl rfl Tryz.ntmps235 fun u d r h x m l=> ?_
 refine w7 ?_
 apply dW (i9 4 _ _ _ _ _ _ _ _ _ [io 13 _]) [0,0,0,0,15,15,15,15,15,0]
 exact y10
 refine cd_ (fun _ _=> ?_) fun _ _=> ?_
 refine w6 ?_
 refine alI 28 fun _=> ?_
 refine w11 ?_
 refine lc (Qgt (Qa rfl) Evl.val rfl) ?_
 refine w_ ?_
 refine lc (KH (Qa rfl) Jw Qd0 (by omega) rfl)<|lc (Hi (Qa rfl) (Qa rfl) rfl)<|lc (Hi (Qa rfl) Evl.val rfl) ?_
 refine w5 ?_
 apply dW (i9 44 _ _ _ _ _ _ _ _ _ [io 53 _]) [0,0,0,0,15,15,15,15,15,0]
 exact y10
 refine cd_ (fun _ _=> ?_) fun _ _=> ?_
 refine w6 ?_
 refine lc (Qgv (Qa rfl) Evl.val rfl (by omega))<|lc (Qgp (Qa rfl) Evl.val rfl)<|lc (Qam (Qa rfl) Qd0 Jw (by first | omega | exact ⟨(Qek (He (KF _))).1,Int.le_trans (Qek (He (KF _))).2 (by decide)⟩) rfl) ?_
 refine w3 ?_
 have j:((bits .and .u64 ((IntKind.u64.wrap ((IntKind.u64.wrap ((IntKind.u64.wrap (sd*(6364136223846793005:Int)))+(0:Int)))+(1442695040888963407:Int))) / 2 ^ (40:Int).toNat) (255:Int)):Int)=(nxV code at_ sd):=by
  (rw[← Qsc ‹_›,nxS,← Qif ‹_›]; rfl)
 exact fi_ [] d ⟨((congrArg (fun z_:Int=>some (Ent.box 134 [.dat QZ code,dI (at_+1), .val (.int .u64 z_)])) (show ((IntKind.u64.wrap ((IntKind.u64.wrap ((IntKind.u64.wrap (sd*(6364136223846793005:Int)))+(0:Int)))+(1442695040888963407:Int))):Int)=(nxS code at_ sd) by (unfold nxS; rw[← Qif ‹_›])))),trivial⟩ (h0:=by rw[j] <;> rfl)
 refine w5 ?_
 have k:(0:Int)=(nxV code at_ sd):=by
  (rw[Qif ‹_›]; exact QnX ‹_›)
 exact fi_ [] d ⟨((congrArg (fun z_:Int=>some (Ent.box 134 [.dat QZ code,dI (at_+1), .val (.int .u64 z_)])) (show ((IntKind.u64.wrap ((IntKind.u64.wrap ((IntKind.u64.wrap (sd*(6364136223846793005:Int)))+(0:Int)))+(1442695040888963407:Int))):Int)=(nxS code at_ sd) by (unfold nxS; rw[← Qif ‹_›])))),trivial⟩ (h0:=by rw[← k] <;> rfl)
 obtain ⟨b,g⟩:=gx code ((at_).toNat)
 have a:=g
 have p:b.toNat < 256:=UInt8.toNat_lt _
 apply dZ (i9 14 _ _ _ _ _ _ _ _ _ [io 23 _,io 24 (lI (b.toNat:Int)),io 3 _]) [0,0,0,0,15,15,15,15,0,0,0,0]
 refine z10 ?_
 refine zz (fun _ o=>ac (QoP (o.v rfl) QbT Jw rfl) rfl) ?_
 exact y1
 refine w5 ?_
 refine alI 28 fun _=> ?_
 refine w11 ?_
 refine lc (Qgt (Qa rfl) Evl.val rfl) ?_
 refine w_ ?_
 refine lc (KH (Qa rfl) Jw Qd0 (by omega) rfl)<|lc (Hi (Qa rfl) (Qa rfl) rfl)<|lc (Hi (Qa rfl) Evl.val rfl) ?_
 refine w5 ?_
 apply dW (i9 44 _ _ _ _ _ _ _ _ _ [io 53 _]) [0,0,0,0,15,15,15,15,15,0]
 exact y10
 refine cd_ (fun _ _=> ?_) fun _ _=> ?_
 refine w6 ?_
 refine lc (Qgv (Qa rfl) Evl.val rfl (by omega))<|lc (Qgp (Qa rfl) Evl.val rfl)<|lc (Qam (Qa rfl) Qd0 Jw (by first | omega | exact ⟨(Qek (He (KF _))).1,Int.le_trans (Qek (He (KF _))).2 (by decide)⟩) rfl) ?_
 refine w3 ?_
 have e:((bits .and .u64 ((IntKind.u64.wrap ((IntKind.u64.wrap ((IntKind.u64.wrap (sd*(6364136223846793005:Int)))+(b.toNat:Int)))+(1442695040888963407:Int))) / 2 ^ (40:Int).toNat) (255:Int)):Int)=(nxV code at_ sd):=by
  (rw[← Qsc ‹_›,nxS,← QdO a ‹_›]; rfl)
 exact fi_ [] d ⟨((congrArg (fun z_:Int=>some (Ent.box 134 [.dat QZ code,dI (at_+1), .val (.int .u64 z_)])) (show ((IntKind.u64.wrap ((IntKind.u64.wrap ((IntKind.u64.wrap (sd*(6364136223846793005:Int)))+(b.toNat:Int)))+(1442695040888963407:Int))):Int)=(nxS code at_ sd) by (unfold nxS; rw[← QdO a ‹_›])))),trivial⟩ (h0:=by rw[e] <;> rfl)
 refine w5 ?_
 have f:((b.toNat:Int):Int)=(nxV code at_ sd):=by
  (rw[QdO a ‹_›]; exact QnX ‹_›)
 exact fi_ [] d ⟨((congrArg (fun z_:Int=>some (Ent.box 134 [.dat QZ code,dI (at_+1), .val (.int .u64 z_)])) (show ((IntKind.u64.wrap ((IntKind.u64.wrap ((IntKind.u64.wrap (sd*(6364136223846793005:Int)))+(b.toNat:Int)))+(1442695040888963407:Int))):Int)=(nxS code at_ sd) by (unfold nxS; rw[← QdO a ‹_›])))),trivial⟩ (h0:=by rw[f] <;> rfl)
theorem QQ (code:List UInt8)(at_:Int)(sd:Int)(n:Int)(p:0≤at_∧at_≤999999000):FC Tryz.prog 99 [(false,[.ptr 0 0]),(false,[dI n])] [bx 0 134 [.dat QZ code,dI at_, .val (.int .u64 sd)]] 1 (Is (lI (pkV code at_ sd n)) [bx 0 134 [.dat QZ code,dI (pkA n at_), .val (.int .u64 (pkS code at_ sd n))]]):=by
 refine Qn Tryz.func99 rfl rfl Tryz.ntmps99 fun m a l b o h g=> ?_
 refine acI 1 fun _=> ?_
 refine w8 ?_
 refine cd_ (fun _ _=> ?_) fun _ _=> ?_
 refine w3 ?_
 have j:=QdP code at_ sd
 refine lc (dP 1 [] (Ui code at_ sd (by omega)) QeI) ?_
 refine w7 ?_
 refine cd_ (fun _ _=> ?_) fun _ _=> ?_
 refine w4 ?_
 refine lc (Qi8 (Qa rfl) (Qa rfl) rfl (by omega) (by omega)) ?_
 refine w3 ?_
 have d:((nxV code at_ sd) % n:Int)=(pkV code at_ sd n):=by
  exact (QwB (code:=code) (sd:=sd) (at_:=at_) ‹_› ‹_›).1.symm
 exact fi_ [] a ⟨(((congrArg (fun z_=>some (Ent.box 134 [.dat QZ code,dI z_, .val (.int .u64 (nxS code at_ sd))])) (show ((at_+1):Int)=(pkA n at_) by exact (QwB (code:=code) (sd:=sd) (at_:=at_) ‹_› ‹_›).2.1.symm))).trans (congrArg (fun z_:Int=>some (Ent.box 134 [.dat QZ code,dI (pkA n at_), .val (.int .u64 z_)])) (show ((nxS code at_ sd):Int)=(pkS code at_ sd n) by exact (QwB (code:=code) (sd:=sd) (at_:=at_) ‹_› ‹_›).2.2.symm))),trivial⟩ (h0:=by rw[d] <;> rfl)
 refine w2 ?_
 refine lc (Qqr (Qa rfl) (Qr rfl) rfl (by omega)) ?_
 refine w_ ?_
 have k:=QdP code (at_+1) (nxS code at_ sd)
 refine lc (dP 2 [] (Ui code (at_+1) (nxS code at_ sd) (by omega)) QeI) ?_
 refine w6 ?_
 refine lc (Qi8 (Qa rfl) (Qa rfl) rfl (by omega) (by omega)) ?_
 refine w3 ?_
 have e:((((nxV code at_ sd)*256)+(nxV code (at_+1) (nxS code at_ sd))) % n:Int)=(pkV code at_ sd n):=by
  exact (QwC (code:=code) (sd:=sd) (at_:=at_) ‹_› ‹_›).1.symm
 exact fi_ [] a ⟨(((congrArg (fun z_=>some (Ent.box 134 [.dat QZ code,dI z_, .val (.int .u64 (nxS code (at_+1) (nxS code at_ sd)))])) (show (((at_+1)+1):Int)=(pkA n at_) by exact (QwC (code:=code) (sd:=sd) (at_:=at_) ‹_› ‹_›).2.1.symm))).trans (congrArg (fun z_:Int=>some (Ent.box 134 [.dat QZ code,dI (pkA n at_), .val (.int .u64 z_)])) (show ((nxS code (at_+1) (nxS code at_ sd)):Int)=(pkS code at_ sd n) by exact (QwC (code:=code) (sd:=sd) (at_:=at_) ‹_› ‹_›).2.2.symm))),trivial⟩ (h0:=by rw[e] <;> rfl)
 refine w4 ?_
 have f:(0:Int)=(pkV code at_ sd n):=by
  exact (QwA (code:=code) (sd:=sd) (at_:=at_) ‹_›).1.symm
 exact fi_ [] a ⟨(((congrArg (fun z_=>some (Ent.box 134 [.dat QZ code,dI z_, .val (.int .u64 sd)])) (show (at_:Int)=(pkA n at_) by exact (QwA (code:=code) (sd:=sd) (at_:=at_) ‹_›).2.1.symm))).trans (congrArg (fun z_:Int=>some (Ent.box 134 [.dat QZ code,dI (pkA n at_), .val (.int .u64 z_)])) (show (sd:Int)=(pkS code at_ sd n) by exact (QwA (code:=code) (sd:=sd) (at_:=at_) ‹_›).2.2.symm))),trivial⟩ (h0:=by rw[← f] <;> rfl)
theorem Yw (code:List UInt8)(at_:Int)(sd:Int)(n:Int)(l:0≤at_∧at_≤999999000):FC Tryz.prog 97 [(false,[.ptr 0 0]),(false,[dI n])] [bx 0 134 [.dat QZ code,dI at_, .val (.int .u64 sd)]] 1 (Is (lB (decide (pkV code at_ sd n=0))) [bx 0 134 [.dat QZ code,dI (pkA n at_), .val (.int .u64 (pkS code at_ sd n))]]):=by
 refine Qn Tryz.func97 rfl rfl Tryz.ntmps97 fun j f h a k e d=> ?_
 refine acI 1 fun _=> ?_
 refine w6 ?_
 have g:=Zk code at_ sd n
 refine lc (dP 1 [] (QQ code at_ sd n (by omega)) Yf) ?_
 refine w4 ?_
 have b:(decide ((pkV code at_ sd n)=0):Bool)=(decide (pkV code at_ sd n=0)):=by
  rfl
 exact fi_ [] f ⟨rfl,trivial⟩ (h0:=by rw[b] <;> rfl)
theorem Qco (code:List UInt8)(at_:Int)(sd:Int)(a:List ByteArray)(r:0≤at_∧at_≤999999000)(u:1≤a.length):FC Tryz.prog 234 [(false,[.ptr 0 0]),(false,[.ref 1])] [bx 0 134 [.dat QZ code,dI at_, .val (.int .u64 sd)],ar 1 9 .str a] 1 (Is (lf (dS ((a[(pkV code at_ sd (a.length:Int)).toNat]?).getD ByteArray.empty))) [bx 0 134 [.dat QZ code,dI (pkA (a.length:Int) at_), .val (.int .u64 (pkS code at_ sd (a.length:Int)))],ar 1 9 .str a]):=by
 refine Qn Tryz.func234 rfl rfl Tryz.ntmps234 fun o h l d p g f=> ?_
 refine w8 ?_
 have j:=Zk code at_ sd (a.length:Int)
 refine lc (dP 2 [] (QQ code at_ sd (a.length:Int) (by omega)) Yf) ?_
 refine w_ ?_
 obtain ⟨m,b⟩:=gx a ((pkV code at_ sd (a.length:Int)).toNat)
 have k:=b
 refine w4 ?_
 have e:(m:ByteArray)=((a[(pkV code at_ sd (a.length:Int)).toNat]?).getD ByteArray.empty):=by
  (simp[*])
 exact fi_ [] h ⟨rfl,rfl,trivial⟩ (h0:=by rw[← e] <;> rfl)
theorem Z6 (code:List UInt8)(at_:Int)(sd:Int)(a:List Int)(r:0≤at_∧at_≤999999000)(u:1≤a.length):FC Tryz.prog 127 [(false,[.ptr 0 0]),(false,[.ref 1])] [bx 0 134 [.dat QZ code,dI at_, .val (.int .u64 sd)],ar 1 3 .int a] 1 (Is (lI ((a[(pkV code at_ sd (a.length:Int)).toNat]?).getD 0)) [bx 0 134 [.dat QZ code,dI (pkA (a.length:Int) at_), .val (.int .u64 (pkS code at_ sd (a.length:Int)))],ar 1 3 .int a]):=by
 refine Qn Tryz.func127 rfl rfl Tryz.ntmps127 fun o h l d p g f=> ?_
 refine w8 ?_
 have j:=Zk code at_ sd (a.length:Int)
 refine lc (dP 2 [] (QQ code at_ sd (a.length:Int) (by omega)) Yf) ?_
 refine w_ ?_
 obtain ⟨m,b⟩:=gx a ((pkV code at_ sd (a.length:Int)).toNat)
 have k:=b
 refine w_ ?_
 refine alI 11 fun _=> ?_
 refine w3 ?_
 have e:(m:Int)=((a[(pkV code at_ sd (a.length:Int)).toNat]?).getD 0):=by
  (simp[*])
 exact fi_ [] h ⟨rfl,rfl,trivial⟩ (h0:=by rw[← e] <;> rfl)
theorem JZ (code:List UInt8)(at_:Int)(sd:Int)(t:ByteArray)(wt:ByteArray)(S:0≤at_∧at_≤900000000)(V:t.size≤100000∧1≤wt.size):FC Tryz.prog 259 [(false,[.ptr 0 0]),(false,[dS t]),(false,[dS wt])] [bx 0 134 [.dat QZ code,dI at_, .val (.int .u64 sd)]] 1 (Is (lf (dS ((spV code wt t at_ sd).1))) [bx 0 134 [.dat QZ code,dI ((spV code wt t at_ sd).2.1), .val (.int .u64 ((spV code wt t at_ sd).2.2))]]):=by
 refine Qn Tryz.func259 rfl rfl Tryz.ntmps259 fun Q C P I R M L=> ?_
 refine w6 ?_
 have O:=Zk code at_ sd 2
 refine lc (dP 1 [] (QQ code at_ sd 2 (by omega)) Yf) ?_
 refine w4 ?_
 refine QH (fun G H=>∃(j:Int) (a:ByteArray) (d:Int) (b:Int),G=j.toNat∧((spV code wt t at_ sd)=spG code wt j.toNat (a,d,b))∧(0≤j∧j≤2)∧((a.size:Int)+j≤(t.size:Int)+2)∧(at_≤d∧d+6*j≤at_+14)∧H=⟨[(0,lP 0 0),(1,lf (dS a)),(2,lf (dS wt)),(6,lf (dS (⟨#[]⟩:ByteArray))),(7,lI j)],[bx 0 134 [.dat QZ code,dI d, .val (.int .u64 b)]]⟩) ⟨1+(pkV code at_ sd 2),t,(pkA 2 at_),(pkS code at_ sd 2),rfl,rfl,by omega,by omega,by omega,rfl⟩ ?_ ?_
 exact wo []
 rintro G H ⟨j,a,d,b,N,k,U,W,T,rfl⟩
 refine w5 ?_
 cases u:(decide (0 < j))
 have x:=aa u
 refine w13 ?_
 have J:(a:ByteArray)=((spV code wt t at_ sd).1):=by
  (rw[k,QcL (by omega)])
 exact fi_ [] C ⟨(((congrArg (fun z_=>some (Ent.box 134 [.dat QZ code,dI z_, .val (.int .u64 b)])) (show (d:Int)=((spV code wt t at_ sd).2.1) by (rw[k,QcL (by omega)])))).trans (congrArg (fun z_:Int=>some (Ent.box 134 [.dat QZ code,dI ((spV code wt t at_ sd).2.1), .val (.int .u64 z_)])) (show (b:Int)=((spV code wt t at_ sd).2.2) by (rw[k,QcL (by omega)])))),trivial⟩ (h0:=by rw[← J] <;> rfl)
 have x:=ab u
 refine w_ ?_
 refine alS 16 fun _=> ?_
 refine lgy rfl rfl (Yq (Qa rfl) rfl ZN) ?_
 refine w3 ?_
 cases y:(decide (0 < (a.size:Int)))
 have z:=aa y
 refine w8 ?_
 have K:(a:ByteArray)=((spV code wt t at_ sd).1):=by
  (rw[k,QcL (by omega)])
 exact fi_ [] C ⟨(((congrArg (fun z_=>some (Ent.box 134 [.dat QZ code,dI z_, .val (.int .u64 b)])) (show (d:Int)=((spV code wt t at_ sd).2.1) by (rw[k,QcL (by omega)])))).trans (congrArg (fun z_:Int=>some (Ent.box 134 [.dat QZ code,dI ((spV code wt t at_ sd).2.1), .val (.int .u64 z_)])) (show (b:Int)=((spV code wt t at_ sd).2.2) by (rw[k,QcL (by omega)])))),trivial⟩ (h0:=by rw[← K] <;> rfl)
 have z:=ab y
 refine w7 ?_
 refine alS 23 fun _=> ?_
 refine lc (Yq (Qa rfl) rfl ZN) ?_
 have D:=Zk code d b (a.size:Int)
 refine lc (dP 2 [] (QQ code d b (a.size:Int) (by omega)) Yf) ?_
 refine w6 ?_
 refine alS 28 fun _=> ?_
 refine lc (Yq (Qa rfl) rfl ZN) ?_
 have E:=Zk code (pkA (a.size:Int) d) (pkS code d b (a.size:Int)) (wt.size:Int)
 refine lc (dP 3 [] (QQ code (pkA (a.size:Int) d) (pkS code d b (a.size:Int)) (wt.size:Int) (by omega)) Yf) ?_
 obtain ⟨g,A⟩:=gs wt ((pkV code (pkA (a.size:Int) d) (pkS code d b (a.size:Int)) (wt.size:Int)).toNat)
 have B:=A
 refine w_ ?_
 refine lc (dBs 4 (e:= .u8) Qkz) ?_
 refine lc (XA (ys:=[g]) (U1 (Qa rfl) rfl) YN QbT ZN rfl) ?_
 refine w4 ?_
 have F:=Zk code (pkA (wt.size:Int) (pkA (a.size:Int) d)) (pkS code (pkA (a.size:Int) d) (pkS code d b (a.size:Int)) (wt.size:Int)) 3
 refine lc (dP 5 [] (QQ code (pkA (wt.size:Int) (pkA (a.size:Int) d)) (pkS code (pkA (a.size:Int) d) (pkS code d b (a.size:Int)) (wt.size:Int)) 3 (by omega)) Yf) ?_
 refine w6 ?_
 cases m:(decide ((pkV code (pkA (wt.size:Int) (pkA (a.size:Int) d)) (pkS code (pkA (a.size:Int) d) (pkS code d b (a.size:Int)) (wt.size:Int)) 3)=0))
 have p:=aa m
 refine w5 ?_
 cases o:(decide ((pkV code (pkA (wt.size:Int) (pkA (a.size:Int) d)) (pkS code (pkA (a.size:Int) d) (pkS code d b (a.size:Int)) (wt.size:Int)) 3)=1))
 have r:=aa o
 refine w_ ?_
 apply dV (i2 36 _ _ (io 38 (lf (dS (a.extract 0 (pkV code d b (a.size:Int)).toNat))) :: i3 39 _ _ _ [io 42 (lf (dS (a.extract ((pkV code d b (a.size:Int))+1).toNat a.size))),io 43 (lf (dS ((a.extract 0 (pkV code d b (a.size:Int)).toNat)++(a.extract ((pkV code d b (a.size:Int))+1).toNat a.size)))),io 1 _])) [0,1,0,7,15,15,7,0,0]
 refine z2 ?_
 refine zz (fun _ f=>ac (show Does _ _ _ _ (St.put _ 38 (lf (dS (a.extract 0 (pkV code d b (a.size:Int)).toNat)))) from Zd (l:=none) (h:=(some (pkV code d b (a.size:Int)))) (f.v rfl) (by exact trivial) (by exact (f.v rfl)) ZN rfl (by first | omega | (simp only[ak,aj]; omega)) (by first | omega | (simp only[ak,aj]; omega)) (by first | omega | (simp only[ak,aj]; omega))) rfl) ?_
 refine z3 ?_
 refine zz (fun _ f=>ac (show Does _ _ _ _ (St.put _ 42 (lf (dS (a.extract ((pkV code d b (a.size:Int))+1).toNat a.size)))) from Zd (l:=(some ((pkV code d b (a.size:Int))+1))) (h:=none) (f.v rfl) (by exact (f.v rfl)) (by exact trivial) ZN rfl (by first | omega | (simp only[ak,aj]; omega)) (by first | omega | (simp only[ak,aj]; omega)) (by first | omega | (simp only[ak,aj]; omega))) rfl)<|zz (fun _ f=>ac (Q7 (f.v rfl) (f.v rfl) rfl (by first | omega | (simp only[bc,ba,Yy]; omega))) rfl) ?_
 exact y1
 refine w5 ?_
 refine Qf<|ZF ⟨(j - 1),((a.extract 0 (pkV code d b (a.size:Int)).toNat)++(a.extract ((pkV code d b (a.size:Int))+1).toNat a.size)),(pkA 3 (pkA (wt.size:Int) (pkA (a.size:Int) d))),(pkS code (pkA (wt.size:Int) (pkA (a.size:Int) d)) (pkS code (pkA (a.size:Int) d) (pkS code d b (a.size:Int)) (wt.size:Int)) 3),rfl,(by exact k.trans ((QsR (by omega) (by omega)).trans (congrArg _ (Qyj ‹_› ‹_›)))),by omega,(by simp only[bc,ba,Yy]; omega),by omega,rfl⟩ (by omega) ?_
 exact wo []
 have r:=ab o
 refine w_ ?_
 apply dV (i2 57 _ _ (io 59 (lf (dS (a.extract 0 (pkV code d b (a.size:Int)).toNat))) :: io 60 _ :: io 61 (lf (dS ((a.extract 0 (pkV code d b (a.size:Int)).toNat)++(⟨#[g]⟩:ByteArray)))) :: i3 62 _ _ _ [io 65 (lf (dS (a.extract ((pkV code d b (a.size:Int))+1).toNat a.size))),io 66 (lf (dS (((a.extract 0 (pkV code d b (a.size:Int)).toNat)++(⟨#[g]⟩:ByteArray))++(a.extract ((pkV code d b (a.size:Int))+1).toNat a.size)))),io 1 _])) [0,1,0,7,0,31,63,63,31,0,0]
 refine z2 ?_
 refine zz (fun _ f=>ac (show Does _ _ _ _ (St.put _ 59 (lf (dS (a.extract 0 (pkV code d b (a.size:Int)).toNat)))) from Zd (l:=none) (h:=(some (pkV code d b (a.size:Int)))) (f.v rfl) (by exact trivial) (by exact (f.v rfl)) ZN rfl (by first | omega | (simp only[ak,aj]; omega)) (by first | omega | (simp only[ak,aj]; omega)) (by first | omega | (simp only[ak,aj]; omega))) rfl) ?_
 refine z_ ?_
 refine zz (fun _ f=>ac (Q7 (f.v rfl) (f.v rfl) rfl (by first | omega | (simp only[bc,ba,Yy]; omega))) rfl) ?_
 refine z3 ?_
 refine zz (fun _ f=>ac (show Does _ _ _ _ (St.put _ 65 (lf (dS (a.extract ((pkV code d b (a.size:Int))+1).toNat a.size)))) from Zd (l:=(some ((pkV code d b (a.size:Int))+1))) (h:=none) (f.v rfl) (by exact (f.v rfl)) (by exact trivial) ZN rfl (by first | omega | (simp only[ak,aj]; omega)) (by first | omega | (simp only[ak,aj]; omega)) (by first | omega | (simp only[ak,aj]; omega))) rfl)<|zz (fun _ f=>ac (Q7 (f.v rfl) (f.v rfl) rfl (by first | omega | (simp only[bc,ba,Yy]; omega))) rfl) ?_
 exact y1
 refine w5 ?_
 refine Qf<|ZF ⟨(j - 1),(((a.extract 0 (pkV code d b (a.size:Int)).toNat)++(⟨#[g]⟩:ByteArray))++(a.extract ((pkV code d b (a.size:Int))+1).toNat a.size)),(pkA 3 (pkA (wt.size:Int) (pkA (a.size:Int) d))),(pkS code (pkA (wt.size:Int) (pkA (a.size:Int) d)) (pkS code (pkA (a.size:Int) d) (pkS code d b (a.size:Int)) (wt.size:Int)) 3),rfl,(by exact k.trans ((QsR (by omega) (by omega)).trans (congrArg _ (Qyi B ‹_› ‹_›)))),by omega,(by simp only[bc,ba,Yy]; omega),by omega,rfl⟩ (by omega) ?_
 exact wo []
 have p:=ab m
 refine w_ ?_
 apply dV (i2 46 _ _ (io 48 (lf (dS (a.extract 0 (pkV code d b (a.size:Int)).toNat))) :: io 49 _ :: io 50 (lf (dS ((a.extract 0 (pkV code d b (a.size:Int)).toNat)++(⟨#[g]⟩:ByteArray)))) :: i2 51 _ _ [io 53 (lf (dS (a.extract (pkV code d b (a.size:Int)).toNat a.size))),io 54 (lf (dS (((a.extract 0 (pkV code d b (a.size:Int)).toNat)++(⟨#[g]⟩:ByteArray))++(a.extract (pkV code d b (a.size:Int)).toNat a.size)))),io 1 _])) [0,1,0,7,0,31,63,31,0,0]
 refine z2 ?_
 refine zz (fun _ f=>ac (show Does _ _ _ _ (St.put _ 48 (lf (dS (a.extract 0 (pkV code d b (a.size:Int)).toNat)))) from Zd (l:=none) (h:=(some (pkV code d b (a.size:Int)))) (f.v rfl) (by exact trivial) (by exact (f.v rfl)) ZN rfl (by first | omega | (simp only[ak,aj]; omega)) (by first | omega | (simp only[ak,aj]; omega)) (by first | omega | (simp only[ak,aj]; omega))) rfl) ?_
 refine z_ ?_
 refine zz (fun _ f=>ac (Q7 (f.v rfl) (f.v rfl) rfl (by first | omega | (simp only[bc,ba,Yy]; omega))) rfl) ?_
 refine z2 ?_
 refine zz (fun _ f=>ac (show Does _ _ _ _ (St.put _ 53 (lf (dS (a.extract (pkV code d b (a.size:Int)).toNat a.size)))) from Zd (l:=(some (pkV code d b (a.size:Int)))) (h:=none) (f.v rfl) (by exact (f.v rfl)) (by exact trivial) ZN rfl (by first | omega | (simp only[ak,aj]; omega)) (by first | omega | (simp only[ak,aj]; omega)) (by first | omega | (simp only[ak,aj]; omega))) rfl)<|zz (fun _ f=>ac (Q7 (f.v rfl) (f.v rfl) rfl (by first | omega | (simp only[bc,ba,Yy]; omega))) rfl) ?_
 exact y1
 refine w5 ?_
 refine Qf<|ZF ⟨(j - 1),(((a.extract 0 (pkV code d b (a.size:Int)).toNat)++(⟨#[g]⟩:ByteArray))++(a.extract (pkV code d b (a.size:Int)).toNat a.size)),(pkA 3 (pkA (wt.size:Int) (pkA (a.size:Int) d))),(pkS code (pkA (wt.size:Int) (pkA (a.size:Int) d)) (pkS code (pkA (a.size:Int) d) (pkS code d b (a.size:Int)) (wt.size:Int)) 3),rfl,(by exact k.trans ((QsR (by omega) (by omega)).trans (congrArg _ (Qyh B ‹_›)))),by omega,(by simp only[bc,ba,Yy]; omega),by omega,rfl⟩ (by omega) ?_
 exact wo []
end Go.Proofs.YtndabgcpnmeeoaaGreat
