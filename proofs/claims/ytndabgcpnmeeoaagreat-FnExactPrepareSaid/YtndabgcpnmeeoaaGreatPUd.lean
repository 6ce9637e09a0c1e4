/- Walks over abstract states: the partition for two labels, both sides. -/
import Derived.Test.YtndabgcpnmeeoaaGreatPUc
set_option linter.unusedSimpArgs false
set_option linter.unusedVariables false
set_option linter.unusedSectionVars false
namespace Go.Proofs.YtndabgcpnmeeoaaGreat
open Go.RowKit
set_option maxRecDepth 100000
set_option maxHeartbeats 4000000
def sgF (n:Nat)(block:List Int)(k:Nat):List UInt8:=sg0 k block++List.replicate (n - k) 0
def okB (c:DSg)(p r:Int×Bool):Bool:=WP c (YG c (Qn c p r))&&(decide (0 < ((Qn c p r).length:Int))&&decide (((Qn c p r).length:Int) < (c.2.1.length:Int)))
def Yo (c:DSg)(p r:Int×Bool):ByteArray:=if okB c p r=true then YG c (Qn c p r) else ⟨#[]⟩
section
variable {c:DSg}{as_:List DAr}{a:DAr}{block:List Int}{k i j n:Nat}{s:List UInt8}{u:UInt8}{p r:Int×Bool}{x:QM}
theorem Qu3 (h:k≤n):(sgF n block k).length=n:=by unfold sgF; rw[aj,JH,aA]; omega
theorem QpJ (h:k < n)(z:UInt8):(sgF n block k).set k z=(sg0 k block++[z])++List.replicate (n - (k+1)) 0:=by
 unfold sgF
 rw[cV _ _ (by rw[JH]; omega),JH,cK,show n - k=(n - (k+1))+1 by omega,List.replicate_succ,List.set_cons_zero,aO]
 rfl
theorem Qth (h:k < n)(b:¬(k:Int)∈block):(sgF n block k).set k 48=sgF n block (k+1):=by
 rw[QpJ h,Qoi b rfl]; rfl
theorem QpK (h:k < n)(b:(k:Int)∈block):((sgF n block k).set k 48).set k 49=sgF n block (k+1):=by
 rw[cA,QpJ h,QjA b rfl]; rfl
theorem Qu2:sgF n block n=sg0 n block:=by unfold sgF; rw[cK]; simp
theorem Qti:List.replicate n (0:UInt8)=sgF n block 0:=by simp[sgF,sg0]
theorem Qw1 {A B:Prop}[Decidable A][Decidable B](h:(if A then 1 else if B then 2 else (0:Int))=1):A:=by
 split at h
 ·assumption
 ·split at h <;> exact absurd h (by decide)
theorem Qw2 {A B:Prop}[Decidable A][Decidable B](h:(if A then 1 else if B then 2 else (0:Int))=2):B:=by
 split at h
 ·exact absurd h (by decide)
 ·split at h
  ·assumption
  ·exact absurd h (by decide)
theorem Qp7 {A B:Prop}[Decidable A][Decidable B](h:(if¬A∧B then 1 else if A∧¬B then 2 else (0:Int))=0):A↔B:=by
 by_cases b:A <;> by_cases d:B <;> simp[b,d] at h ⊢
theorem QvK {A B:Prop}[Decidable A][Decidable B](b:¬(if¬A∧B then 1 else if A∧¬B then 2 else (0:Int))=1)(d:¬(if¬A∧B then 1 else if A∧¬B then 2 else (0:Int))=2):A↔B:=by
 by_cases e:A <;> by_cases f:B <;> simp[e,f] at b d ⊢
theorem Qp8 {A B:Prop}[Decidable A][Decidable B](h:¬(if¬A∧B then 1 else if A∧¬B then 2 else (0:Int))=0):¬(A↔B):=fun g=>by
 by_cases b:A <;> by_cases d:B <;> simp[b,d] at h g
theorem Qh9 (h:decide (u=43)=false)(b:decide (u=45)=false):¬(u=43∨u=45):=fun g=>g.elim (aa h) (aa b)
theorem Qjo (b:as_[k]? =some a)(h:(if¬a.1∈block∧a.2.2.2∈block then 1 else if a.1∈block∧¬a.2.2.2∈block then 2 else (0:Int))=1):((as_.take k).foldl (Z1 block) s).set a.2.2.2.toNat 43=(as_.take (k+1)).foldl (Z1 block) s:=Qph b (Qw1 h).1 (Qw1 h).2
theorem Qjp (b:as_[k]? =some a)(h:(if¬a.1∈block∧a.2.2.2∈block then 1 else if a.1∈block∧¬a.2.2.2∈block then 2 else (0:Int))=2):((as_.take k).foldl (Z1 block) s).set a.2.2.2.toNat 45=(as_.take (k+1)).foldl (Z1 block) s:=Qk5 b (Qw2 h).1 (Qw2 h).2
theorem QvZ (h:a.2.1 < 0):true=inA c a:=by unfold inA; rw[aL h]; rfl
theorem QvY (h:¬a.2.1 < 0)(b:c.1[a.2.1.toNat]? =some x):decide (x.2=1)=inA c a:=by unfold inA; rw[aB h,b]; rfl
theorem Qdu (f:as_[i]? =some a)(b:((as_.take i).foldl (ZH c block) s)[a.1.toNat]? =some u)(e:u=43∨u=45)(hi:inA c a=true)(d:a.1∈block↔a.2.2.2∈block):((as_.take i).foldl (ZH c block) s).set a.2.2.2.toNat u=(as_.take (i+1)).foldl (ZH c block) s:=by
 rw[QO f,bm,aW,ck,ZH,Vi b,if_pos ⟨e,hi,d⟩]
theorem WO (b:as_[i]? =some a)(h:ZH c block ((as_.take i).foldl (ZH c block) s) a=(as_.take i).foldl (ZH c block) s):(as_.take i).foldl (ZH c block) s=(as_.take (i+1)).foldl (ZH c block) s:=by
 rw[QO b,bm,aW,ck,h]
theorem Qwh (b:∀a∈c.2.2,InR c.2.1.length a)(j i:Nat):((c.2.2.take i).foldl (ZH c block) (QZ (ZE c block) j (Z0 c block))).length=c.2.1.length:=
 (UP (fun a d=>b a (List.mem_of_mem_take d)) (Qgs _ (fun _ h=>Qju b h) (Qcq b) j)).1.len
theorem Qvp (h:¬(1≤((Qn c p r).length:Int)∧((Qn c p r).length:Int)≤(c.2.1.length:Int) - 1)):okB c p r=false:=by
 cases b:okB c p r with
 | false=>rfl
 | true=>
  unfold okB at b
  simp only[aI,aQ] at b
  exact absurd ⟨by omega,by omega⟩ h
theorem Qs2 (h:WP c (YG c (Qn c p r))=false):okB c p r=false:=by unfold okB; rw[h]; rfl
theorem Qvq (h:1≤((Qn c p r).length:Int)∧((Qn c p r).length:Int)≤(c.2.1.length:Int) - 1)(b:WP c (YG c (Qn c p r))=true):okB c p r=true:=by
 unfold okB
 rw[b,aL (by omega),aL (by omega)]; rfl
theorem Qlc (h:okB c p r=false):(⟨#[]⟩:ByteArray)=Yo c p r:=by unfold Yo; rw[h]; rfl
theorem Qig (h:okB c p r=true):YG c (Qn c p r)=Yo c p r:=by unfold Yo; rw[h]; rfl
theorem Qwo (h:WP c (YG c (Qn c p r))=true)(b:0 < ((Qn c p r).length:Int)):decide (((Qn c p r).length:Int) < (c.2.1.length:Int))=okB c p r:=by unfold okB; rw[h,aL b]; rfl
theorem Qwq (d:∀a∈c.2.2,InR c.2.1.length a)(h:WP c (YG c (Qn c p r))=true)(b:0 < ((Qn c p r).length:Int)):decide (((Qn c p r).length:Int) < ((QZ (ZE c (Qn c p r)) c.2.1.length (Z0 c (Qn c p r))).length:Int))=okB c p r:=by
 have:(QZ (ZE c (Qn c p r)) c.2.1.length (Z0 c (Qn c p r))).length=c.2.1.length:=(QpL (block:=Qn c p r) d).len
 rw[this]; exact Qwo h b
theorem Qwp (b:¬0 < ((Qn c p r).length:Int)):false=okB c p r:=by unfold okB; rw[aB b]; simp
end
theorem Qfp {c:DSg}{p r:Int×Bool}(d:∀a∈c.2.2,InR c.2.1.length a):(Qn c p r).length≤c.2.1.length:=by
 have:=JJ (Jb c p r).str (lo:=0) (hi:=c.2.1.length) (fun x e=>QiT (fun a b=>(d a b).2) ((Jb c p r).cl x e)) (by omega)
 omega
theorem Qau (c:Zi)(p:JY)(r:JY)(K:SgOk c):FC Tryz.prog 403 [(true,[.dat Ql c.1, .dat Qo c.2.1, .dat Qw c.2.2]),(true,[dI p.1,dB p.2]),(true,[dI r.1,dB r.2])] [] 0 (QY (PV.tup [(false,[dS (YG c (Qn c p r))]),(false,[dB (okB c p r)])])):=by
 have Y:∀a∈c.2.2,InR c.2.1.length a:=fun a ha=>XC (K.arcs a ha)
 have d1:(List.replicate c.2.1.length (Ty.zero .u8)).length=c.2.1.length:=aA ..
 have d0:=K.some_
 have c7:=K.few
 have c6:=Qfp (p:=p) (r:=r) Y
 refine Qv Tryz.func403 rfl rfl Tryz.ntmps403 fun O_ hO d3 c3 X_ c5 c4=> ?_
 refine acG 1 0 fun _=> ?_
 refine acG 2 0 fun _=> ?_
 refine w_ ?_
 refine xbx 0 ?_
 refine xbx 1 ?_
 refine xbx 2 ?_
 refine w7 ?_
 refine lc (dO 3 (Qdg c p r Y (by omega)) Qnc) ?_
 refine w5 ?_
 refine alL 21 fun _=> ?_
 refine w_ ?_
 refine lc (XB 4 (e:= .u8) (n:=c.2.1.length) (Qa rfl) (Qa rfl) Za QsS rfl (by omega) (by omega) rfl (Fresh.of rfl) (nlr rfl)) ?_
 refine w9 ?_
 refine lp0 c.2.1.length (fun k=>⟨[(3,lP 0 0),(6,lf (dS (⟨#[]⟩:ByteArray))),(7,lB false),(8,lR 3),(9,lR 5),(25,lI ((List.replicate c.2.1.length (Ty.zero .u8)).length:Int)),(26,lI (k:Int))],[bx 0 28 [.dat Ql c.1, .dat Qo c.2.1, .dat Qw c.2.2],(3,some (.arr 3 .int (Qn c p r))),(5,some (.arr 5 .u8 (sgF c.2.1.length (Qn c p r) k)))]⟩) ?_ fun k _=> ?_
 exact wp [(5,4)] ⟨rfl,rfl,(Qe (Qti)),trivial⟩
 have d2:=Qu3 (n:=c.2.1.length) (block:=(Qn c p r)) (k:=k) (by omega)
 refine w4 ?_
 cases a0:(decide ((k:Int) < ((List.replicate c.2.1.length (Ty.zero .u8)).length:Int)))
 have a1:=aa a0
 refine w4 ?_
 refine XM ?_
 obtain rfl:k=c.2.1.length:=by omega
 rw[Qu2]
 refine w3 ?_
 refine alL 40 fun _=> ?_
 refine w4 ?_
 refine lp0 c.2.2.length (fun k=>⟨[(3,lP 0 0),(6,lf (dS (⟨#[]⟩:ByteArray))),(7,lB false),(8,lR 3),(9,lR 6),(40,lf (.dat Qw c.2.2)),(41,lI (c.2.2.length:Int)),(42,lI (k:Int))],[bx 0 28 [.dat Ql c.1, .dat Qo c.2.1, .dat Qw c.2.2],(3,some (.arr 3 .int (Qn c p r))),(6,some (.arr 5 .u8 ((c.2.2.take k).foldl (Z1 (Qn c p r)) (sg0 c.2.1.length (Qn c p r)))))]⟩) ?_ fun k _=> ?_
 exact wp [(6,5)] ⟨rfl,rfl,(Qe (by simp only[cH,ck])),trivial⟩
 have c8:=Qk4 (block:=(Qn c p r)) (k:=k) Y
 refine w4 ?_
 cases a2:(decide ((k:Int) < (c.2.2.length:Int)))
 have a3:=aa a2
 refine w7 ?_
 refine alL 63 fun _=> ?_
 refine w4 ?_
 refine lp0 c.2.1.length (fun j=>⟨[(3,lP 0 0),(6,lf (dS (⟨#[]⟩:ByteArray))),(7,lB false),(8,lR 3),(9,lR 7),(64,lI (c.2.1.length:Int)),(65,lI (j:Int))],[bx 0 28 [.dat Ql c.1, .dat Qo c.2.1, .dat Qw c.2.2],(3,some (.arr 3 .int (Qn c p r))),(7,some (.arr 5 .u8 (QZ (ZE c (Qn c p r)) j (Z0 c (Qn c p r)))))]⟩) ?_ fun j _=> ?_
 exact wp [(7,6)] ⟨rfl,rfl,(Qe (by rw[QT (by omega)]; rfl)),trivial⟩
 refine w4 ?_
 cases A:(decide ((j:Int) < (c.2.1.length:Int)))
 have N:=aa A
 refine w3 ?_
 obtain rfl:j=c.2.1.length:=by omega
 cases q:(WP c (⟨(QZ (ZE c (Qn c p r)) c.2.1.length (Z0 c (Qn c p r))).toArray⟩:ByteArray))
 apply dW (io 121 _ :: io 122 (lf (dS (⟨(QZ (ZE c (Qn c p r)) c.2.1.length (Z0 c (Qn c p r))).toArray⟩:ByteArray))) :: i2 123 _ _ (io 125 (lf (dS (⟨(QZ (ZE c (Qn c p r)) c.2.1.length (Z0 c (Qn c p r))).toArray⟩:ByteArray))) :: io 126 (lB false) :: i9 127 _ _ _ _ _ _ _ _ _ (i3 136 _ _ _ (i2 6 _ _ [])))) [0,0,3,7,7,3,3,3,3,3,3,3,3,3,12291,12291,3,3,258048,0]
 refine z_ ?_
 refine zz (fun _ d=>ac (Q7 (ys:=QZ (ZE c (Qn c p r)) c.2.1.length (Z0 c (Qn c p r))) (YA (d.v rfl) (d.n 7 rfl)) Za Wq Z7 rfl) rfl) ?_
 refine z2 ?_
 refine zz (fun _ d=>ac (Q7 (ys:=QZ (ZE c (Qn c p r)) c.2.1.length (Z0 c (Qn c p r))) (YA (d.v rfl) (d.n 7 rfl)) Za Wq Z7 rfl) rfl) ?_
 refine zz (fun _ d=>ac (QH (q) (dK (XY c (⟨(QZ (ZE c (Qn c p r)) c.2.1.length (Z0 c (Qn c p r))).toArray⟩:ByteArray) (Qdz (block:=Qn c p r) K)) Jk)) rfl) ?_
 exact y14
 refine w_ ?_
 have a9:((⟨(QZ (ZE c (Qn c p r)) c.2.1.length (Z0 c (Qn c p r))).toArray⟩:ByteArray):ByteArray)=(YG c (Qn c p r)):=by
  rfl
 have b0:(false:Bool)=(okB c p r):=by
  exact (Qs2 ‹_›).symm
 exact fr_ hO (e:=by rw[a9,← b0] <;> rfl)
 cases m:(decide (0 < ((Qn c p r).length:Int)))
 have O:=aa m
 apply dW (io 121 _ :: io 122 (lf (dS (⟨(QZ (ZE c (Qn c p r)) c.2.1.length (Z0 c (Qn c p r))).toArray⟩:ByteArray))) :: i2 123 _ _ (io 125 (lf (dS (⟨(QZ (ZE c (Qn c p r)) c.2.1.length (Z0 c (Qn c p r))).toArray⟩:ByteArray))) :: io 126 (lB true) :: i3 127 _ _ _ (io 130 (lB false) :: i8 131 _ _ _ _ _ _ _ _ (i2 6 _ _ [])))) [0,0,3,7,7,3,3,3,3,3,3,3,3,3,12291,12291,3,3,258048,0]
 refine z_ ?_
 refine zz (fun _ d=>ac (Q7 (ys:=QZ (ZE c (Qn c p r)) c.2.1.length (Z0 c (Qn c p r))) (YA (d.v rfl) (d.n 7 rfl)) Za Wq Z7 rfl) rfl) ?_
 refine z2 ?_
 refine zz (fun _ d=>ac (Q7 (ys:=QZ (ZE c (Qn c p r)) c.2.1.length (Z0 c (Qn c p r))) (YA (d.v rfl) (d.n 7 rfl)) Za Wq Z7 rfl) rfl) ?_
 refine zz (fun _ d=>ac (QH (q) (dK (XY c (⟨(QZ (ZE c (Qn c p r)) c.2.1.length (Z0 c (Qn c p r))).toArray⟩:ByteArray) (Qdz (block:=Qn c p r) K)) Jk)) rfl) ?_
 refine z3 ?_
 refine zz (fun _ d=>day rfl (d.k rfl) (QH (m) (QbB (d.v rfl) (Qy rfl) rfl)) rfl) ?_
 exact y10
 refine w_ ?_
 have b1:((⟨(QZ (ZE c (Qn c p r)) c.2.1.length (Z0 c (Qn c p r))).toArray⟩:ByteArray):ByteArray)=(YG c (Qn c p r)):=by
  rfl
 have b2:(false:Bool)=(okB c p r):=by
  exact Qwp ‹_›
 exact fr_ hO (e:=by rw[b1,← b2] <;> rfl)
 have O:=ab m
 apply dW (io 121 _ :: io 122 (lf (dS (⟨(QZ (ZE c (Qn c p r)) c.2.1.length (Z0 c (Qn c p r))).toArray⟩:ByteArray))) :: i2 123 _ _ (io 125 (lf (dS (⟨(QZ (ZE c (Qn c p r)) c.2.1.length (Z0 c (Qn c p r))).toArray⟩:ByteArray))) :: io 126 (lB true) :: i3 127 _ _ _ (io 130 (lB true) :: i8 131 _ _ _ _ _ _ _ _ (i2 6 _ _ [])))) [0,0,3,7,7,3,3,3,3,3,3,3,3,3,12291,12291,3,3,258048,0]
 refine z_ ?_
 refine zz (fun _ d=>ac (Q7 (ys:=QZ (ZE c (Qn c p r)) c.2.1.length (Z0 c (Qn c p r))) (YA (d.v rfl) (d.n 7 rfl)) Za Wq Z7 rfl) rfl) ?_
 refine z2 ?_
 refine zz (fun _ d=>ac (Q7 (ys:=QZ (ZE c (Qn c p r)) c.2.1.length (Z0 c (Qn c p r))) (YA (d.v rfl) (d.n 7 rfl)) Za Wq Z7 rfl) rfl) ?_
 refine zz (fun _ d=>ac (QH (q) (dK (XY c (⟨(QZ (ZE c (Qn c p r)) c.2.1.length (Z0 c (Qn c p r))).toArray⟩:ByteArray) (Qdz (block:=Qn c p r) K)) Jk)) rfl) ?_
 refine z3 ?_
 refine zz (fun _ d=>day rfl (d.k rfl) (QH (m) (QbB (d.v rfl) (Qy rfl) rfl)) rfl) ?_
 exact y10
 refine w_ ?_
 have b3:((⟨(QZ (ZE c (Qn c p r)) c.2.1.length (Z0 c (Qn c p r))).toArray⟩:ByteArray):ByteArray)=(YG c (Qn c p r)):=by
  rfl
 have b4:(decide (((Qn c p r).length:Int) < ((QZ (ZE c (Qn c p r)) c.2.1.length (Z0 c (Qn c p r))).length:Int)):Bool)=(okB c p r):=by
  exact Qwq Y ‹_› ‹_›
 exact fr_ hO (e:=by rw[b3,b4] <;> rfl)
 have N:=ab A
 refine w7 ?_
 refine alL 68 fun _=> ?_
 refine w4 ?_
 refine lp0 c.2.2.length (fun i=>⟨[(3,lP 0 0),(6,lf (dS (⟨#[]⟩:ByteArray))),(7,lB false),(8,lR 3),(9,lR 8),(64,lI (c.2.1.length:Int)),(65,lI (j:Int)),(66,lB true),(67,lP 0 2),(68,lf (.dat Qw c.2.2)),(69,lI (c.2.2.length:Int)),(70,lI (i:Int))],[bx 0 28 [.dat Ql c.1, .dat Qo c.2.1, .dat Qw c.2.2],(3,some (.arr 3 .int (Qn c p r))),(8,some (.arr 5 .u8 ((c.2.2.take i).foldl (ZH c (Qn c p r)) (QZ (ZE c (Qn c p r)) j (Z0 c (Qn c p r))))))]⟩) ?_ fun i _=> ?_
 exact wp [(8,7)] ⟨rfl,rfl,(Qe (by simp only[cH,ck])),trivial⟩
 have c9:=Qwh (block:=(Qn c p r)) Y j i
 refine w4 ?_
 cases B:(decide ((i:Int) < (c.2.2.length:Int)))
 have P:=aa B
 refine w6 ?_
 refine Qb ?_
 refine l0_ ?_
 exact wp [(7,8)] ⟨rfl,rfl,(Qe (by rw[QT (by omega)]; rfl)),trivial⟩
 have P:=ab B
 refine w5 ?_
 obtain ⟨ar,b⟩:=gx c.2.2 i
 have o:=Y _ (ah b)
 obtain ⟨⟨b5,b6⟩,b7,b8⟩:=o
 have t:=(K.arcs _ (ah b)).2.2.1
 have a4:ar.2.1 < (c.1.length:Int):=Vf t
 refine w2 ?_
 refine lc (xal 9 QD QU) ?_
 refine w2 ?_
 refine Qbz (fun s_=>∃(z:Bool),(z=inA c ar)∧s_=⟨[(3,lP 0 0),(6,lf (dS (⟨#[]⟩:ByteArray))),(7,lB false),(8,lR 3),(9,lR 8),(14,lP 9 0),(15,lB z),(64,lI (c.2.1.length:Int)),(65,lI (j:Int)),(66,lB true),(67,lP 0 2),(68,lf (.dat Qw c.2.2)),(69,lI (c.2.2.length:Int)),(70,lI (i:Int)),(71,lB true),(72,lf (.elt QD ar 0)),(73,ag [dI ar.1,dI ar.2.1,dB ar.2.2.1,dI ar.2.2.2])],[bx 0 28 [.dat Ql c.1, .dat Qo c.2.1, .dat Qw c.2.2],(3,some (.arr 3 .int (Qn c p r))),(8,some (.arr 5 .u8 ((c.2.2.take i).foldl (ZH c (Qn c p r)) (QZ (ZE c (Qn c p r)) j (Z0 c (Qn c p r)))))),bx 9 154 [dI ar.1,dI ar.2.1,dB ar.2.2.1,dI ar.2.2.2]]⟩) ?_ fun Z=> ?_
 rintro s_ ⟨z,g,rfl⟩
 refine w3 ?_
 cases c2:(z)
 refine w7 ?_
 refine Qf rfl rfl rfl ?_ rfl
 refine Qf rfl rfl rfl ?_ rfl
 refine Qf rfl rfl rfl ?_ rfl
 refine Qf rfl rfl rfl ?_ rfl
 refine Qf rfl rfl rfl ?_ rfl
 refine Qf rfl rfl rfl ?_ rfl
 refine w15 ?_
 refine Qb ?_
 refine l0_ ?_
 exact wp [] ⟨rfl,rfl,(Qe (by first | exact Qdu b l (by first | exact .inl ‹_› | exact .inr ‹_›) (g.symm.trans ‹_›) (Qp7 ‹_›) | exact WO b (Us (fun h=>absurd ((g.symm.trans (by assumption:z=false)).symm.trans h) (by decide))) | exact WO b (KT l (Qh9 ‹_› ‹_›)) | exact WO b (Vt (Qp8 ‹_›)))),trivial⟩
 refine w4 ?_
 obtain ⟨u,y⟩:=gx ((c.2.2.take i).foldl (ZH c (Qn c p r)) (QZ (ZE c (Qn c p r)) j (Z0 c (Qn c p r)))) ((ar.1).toNat)
 have l:=y
 refine w_ ?_
 refine lgy rfl rfl (Qu (Qa rfl) (QC 43 rfl) rfl) ?_
 refine w_ ?_
 cases C:(decide (u=43))
 have Q:=aa C
 refine w5 ?_
 refine lgy rfl rfl (Qu (Qa rfl) (QC 45 rfl) rfl) ?_
 refine w3 ?_
 cases D:(decide (u=45))
 have R:=aa D
 refine w12 ?_
 refine Qb ?_
 refine l0_ ?_
 exact wp [] ⟨rfl,rfl,(Qe (by first | exact Qdu b l (by first | exact .inl ‹_› | exact .inr ‹_›) (g.symm.trans ‹_›) (Qp7 ‹_›) | exact WO b (Us (fun h=>absurd ((g.symm.trans (by assumption:z=false)).symm.trans h) (by decide))) | exact WO b (KT l (Qh9 ‹_› ‹_›)) | exact WO b (Vt (Qp8 ‹_›)))),trivial⟩
 have R:=ab D
 refine w2 ?_
 refine lgy rfl rfl (dB_ (WX ar (Qn c p r)) Qa3) ?_
 refine w3 ?_
 cases E:(decide ((if¬ar.1∈(Qn c p r)∧ar.2.2.2∈(Qn c p r) then 1 else if ar.1∈(Qn c p r)∧¬ar.2.2.2∈(Qn c p r) then 2 else (0:Int))=0))
 have S:=aa E
 refine w6 ?_
 refine Qb ?_
 refine l0_ ?_
 exact wp [] ⟨rfl,rfl,(Qe (by first | exact Qdu b l (by first | exact .inl ‹_› | exact .inr ‹_›) (g.symm.trans ‹_›) (Qp7 ‹_›) | exact WO b (Us (fun h=>absurd ((g.symm.trans (by assumption:z=false)).symm.trans h) (by decide))) | exact WO b (KT l (Qh9 ‹_› ‹_›)) | exact WO b (Vt (Qp8 ‹_›)))),trivial⟩
 have S:=ab E
 refine w_ ?_
 obtain ⟨d4,L⟩:=gx ((c.2.2.take i).foldl (ZH c (Qn c p r)) (QZ (ZE c (Qn c p r)) j (Z0 c (Qn c p r)))) ((ar.2.2.2).toNat)
 have c0:=L
 apply dV (i6 110 _ _ _ _ _ _ [io 116 (lf (.ept 8 1 ((ar.1).toNat) 0)),io 117 (lf (.dat .u8 u)),io 118 (lf (.ept 8 1 ((ar.2.2.2).toNat) 0)),⟨none,lf (.val undef),[(8,some (.arr 5 .u8 (((c.2.2.take i).foldl (ZH c (Qn c p r)) (QZ (ZE c (Qn c p r)) j (Z0 c (Qn c p r)))).set ((ar.2.2.2).toNat) u)))]⟩]) [0,1,1,7,15,15,7,7,0,0]
 refine z6 ?_
 refine zz (fun _ d=>ac (QI (e:= .u8) (d.v rfl) (d.en 8 rfl) (d.v rfl) Za QX rfl (by omega) (by first | omega | (simp only[ap]; omega))) rfl)<|zz (fun _ d=>ac (Q5 (e:= .u8) (d.v rfl) (d.n 8 rfl) y rfl QX rfl rfl) rfl)<|zz (fun _ d=>ac (QI (e:= .u8) (d.v rfl) (d.en 8 rfl) (d.v rfl) Za QX rfl (by omega) (by first | omega | (simp only[ap]; omega))) rfl)<|zz (fun _ d=>ac (QA (e:= .u8) (z':=u) (d.v rfl) (d.n 8 rfl) L rfl (d.w rfl) rfl QX rfl rfl) rfl) ?_
 exact zN
 refine w4 ?_
 refine Qb ?_
 refine l0_ ?_
 exact wp [] ⟨rfl,rfl,(Qe (by first | exact Qdu b l (by first | exact .inl ‹_› | exact .inr ‹_›) (g.symm.trans ‹_›) (Qp7 ‹_›) | exact WO b (Us (fun h=>absurd ((g.symm.trans (by assumption:z=false)).symm.trans h) (by decide))) | exact WO b (KT l (Qh9 ‹_› ‹_›)) | exact WO b (Vt (Qp8 ‹_›)))),trivial⟩
 have Q:=ab C
 refine w11 ?_
 refine lgy rfl rfl (dB_ (WX ar (Qn c p r)) Qa3) ?_
 refine w3 ?_
 cases F:(decide ((if¬ar.1∈(Qn c p r)∧ar.2.2.2∈(Qn c p r) then 1 else if ar.1∈(Qn c p r)∧¬ar.2.2.2∈(Qn c p r) then 2 else (0:Int))=0))
 have T:=aa F
 refine w6 ?_
 refine Qb ?_
 refine l0_ ?_
 exact wp [] ⟨rfl,rfl,(Qe (by first | exact Qdu b l (by first | exact .inl ‹_› | exact .inr ‹_›) (g.symm.trans ‹_›) (Qp7 ‹_›) | exact WO b (Us (fun h=>absurd ((g.symm.trans (by assumption:z=false)).symm.trans h) (by decide))) | exact WO b (KT l (Qh9 ‹_› ‹_›)) | exact WO b (Vt (Qp8 ‹_›)))),trivial⟩
 have T:=ab F
 refine w_ ?_
 obtain ⟨d5,M⟩:=gx ((c.2.2.take i).foldl (ZH c (Qn c p r)) (QZ (ZE c (Qn c p r)) j (Z0 c (Qn c p r)))) ((ar.2.2.2).toNat)
 have c1:=M
 apply dV (i6 110 _ _ _ _ _ _ [io 116 (lf (.ept 8 1 ((ar.1).toNat) 0)),io 117 (lf (.dat .u8 u)),io 118 (lf (.ept 8 1 ((ar.2.2.2).toNat) 0)),⟨none,lf (.val undef),[(8,some (.arr 5 .u8 (((c.2.2.take i).foldl (ZH c (Qn c p r)) (QZ (ZE c (Qn c p r)) j (Z0 c (Qn c p r)))).set ((ar.2.2.2).toNat) u)))]⟩]) [0,1,1,7,15,15,7,7,0,0]
 refine z6 ?_
 refine zz (fun _ d=>ac (QI (e:= .u8) (d.v rfl) (d.en 8 rfl) (d.v rfl) Za QX rfl (by omega) (by first | omega | (simp only[ap]; omega))) rfl)<|zz (fun _ d=>ac (Q5 (e:= .u8) (d.v rfl) (d.n 8 rfl) y rfl QX rfl rfl) rfl)<|zz (fun _ d=>ac (QI (e:= .u8) (d.v rfl) (d.en 8 rfl) (d.v rfl) Za QX rfl (by omega) (by first | omega | (simp only[ap]; omega))) rfl)<|zz (fun _ d=>ac (QA (e:= .u8) (z':=u) (d.v rfl) (d.n 8 rfl) M rfl (d.w rfl) rfl QX rfl rfl) rfl) ?_
 exact zN
 refine w4 ?_
 refine Qb ?_
 refine l0_ ?_
 exact wp [] ⟨rfl,rfl,(Qe (by first | exact Qdu b l (by first | exact .inl ‹_› | exact .inr ‹_›) (g.symm.trans ‹_›) (Qp7 ‹_›) | exact WO b (Us (fun h=>absurd ((g.symm.trans (by assumption:z=false)).symm.trans h) (by decide))) | exact WO b (KT l (Qh9 ‹_› ‹_›)) | exact WO b (Vt (Qp8 ‹_›)))),trivial⟩
 refine w3 ?_
 refine alI 75 fun _=> ?_
 refine w2 ?_
 cases G:(decide (ar.2.1 < 0))
 have U:=aa G
 refine w4 ?_
 obtain ⟨sx,a5⟩:=gx c.1 ((ar.2.1).toNat)
 have b9:=a5
 refine w7 ?_
 refine UE (Z _ ⟨(decide (sx.2=1)),(by exact QvY ‹_› b9),rfl⟩) ?_
 exact wo []
 have U:=ab G
 refine w11 ?_
 refine UE (Z _ ⟨true,(by exact QvZ ‹_›),rfl⟩) ?_
 exact wo []
 have a3:=ab a2
 refine w5 ?_
 obtain ⟨ar,f⟩:=gx c.2.2 k
 have o:=Y _ (ah f)
 obtain ⟨⟨b5,b6⟩,b7,b8⟩:=o
 have t:=(K.arcs _ (ah f)).2.2.1
 have a4:ar.2.1 < (c.1.length:Int):=Vf t
 refine w2 ?_
 refine lc (xal 10 QD QU) ?_
 refine w5 ?_
 refine lc (dB_ (WX ar (Qn c p r)) Qa3) ?_
 refine w6 ?_
 cases H:(decide ((if¬ar.1∈(Qn c p r)∧ar.2.2.2∈(Qn c p r) then 1 else if ar.1∈(Qn c p r)∧¬ar.2.2.2∈(Qn c p r) then 2 else (0:Int))=1))
 have V:=aa H
 refine w5 ?_
 cases I:(decide ((if¬ar.1∈(Qn c p r)∧ar.2.2.2∈(Qn c p r) then 1 else if ar.1∈(Qn c p r)∧¬ar.2.2.2∈(Qn c p r) then 2 else (0:Int))=2))
 have W:=aa I
 refine w6 ?_
 refine Qb ?_
 refine l0_ ?_
 exact wp [] ⟨rfl,rfl,(Qe (by first | exact Qjo f ‹_› | exact Qjp f ‹_› | exact Qcr f (QvK ‹_› ‹_›))),trivial⟩
 have W:=ab I
 refine w5 ?_
 refine alI 59 fun _=> ?_
 refine w_ ?_
 obtain ⟨d6,a6⟩:=gx ((c.2.2.take k).foldl (Z1 (Qn c p r)) (sg0 c.2.1.length (Qn c p r))) ((ar.2.2.2).toNat)
 refine lc (QA (e:= .u8) (z':=45) (Qa rfl) rfl a6 rfl (Evl.ev (QC 45 rfl)) rfl QX rfl rfl)<|Qb ?_
 refine w4 ?_
 refine Qb ?_
 refine l0_ ?_
 exact wp [] ⟨rfl,rfl,(Qe (by first | exact Qjo f ‹_› | exact Qjp f ‹_› | exact Qcr f (QvK ‹_› ‹_›))),trivial⟩
 have V:=ab H
 refine w5 ?_
 refine alI 53 fun _=> ?_
 refine w_ ?_
 obtain ⟨d7,a7⟩:=gx ((c.2.2.take k).foldl (Z1 (Qn c p r)) (sg0 c.2.1.length (Qn c p r))) ((ar.2.2.2).toNat)
 refine lc (QA (e:= .u8) (z':=43) (Qa rfl) rfl a7 rfl (Evl.ev (QC 43 rfl)) rfl QX rfl rfl)<|Qb ?_
 refine w4 ?_
 refine Qb ?_
 refine l0_ ?_
 exact wp [] ⟨rfl,rfl,(Qe (by first | exact Qjo f ‹_› | exact Qjp f ‹_› | exact Qcr f (QvK ‹_› ‹_›))),trivial⟩
 have a1:=ab a0
 refine w12 ?_
 obtain ⟨d8,a8⟩:=gx (sgF c.2.1.length (Qn c p r) k) k
 refine lc (QA (e:= .u8) (z':=48) (Qa rfl) rfl a8 rfl (Evl.ev (QC 48 rfl)) rfl QX rfl rfl) ?_
 refine w4 ?_
 refine lc (dB_ (ZZ (Qn c p r) (k:Int)) YZ) ?_
 refine w_ ?_
 cases J:(decide ((k:Int)∈(Qn c p r)))
 have X:=aa J
 refine w6 ?_
 refine Qb ?_
 refine l0_ ?_
 exact wp [] ⟨rfl,rfl,(Qe (by first | exact QpK (by omega) ‹_› | exact Qth (by omega) ‹_›)),trivial⟩
 have X:=ab J
 refine w5 ?_
 refine lc (QA (e:= .u8) (z':=49) (Qa rfl) rfl (aM (by first | omega | (simp only[ap]; omega))) rfl (Evl.ev (QC 49 rfl)) rfl QX rfl rfl) ?_
 refine Qb ?_
 refine w4 ?_
 refine Qb ?_
 refine l0_ ?_
 exact wp [] ⟨rfl,rfl,(Qe (by first | exact QpK (by omega) ‹_› | exact Qth (by omega) ‹_›)),trivial⟩
theorem Hw (c:Zi)(p:JY)(r:JY)(f:SgOk c):FC Tryz.prog 554 [(true,[.dat Ql c.1, .dat Qo c.2.1, .dat Qw c.2.2]),(true,[dI p.1,dB p.2]),(true,[dI r.1,dB r.2])] [] 0 (QY (PV.tup [(false,[dS (Yo c p r)]),(false,[dB (okB c p r)])])):=by
 have m:∀a∈c.2.2,InR c.2.1.length a:=fun a A=>XC (f.arcs a A)
 have E:(List.replicate c.2.1.length (Ty.zero .u8)).length=c.2.1.length:=aA ..
 have D:=f.some_
 have C:=f.few
 have B:=Qfp (p:=p) (r:=r) m
 refine Qv Tryz.func554 rfl rfl Tryz.ntmps554 fun G l F o H z y=> ?_
 refine acG 1 0 fun _=> ?_
 refine acG 2 0 fun _=> ?_
 refine w_ ?_
 refine xbx 0 ?_
 refine xbx 1 ?_
 refine xbx 2 ?_
 refine w7 ?_
 refine lc (dO 3 (Qc7 c p r m (by omega)) Qnu) ?_
 refine w5 ?_
 refine lc (dB_ (Qbg c (Qn c p r) f) Qnv) ?_
 refine w8 ?_
 refine alL 20 fun _=> ?_
 refine w2 ?_
 refine lc (dK (Zm ((Qn c p r).length:Int) 1 ((c.2.1.length:Int) - 1)) Ym) ?_
 refine w2 ?_
 cases b:(decide (1≤((Qn c p r).length:Int)∧((Qn c p r).length:Int)≤((c.2.1.length:Int) - 1)))
 have d:=aa b
 refine w12 ?_
 have q:((⟨#[]⟩:ByteArray):ByteArray)=(Yo c p r):=by
  exact Qlc (Qvp ‹_›)
 have t:(false:Bool)=(okB c p r):=by
  exact (Qvp ‹_›).symm
 exact fr_ l (e:=by rw[q,← t] <;> rfl)
 have d:=ab b
 refine w2 ?_
 refine lgy rfl rfl (dK (VP c (YG c (Qn c p r)) (Qdz (block:=Qn c p r) f)) QfY) ?_
 refine w3 ?_
 refine cx_ (fun _=> ?_) fun _=> ?_
 refine w5 ?_
 have v:((⟨#[]⟩:ByteArray):ByteArray)=(Yo c p r):=by
  exact Qlc (Qs2 ‹_›)
 have w:(false:Bool)=(okB c p r):=by
  exact (Qs2 ‹_›).symm
 exact fr_ l (e:=by rw[v,← w] <;> rfl)
 refine w7 ?_
 have g:(YG c (Qn c p r):ByteArray)=(Yo c p r):=by
  exact Qig (Qvq ‹_› ‹_›)
 have h:(true:Bool)=(okB c p r):=by
  exact (Qvq ‹_› ‹_›).symm
 exact fr_ l (e:=by rw[g,← h] <;> rfl)
end Go.Proofs.YtndabgcpnmeeoaaGreat
