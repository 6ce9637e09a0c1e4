/- Walks over abstract states: the partition for two labels, both sides. -/
import Derived.Test.YtgpdhgadmjfokaaGreatBUc
set_option linter.unusedSimpArgs false
set_option linter.unusedVariables false
set_option linter.unusedSectionVars false
namespace Go.Proofs.YtgpdhgadmjfokaaGreat
open Go.RowKit
set_option maxRecDepth 100000
set_option maxHeartbeats 4000000
def sgF (n:Nat)(block:List Int)(k:Nat):List UInt8:=sg0 k block++List.replicate (n - k) 0
def okB (c:DSg)(p r:Int×Bool):Bool:=Xg c (YC c (Qj c p r))&&(decide (0 < ((Qj c p r).length:Int))&&decide (((Qj c p r).length:Int) < (c.2.1.length:Int)))
def Yu (c:DSg)(p r:Int×Bool):ByteArray:=if okB c p r=true then YC c (Qj c p r) else ⟨#[]⟩
section
variable {c:DSg}{as_:List DAr}{a:DAr}{block:List Int}{k i j n:Nat}{s:List UInt8}{u:UInt8}{p r:Int×Bool}{x:QD}
theorem Qvn (h:k≤n):(sgF n block k).length=n:=by unfold sgF; rw[ae,KE,aF]; omega
theorem QnW (h:k < n)(z:UInt8):(sgF n block k).set k z=(sg0 k block++[z])++List.replicate (n - (k+1)) 0:=by
 unfold sgF
 rw[List.set_append_right _ _ (by rw[KE]; omega),KE,Nat.sub_self,show n - k=(n - (k+1))+1 by omega,List.replicate_succ,List.set_cons_zero,aP]
 rfl
theorem QrO (h:k < n)(hb:¬(k:Int)∈block):(sgF n block k).set k 48=sgF n block (k+1):=by
 rw[QnW h,Qll hb rfl]; rfl
theorem Qoe (h:k < n)(hb:(k:Int)∈block):((sgF n block k).set k 48).set k 49=sgF n block (k+1):=by
 rw[dl,QnW h,Qht hb rfl]; rfl
theorem Quw:sgF n block n=sg0 n block:=by unfold sgF; rw[Nat.sub_self]; simp
theorem QrK:List.replicate n (0:UInt8)=sgF n block 0:=by simp[sgF,sg0]
theorem Qx0 {A B:Prop}[Decidable A][Decidable B](h:(if A then 1 else if B then 2 else (0:Int))=1):A:=by
 split at h
 ·assumption
 ·split at h <;> exact absurd h (by decide)
theorem Qx6 {A B:Prop}[Decidable A][Decidable B](h:(if A then 1 else if B then 2 else (0:Int))=2):B:=by
 split at h
 ·exact absurd h (by decide)
 ·split at h
  ·assumption
  ·exact absurd h (by decide)
theorem Qqm {A B:Prop}[Decidable A][Decidable B](h:(if¬A∧B then 1 else if A∧¬B then 2 else (0:Int))=0):A↔B:=by
 by_cases b:A <;> by_cases d:B <;> simp[b,d] at h ⊢
theorem QxH {A B:Prop}[Decidable A][Decidable B](b:¬(if¬A∧B then 1 else if A∧¬B then 2 else (0:Int))=1)(d:¬(if¬A∧B then 1 else if A∧¬B then 2 else (0:Int))=2):A↔B:=by
 by_cases e:A <;> by_cases f:B <;> simp[e,f] at b d ⊢
theorem Qpl {A B:Prop}[Decidable A][Decidable B](h:¬(if¬A∧B then 1 else if A∧¬B then 2 else (0:Int))=0):¬(A↔B):=fun g=>by
 by_cases b:A <;> by_cases d:B <;> simp[b,d] at h g
theorem QgX (h:decide (u=43)=false)(b:decide (u=45)=false):¬(u=43∨u=45):=fun g=>g.elim (aa h) (aa b)
theorem Qil (b:as_[k]? =some a)(h:(if¬a.1∈block∧a.2.2.2∈block then 1 else if a.1∈block∧¬a.2.2.2∈block then 2 else (0:Int))=1):((as_.take k).foldl (Yb block) s).set a.2.2.2.toNat 43=(as_.take (k+1)).foldl (Yb block) s:=Qn1 b (Qx0 h).1 (Qx0 h).2
theorem Qhr (b:as_[k]? =some a)(h:(if¬a.1∈block∧a.2.2.2∈block then 1 else if a.1∈block∧¬a.2.2.2∈block then 2 else (0:Int))=2):((as_.take k).foldl (Yb block) s).set a.2.2.2.toNat 45=(as_.take (k+1)).foldl (Yb block) s:=QiI b (Qx6 h).1 (Qx6 h).2
theorem Qxz (h:a.2.1 < 0):true=inA c a:=by unfold inA; rw[aQ h]; rfl
theorem Qv2 (h:¬a.2.1 < 0)(b:c.1[a.2.1.toNat]? =some x):decide (x.2=1)=inA c a:=by unfold inA; rw[aH h,b]; rfl
theorem Qcc (e:as_[i]? =some a)(b:((as_.take i).foldl (ZP c block) s)[a.1.toNat]? =some u)(d:u=43∨u=45)(hi:inA c a=true)(hb:a.1∈block↔a.2.2.2∈block):((as_.take i).foldl (ZP c block) s).set a.2.2.2.toNat u=(as_.take (i+1)).foldl (ZP c block) s:=by
 rw[QG e,bm,aT,cv,ZP,W5 b,if_pos ⟨d,hi,hb⟩]
theorem WJ (b:as_[i]? =some a)(h:ZP c block ((as_.take i).foldl (ZP c block) s) a=(as_.take i).foldl (ZP c block) s):(as_.take i).foldl (ZP c block) s=(as_.take (i+1)).foldl (ZP c block) s:=by
 rw[QG b,bm,aT,cv,h]
theorem QwJ (b:∀a∈c.2.2,InR c.2.1.length a)(j i:Nat):((c.2.2.take i).foldl (ZP c block) (QT (ZM c block) j (Yc c block))).length=c.2.1.length:=
 (Ux (fun a d=>b a (List.mem_of_mem_take d)) (Qfd _ (fun _ h=>Qhl b h) (Qbu b) j)).1.len
theorem QvC (h:¬(1≤((Qj c p r).length:Int)∧((Qj c p r).length:Int)≤(c.2.1.length:Int) - 1)):okB c p r=false:=by
 cases b:okB c p r with
 | false=>rfl
 | true=>
  unfold okB at b
  simp only[aL,aU] at b
  exact absurd ⟨by omega,by omega⟩ h
theorem Qss (h:Xg c (YC c (Qj c p r))=false):okB c p r=false:=by unfold okB; rw[h]; rfl
theorem Qvz (h:1≤((Qj c p r).length:Int)∧((Qj c p r).length:Int)≤(c.2.1.length:Int) - 1)(b:Xg c (YC c (Qj c p r))=true):okB c p r=true:=by
 unfold okB
 rw[b,aQ (by omega),aQ (by omega)]; rfl
theorem QiT (h:okB c p r=false):(⟨#[]⟩:ByteArray)=Yu c p r:=by unfold Yu; rw[h]; rfl
theorem Qgr (h:okB c p r=true):YC c (Qj c p r)=Yu c p r:=by unfold Yu; rw[h]; rfl
theorem QwT (h:Xg c (YC c (Qj c p r))=true)(b:0 < ((Qj c p r).length:Int)):decide (((Qj c p r).length:Int) < (c.2.1.length:Int))=okB c p r:=by unfold okB; rw[h,aQ b]; rfl
theorem Qw6 (d:∀a∈c.2.2,InR c.2.1.length a)(h:Xg c (YC c (Qj c p r))=true)(b:0 < ((Qj c p r).length:Int)):decide (((Qj c p r).length:Int) < ((QT (ZM c (Qj c p r)) c.2.1.length (Yc c (Qj c p r))).length:Int))=okB c p r:=by
 have:(QT (ZM c (Qj c p r)) c.2.1.length (Yc c (Qj c p r))).length=c.2.1.length:=(Qn9 (block:=Qj c p r) d).len
 rw[this]; exact QwT h b
theorem QwK (b:¬0 < ((Qj c p r).length:Int)):false=okB c p r:=by unfold okB; rw[aH b]; simp
end
theorem Qez {c:DSg}{p r:Int×Bool}(d:∀a∈c.2.2,InR c.2.1.length a):(Qj c p r).length≤c.2.1.length:=by
 have:=Kw (KZ c p r).str (lo:=0) (hi:=c.2.1.length) (fun x e=>QhB (fun a b=>(d a b).2) ((KZ c p r).cl x e)) (by omega)
 omega
theorem Hy (c:ZB)(p:KO)(r:KO)(K:SgOk c):FC Tryz.prog 235 [(true,[.dat Ql c.1, .dat Qm c.2.1, .dat Qu c.2.2]),(true,[dI p.1,dB p.2]),(true,[dI r.1,dB r.2])] [] 0 (Q7 (PV.tup [(false,[dS (YC c (Qj c p r))]),(false,[dB (okB c p r)])])):=by
 have Y:∀a∈c.2.2,InR c.2.1.length a:=fun a ha=>XE (K.arcs a ha)
 have d1:(List.replicate c.2.1.length (Ty.zero .u8)).length=c.2.1.length:=aF ..
 have d0:=K.some_
 have c7:=K.few
 have c6:=Qez (p:=p) (r:=r) Y
 refine Qt Tryz.func235 rfl rfl Tryz.ntmps235 fun O_ hO d3 c3 X_ c5 c4=> ?_
 refine acG 1 0 fun _=> ?_
 refine acG 2 0 fun _=> ?_
 refine w_ ?_
 refine xbx 0 ?_
 refine xbx 1 ?_
 refine xbx 2 ?_
 refine w7 ?_
 refine lc (dO 3 (Qb3 c p r Y (by omega)) Ql7) ?_
 refine w5 ?_
 refine alL 21 fun _=> ?_
 refine w_ ?_
 refine lc (Wm 4 (e:= .u8) (n:=c.2.1.length) (Qa rfl) (Qa rfl) ZD QvF rfl (by omega) (by omega) rfl (Fresh.of rfl) (nlr rfl)) ?_
 refine w9 ?_
 refine lp0 c.2.1.length (fun k=>⟨[(3,lP 0 0),(6,lf (dS (⟨#[]⟩:ByteArray))),(7,lB false),(8,lR 3),(9,lR 5),(25,lI ((List.replicate c.2.1.length (Ty.zero .u8)).length:Int)),(26,lI (k:Int))],[bx 0 27 [.dat Ql c.1, .dat Qm c.2.1, .dat Qu c.2.2],(3,some (.arr 3 .int (Qj c p r))),(5,some (.arr 5 .u8 (sgF c.2.1.length (Qj c p r) k)))]⟩) ?_ fun k _=> ?_
 exact wp [(5,4)] ⟨rfl,rfl,(Qe (QrK)),trivial⟩
 have d2:=Qvn (n:=c.2.1.length) (block:=(Qj c p r)) (k:=k) (by omega)
 refine w4 ?_
 cases a0:(decide ((k:Int) < ((List.replicate c.2.1.length (Ty.zero .u8)).length:Int)))
 have a1:=aa a0
 refine w4 ?_
 refine Yo ?_
 obtain rfl:k=c.2.1.length:=by omega
 rw[Quw]
 refine w3 ?_
 refine alL 40 fun _=> ?_
 refine w4 ?_
 refine lp0 c.2.2.length (fun k=>⟨[(3,lP 0 0),(6,lf (dS (⟨#[]⟩:ByteArray))),(7,lB false),(8,lR 3),(9,lR 6),(40,lf (.dat Qu c.2.2)),(41,lI (c.2.2.length:Int)),(42,lI (k:Int))],[bx 0 27 [.dat Ql c.1, .dat Qm c.2.1, .dat Qu c.2.2],(3,some (.arr 3 .int (Qj c p r))),(6,some (.arr 5 .u8 ((c.2.2.take k).foldl (Yb (Qj c p r)) (sg0 c.2.1.length (Qj c p r)))))]⟩) ?_ fun k _=> ?_
 exact wp [(6,5)] ⟨rfl,rfl,(Qe (by simp only[cU,cv])),trivial⟩
 have c8:=Qkd (block:=(Qj c p r)) (k:=k) Y
 refine w4 ?_
 cases a2:(decide ((k:Int) < (c.2.2.length:Int)))
 have a3:=aa a2
 refine w7 ?_
 refine alL 63 fun _=> ?_
 refine w4 ?_
 refine lp0 c.2.1.length (fun j=>⟨[(3,lP 0 0),(6,lf (dS (⟨#[]⟩:ByteArray))),(7,lB false),(8,lR 3),(9,lR 7),(64,lI (c.2.1.length:Int)),(65,lI (j:Int))],[bx 0 27 [.dat Ql c.1, .dat Qm c.2.1, .dat Qu c.2.2],(3,some (.arr 3 .int (Qj c p r))),(7,some (.arr 5 .u8 (QT (ZM c (Qj c p r)) j (Yc c (Qj c p r)))))]⟩) ?_ fun j _=> ?_
 exact wp [(7,6)] ⟨rfl,rfl,(Qe (by rw[QH (by omega)]; rfl)),trivial⟩
 refine w4 ?_
 cases A:(decide ((j:Int) < (c.2.1.length:Int)))
 have N:=aa A
 refine w3 ?_
 obtain rfl:j=c.2.1.length:=by omega
 cases q:(Xg c (⟨(QT (ZM c (Qj c p r)) c.2.1.length (Yc c (Qj c p r))).toArray⟩:ByteArray))
 apply dW (io 121 _ :: io 122 (lf (dS (⟨(QT (ZM c (Qj c p r)) c.2.1.length (Yc c (Qj c p r))).toArray⟩:ByteArray))) :: i2 123 _ _ (io 125 (lf (dS (⟨(QT (ZM c (Qj c p r)) c.2.1.length (Yc c (Qj c p r))).toArray⟩:ByteArray))) :: io 126 (lB false) :: i9 127 _ _ _ _ _ _ _ _ _ (i3 136 _ _ _ (i2 6 _ _ [])))) [0,0,3,7,7,3,3,3,3,3,3,3,3,3,12291,12291,3,3,258048,0]
 refine z_ ?_
 refine zz (fun _ d=>ac (Zm (ys:=QT (ZM c (Qj c p r)) c.2.1.length (Yc c (Qj c p r))) (YM (d.v rfl) (d.n 7 rfl)) ZD Vl Zf rfl) rfl) ?_
 refine z2 ?_
 refine zz (fun _ d=>ac (Zm (ys:=QT (ZM c (Qj c p r)) c.2.1.length (Yc c (Qj c p r))) (YM (d.v rfl) (d.n 7 rfl)) ZD Vl Zf rfl) rfl) ?_
 refine zz (fun _ d=>ac (QC (q) (dK (XX c (⟨(QT (ZM c (Qj c p r)) c.2.1.length (Yc c (Qj c p r))).toArray⟩:ByteArray) (Qch (block:=Qj c p r) K)) KF)) rfl) ?_
 exact y14
 refine w_ ?_
 have a9:((⟨(QT (ZM c (Qj c p r)) c.2.1.length (Yc c (Qj c p r))).toArray⟩:ByteArray):ByteArray)=(YC c (Qj c p r)):=by
  rfl
 have b0:(false:Bool)=(okB c p r):=by
  exact (Qss ‹_›).symm
 exact fr_ hO (e:=by rw[a9,← b0] <;> rfl)
 cases m:(decide (0 < ((Qj c p r).length:Int)))
 have O:=aa m
 apply dW (io 121 _ :: io 122 (lf (dS (⟨(QT (ZM c (Qj c p r)) c.2.1.length (Yc c (Qj c p r))).toArray⟩:ByteArray))) :: i2 123 _ _ (io 125 (lf (dS (⟨(QT (ZM c (Qj c p r)) c.2.1.length (Yc c (Qj c p r))).toArray⟩:ByteArray))) :: io 126 (lB true) :: i3 127 _ _ _ (io 130 (lB false) :: i8 131 _ _ _ _ _ _ _ _ (i2 6 _ _ [])))) [0,0,3,7,7,3,3,3,3,3,3,3,3,3,12291,12291,3,3,258048,0]
 refine z_ ?_
 refine zz (fun _ d=>ac (Zm (ys:=QT (ZM c (Qj c p r)) c.2.1.length (Yc c (Qj c p r))) (YM (d.v rfl) (d.n 7 rfl)) ZD Vl Zf rfl) rfl) ?_
 refine z2 ?_
 refine zz (fun _ d=>ac (Zm (ys:=QT (ZM c (Qj c p r)) c.2.1.length (Yc c (Qj c p r))) (YM (d.v rfl) (d.n 7 rfl)) ZD Vl Zf rfl) rfl) ?_
 refine zz (fun _ d=>ac (QC (q) (dK (XX c (⟨(QT (ZM c (Qj c p r)) c.2.1.length (Yc c (Qj c p r))).toArray⟩:ByteArray) (Qch (block:=Qj c p r) K)) KF)) rfl) ?_
 refine z3 ?_
 refine zz (fun _ d=>day rfl (d.k rfl) (QC (m) (QbL (d.v rfl) (Qp rfl) rfl)) rfl) ?_
 exact y10
 refine w_ ?_
 have b1:((⟨(QT (ZM c (Qj c p r)) c.2.1.length (Yc c (Qj c p r))).toArray⟩:ByteArray):ByteArray)=(YC c (Qj c p r)):=by
  rfl
 have b2:(false:Bool)=(okB c p r):=by
  exact QwK ‹_›
 exact fr_ hO (e:=by rw[b1,← b2] <;> rfl)
 have O:=ab m
 apply dW (io 121 _ :: io 122 (lf (dS (⟨(QT (ZM c (Qj c p r)) c.2.1.length (Yc c (Qj c p r))).toArray⟩:ByteArray))) :: i2 123 _ _ (io 125 (lf (dS (⟨(QT (ZM c (Qj c p r)) c.2.1.length (Yc c (Qj c p r))).toArray⟩:ByteArray))) :: io 126 (lB true) :: i3 127 _ _ _ (io 130 (lB true) :: i8 131 _ _ _ _ _ _ _ _ (i2 6 _ _ [])))) [0,0,3,7,7,3,3,3,3,3,3,3,3,3,12291,12291,3,3,258048,0]
 refine z_ ?_
 refine zz (fun _ d=>ac (Zm (ys:=QT (ZM c (Qj c p r)) c.2.1.length (Yc c (Qj c p r))) (YM (d.v rfl) (d.n 7 rfl)) ZD Vl Zf rfl) rfl) ?_
 refine z2 ?_
 refine zz (fun _ d=>ac (Zm (ys:=QT (ZM c (Qj c p r)) c.2.1.length (Yc c (Qj c p r))) (YM (d.v rfl) (d.n 7 rfl)) ZD Vl Zf rfl) rfl) ?_
 refine zz (fun _ d=>ac (QC (q) (dK (XX c (⟨(QT (ZM c (Qj c p r)) c.2.1.length (Yc c (Qj c p r))).toArray⟩:ByteArray) (Qch (block:=Qj c p r) K)) KF)) rfl) ?_
 refine z3 ?_
 refine zz (fun _ d=>day rfl (d.k rfl) (QC (m) (QbL (d.v rfl) (Qp rfl) rfl)) rfl) ?_
 exact y10
 refine w_ ?_
 have b3:((⟨(QT (ZM c (Qj c p r)) c.2.1.length (Yc c (Qj c p r))).toArray⟩:ByteArray):ByteArray)=(YC c (Qj c p r)):=by
  rfl
 have b4:(decide (((Qj c p r).length:Int) < ((QT (ZM c (Qj c p r)) c.2.1.length (Yc c (Qj c p r))).length:Int)):Bool)=(okB c p r):=by
  exact Qw6 Y ‹_› ‹_›
 exact fr_ hO (e:=by rw[b3,b4] <;> rfl)
 have N:=ab A
 refine w7 ?_
 refine alL 68 fun _=> ?_
 refine w4 ?_
 refine lp0 c.2.2.length (fun i=>⟨[(3,lP 0 0),(6,lf (dS (⟨#[]⟩:ByteArray))),(7,lB false),(8,lR 3),(9,lR 8),(64,lI (c.2.1.length:Int)),(65,lI (j:Int)),(66,lB true),(67,lP 0 2),(68,lf (.dat Qu c.2.2)),(69,lI (c.2.2.length:Int)),(70,lI (i:Int))],[bx 0 27 [.dat Ql c.1, .dat Qm c.2.1, .dat Qu c.2.2],(3,some (.arr 3 .int (Qj c p r))),(8,some (.arr 5 .u8 ((c.2.2.take i).foldl (ZP c (Qj c p r)) (QT (ZM c (Qj c p r)) j (Yc c (Qj c p r))))))]⟩) ?_ fun i _=> ?_
 exact wp [(8,7)] ⟨rfl,rfl,(Qe (by simp only[cU,cv])),trivial⟩
 have c9:=QwJ (block:=(Qj c p r)) Y j i
 refine w4 ?_
 cases B:(decide ((i:Int) < (c.2.2.length:Int)))
 have P:=aa B
 refine w6 ?_
 refine Qb ?_
 refine l0_ ?_
 exact wp [(7,8)] ⟨rfl,rfl,(Qe (by rw[QH (by omega)]; rfl)),trivial⟩
 have P:=ab B
 refine w5 ?_
 obtain ⟨ar,b⟩:=gx c.2.2 i
 have o:=Y _ (ah b)
 obtain ⟨⟨b5,b6⟩,b7,b8⟩:=o
 have t:=(K.arcs _ (ah b)).2.2.1
 have a4:ar.2.1 < (c.1.length:Int):=Ut t
 refine w2 ?_
 refine lc (xal 9 Qs Zg) ?_
 refine w2 ?_
 refine Ud (fun s_=>∃(z:Bool),(z=inA c ar)∧s_=⟨[(3,lP 0 0),(6,lf (dS (⟨#[]⟩:ByteArray))),(7,lB false),(8,lR 3),(9,lR 8),(14,lP 9 0),(15,lB z),(64,lI (c.2.1.length:Int)),(65,lI (j:Int)),(66,lB true),(67,lP 0 2),(68,lf (.dat Qu c.2.2)),(69,lI (c.2.2.length:Int)),(70,lI (i:Int)),(71,lB true),(72,lf (.elt Qs ar 0)),(73,ag [dI ar.1,dI ar.2.1,dB ar.2.2.1,dI ar.2.2.2])],[bx 0 27 [.dat Ql c.1, .dat Qm c.2.1, .dat Qu c.2.2],(3,some (.arr 3 .int (Qj c p r))),(8,some (.arr 5 .u8 ((c.2.2.take i).foldl (ZP c (Qj c p r)) (QT (ZM c (Qj c p r)) j (Yc c (Qj c p r)))))),bx 9 46 [dI ar.1,dI ar.2.1,dB ar.2.2.1,dI ar.2.2.2]]⟩) ?_ fun Z=> ?_
 rintro s_ ⟨z,g,rfl⟩
 refine w3 ?_
 cases c2:(z)
 refine w7 ?_
 refine Qi rfl rfl rfl ?_ rfl
 refine Qi rfl rfl rfl ?_ rfl
 refine Qi rfl rfl rfl ?_ rfl
 refine Qi rfl rfl rfl ?_ rfl
 refine Qi rfl rfl rfl ?_ rfl
 refine Qi rfl rfl rfl ?_ rfl
 refine w15 ?_
 refine Qb ?_
 refine l0_ ?_
 exact wp [] ⟨rfl,rfl,(Qe (by first | exact Qcc b l (by first | exact .inl ‹_› | exact .inr ‹_›) (g.symm.trans ‹_›) (Qqm ‹_›) | exact WJ b (VU (fun h=>absurd ((g.symm.trans (by assumption:z=false)).symm.trans h) (by decide))) | exact WJ b (Kk l (QgX ‹_› ‹_›)) | exact WJ b (Vc (Qpl ‹_›)))),trivial⟩
 refine w4 ?_
 obtain ⟨u,y⟩:=gx ((c.2.2.take i).foldl (ZP c (Qj c p r)) (QT (ZM c (Qj c p r)) j (Yc c (Qj c p r)))) ((ar.1).toNat)
 have l:=y
 refine w_ ?_
 refine lgy rfl rfl (Qr (Qa rfl) (Qw 43 rfl) rfl) ?_
 refine w_ ?_
 cases C:(decide (u=43))
 have Q:=aa C
 refine w5 ?_
 refine lgy rfl rfl (Qr (Qa rfl) (Qw 45 rfl) rfl) ?_
 refine w3 ?_
 cases D:(decide (u=45))
 have R:=aa D
 refine w12 ?_
 refine Qb ?_
 refine l0_ ?_
 exact wp [] ⟨rfl,rfl,(Qe (by first | exact Qcc b l (by first | exact .inl ‹_› | exact .inr ‹_›) (g.symm.trans ‹_›) (Qqm ‹_›) | exact WJ b (VU (fun h=>absurd ((g.symm.trans (by assumption:z=false)).symm.trans h) (by decide))) | exact WJ b (Kk l (QgX ‹_› ‹_›)) | exact WJ b (Vc (Qpl ‹_›)))),trivial⟩
 have R:=ab D
 refine w2 ?_
 refine lgy rfl rfl (dB_ (WU ar (Qj c p r)) H3) ?_
 refine w3 ?_
 cases E:(decide ((if¬ar.1∈(Qj c p r)∧ar.2.2.2∈(Qj c p r) then 1 else if ar.1∈(Qj c p r)∧¬ar.2.2.2∈(Qj c p r) then 2 else (0:Int))=0))
 have S:=aa E
 refine w6 ?_
 refine Qb ?_
 refine l0_ ?_
 exact wp [] ⟨rfl,rfl,(Qe (by first | exact Qcc b l (by first | exact .inl ‹_› | exact .inr ‹_›) (g.symm.trans ‹_›) (Qqm ‹_›) | exact WJ b (VU (fun h=>absurd ((g.symm.trans (by assumption:z=false)).symm.trans h) (by decide))) | exact WJ b (Kk l (QgX ‹_› ‹_›)) | exact WJ b (Vc (Qpl ‹_›)))),trivial⟩
 have S:=ab E
 refine w_ ?_
 obtain ⟨d4,L⟩:=gx ((c.2.2.take i).foldl (ZP c (Qj c p r)) (QT (ZM c (Qj c p r)) j (Yc c (Qj c p r)))) ((ar.2.2.2).toNat)
 have c0:=L
 apply dV (i6 110 _ _ _ _ _ _ [io 116 (lf (.ept 8 1 ((ar.1).toNat) 0)),io 117 (lf (.dat .u8 u)),io 118 (lf (.ept 8 1 ((ar.2.2.2).toNat) 0)),⟨none,lf (.val undef),[(8,some (.arr 5 .u8 (((c.2.2.take i).foldl (ZP c (Qj c p r)) (QT (ZM c (Qj c p r)) j (Yc c (Qj c p r)))).set ((ar.2.2.2).toNat) u)))]⟩]) [0,1,1,7,15,15,7,7,0,0]
 refine z6 ?_
 refine zz (fun _ d=>ac (QE (e:= .u8) (d.v rfl) (d.en 8 rfl) (d.v rfl) ZD Zd rfl (by omega) (by first | omega | (simp only[az]; omega))) rfl)<|zz (fun _ d=>ac (Q3 (e:= .u8) (d.v rfl) (d.n 8 rfl) y rfl Zd rfl rfl) rfl)<|zz (fun _ d=>ac (QE (e:= .u8) (d.v rfl) (d.en 8 rfl) (d.v rfl) ZD Zd rfl (by omega) (by first | omega | (simp only[az]; omega))) rfl)<|zz (fun _ d=>ac (QB (e:= .u8) (z':=u) (d.v rfl) (d.n 8 rfl) L rfl (d.w rfl) rfl Zd rfl rfl) rfl) ?_
 exact zN
 refine w4 ?_
 refine Qb ?_
 refine l0_ ?_
 exact wp [] ⟨rfl,rfl,(Qe (by first | exact Qcc b l (by first | exact .inl ‹_› | exact .inr ‹_›) (g.symm.trans ‹_›) (Qqm ‹_›) | exact WJ b (VU (fun h=>absurd ((g.symm.trans (by assumption:z=false)).symm.trans h) (by decide))) | exact WJ b (Kk l (QgX ‹_› ‹_›)) | exact WJ b (Vc (Qpl ‹_›)))),trivial⟩
 have Q:=ab C
 refine w11 ?_
 refine lgy rfl rfl (dB_ (WU ar (Qj c p r)) H3) ?_
 refine w3 ?_
 cases F:(decide ((if¬ar.1∈(Qj c p r)∧ar.2.2.2∈(Qj c p r) then 1 else if ar.1∈(Qj c p r)∧¬ar.2.2.2∈(Qj c p r) then 2 else (0:Int))=0))
 have T:=aa F
 refine w6 ?_
 refine Qb ?_
 refine l0_ ?_
 exact wp [] ⟨rfl,rfl,(Qe (by first | exact Qcc b l (by first | exact .inl ‹_› | exact .inr ‹_›) (g.symm.trans ‹_›) (Qqm ‹_›) | exact WJ b (VU (fun h=>absurd ((g.symm.trans (by assumption:z=false)).symm.trans h) (by decide))) | exact WJ b (Kk l (QgX ‹_› ‹_›)) | exact WJ b (Vc (Qpl ‹_›)))),trivial⟩
 have T:=ab F
 refine w_ ?_
 obtain ⟨d5,M⟩:=gx ((c.2.2.take i).foldl (ZP c (Qj c p r)) (QT (ZM c (Qj c p r)) j (Yc c (Qj c p r)))) ((ar.2.2.2).toNat)
 have c1:=M
 apply dV (i6 110 _ _ _ _ _ _ [io 116 (lf (.ept 8 1 ((ar.1).toNat) 0)),io 117 (lf (.dat .u8 u)),io 118 (lf (.ept 8 1 ((ar.2.2.2).toNat) 0)),⟨none,lf (.val undef),[(8,some (.arr 5 .u8 (((c.2.2.take i).foldl (ZP c (Qj c p r)) (QT (ZM c (Qj c p r)) j (Yc c (Qj c p r)))).set ((ar.2.2.2).toNat) u)))]⟩]) [0,1,1,7,15,15,7,7,0,0]
 refine z6 ?_
 refine zz (fun _ d=>ac (QE (e:= .u8) (d.v rfl) (d.en 8 rfl) (d.v rfl) ZD Zd rfl (by omega) (by first | omega | (simp only[az]; omega))) rfl)<|zz (fun _ d=>ac (Q3 (e:= .u8) (d.v rfl) (d.n 8 rfl) y rfl Zd rfl rfl) rfl)<|zz (fun _ d=>ac (QE (e:= .u8) (d.v rfl) (d.en 8 rfl) (d.v rfl) ZD Zd rfl (by omega) (by first | omega | (simp only[az]; omega))) rfl)<|zz (fun _ d=>ac (QB (e:= .u8) (z':=u) (d.v rfl) (d.n 8 rfl) M rfl (d.w rfl) rfl Zd rfl rfl) rfl) ?_
 exact zN
 refine w4 ?_
 refine Qb ?_
 refine l0_ ?_
 exact wp [] ⟨rfl,rfl,(Qe (by first | exact Qcc b l (by first | exact .inl ‹_› | exact .inr ‹_›) (g.symm.trans ‹_›) (Qqm ‹_›) | exact WJ b (VU (fun h=>absurd ((g.symm.trans (by assumption:z=false)).symm.trans h) (by decide))) | exact WJ b (Kk l (QgX ‹_› ‹_›)) | exact WJ b (Vc (Qpl ‹_›)))),trivial⟩
 refine w3 ?_
 refine alI 75 fun _=> ?_
 refine w2 ?_
 cases G:(decide (ar.2.1 < 0))
 have U:=aa G
 refine w4 ?_
 obtain ⟨sx,a5⟩:=gx c.1 ((ar.2.1).toNat)
 have b9:=a5
 refine w7 ?_
 refine XP (Z _ ⟨(decide (sx.2=1)),(by exact Qv2 ‹_› b9),rfl⟩) ?_
 exact wo []
 have U:=ab G
 refine w11 ?_
 refine XP (Z _ ⟨true,(by exact Qxz ‹_›),rfl⟩) ?_
 exact wo []
 have a3:=ab a2
 refine w5 ?_
 obtain ⟨ar,f⟩:=gx c.2.2 k
 have o:=Y _ (ah f)
 obtain ⟨⟨b5,b6⟩,b7,b8⟩:=o
 have t:=(K.arcs _ (ah f)).2.2.1
 have a4:ar.2.1 < (c.1.length:Int):=Ut t
 refine w2 ?_
 refine lc (xal 10 Qs Zg) ?_
 refine w5 ?_
 refine lc (dB_ (WU ar (Qj c p r)) H3) ?_
 refine w6 ?_
 cases H:(decide ((if¬ar.1∈(Qj c p r)∧ar.2.2.2∈(Qj c p r) then 1 else if ar.1∈(Qj c p r)∧¬ar.2.2.2∈(Qj c p r) then 2 else (0:Int))=1))
 have V:=aa H
 refine w5 ?_
 cases I:(decide ((if¬ar.1∈(Qj c p r)∧ar.2.2.2∈(Qj c p r) then 1 else if ar.1∈(Qj c p r)∧¬ar.2.2.2∈(Qj c p r) then 2 else (0:Int))=2))
 have W:=aa I
 refine w6 ?_
 refine Qb ?_
 refine l0_ ?_
 exact wp [] ⟨rfl,rfl,(Qe (by first | exact Qil f ‹_› | exact Qhr f ‹_› | exact Qbh f (QxH ‹_› ‹_›))),trivial⟩
 have W:=ab I
 refine w5 ?_
 refine alI 59 fun _=> ?_
 refine w_ ?_
 obtain ⟨d6,a6⟩:=gx ((c.2.2.take k).foldl (Yb (Qj c p r)) (sg0 c.2.1.length (Qj c p r))) ((ar.2.2.2).toNat)
 refine lc (QB (e:= .u8) (z':=45) (Qa rfl) rfl a6 rfl (Evl.ev (Qw 45 rfl)) rfl Zd rfl rfl)<|Qb ?_
 refine w4 ?_
 refine Qb ?_
 refine l0_ ?_
 exact wp [] ⟨rfl,rfl,(Qe (by first | exact Qil f ‹_› | exact Qhr f ‹_› | exact Qbh f (QxH ‹_› ‹_›))),trivial⟩
 have V:=ab H
 refine w5 ?_
 refine alI 53 fun _=> ?_
 refine w_ ?_
 obtain ⟨d7,a7⟩:=gx ((c.2.2.take k).foldl (Yb (Qj c p r)) (sg0 c.2.1.length (Qj c p r))) ((ar.2.2.2).toNat)
 refine lc (QB (e:= .u8) (z':=43) (Qa rfl) rfl a7 rfl (Evl.ev (Qw 43 rfl)) rfl Zd rfl rfl)<|Qb ?_
 refine w4 ?_
 refine Qb ?_
 refine l0_ ?_
 exact wp [] ⟨rfl,rfl,(Qe (by first | exact Qil f ‹_› | exact Qhr f ‹_› | exact Qbh f (QxH ‹_› ‹_›))),trivial⟩
 have a1:=ab a0
 refine w12 ?_
 obtain ⟨d8,a8⟩:=gx (sgF c.2.1.length (Qj c p r) k) k
 refine lc (QB (e:= .u8) (z':=48) (Qa rfl) rfl a8 rfl (Evl.ev (Qw 48 rfl)) rfl Zd rfl rfl) ?_
 refine w4 ?_
 refine lc (dB_ (Z7 (Qj c p r) (k:Int)) YX) ?_
 refine w_ ?_
 cases J:(decide ((k:Int)∈(Qj c p r)))
 have X:=aa J
 refine w6 ?_
 refine Qb ?_
 refine l0_ ?_
 exact wp [] ⟨rfl,rfl,(Qe (by first | exact Qoe (by omega) ‹_› | exact QrO (by omega) ‹_›)),trivial⟩
 have X:=ab J
 refine w5 ?_
 refine lc (QB (e:= .u8) (z':=49) (Qa rfl) rfl (aZ (by first | omega | (simp only[az]; omega))) rfl (Evl.ev (Qw 49 rfl)) rfl Zd rfl rfl) ?_
 refine Qb ?_
 refine w4 ?_
 refine Qb ?_
 refine l0_ ?_
 exact wp [] ⟨rfl,rfl,(Qe (by first | exact Qoe (by omega) ‹_› | exact QrO (by omega) ‹_›)),trivial⟩
theorem JJ (c:ZB)(p:KO)(r:KO)(f:SgOk c):FC Tryz.prog 418 [(true,[.dat Ql c.1, .dat Qm c.2.1, .dat Qu c.2.2]),(true,[dI p.1,dB p.2]),(true,[dI r.1,dB r.2])] [] 0 (Q7 (PV.tup [(false,[dS (Yu c p r)]),(false,[dB (okB c p r)])])):=by
 have m:∀a∈c.2.2,InR c.2.1.length a:=fun a A=>XE (f.arcs a A)
 have E:(List.replicate c.2.1.length (Ty.zero .u8)).length=c.2.1.length:=aF ..
 have D:=f.some_
 have C:=f.few
 have B:=Qez (p:=p) (r:=r) m
 refine Qt Tryz.func418 rfl rfl Tryz.ntmps418 fun G l F o H z y=> ?_
 refine acG 1 0 fun _=> ?_
 refine acG 2 0 fun _=> ?_
 refine w_ ?_
 refine xbx 0 ?_
 refine xbx 1 ?_
 refine xbx 2 ?_
 refine w7 ?_
 refine lc (dO 3 (Qco c p r m (by omega)) QmQ) ?_
 refine w5 ?_
 refine lc (dB_ (Qas c (Qj c p r) f) QkR) ?_
 refine w8 ?_
 refine alL 20 fun _=> ?_
 refine w2 ?_
 refine lc (dK (Zh ((Qj c p r).length:Int) 1 ((c.2.1.length:Int) - 1)) Yh) ?_
 refine w2 ?_
 cases b:(decide (1≤((Qj c p r).length:Int)∧((Qj c p r).length:Int)≤((c.2.1.length:Int) - 1)))
 have d:=aa b
 refine w12 ?_
 have q:((⟨#[]⟩:ByteArray):ByteArray)=(Yu c p r):=by
  exact QiT (QvC ‹_›)
 have t:(false:Bool)=(okB c p r):=by
  exact (QvC ‹_›).symm
 exact fr_ l (e:=by rw[q,← t] <;> rfl)
 have d:=ab b
 refine w2 ?_
 refine lgy rfl rfl (dK (VC c (YC c (Qj c p r)) (Qch (block:=Qj c p r) f)) QeQ) ?_
 refine w3 ?_
 refine cx_ (fun _=> ?_) fun _=> ?_
 refine w5 ?_
 have v:((⟨#[]⟩:ByteArray):ByteArray)=(Yu c p r):=by
  exact QiT (Qss ‹_›)
 have w:(false:Bool)=(okB c p r):=by
  exact (Qss ‹_›).symm
 exact fr_ l (e:=by rw[v,← w] <;> rfl)
 refine w7 ?_
 have g:(YC c (Qj c p r):ByteArray)=(Yu c p r):=by
  exact Qgr (Qvz ‹_› ‹_›)
 have h:(true:Bool)=(okB c p r):=by
  exact (Qvz ‹_› ‹_›).symm
 exact fr_ l (e:=by rw[g,← h] <;> rfl)
end Go.Proofs.YtgpdhgadmjfokaaGreat
