/- Walks over abstract states: the partition for two labels, both sides. -/
import Derived.Test.YtjaadeknhofhpaaGreatUc
set_option linter.unusedSimpArgs false
set_option linter.unusedVariables false
set_option linter.unusedSectionVars false
namespace Go.Proofs.YtjaadeknhofhpaaGreat
open Go.RowKit
set_option maxRecDepth 100000
set_option maxHeartbeats 4000000
def sgF (n:Nat)(block:List Int)(k:Nat):List UInt8:=sg0 k block++List.replicate (n - k) 0
def okB (c:DSg)(p r:Int×Bool):Bool:=Xv c (Ym c (Qj c p r))&&(decide (0 < ((Qj c p r).length:Int))&&decide (((Qj c p r).length:Int) < (c.2.1.length:Int)))
def Yj (c:DSg)(p r:Int×Bool):ByteArray:=if okB c p r=true then Ym c (Qj c p r) else ⟨#[]⟩
section
variable {c:DSg}{as_:List DAr}{a:DAr}{block:List Int}{k i j n:Nat}{s:List UInt8}{u:UInt8}{p r:Int×Bool}{x:QJ}
theorem Qru (h:k≤n):(sgF n block k).length=n:=by unfold sgF; rw[aa,Kc,ay]; omega
theorem Qm0 (h:k < n)(z:UInt8):(sgF n block k).set k z=(sg0 k block++[z])++List.replicate (n - (k+1)) 0:=by
  unfold sgF
  rw[List.set_append_right _ _ (by rw[Kc]; omega),Kc,Nat.sub_self,show n - k=(n - (k+1))+1 by omega,List.replicate_succ,List.set_cons_zero,aM]
  rfl
theorem Qqq (h:k < n)(hb:¬(k:Int)∈block):(sgF n block k).set k 48=sgF n block (k+1):=by
  rw[Qm0 h,Qjl hb rfl]; rfl
theorem Ql7 (h:k < n)(hb:(k:Int)∈block):((sgF n block k).set k 48).set k 49=sgF n block (k+1):=by
  rw[cR,Qm0 h,Qht hb rfl]; rfl
theorem Qrq:sgF n block n=sg0 n block:=by unfold sgF; rw[Nat.sub_self]; simp
theorem Qo0:List.replicate n (0:UInt8)=sgF n block 0:=by simp[sgF,sg0]
theorem Quf {A B:Prop}[Decidable A][Decidable B](h:(if A then 1 else if B then 2 else (0:Int))=1):A:=by
  split at h
  · assumption
  · split at h <;> exact absurd h (by decide)
theorem Qum {A B:Prop}[Decidable A][Decidable B](h:(if A then 1 else if B then 2 else (0:Int))=2):B:=by
  split at h
  · exact absurd h (by decide)
  · split at h
    · assumption
    · exact absurd h (by decide)
theorem Qn9 {A B:Prop}[Decidable A][Decidable B](h:(if¬A∧B then 1 else if A∧¬B then 2 else (0:Int))=0):A↔B:=by
  by_cases h1:A <;> by_cases h2:B <;> simp[h1,h2] at h ⊢
theorem Qtt {A B:Prop}[Decidable A][Decidable B](h1:¬(if¬A∧B then 1 else if A∧¬B then 2 else (0:Int))=1)(h2:¬(if¬A∧B then 1 else if A∧¬B then 2 else (0:Int))=2):A↔B:=by
  by_cases h3:A <;> by_cases h4:B <;> simp[h3,h4] at h1 h2 ⊢
theorem Qnr {A B:Prop}[Decidable A][Decidable B](h:¬(if¬A∧B then 1 else if A∧¬B then 2 else (0:Int))=0):¬(A↔B):=fun g=>by
  by_cases h3:A <;> by_cases h4:B <;> simp[h3,h4] at h g
theorem Qfr (h:decide (u=43)=false)(h2:decide (u=45)=false):¬(u=43∨u=45):=fun g=>g.elim (a6 h) (a6 h2)
theorem Qho (hx:as_[k]? =some a)(h:(if¬a.1∈block∧a.2.2.2∈block then 1 else if a.1∈block∧¬a.2.2.2∈block then 2 else (0:Int))=1):((as_.take k).foldl (Z8 block) s).set a.2.2.2.toNat 43=(as_.take (k+1)).foldl (Z8 block) s:=QmJ hx (Quf h).1 (Quf h).2
theorem Qhx (hx:as_[k]? =some a)(h:(if¬a.1∈block∧a.2.2.2∈block then 1 else if a.1∈block∧¬a.2.2.2∈block then 2 else (0:Int))=2):((as_.take k).foldl (Z8 block) s).set a.2.2.2.toNat 45=(as_.take (k+1)).foldl (Z8 block) s:=QhY hx (Qum h).1 (Qum h).2
theorem QtB (h:a.2.1 < 0):true=inA c a:=by unfold inA; rw[aI h]; rfl
theorem QsP (h:¬a.2.1 < 0)(hx:c.1[a.2.1.toNat]? =some x):decide (x.2=1)=inA c a:=by unfold inA; rw[az h,hx]; rfl
theorem QbI (hx:as_[i]? =some a)(h1:((as_.take i).foldl (ZT c block) s)[a.1.toNat]? =some u)(hm:u=43∨u=45)(hi:inA c a=true)(hb:a.1∈block↔a.2.2.2∈block):((as_.take i).foldl (ZT c block) s).set a.2.2.2.toNat u=(as_.take (i+1)).foldl (ZT c block) s:=by
  rw[QO hx,b9,aS,bX,ZT,WY h1,if_pos ⟨hm,hi,hb⟩]
theorem WJ (hx:as_[i]? =some a)(h:ZT c block ((as_.take i).foldl (ZT c block) s) a=(as_.take i).foldl (ZT c block) s):(as_.take i).foldl (ZT c block) s=(as_.take (i+1)).foldl (ZT c block) s:=by
  rw[QO hx,b9,aS,bX,h]
theorem Qtq (hr:∀a∈c.2.2,InR c.2.1.length a)(j i:Nat):((c.2.2.take i).foldl (ZT c block) (Q1 (ZQ c block) j (Z9 c block))).length=c.2.1.length:=
  (Ui (fun a ha=>hr a (List.mem_of_mem_take ha)) (Qe1 _ (fun _ h=>QgQ hr h) (Qba hr) j)).1.len
theorem Qsz (h:¬(1≤((Qj c p r).length:Int)∧((Qj c p r).length:Int)≤(c.2.1.length:Int) - 1)):okB c p r=false:=by
  cases ho:okB c p r with
  | false=>rfl
  | true=>
    unfold okB at ho
    simp only[aG,aN] at ho
    exact absurd ⟨by omega,by omega⟩ h
theorem Qqg (h:Xv c (Ym c (Qj c p r))=false):okB c p r=false:=by unfold okB; rw[h]; rfl
theorem Qsy (h:1≤((Qj c p r).length:Int)∧((Qj c p r).length:Int)≤(c.2.1.length:Int) - 1)(h2:Xv c (Ym c (Qj c p r))=true):okB c p r=true:=by
  unfold okB
  rw[h2,aI (by omega),aI (by omega)]; rfl
theorem QiU (h:okB c p r=false):(⟨#[]⟩:ByteArray)=Yj c p r:=by unfold Yj; rw[h]; rfl
theorem Qf1 (h:okB c p r=true):Ym c (Qj c p r)=Yj c p r:=by unfold Yj; rw[h]; rfl
theorem Qs1 (h:Xv c (Ym c (Qj c p r))=true)(h2:0 < ((Qj c p r).length:Int)):decide (((Qj c p r).length:Int) < (c.2.1.length:Int))=okB c p r:=by unfold okB; rw[h,aI h2]; rfl
theorem Qti (hr:∀a∈c.2.2,InR c.2.1.length a)(h:Xv c (Ym c (Qj c p r))=true)(h2:0 < ((Qj c p r).length:Int)):decide (((Qj c p r).length:Int) < ((Q1 (ZQ c (Qj c p r)) c.2.1.length (Z9 c (Qj c p r))).length:Int))=okB c p r:=by
  have:(Q1 (ZQ c (Qj c p r)) c.2.1.length (Z9 c (Qj c p r))).length=c.2.1.length:=(Qmu (block:=Qj c p r) hr).len
  rw[this]; exact Qs1 h h2
theorem Qs7 (h2:¬0 < ((Qj c p r).length:Int)):false=okB c p r:=by unfold okB; rw[az h2]; simp
end
theorem QdA {c:DSg}{p r:Int×Bool}(hr:∀a∈c.2.2,InR c.2.1.length a):(Qj c p r).length≤c.2.1.length:=by
  have:=KB (Kh c p r).str (lo:=0) (hi:=c.2.1.length) (fun x hx=>QhB (fun a ha=>(hr a ha).2) ((Kh c p r).cl x hx)) (by omega)
  omega
theorem Hm (c:(List (ByteArray×Int))×List ByteArray×(List (Int×Int×Bool×Int)))(p:Int×Bool)(r:Int×Bool)(hs:SgOk c):FC Tryz.prog 201 [(true,[.dat Qo c.1, .dat Qr c.2.1, .dat QD c.2.2]),(true,[dI p.1,dB p.2]),(true,[dI r.1,dB r.2])] [] 0 (Zk (PV.tup [(false,[dS (Ym c (Qj c p r))]),(false,[dB (okB c p r)])])):=by
 have hr:∀a∈c.2.2,InR c.2.1.length a:=fun a ha=>Xi (hs.arcs a ha)
 have hrl:(List.replicate c.2.1.length (Ty.zero .u8)).length=c.2.1.length:=ay ..
 have hn3:=hs.some_
 have hfw:=hs.few
 have hbs:=QdA (p:=p) (r:=r) hr
 refine Qy Tryz.func201 rfl rfl Tryz.ntmps201 fun O_ hO w0_ N0_ X_ h0_ f0_=> ?_
 refine AC.fact (QH (x:= .tmp 1) (i:=0) (Qf rfl) rfl) fun hi1=>AC.fact (QH (x:= .tmp 2) (i:=0) (Qf rfl) rfl) fun hi2=> ?_
 refine w_ ?_
 refine xbx 0 ?_
 refine xbx 1 ?_
 refine xbx 2 ?_
 iterate 7 refine w_ ?_
 refine lc (dO 3 (Qb3 c p r hr (by omega)) Qjk) ?_
 iterate 5 refine w_ ?_
 refine AL.fact (Qp (x:= .tmp 21) (Qa rfl)) fun hl3=> ?_
 refine w_ ?_
 refine lc (Wd 4 (e:= .u8) (n:=c.2.1.length) (Qa rfl) (Qa rfl) ZF QsA rfl (by omega) (by omega) rfl (Fresh.of rfl) (nlr rfl)) ?_
 iterate 9 refine w_ ?_
 refine Qm (fun m_ s_=>∃(k:Nat),k≤c.2.1.length∧m_=c.2.1.length - k∧s_=⟨[(3,lP 0 0),(6,lf (dS (⟨#[]⟩:ByteArray))),(7,lB false),(8,lR 3),(9,lR 5),(25,lI ((List.replicate c.2.1.length (Ty.zero .u8)).length:Int)),(26,lI (k:Int))],[(0,some (.box 52 [.dat Qo c.1, .dat Qr c.2.1, .dat QD c.2.2])),(3,some (.arr 3 .int (Qj c p r))),(5,some (.arr 5 .u8 (sgF c.2.1.length (Qj c p r) k)))]⟩) ⟨0,ap _,rfl,rfl⟩ ?_ ?_
 exact wp [(5,4)] ⟨rfl,rfl,(Qh (Qo0)),trivial⟩
 rintro m_ s_ ⟨k,hk4,hm5,rfl⟩
 have hsk:=Qru (n:=c.2.1.length) (block:=(Qj c p r)) (k:=k) (by omega)
 iterate 4 refine w_ ?_
 cases hb6:(decide ((k:Int) < ((List.replicate c.2.1.length (Ty.zero .u8)).length:Int)))
 have hb6':=a6 hb6
 iterate 4 refine w_ ?_
 refine Yd ?_
 obtain rfl:k=c.2.1.length:=by omega
 rw[Qrq]
 iterate 3 refine w_ ?_
 refine AL.fact (Qp (x:= .tmp 40) (Qa rfl)) fun hl7=> ?_
 iterate 4 refine w_ ?_
 refine Qm (fun m_ s_=>∃(k:Nat),k≤c.2.2.length∧m_=c.2.2.length - k∧s_=⟨[(3,lP 0 0),(6,lf (dS (⟨#[]⟩:ByteArray))),(7,lB false),(8,lR 3),(9,lR 6),(40,lf (.dat QD c.2.2)),(41,lI (c.2.2.length:Int)),(42,lI (k:Int))],[(0,some (.box 52 [.dat Qo c.1, .dat Qr c.2.1, .dat QD c.2.2])),(3,some (.arr 3 .int (Qj c p r))),(6,some (.arr 5 .u8 ((c.2.2.take k).foldl (Z8 (Qj c p r)) (sg0 c.2.1.length (Qj c p r)))))]⟩) ⟨0,ap _,rfl,rfl⟩ ?_ ?_
 exact wp [(6,5)] ⟨rfl,rfl,(Qh (by simp only[cD,bX])),trivial⟩
 rintro m_ s_ ⟨k,hk8,hm9,rfl⟩
 have hmk:=Qi5 (block:=(Qj c p r)) (k:=k) hr
 iterate 4 refine w_ ?_
 cases hb10:(decide ((k:Int) < (c.2.2.length:Int)))
 have hb10':=a6 hb10
 iterate 7 refine w_ ?_
 refine AL.fact (Qp (x:= .tmp 63) (Qa rfl)) fun hl11=> ?_
 iterate 4 refine w_ ?_
 refine Qm (fun m_ s_=>∃(j:Nat),j≤c.2.1.length∧m_=c.2.1.length - j∧s_=⟨[(3,lP 0 0),(6,lf (dS (⟨#[]⟩:ByteArray))),(7,lB false),(8,lR 3),(9,lR 7),(64,lI (c.2.1.length:Int)),(65,lI (j:Int))],[(0,some (.box 52 [.dat Qo c.1, .dat Qr c.2.1, .dat QD c.2.2])),(3,some (.arr 3 .int (Qj c p r))),(7,some (.arr 5 .u8 (Q1 (ZQ c (Qj c p r)) j (Z9 c (Qj c p r)))))]⟩) ⟨0,ap _,rfl,rfl⟩ ?_ ?_
 exact wp [(7,6)] ⟨rfl,rfl,(Qh (by rw[QN (by omega)]; rfl)),trivial⟩
 rintro m_ s_ ⟨j,hk12,hm13,rfl⟩
 iterate 4 refine w_ ?_
 cases hb14:(decide ((j:Int) < (c.2.1.length:Int)))
 have hb14':=a6 hb14
 iterate 3 refine w_ ?_
 obtain rfl:j=c.2.1.length:=by omega
 cases hb15:(Xv c (⟨(Q1 (ZQ c (Qj c p r)) c.2.1.length (Z9 c (Qj c p r))).toArray⟩:ByteArray))
 apply dW [io 121 _,io 122 (lf (dS (⟨(Q1 (ZQ c (Qj c p r)) c.2.1.length (Z9 c (Qj c p r))).toArray⟩:ByteArray))),io 123 _,io 124 _,io 125 (lf (dS (⟨(Q1 (ZQ c (Qj c p r)) c.2.1.length (Z9 c (Qj c p r))).toArray⟩:ByteArray))),io 126 (lB false),io 127 _,io 128 _,io 129 _,io 130 _,io 131 _,io 132 _,io 133 _,io 134 _,io 135 _,io 136 _,io 137 _,io 138 _,io 6 _,io 7 _] [0,0,3,7,7,3,3,3,3,3,3,3,3,3,12291,12291,3,3,258048,0]
 refine z_ ?_
 refine zz (fun _ h_=>ac (Zt (ys:=Q1 (ZQ c (Qj c p r)) c.2.1.length (Z9 c (Qj c p r))) (YS (h_.v rfl) (h_.n 7 rfl)) ZF Ve Zo rfl) rfl) ?_
 iterate 2 refine z_ ?_
 refine zz (fun _ h_=>ac (Zt (ys:=Q1 (ZQ c (Qj c p r)) c.2.1.length (Z9 c (Qj c p r))) (YS (h_.v rfl) (h_.n 7 rfl)) ZF Ve Zo rfl) rfl) ?_
 refine zz (fun _ h_=>ac (QL (hb15) (dK (XV c (⟨(Q1 (ZQ c (Qj c p r)) c.2.1.length (Z9 c (Qj c p r))).toArray⟩:ByteArray) (QbD (block:=Qj c p r) hs)) KC)) rfl) ?_
 iterate 14 refine z_ ?_
 exact zN
 refine w_ ?_
 subst hO
 have e16:((⟨(Q1 (ZQ c (Qj c p r)) c.2.1.length (Z9 c (Qj c p r))).toArray⟩:ByteArray):ByteArray)=(Ym c (Qj c p r)):=by
  rfl
 have e17:(false:Bool)=(okB c p r):=by
  exact (Qqg ‹_›).symm
 exact Qe (QM rfl (Qb rfl) (Qb rfl)) (by rw[e16,← e17] <;> rfl) rfl
 cases hb18:(decide (0 < ((Qj c p r).length:Int)))
 have hb18':=a6 hb18
 apply dW [io 121 _,io 122 (lf (dS (⟨(Q1 (ZQ c (Qj c p r)) c.2.1.length (Z9 c (Qj c p r))).toArray⟩:ByteArray))),io 123 _,io 124 _,io 125 (lf (dS (⟨(Q1 (ZQ c (Qj c p r)) c.2.1.length (Z9 c (Qj c p r))).toArray⟩:ByteArray))),io 126 (lB true),io 127 _,io 128 _,io 129 _,io 130 (lB false),io 131 _,io 132 _,io 133 _,io 134 _,io 135 _,io 136 _,io 137 _,io 138 _,io 6 _,io 7 _] [0,0,3,7,7,3,3,3,3,3,3,3,3,3,12291,12291,3,3,258048,0]
 refine z_ ?_
 refine zz (fun _ h_=>ac (Zt (ys:=Q1 (ZQ c (Qj c p r)) c.2.1.length (Z9 c (Qj c p r))) (YS (h_.v rfl) (h_.n 7 rfl)) ZF Ve Zo rfl) rfl) ?_
 iterate 2 refine z_ ?_
 refine zz (fun _ h_=>ac (Zt (ys:=Q1 (ZQ c (Qj c p r)) c.2.1.length (Z9 c (Qj c p r))) (YS (h_.v rfl) (h_.n 7 rfl)) ZF Ve Zo rfl) rfl) ?_
 refine zz (fun _ h_=>ac (QL (hb15) (dK (XV c (⟨(Q1 (ZQ c (Qj c p r)) c.2.1.length (Z9 c (Qj c p r))).toArray⟩:ByteArray) (QbD (block:=Qj c p r) hs)) KC)) rfl) ?_
 iterate 3 refine z_ ?_
 refine zz (fun _ h_=>day rfl (h_.k rfl) (QL (hb18) (QaE (h_.v rfl) (Qu rfl) rfl)) rfl) ?_
 iterate 10 refine z_ ?_
 exact zN
 refine w_ ?_
 subst hO
 have e19:((⟨(Q1 (ZQ c (Qj c p r)) c.2.1.length (Z9 c (Qj c p r))).toArray⟩:ByteArray):ByteArray)=(Ym c (Qj c p r)):=by
  rfl
 have e20:(false:Bool)=(okB c p r):=by
  exact Qs7 ‹_›
 exact Qe (QM rfl (Qb rfl) (Qb rfl)) (by rw[e19,← e20] <;> rfl) rfl
 have hb18':=a7 hb18
 apply dW [io 121 _,io 122 (lf (dS (⟨(Q1 (ZQ c (Qj c p r)) c.2.1.length (Z9 c (Qj c p r))).toArray⟩:ByteArray))),io 123 _,io 124 _,io 125 (lf (dS (⟨(Q1 (ZQ c (Qj c p r)) c.2.1.length (Z9 c (Qj c p r))).toArray⟩:ByteArray))),io 126 (lB true),io 127 _,io 128 _,io 129 _,io 130 (lB true),io 131 _,io 132 _,io 133 _,io 134 _,io 135 _,io 136 _,io 137 _,io 138 _,io 6 _,io 7 _] [0,0,3,7,7,3,3,3,3,3,3,3,3,3,12291,12291,3,3,258048,0]
 refine z_ ?_
 refine zz (fun _ h_=>ac (Zt (ys:=Q1 (ZQ c (Qj c p r)) c.2.1.length (Z9 c (Qj c p r))) (YS (h_.v rfl) (h_.n 7 rfl)) ZF Ve Zo rfl) rfl) ?_
 iterate 2 refine z_ ?_
 refine zz (fun _ h_=>ac (Zt (ys:=Q1 (ZQ c (Qj c p r)) c.2.1.length (Z9 c (Qj c p r))) (YS (h_.v rfl) (h_.n 7 rfl)) ZF Ve Zo rfl) rfl) ?_
 refine zz (fun _ h_=>ac (QL (hb15) (dK (XV c (⟨(Q1 (ZQ c (Qj c p r)) c.2.1.length (Z9 c (Qj c p r))).toArray⟩:ByteArray) (QbD (block:=Qj c p r) hs)) KC)) rfl) ?_
 iterate 3 refine z_ ?_
 refine zz (fun _ h_=>day rfl (h_.k rfl) (QL (hb18) (QaE (h_.v rfl) (Qu rfl) rfl)) rfl) ?_
 iterate 10 refine z_ ?_
 exact zN
 refine w_ ?_
 subst hO
 have e21:((⟨(Q1 (ZQ c (Qj c p r)) c.2.1.length (Z9 c (Qj c p r))).toArray⟩:ByteArray):ByteArray)=(Ym c (Qj c p r)):=by
  rfl
 have e22:(decide (((Qj c p r).length:Int) < ((Q1 (ZQ c (Qj c p r)) c.2.1.length (Z9 c (Qj c p r))).length:Int)):Bool)=(okB c p r):=by
  exact Qti hr ‹_› ‹_›
 exact Qe (QM rfl (Qb rfl) (Qb rfl)) (by rw[e21,e22] <;> rfl) rfl
 have hb14':=a7 hb14
 iterate 7 refine w_ ?_
 refine AL.fact (Qp (x:= .tmp 68) (Qa rfl)) fun hl23=> ?_
 iterate 4 refine w_ ?_
 refine Qm (fun m_ s_=>∃(i:Nat),i≤c.2.2.length∧m_=c.2.2.length - i∧s_=⟨[(3,lP 0 0),(6,lf (dS (⟨#[]⟩:ByteArray))),(7,lB false),(8,lR 3),(9,lR 8),(64,lI (c.2.1.length:Int)),(65,lI (j:Int)),(66,lB true),(67,lP 0 2),(68,lf (.dat QD c.2.2)),(69,lI (c.2.2.length:Int)),(70,lI (i:Int))],[(0,some (.box 52 [.dat Qo c.1, .dat Qr c.2.1, .dat QD c.2.2])),(3,some (.arr 3 .int (Qj c p r))),(8,some (.arr 5 .u8 ((c.2.2.take i).foldl (ZT c (Qj c p r)) (Q1 (ZQ c (Qj c p r)) j (Z9 c (Qj c p r))))))]⟩) ⟨0,ap _,rfl,rfl⟩ ?_ ?_
 exact wp [(8,7)] ⟨rfl,rfl,(Qh (by simp only[cD,bX])),trivial⟩
 rintro m_ s_ ⟨i,hk24,hm25,rfl⟩
 have hmv:=Qtq (block:=(Qj c p r)) hr j i
 iterate 4 refine w_ ?_
 cases hb26:(decide ((i:Int) < (c.2.2.length:Int)))
 have hb26':=a6 hb26
 iterate 6 refine w_ ?_
 refine Qc<|QE ⟨j+1,by omega,rfl,rfl⟩ (by omega) ?_
 exact wp [(7,8)] ⟨rfl,rfl,(Qh (by rw[QN (by omega)]; rfl)),trivial⟩
 have hb26':=a7 hb26
 iterate 5 refine w_ ?_
 obtain ⟨ar,hx28⟩:=gx c.2.2 i
 have hain:=hr _ (a8 hx28)
 obtain ⟨⟨ha1,ha2⟩,ha3,ha4⟩:=hain
 have hlab:=(hs.arcs _ (a8 hx28)).2.2.1
 have hslt:ar.2.1 < (c.1.length:Int):=Ud hlab
 iterate 2 refine w_ ?_
 refine lc (xal 9 QA Za) ?_
 iterate 2 refine w_ ?_
 refine VW (fun s_=>∃(bi:Bool),(bi=inA c ar)∧s_=⟨[(3,lP 0 0),(6,lf (dS (⟨#[]⟩:ByteArray))),(7,lB false),(8,lR 3),(9,lR 8),(14,lP 9 0),(15,lB bi),(64,lI (c.2.1.length:Int)),(65,lI (j:Int)),(66,lB true),(67,lP 0 2),(68,lf (.dat QD c.2.2)),(69,lI (c.2.2.length:Int)),(70,lI (i:Int)),(71,lB true),(72,lf (.elt QA ar 0)),(73,ag [dI ar.1,dI ar.2.1,dB ar.2.2.1,dI ar.2.2.2])],[(0,some (.box 52 [.dat Qo c.1, .dat Qr c.2.1, .dat QD c.2.2])),(3,some (.arr 3 .int (Qj c p r))),(8,some (.arr 5 .u8 ((c.2.2.take i).foldl (ZT c (Qj c p r)) (Q1 (ZQ c (Qj c p r)) j (Z9 c (Qj c p r)))))),(9,some (.box 106 [dI ar.1,dI ar.2.1,dB ar.2.2.1,dI ar.2.2.2]))]⟩) ?_ fun J29=> ?_
 rintro s_ ⟨bi,hbi,rfl⟩
 iterate 3 refine w_ ?_
 cases hb30:(bi)
 iterate 7 refine w_ ?_
 refine Qg rfl rfl rfl ?_ rfl
 refine Qg rfl rfl rfl ?_ rfl
 refine Qg rfl rfl rfl ?_ rfl
 refine Qg rfl rfl rfl ?_ rfl
 refine Qg rfl rfl rfl ?_ rfl
 refine Qg rfl rfl rfl ?_ rfl
 iterate 15 refine w_ ?_
 refine Qc<|QE ⟨i+1,by omega,rfl,rfl⟩ (by omega) ?_
 exact wp [] ⟨rfl,rfl,(Qh (by first | exact QbI hx28 huu (by first | exact .inl ‹_› | exact .inr ‹_›) (hbi.symm.trans ‹_›) (Qn9 ‹_›) | exact WJ hx28 (VL (fun h=>absurd ((hbi.symm.trans (by assumption:bi=false)).symm.trans h) (by decide))) | exact WJ hx28 (UH huu (Qfr ‹_› ‹_›)) | exact WJ hx28 (W7 (Qnr ‹_›)))),trivial⟩
 iterate 4 refine w_ ?_
 obtain ⟨u,hx32⟩:=gx ((c.2.2.take i).foldl (ZT c (Qj c p r)) (Q1 (ZQ c (Qj c p r)) j (Z9 c (Qj c p r)))) ((ar.1).toNat)
 have huu:=hx32
 refine w_ ?_
 refine lgy rfl rfl (Qt (Qa rfl) (QB 43 rfl) rfl) ?_
 refine w_ ?_
 cases hb33:(decide (u=43))
 have hb33':=a6 hb33
 iterate 5 refine w_ ?_
 refine lgy rfl rfl (Qt (Qa rfl) (QB 45 rfl) rfl) ?_
 iterate 3 refine w_ ?_
 cases hb34:(decide (u=45))
 have hb34':=a6 hb34
 iterate 12 refine w_ ?_
 refine Qc<|QE ⟨i+1,by omega,rfl,rfl⟩ (by omega) ?_
 exact wp [] ⟨rfl,rfl,(Qh (by first | exact QbI hx28 huu (by first | exact .inl ‹_› | exact .inr ‹_›) (hbi.symm.trans ‹_›) (Qn9 ‹_›) | exact WJ hx28 (VL (fun h=>absurd ((hbi.symm.trans (by assumption:bi=false)).symm.trans h) (by decide))) | exact WJ hx28 (UH huu (Qfr ‹_› ‹_›)) | exact WJ hx28 (W7 (Qnr ‹_›)))),trivial⟩
 have hb34':=a7 hb34
 iterate 2 refine w_ ?_
 refine lgy rfl rfl (dB_ (WP ar (Qj c p r)) H2) ?_
 iterate 3 refine w_ ?_
 cases hb35:(decide ((if¬ar.1∈(Qj c p r)∧ar.2.2.2∈(Qj c p r) then 1 else if ar.1∈(Qj c p r)∧¬ar.2.2.2∈(Qj c p r) then 2 else (0:Int))=0))
 have hb35':=a6 hb35
 iterate 6 refine w_ ?_
 refine Qc<|QE ⟨i+1,by omega,rfl,rfl⟩ (by omega) ?_
 exact wp [] ⟨rfl,rfl,(Qh (by first | exact QbI hx28 huu (by first | exact .inl ‹_› | exact .inr ‹_›) (hbi.symm.trans ‹_›) (Qn9 ‹_›) | exact WJ hx28 (VL (fun h=>absurd ((hbi.symm.trans (by assumption:bi=false)).symm.trans h) (by decide))) | exact WJ hx28 (UH huu (Qfr ‹_› ‹_›)) | exact WJ hx28 (W7 (Qnr ‹_›)))),trivial⟩
 have hb35':=a7 hb35
 refine w_ ?_
 obtain ⟨x36,hx37⟩:=gx ((c.2.2.take i).foldl (ZT c (Qj c p r)) (Q1 (ZQ c (Qj c p r)) j (Z9 c (Qj c p r)))) ((ar.2.2.2).toNat)
 have hux36:=hx37
 apply dV [io 110 _,io 111 _,io 112 _,io 113 _,io 114 _,io 115 _,io 116 (lf (.ept 8 1 ((ar.1).toNat) 0)),io 117 (lf (.dat .u8 u)),io 118 (lf (.ept 8 1 ((ar.2.2.2).toNat) 0)),⟨none,lf (.val undef),[(8,some (.arr 5 .u8 (((c.2.2.take i).foldl (ZT c (Qj c p r)) (Q1 (ZQ c (Qj c p r)) j (Z9 c (Qj c p r)))).set ((ar.2.2.2).toNat) u)))]⟩] [0,1,1,7,15,15,7,7,0,0]
 iterate 6 refine z_ ?_
 refine zz (fun _ h_=>ac (QS (e:= .u8) (h_.v rfl) (h_.en 8 rfl) (h_.v rfl) ZF Zi rfl (by omega) (by first | omega | (simp only[au]; omega))) rfl)<|zz (fun _ h_=>ac (Zp (e:= .u8) (h_.v rfl) (h_.n 8 rfl) hx32 rfl Zi rfl rfl) rfl)<|zz (fun _ h_=>ac (QS (e:= .u8) (h_.v rfl) (h_.en 8 rfl) (h_.v rfl) ZF Zi rfl (by omega) (by first | omega | (simp only[au]; omega))) rfl)<|zz (fun _ h_=>ac (QG (e:= .u8) (z':=u) (h_.v rfl) (h_.n 8 rfl) hx37 rfl (h_.w rfl) rfl Zi rfl rfl) rfl) ?_
 exact zN
 iterate 4 refine w_ ?_
 refine Qc<|QE ⟨i+1,by omega,rfl,rfl⟩ (by omega) ?_
 exact wp [] ⟨rfl,rfl,(Qh (by first | exact QbI hx28 huu (by first | exact .inl ‹_› | exact .inr ‹_›) (hbi.symm.trans ‹_›) (Qn9 ‹_›) | exact WJ hx28 (VL (fun h=>absurd ((hbi.symm.trans (by assumption:bi=false)).symm.trans h) (by decide))) | exact WJ hx28 (UH huu (Qfr ‹_› ‹_›)) | exact WJ hx28 (W7 (Qnr ‹_›)))),trivial⟩
 have hb33':=a7 hb33
 iterate 11 refine w_ ?_
 refine lgy rfl rfl (dB_ (WP ar (Qj c p r)) H2) ?_
 iterate 3 refine w_ ?_
 cases hb38:(decide ((if¬ar.1∈(Qj c p r)∧ar.2.2.2∈(Qj c p r) then 1 else if ar.1∈(Qj c p r)∧¬ar.2.2.2∈(Qj c p r) then 2 else (0:Int))=0))
 have hb38':=a6 hb38
 iterate 6 refine w_ ?_
 refine Qc<|QE ⟨i+1,by omega,rfl,rfl⟩ (by omega) ?_
 exact wp [] ⟨rfl,rfl,(Qh (by first | exact QbI hx28 huu (by first | exact .inl ‹_› | exact .inr ‹_›) (hbi.symm.trans ‹_›) (Qn9 ‹_›) | exact WJ hx28 (VL (fun h=>absurd ((hbi.symm.trans (by assumption:bi=false)).symm.trans h) (by decide))) | exact WJ hx28 (UH huu (Qfr ‹_› ‹_›)) | exact WJ hx28 (W7 (Qnr ‹_›)))),trivial⟩
 have hb38':=a7 hb38
 refine w_ ?_
 obtain ⟨x39,hx40⟩:=gx ((c.2.2.take i).foldl (ZT c (Qj c p r)) (Q1 (ZQ c (Qj c p r)) j (Z9 c (Qj c p r)))) ((ar.2.2.2).toNat)
 have hux39:=hx40
 apply dV [io 110 _,io 111 _,io 112 _,io 113 _,io 114 _,io 115 _,io 116 (lf (.ept 8 1 ((ar.1).toNat) 0)),io 117 (lf (.dat .u8 u)),io 118 (lf (.ept 8 1 ((ar.2.2.2).toNat) 0)),⟨none,lf (.val undef),[(8,some (.arr 5 .u8 (((c.2.2.take i).foldl (ZT c (Qj c p r)) (Q1 (ZQ c (Qj c p r)) j (Z9 c (Qj c p r)))).set ((ar.2.2.2).toNat) u)))]⟩] [0,1,1,7,15,15,7,7,0,0]
 iterate 6 refine z_ ?_
 refine zz (fun _ h_=>ac (QS (e:= .u8) (h_.v rfl) (h_.en 8 rfl) (h_.v rfl) ZF Zi rfl (by omega) (by first | omega | (simp only[au]; omega))) rfl)<|zz (fun _ h_=>ac (Zp (e:= .u8) (h_.v rfl) (h_.n 8 rfl) hx32 rfl Zi rfl rfl) rfl)<|zz (fun _ h_=>ac (QS (e:= .u8) (h_.v rfl) (h_.en 8 rfl) (h_.v rfl) ZF Zi rfl (by omega) (by first | omega | (simp only[au]; omega))) rfl)<|zz (fun _ h_=>ac (QG (e:= .u8) (z':=u) (h_.v rfl) (h_.n 8 rfl) hx40 rfl (h_.w rfl) rfl Zi rfl rfl) rfl) ?_
 exact zN
 iterate 4 refine w_ ?_
 refine Qc<|QE ⟨i+1,by omega,rfl,rfl⟩ (by omega) ?_
 exact wp [] ⟨rfl,rfl,(Qh (by first | exact QbI hx28 huu (by first | exact .inl ‹_› | exact .inr ‹_›) (hbi.symm.trans ‹_›) (Qn9 ‹_›) | exact WJ hx28 (VL (fun h=>absurd ((hbi.symm.trans (by assumption:bi=false)).symm.trans h) (by decide))) | exact WJ hx28 (UH huu (Qfr ‹_› ‹_›)) | exact WJ hx28 (W7 (Qnr ‹_›)))),trivial⟩
 iterate 3 refine w_ ?_
 refine AL.fact (Ql (x:= .tmp 75) (Qa rfl)) fun hi41=> ?_
 iterate 2 refine w_ ?_
 cases hb42:(decide (ar.2.1 < 0))
 have hb42':=a6 hb42
 iterate 4 refine w_ ?_
 obtain ⟨sx,hx44⟩:=gx c.1 ((ar.2.1).toNat)
 have hsx:=hx44
 iterate 7 refine w_ ?_
 refine XP (J29 _ ⟨(decide (sx.2=1)),(by exact QsP ‹_› hsx),rfl⟩) ?_
 exact wo []
 have hb42':=a7 hb42
 iterate 11 refine w_ ?_
 refine XP (J29 _ ⟨true,(by exact QtB ‹_›),rfl⟩) ?_
 exact wo []
 have hb10':=a7 hb10
 iterate 5 refine w_ ?_
 obtain ⟨ar,hx46⟩:=gx c.2.2 k
 have hain:=hr _ (a8 hx46)
 obtain ⟨⟨ha1,ha2⟩,ha3,ha4⟩:=hain
 have hlab:=(hs.arcs _ (a8 hx46)).2.2.1
 have hslt:ar.2.1 < (c.1.length:Int):=Ud hlab
 iterate 2 refine w_ ?_
 refine lc (xal 10 QA Za) ?_
 iterate 5 refine w_ ?_
 refine lc (dB_ (WP ar (Qj c p r)) H2) ?_
 iterate 6 refine w_ ?_
 cases hb47:(decide ((if¬ar.1∈(Qj c p r)∧ar.2.2.2∈(Qj c p r) then 1 else if ar.1∈(Qj c p r)∧¬ar.2.2.2∈(Qj c p r) then 2 else (0:Int))=1))
 have hb47':=a6 hb47
 iterate 5 refine w_ ?_
 cases hb48:(decide ((if¬ar.1∈(Qj c p r)∧ar.2.2.2∈(Qj c p r) then 1 else if ar.1∈(Qj c p r)∧¬ar.2.2.2∈(Qj c p r) then 2 else (0:Int))=2))
 have hb48':=a6 hb48
 iterate 6 refine w_ ?_
 refine Qc<|QE ⟨k+1,by omega,rfl,rfl⟩ (by omega) ?_
 exact wp [] ⟨rfl,rfl,(Qh (by first | exact Qho hx46 ‹_› | exact Qhx hx46 ‹_› | exact QaQ hx46 (Qtt ‹_› ‹_›))),trivial⟩
 have hb48':=a7 hb48
 iterate 5 refine w_ ?_
 refine AL.fact (Ql (x:= .tmp 59) (Qa rfl)) fun hi49=> ?_
 refine w_ ?_
 obtain ⟨x50,hx51⟩:=gx ((c.2.2.take k).foldl (Z8 (Qj c p r)) (sg0 c.2.1.length (Qj c p r))) ((ar.2.2.2).toNat)
 refine lc (QG (e:= .u8) (z':=45) (Qa rfl) rfl hx51 rfl (Evl.ev (QB 45 rfl)) rfl Zi rfl rfl)<|Qc ?_
 iterate 4 refine w_ ?_
 refine Qc<|QE ⟨k+1,by omega,rfl,rfl⟩ (by omega) ?_
 exact wp [] ⟨rfl,rfl,(Qh (by first | exact Qho hx46 ‹_› | exact Qhx hx46 ‹_› | exact QaQ hx46 (Qtt ‹_› ‹_›))),trivial⟩
 have hb47':=a7 hb47
 iterate 5 refine w_ ?_
 refine AL.fact (Ql (x:= .tmp 53) (Qa rfl)) fun hi52=> ?_
 refine w_ ?_
 obtain ⟨x53,hx54⟩:=gx ((c.2.2.take k).foldl (Z8 (Qj c p r)) (sg0 c.2.1.length (Qj c p r))) ((ar.2.2.2).toNat)
 refine lc (QG (e:= .u8) (z':=43) (Qa rfl) rfl hx54 rfl (Evl.ev (QB 43 rfl)) rfl Zi rfl rfl)<|Qc ?_
 iterate 4 refine w_ ?_
 refine Qc<|QE ⟨k+1,by omega,rfl,rfl⟩ (by omega) ?_
 exact wp [] ⟨rfl,rfl,(Qh (by first | exact Qho hx46 ‹_› | exact Qhx hx46 ‹_› | exact QaQ hx46 (Qtt ‹_› ‹_›))),trivial⟩
 have hb6':=a7 hb6
 iterate 12 refine w_ ?_
 obtain ⟨x55,hx56⟩:=gx (sgF c.2.1.length (Qj c p r) k) k
 refine lc (QG (e:= .u8) (z':=48) (Qa rfl) rfl hx56 rfl (Evl.ev (QB 48 rfl)) rfl Zi rfl rfl) ?_
 iterate 4 refine w_ ?_
 refine lc (dB_ (Z6 (Qj c p r) (k:Int)) Y5) ?_
 refine w_ ?_
 cases hb57:(decide ((k:Int)∈(Qj c p r)))
 have hb57':=a6 hb57
 iterate 6 refine w_ ?_
 refine Qc<|QE ⟨k+1,by omega,rfl,rfl⟩ (by omega) ?_
 exact wp [] ⟨rfl,rfl,(Qh (by first | exact Ql7 (by omega) ‹_› | exact Qqq (by omega) ‹_›)),trivial⟩
 have hb57':=a7 hb57
 iterate 5 refine w_ ?_
 refine lc (QG (e:= .u8) (z':=49) (Qa rfl) rfl (aR (by first | omega | (simp only[au]; omega))) rfl (Evl.ev (QB 49 rfl)) rfl Zi rfl rfl) ?_
 refine Qc ?_
 iterate 4 refine w_ ?_
 refine Qc<|QE ⟨k+1,by omega,rfl,rfl⟩ (by omega) ?_
 exact wp [] ⟨rfl,rfl,(Qh (by first | exact Ql7 (by omega) ‹_› | exact Qqq (by omega) ‹_›)),trivial⟩
theorem Jv (c:(List (ByteArray×Int))×List ByteArray×(List (Int×Int×Bool×Int)))(p:Int×Bool)(r:Int×Bool)(hs:SgOk c):FC Tryz.prog 189 [(true,[.dat Qo c.1, .dat Qr c.2.1, .dat QD c.2.2]),(true,[dI p.1,dB p.2]),(true,[dI r.1,dB r.2])] [] 0 (Zk (PV.tup [(false,[dS (Yj c p r)]),(false,[dB (okB c p r)])])):=by
 have hr:∀a∈c.2.2,InR c.2.1.length a:=fun a ha=>Xi (hs.arcs a ha)
 have hrl:(List.replicate c.2.1.length (Ty.zero .u8)).length=c.2.1.length:=ay ..
 have hn3:=hs.some_
 have hfw:=hs.few
 have hbs:=QdA (p:=p) (r:=r) hr
 refine Qy Tryz.func189 rfl rfl Tryz.ntmps189 fun O_ hO w0_ N0_ X_ h0_ f0_=> ?_
 refine AC.fact (QH (x:= .tmp 1) (i:=0) (Qf rfl) rfl) fun hi1=>AC.fact (QH (x:= .tmp 2) (i:=0) (Qf rfl) rfl) fun hi2=> ?_
 refine w_ ?_
 refine xbx 0 ?_
 refine xbx 1 ?_
 refine xbx 2 ?_
 iterate 7 refine w_ ?_
 refine lc (dO 3 (UL c p r hr (by omega)) Qdv) ?_
 iterate 5 refine w_ ?_
 refine lc (dB_ (HT c (Qj c p r) hs) Qj9) ?_
 iterate 8 refine w_ ?_
 refine AL.fact (Qp (x:= .tmp 20) (Qa rfl)) fun hl3=> ?_
 iterate 2 refine w_ ?_
 refine lc (dK (Zx ((Qj c p r).length:Int) 1 ((c.2.1.length:Int) - 1)) YN) ?_
 iterate 2 refine w_ ?_
 cases hb4:(decide (1≤((Qj c p r).length:Int)∧((Qj c p r).length:Int)≤((c.2.1.length:Int) - 1)))
 have hb4':=a6 hb4
 iterate 12 refine w_ ?_
 subst hO
 have e5:((⟨#[]⟩:ByteArray):ByteArray)=(Yj c p r):=by
  exact QiU (Qsz ‹_›)
 have e6:(false:Bool)=(okB c p r):=by
  exact (Qsz ‹_›).symm
 exact Qe (QM rfl (Qb rfl) (Qb rfl)) (by rw[e5,← e6] <;> rfl) rfl
 have hb4':=a7 hb4
 iterate 2 refine w_ ?_
 refine lgy rfl rfl (dK (Vu c (Ym c (Qj c p r)) (QbD (block:=Qj c p r) hs)) Qdn) ?_
 iterate 3 refine w_ ?_
 cases hb7:(Xv c (Ym c (Qj c p r)))
 iterate 6 refine w_ ?_
 subst hO
 have e8:((⟨#[]⟩:ByteArray):ByteArray)=(Yj c p r):=by
  exact QiU (Qqg ‹_›)
 have e9:(false:Bool)=(okB c p r):=by
  exact (Qqg ‹_›).symm
 exact Qe (QM rfl (Qb rfl) (Qb rfl)) (by rw[e8,← e9] <;> rfl) rfl
 iterate 8 refine w_ ?_
 subst hO
 have e10:(Ym c (Qj c p r):ByteArray)=(Yj c p r):=by
  exact Qf1 (Qsy ‹_› ‹_›)
 have e11:(true:Bool)=(okB c p r):=by
  exact (Qsy ‹_› ‹_›).symm
 exact Qe (QM rfl (Qb rfl) (Qb rfl)) (by rw[e10,← e11] <;> rfl) rfl
end Go.Proofs.YtjaadeknhofhpaaGreat
