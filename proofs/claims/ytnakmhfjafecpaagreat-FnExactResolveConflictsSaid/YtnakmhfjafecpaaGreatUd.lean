/- Walks over abstract states: the partition for two labels, both sides. -/
import Derived.Test.YtnakmhfjafecpaaGreatUc
set_option linter.unusedSimpArgs false
set_option linter.unusedVariables false
set_option linter.unusedSectionVars false
namespace Go.Proofs.YtnakmhfjafecpaaGreat
open Go.RowKit
set_option maxRecDepth 100000
set_option maxHeartbeats 4000000
def sgF (n:Nat)(block:List Int)(k:Nat):List UInt8:=sg0 k block++List.replicate (n - k) 0
def okB (c:DSg)(p r:Int×Bool):Bool:=Xx c (Ym c (Ql c p r))&&(decide (0 < ((Ql c p r).length:Int))&&decide (((Ql c p r).length:Int) < (c.2.1.length:Int)))
def ZV (c:DSg)(p r:Int×Bool):ByteArray:=if okB c p r=true then Ym c (Ql c p r) else ⟨#[]⟩
section
variable {c:DSg}{as_:List DAr}{a:DAr}{block:List Int}{k i j n:Nat}{s:List UInt8}{u:UInt8}{p r:Int×Bool}{x:Q4}
theorem Qn7 (h:k≤n):(sgF n block k).length=n:=by unfold sgF; rw[List.length_append,US,List.length_replicate]; omega
theorem QiX (h:k < n)(z:UInt8):(sgF n block k).set k z=(sg0 k block++[z])++List.replicate (n - (k+1)) 0:=by
  unfold sgF
  rw[List.set_append_right _ _ (by rw[US]; omega),US,Nat.sub_self,show n - k=(n - (k+1))+1 by omega,List.replicate_succ,List.set_cons_zero,List.append_assoc]
  rfl
theorem QlA (h:k < n)(hb:¬(k:Int)∈block):(sgF n block k).set k 48=sgF n block (k+1):=by
  rw[QiX h,QhO hb rfl]; rfl
theorem QjX (h:k < n)(hb:(k:Int)∈block):((sgF n block k).set k 48).set k 49=sgF n block (k+1):=by
  rw[List.set_set,QiX h,Qfo hb rfl]; rfl
theorem QnJ:sgF n block n=sg0 n block:=by unfold sgF; rw[Nat.sub_self]; simp
theorem QlO:List.replicate n (0:UInt8)=sgF n block 0:=by simp[sgF,sg0]
theorem Qp6 {A B:Prop}[Decidable A][Decidable B](h:(if A then 1 else if B then 2 else (0:Int))=1):A:=by
  split at h
  · assumption
  · split at h <;> exact absurd h (by decide)
theorem Qp7 {A B:Prop}[Decidable A][Decidable B](h:(if A then 1 else if B then 2 else (0:Int))=2):B:=by
  split at h
  · exact absurd h (by decide)
  · split at h
    · assumption
    · exact absurd h (by decide)
theorem Qk4 {A B:Prop}[Decidable A][Decidable B](h:(if¬A∧B then 1 else if A∧¬B then 2 else (0:Int))=0):A↔B:=by
  by_cases h1:A <;> by_cases h2:B <;> simp[h1,h2] at h ⊢
theorem Qpa {A B:Prop}[Decidable A][Decidable B](h1:¬(if¬A∧B then 1 else if A∧¬B then 2 else (0:Int))=1)(h2:¬(if¬A∧B then 1 else if A∧¬B then 2 else (0:Int))=2):A↔B:=by
  by_cases h3:A <;> by_cases h4:B <;> simp[h3,h4] at h1 h2 ⊢
theorem Qkt {A B:Prop}[Decidable A][Decidable B](h:¬(if¬A∧B then 1 else if A∧¬B then 2 else (0:Int))=0):¬(A↔B):=fun g=>by
  by_cases h3:A <;> by_cases h4:B <;> simp[h3,h4] at h g
theorem QdH (h:decide (u=43)=false)(h2:decide (u=45)=false):¬(u=43∨u=45):=fun g=>g.elim (of_decide_eq_false h) (of_decide_eq_false h2)
theorem QeC (hx:as_[k]? =some a)(h:(if¬a.1∈block∧a.2.2.2∈block then 1 else if a.1∈block∧¬a.2.2.2∈block then 2 else (0:Int))=1):((as_.take k).foldl (Yo block) s).set a.2.2.2.toNat 43=(as_.take (k+1)).foldl (Yo block) s:=QjB hx (Qp6 h).1 (Qp6 h).2
theorem QeK (hx:as_[k]? =some a)(h:(if¬a.1∈block∧a.2.2.2∈block then 1 else if a.1∈block∧¬a.2.2.2∈block then 2 else (0:Int))=2):((as_.take k).foldl (Yo block) s).set a.2.2.2.toNat 45=(as_.take (k+1)).foldl (Yo block) s:=QfZ hx (Qp7 h).1 (Qp7 h).2
theorem Qpi (h:a.2.1 < 0):true=inA c a:=by unfold inA; rw[decide_eq_true h]; rfl
theorem Qpq (h:¬a.2.1 < 0)(hx:c.1[a.2.1.toNat]? =some x):decide (x.2=1)=inA c a:=by unfold inA; rw[decide_eq_false h,hx]; rfl
theorem Qax (hx:as_[i]? =some a)(h1:((as_.take i).foldl (Z6 c block) s)[a.1.toNat]? =some u)(hm:u=43∨u=45)(hi:inA c a=true)(hb:a.1∈block↔a.2.2.2∈block):((as_.take i).foldl (Z6 c block) s).set a.2.2.2.toNat u=(as_.take (i+1)).foldl (Z6 c block) s:=by
  rw[Za hx,List.foldl_append,List.foldl_cons,List.foldl_nil,Z6,WL h1,if_pos ⟨hm,hi,hb⟩]
theorem Wv (hx:as_[i]? =some a)(h:Z6 c block ((as_.take i).foldl (Z6 c block) s) a=(as_.take i).foldl (Z6 c block) s):(as_.take i).foldl (Z6 c block) s=(as_.take (i+1)).foldl (Z6 c block) s:=by
  rw[Za hx,List.foldl_append,List.foldl_cons,List.foldl_nil,h]
theorem Qo6 (hr:∀a∈c.2.2,InR c.2.1.length a)(j i:Nat):((c.2.2.take i).foldl (Z6 c block) (Zb (ZD c block) j (ZR c block))).length=c.2.1.length:=
  (VW (fun a ha=>hr a (List.mem_of_mem_take ha)) (QcP _ (fun _ h=>QeQ hr h) (HK hr) j)).1.len
theorem Qoo (h:¬(1≤((Ql c p r).length:Int)∧((Ql c p r).length:Int)≤(c.2.1.length:Int) - 1)):okB c p r=false:=by
  cases ho:okB c p r with
  | false=>rfl
  | true=>
    unfold okB at ho
    simp only[Bool.and_eq_true,decide_eq_true_eq] at ho
    exact absurd ⟨by omega,by omega⟩ h
theorem Qmg (h:Xx c (Ym c (Ql c p r))=false):okB c p r=false:=by unfold okB; rw[h]; rfl
theorem Qoj (h:1≤((Ql c p r).length:Int)∧((Ql c p r).length:Int)≤(c.2.1.length:Int) - 1)(h2:Xx c (Ym c (Ql c p r))=true):okB c p r=true:=by
  unfold okB
  rw[h2,decide_eq_true (by omega),decide_eq_true (by omega)]; rfl
theorem Qg0 (h:okB c p r=false):(⟨#[]⟩:ByteArray)=ZV c p r:=by unfold ZV; rw[h]; rfl
theorem QdL (h:okB c p r=true):Ym c (Ql c p r)=ZV c p r:=by unfold ZV; rw[h]; rfl
theorem Qpf (h:Xx c (Ym c (Ql c p r))=true)(h2:0 < ((Ql c p r).length:Int)):decide (((Ql c p r).length:Int) < (c.2.1.length:Int))=okB c p r:=by unfold okB; rw[h,decide_eq_true h2]; rfl
theorem QoY (hr:∀a∈c.2.2,InR c.2.1.length a)(h:Xx c (Ym c (Ql c p r))=true)(h2:0 < ((Ql c p r).length:Int)):decide (((Ql c p r).length:Int) < ((Zb (ZD c (Ql c p r)) c.2.1.length (ZR c (Ql c p r))).length:Int))=okB c p r:=by
  have:(Zb (ZD c (Ql c p r)) c.2.1.length (ZR c (Ql c p r))).length=c.2.1.length:=(Qjz (block:=Ql c p r) hr).len
  rw[this]; exact Qpf h h2
theorem Qpv (h2:¬0 < ((Ql c p r).length:Int)):false=okB c p r:=by unfold okB; rw[decide_eq_false h2]; simp
end
theorem QcJ {c:DSg}{p r:Int×Bool}(hr:∀a∈c.2.2,InR c.2.1.length a):(Ql c p r).length≤c.2.1.length:=by
  have:=U7 (UF c p r).str (lo:=0) (hi:=c.2.1.length) (fun x hx=>QeW (fun a ha=>(hr a ha).2) ((UF c p r).cl x hx)) (by omega)
  omega
theorem Jp (c:(List (ByteArray×Int))×List ByteArray×(List (Int×Int×Bool×Int)))(p:Int×Bool)(r:Int×Bool)(hs:SgOk c):FC Tryz.prog 123 [(true,[.dat (.sl 145 (.pr .str .int)) c.1, .dat (.sl 9 .str) c.2.1, .dat (.sl 179 (.pr .int (.pr .int (.pr .bool .int)))) c.2.2]),(true,[dI p.1,dB p.2]),(true,[dI r.1,dB r.2])] [] 0 (Zy (PV.tup [(false,[dS (Ym c (Ql c p r))]),(false,[dB (okB c p r)])])):=by
 have hr:∀a∈c.2.2,InR c.2.1.length a:=fun a ha=>XG (hs.arcs a ha)
 have hrl:(List.replicate c.2.1.length (Ty.zero .u8)).length=c.2.1.length:=List.length_replicate ..
 have hn3:=hs.some_
 have hfw:=hs.few
 have hbs:=QcJ (p:=p) (r:=r) hr
 refine QQ Tryz.func123 rfl rfl Tryz.ntmps123 fun O_ hO w0_ N0_ X_ h0_ f0_=> ?_
 refine AC.fact (Q3 (x:= .tmp 1) (i:=0) (Qb rfl) rfl) fun hi1=>AC.fact (Q3 (x:= .tmp 2) (i:=0) (Qb rfl) rfl) fun hi2=> ?_
 refine w_ ?_
 refine lc (Qr 0 (Qb rfl) rfl rfl (Fresh.of rfl) (nlr rfl))<|lc (Qr 1 (Qb rfl) rfl rfl (Fresh.of rfl) (nlr rfl))<|lc (Qr 2 (Qb rfl) rfl rfl (Fresh.of rfl) (nlr rfl)) ?_
 iterate 7 refine w_ ?_
 refine lc (Y7 3 (QaW c p r hr (by omega)) QiD ⟨_,_,rfl,(Qb rfl),⟨_,_,rfl,(Qb rfl),⟨_,_,rfl,(Qb rfl),rfl⟩⟩⟩ rfl (Fresh.of rfl) (nlr rfl)) ?_
 iterate 5 refine w_ ?_
 refine AL.fact (QB (x:= .tmp 21) (Qa rfl)) fun hl3=> ?_
 refine w_ ?_
 refine lc (Vo 4 (e:= .u8) (n:=c.2.1.length) (Qa rfl) (Qa rfl) Zc Qp0 rfl (by omega) (by omega) rfl (Fresh.of rfl) (nlr rfl)) ?_
 iterate 9 refine w_ ?_
 refine Qy (fun m_ s_=>∃(k:Nat),k≤c.2.1.length∧m_=c.2.1.length - k∧s_=⟨[(3,lP 0 0),(6,lf (dS (⟨#[]⟩:ByteArray))),(7,lB false),(8,lR 3),(9,lR 5),(25,lI ((List.replicate c.2.1.length (Ty.zero .u8)).length:Int)),(26,lI (k:Int))],[(0,some (.box 59 [.dat (.sl 145 (.pr .str .int)) c.1, .dat (.sl 9 .str) c.2.1, .dat (.sl 179 (.pr .int (.pr .int (.pr .bool .int)))) c.2.2])),(3,some (.arr 3 .int (Ql c p r))),(5,some (.arr 5 .u8 (sgF c.2.1.length (Ql c p r) k)))]⟩) ⟨0,Nat.zero_le _,rfl,rfl⟩ ?_ ?_
 · exact Wk.of [(0,0),(3,3),(5,4)] rfl ⟨rfl,rfl,rfl,rfl,rfl,rfl,rfl,trivial⟩ ⟨rfl,rfl,(Qv (QlO)),trivial⟩ rfl rfl
 rintro m_ s_ ⟨k,hk4,hm5,rfl⟩
 have hsk:=Qn7 (n:=c.2.1.length) (block:=(Ql c p r)) (k:=k) (by omega)
 iterate 4 refine w_ ?_
 cases hb6:(decide ((k:Int) < ((List.replicate c.2.1.length (Ty.zero .u8)).length:Int)))
 ·have hb6':=of_decide_eq_false hb6
  refine w_ ?_
  refine QA ?_
  refine (?_:AC _ _ _ _ _)
  refine w_ ?_
  refine Wz ?_
  obtain rfl:k=c.2.1.length:=by omega
  rw[QnJ]
  iterate 3 refine w_ ?_
  refine AL.fact (QB (x:= .tmp 40) (Qa rfl)) fun hl7=> ?_
  iterate 4 refine w_ ?_
  refine Qy (fun m_ s_=>∃(k:Nat),k≤c.2.2.length∧m_=c.2.2.length - k∧s_=⟨[(3,lP 0 0),(6,lf (dS (⟨#[]⟩:ByteArray))),(7,lB false),(8,lR 3),(9,lR 6),(40,lf (.dat (.sl 179 (.pr .int (.pr .int (.pr .bool .int)))) c.2.2)),(41,lI (c.2.2.length:Int)),(42,lI (k:Int))],[(0,some (.box 59 [.dat (.sl 145 (.pr .str .int)) c.1, .dat (.sl 9 .str) c.2.1, .dat (.sl 179 (.pr .int (.pr .int (.pr .bool .int)))) c.2.2])),(3,some (.arr 3 .int (Ql c p r))),(6,some (.arr 5 .u8 ((c.2.2.take k).foldl (Yo (Ql c p r)) (sg0 c.2.1.length (Ql c p r)))))]⟩) ⟨0,Nat.zero_le _,rfl,rfl⟩ ?_ ?_
  · exact Wk.of [(0,0),(3,3),(6,5)] rfl ⟨rfl,rfl,rfl,rfl,rfl,rfl,rfl,rfl,trivial⟩ ⟨rfl,rfl,(Qv (by simp only[List.take_zero,List.foldl_nil])),trivial⟩ rfl rfl
  rintro m_ s_ ⟨k,hk8,hm9,rfl⟩
  have hmk:=QgX (block:=(Ql c p r)) (k:=k) hr
  iterate 4 refine w_ ?_
  cases hb10:(decide ((k:Int) < (c.2.2.length:Int)))
  ·have hb10':=of_decide_eq_false hb10
   refine w_ ?_
   refine QA ?_
   refine (?_:AC _ _ _ _ _)
   iterate 4 refine w_ ?_
   refine AL.fact (QB (x:= .tmp 63) (Qa rfl)) fun hl11=> ?_
   iterate 4 refine w_ ?_
   refine Qy (fun m_ s_=>∃(j:Nat),j≤c.2.1.length∧m_=c.2.1.length - j∧s_=⟨[(3,lP 0 0),(6,lf (dS (⟨#[]⟩:ByteArray))),(7,lB false),(8,lR 3),(9,lR 7),(64,lI (c.2.1.length:Int)),(65,lI (j:Int))],[(0,some (.box 59 [.dat (.sl 145 (.pr .str .int)) c.1, .dat (.sl 9 .str) c.2.1, .dat (.sl 179 (.pr .int (.pr .int (.pr .bool .int)))) c.2.2])),(3,some (.arr 3 .int (Ql c p r))),(7,some (.arr 5 .u8 (Zb (ZD c (Ql c p r)) j (ZR c (Ql c p r)))))]⟩) ⟨0,Nat.zero_le _,rfl,rfl⟩ ?_ ?_
   · exact Wk.of [(0,0),(3,3),(7,6)] rfl ⟨rfl,rfl,rfl,rfl,rfl,rfl,rfl,trivial⟩ ⟨rfl,rfl,(Qv (by rw[Zh (by omega)]; rfl)),trivial⟩ rfl rfl
   rintro m_ s_ ⟨j,hk12,hm13,rfl⟩
   iterate 4 refine w_ ?_
   cases hb14:(decide ((j:Int) < (c.2.1.length:Int)))
   ·have hb14':=of_decide_eq_false hb14
    refine w_ ?_
    refine QA ?_
    refine (?_:AC _ _ _ _ _)
    obtain rfl:j=c.2.1.length:=by omega
    cases hb15:(Xx c (⟨(Zb (ZD c (Ql c p r)) c.2.1.length (ZR c (Ql c p r))).toArray⟩:ByteArray))
    ·refine dw [io 121 (lR 7),io 122 (lf (dS (⟨(Zb (ZD c (Ql c p r)) c.2.1.length (ZR c (Ql c p r))).toArray⟩:ByteArray))),io 123 (ag [.dat (.sl 145 (.pr .str .int)) c.1, .dat (.sl 9 .str) c.2.1, .dat (.sl 179 (.pr .int (.pr .int (.pr .bool .int)))) c.2.2]),io 124 (lR 7),io 125 (lf (dS (⟨(Zb (ZD c (Ql c p r)) c.2.1.length (ZR c (Ql c p r))).toArray⟩:ByteArray))),io 126 (lB false),io 127 (lB false),io 128 (lf (.val undef)),io 129 (lf (.val undef)),io 130 (lf (.val undef)),io 131 (lB false),io 132 (lB false),io 133 (lf (.val undef)),io 134 (lf (.val undef)),io 135 (lf (.val undef)),io 136 (lf (.val undef)),io 137 (lf (.val undef)),io 138 (lB false),io 6 (lf (dS (⟨(Zb (ZD c (Ql c p r)) c.2.1.length (ZR c (Ql c p r))).toArray⟩:ByteArray))),io 7 (lB false)] [0,1,0,0,8,28,60,124,252,508,1020,2044,4092,8188,4092,20476,65532,131068,4095,524287] mixed rfl (by kernel_rfl) ⟨dxm rfl rfl,fun _ h_=>ac (ZS (ys:=Zb (ZD c (Ql c p r)) c.2.1.length (ZR c (Ql c p r))) (Xd (h_.v rfl) (h_.n 7 rfl)) Zc VX Zd rfl) rfl,dxa QK rfl rfl rfl rfl,dxm rfl rfl,fun _ h_=>ac (ZS (ys:=Zb (ZD c (Ql c p r)) c.2.1.length (ZR c (Ql c p r))) (Xd (h_.v rfl) (h_.n 7 rfl)) Zc VX Zd rfl) rfl,fun _ h_=>ac (QZ (hb15) (Qh (XY c (⟨(Zb (ZD c (Ql c p r)) c.2.1.length (ZR c (Ql c p r))).toArray⟩:ByteArray) (QaN (block:=Ql c p r) hs)) UU ⟨_,_,rfl,(h_.w rfl),⟨_,_,rfl,(h_.w rfl),rfl⟩⟩ rfl rfl)) rfl,dxm rfl rfl,dxo rfl rfl rfl,dxo rfl rfl rfl,dxo rfl rfl rfl,fun _ h_=>ac (QM (h_.v rfl) (Evl.ev QU) rfl) rfl,dxm rfl rfl,dxo rfl rfl rfl,dxo rfl rfl rfl,dxo rfl rfl rfl,dxo rfl rfl rfl,dxo rfl rfl rfl,fun _ h_=>ac (QM (h_.v rfl) (Evl.ev QU) rfl) rfl,dxt rfl rfl,dxt rfl rfl,⟨⟩⟩<|Qe ?_
     subst hO
     have e16:((⟨(Zb (ZD c (Ql c p r)) c.2.1.length (ZR c (Ql c p r))).toArray⟩:ByteArray):ByteArray)=(Ym c (Ql c p r)):=by
      rfl
     have e17:(false:Bool)=(okB c p r):=by
      exact (Qmg (by assumption)).symm
     exact Qg (Z8 rfl (Qc rfl) (Qc rfl)) (((congrArg (fun z_=>PV.tup [(false,[dS z_]),(false,[dB false])]) e16)).trans (congrArg (fun z_=>PV.tup [(false,[dS (Ym c (Ql c p r))]),(false,[dB z_])]) e17)) rfl
    ·cases hb18:(decide (0 < ((Ql c p r).length:Int)))
     ·have hb18':=of_decide_eq_false hb18
      refine dw [io 121 (lR 7),io 122 (lf (dS (⟨(Zb (ZD c (Ql c p r)) c.2.1.length (ZR c (Ql c p r))).toArray⟩:ByteArray))),io 123 (ag [.dat (.sl 145 (.pr .str .int)) c.1, .dat (.sl 9 .str) c.2.1, .dat (.sl 179 (.pr .int (.pr .int (.pr .bool .int)))) c.2.2]),io 124 (lR 7),io 125 (lf (dS (⟨(Zb (ZD c (Ql c p r)) c.2.1.length (ZR c (Ql c p r))).toArray⟩:ByteArray))),io 126 (lB true),io 127 (lB true),io 128 (lR 3),io 129 (lI ((Ql c p r).length:Int)),io 130 (lB false),io 131 (lB false),io 132 (lB false),io 133 (lf (.val undef)),io 134 (lf (.val undef)),io 135 (lf (.val undef)),io 136 (lf (.val undef)),io 137 (lf (.val undef)),io 138 (lB false),io 6 (lf (dS (⟨(Zb (ZD c (Ql c p r)) c.2.1.length (ZR c (Ql c p r))).toArray⟩:ByteArray))),io 7 (lB false)] [0,1,0,0,8,28,60,124,252,508,1020,2044,4092,8188,4092,20476,65532,131068,4095,524287] mixed rfl (by kernel_rfl) ⟨dxm rfl rfl,fun _ h_=>ac (ZS (ys:=Zb (ZD c (Ql c p r)) c.2.1.length (ZR c (Ql c p r))) (Xd (h_.v rfl) (h_.n 7 rfl)) Zc VX Zd rfl) rfl,dxa QK rfl rfl rfl rfl,dxm rfl rfl,fun _ h_=>ac (ZS (ys:=Zb (ZD c (Ql c p r)) c.2.1.length (ZR c (Ql c p r))) (Xd (h_.v rfl) (h_.n 7 rfl)) Zc VX Zd rfl) rfl,fun _ h_=>ac (QZ (hb15) (Qh (XY c (⟨(Zb (ZD c (Ql c p r)) c.2.1.length (ZR c (Ql c p r))).toArray⟩:ByteArray) (QaN (block:=Ql c p r) hs)) UU ⟨_,_,rfl,(h_.w rfl),⟨_,_,rfl,(h_.w rfl),rfl⟩⟩ rfl rfl)) rfl,dxm rfl rfl,fun _ h_=>day rfl (h_.k rfl) (QF (h_.k rfl) rfl) rfl,fun _ h_=>day rfl (h_.k rfl) (WC (h_.v rfl) (h_.n 3 rfl) rfl QO) rfl,fun _ h_=>day rfl (h_.k rfl) (QZ (hb18) (Qb1 (h_.v rfl) (QE rfl) rfl)) rfl,fun _ h_=>ac (QV (h_.v rfl) (h_.w rfl) rfl) rfl,dxm rfl rfl,dxo rfl rfl rfl,dxo rfl rfl rfl,dxo rfl rfl rfl,dxo rfl rfl rfl,dxo rfl rfl rfl,fun _ h_=>ac (QM (h_.v rfl) (Evl.ev QU) rfl) rfl,dxt rfl rfl,dxt rfl rfl,⟨⟩⟩<|Qe ?_
      subst hO
      have e19:((⟨(Zb (ZD c (Ql c p r)) c.2.1.length (ZR c (Ql c p r))).toArray⟩:ByteArray):ByteArray)=(Ym c (Ql c p r)):=by
       rfl
      have e20:(false:Bool)=(okB c p r):=by
       exact Qpv (by assumption)
      exact Qg (Z8 rfl (Qc rfl) (Qc rfl)) (((congrArg (fun z_=>PV.tup [(false,[dS z_]),(false,[dB false])]) e19)).trans (congrArg (fun z_=>PV.tup [(false,[dS (Ym c (Ql c p r))]),(false,[dB z_])]) e20)) rfl
     ·have hb18':=of_decide_eq_true hb18
      refine dw [io 121 (lR 7),io 122 (lf (dS (⟨(Zb (ZD c (Ql c p r)) c.2.1.length (ZR c (Ql c p r))).toArray⟩:ByteArray))),io 123 (ag [.dat (.sl 145 (.pr .str .int)) c.1, .dat (.sl 9 .str) c.2.1, .dat (.sl 179 (.pr .int (.pr .int (.pr .bool .int)))) c.2.2]),io 124 (lR 7),io 125 (lf (dS (⟨(Zb (ZD c (Ql c p r)) c.2.1.length (ZR c (Ql c p r))).toArray⟩:ByteArray))),io 126 (lB true),io 127 (lB true),io 128 (lR 3),io 129 (lI ((Ql c p r).length:Int)),io 130 (lB true),io 131 (lB true),io 132 (lB true),io 133 (lR 3),io 134 (lI ((Ql c p r).length:Int)),io 135 (lR 7),io 136 (lI ((Zb (ZD c (Ql c p r)) c.2.1.length (ZR c (Ql c p r))).length:Int)),io 137 (lB (decide (((Ql c p r).length:Int) < ((Zb (ZD c (Ql c p r)) c.2.1.length (ZR c (Ql c p r))).length:Int)))),io 138 (lB (decide (((Ql c p r).length:Int) < ((Zb (ZD c (Ql c p r)) c.2.1.length (ZR c (Ql c p r))).length:Int)))),io 6 (lf (dS (⟨(Zb (ZD c (Ql c p r)) c.2.1.length (ZR c (Ql c p r))).toArray⟩:ByteArray))),io 7 (lB (decide (((Ql c p r).length:Int) < ((Zb (ZD c (Ql c p r)) c.2.1.length (ZR c (Ql c p r))).length:Int))))] [0,1,0,0,8,28,60,124,252,508,1020,2044,4092,8188,4092,20476,65532,131068,4095,524287] mixed rfl (by kernel_rfl) ⟨dxm rfl rfl,fun _ h_=>ac (ZS (ys:=Zb (ZD c (Ql c p r)) c.2.1.length (ZR c (Ql c p r))) (Xd (h_.v rfl) (h_.n 7 rfl)) Zc VX Zd rfl) rfl,dxa QK rfl rfl rfl rfl,dxm rfl rfl,fun _ h_=>ac (ZS (ys:=Zb (ZD c (Ql c p r)) c.2.1.length (ZR c (Ql c p r))) (Xd (h_.v rfl) (h_.n 7 rfl)) Zc VX Zd rfl) rfl,fun _ h_=>ac (QZ (hb15) (Qh (XY c (⟨(Zb (ZD c (Ql c p r)) c.2.1.length (ZR c (Ql c p r))).toArray⟩:ByteArray) (QaN (block:=Ql c p r) hs)) UU ⟨_,_,rfl,(h_.w rfl),⟨_,_,rfl,(h_.w rfl),rfl⟩⟩ rfl rfl)) rfl,dxm rfl rfl,fun _ h_=>day rfl (h_.k rfl) (QF (h_.k rfl) rfl) rfl,fun _ h_=>day rfl (h_.k rfl) (WC (h_.v rfl) (h_.n 3 rfl) rfl QO) rfl,fun _ h_=>day rfl (h_.k rfl) (QZ (hb18) (Qb1 (h_.v rfl) (QE rfl) rfl)) rfl,fun _ h_=>ac (QV (h_.v rfl) (h_.w rfl) rfl) rfl,dxm rfl rfl,fun _ h_=>day rfl (h_.k rfl) (QF (h_.k rfl) rfl) rfl,fun _ h_=>day rfl (h_.k rfl) (WC (h_.v rfl) (h_.n 3 rfl) rfl QO) rfl,fun _ h_=>day rfl (h_.k rfl) (QF (h_.k rfl) rfl) rfl,fun _ h_=>day rfl (h_.k rfl) (WC (h_.v rfl) (h_.n 7 rfl) rfl Zc) rfl,fun _ h_=>day rfl (h_.k rfl) (Qgr (h_.v rfl) (h_.v rfl) rfl) rfl,fun _ h_=>ac (QV (h_.v rfl) (h_.w rfl) rfl) rfl,dxt rfl rfl,dxt rfl rfl,⟨⟩⟩<|Qe ?_
      subst hO
      have e21:((⟨(Zb (ZD c (Ql c p r)) c.2.1.length (ZR c (Ql c p r))).toArray⟩:ByteArray):ByteArray)=(Ym c (Ql c p r)):=by
       rfl
      have e22:(decide (((Ql c p r).length:Int) < ((Zb (ZD c (Ql c p r)) c.2.1.length (ZR c (Ql c p r))).length:Int)):Bool)=(okB c p r):=by
       exact QoY hr (by assumption) (by assumption)
      exact Qg (Z8 rfl (Qc rfl) (Qc rfl)) (((congrArg (fun z_=>PV.tup [(false,[dS z_]),(false,[dB (decide (((Ql c p r).length:Int) < ((Zb (ZD c (Ql c p r)) c.2.1.length (ZR c (Ql c p r))).length:Int)))])]) e21)).trans (congrArg (fun z_=>PV.tup [(false,[dS (Ym c (Ql c p r))]),(false,[dB z_])]) e22)) rfl
   ·have hb14':=of_decide_eq_true hb14
    iterate 7 refine w_ ?_
    refine AL.fact (QB (x:= .tmp 68) (Qa rfl)) fun hl23=> ?_
    iterate 4 refine w_ ?_
    refine Qy (fun m_ s_=>∃(i:Nat),i≤c.2.2.length∧m_=c.2.2.length - i∧s_=⟨[(3,lP 0 0),(6,lf (dS (⟨#[]⟩:ByteArray))),(7,lB false),(8,lR 3),(9,lR 8),(64,lI (c.2.1.length:Int)),(65,lI (j:Int)),(66,lB true),(67,lP 0 2),(68,lf (.dat (.sl 179 (.pr .int (.pr .int (.pr .bool .int)))) c.2.2)),(69,lI (c.2.2.length:Int)),(70,lI (i:Int))],[(0,some (.box 59 [.dat (.sl 145 (.pr .str .int)) c.1, .dat (.sl 9 .str) c.2.1, .dat (.sl 179 (.pr .int (.pr .int (.pr .bool .int)))) c.2.2])),(3,some (.arr 3 .int (Ql c p r))),(8,some (.arr 5 .u8 ((c.2.2.take i).foldl (Z6 c (Ql c p r)) (Zb (ZD c (Ql c p r)) j (ZR c (Ql c p r))))))]⟩) ⟨0,Nat.zero_le _,rfl,rfl⟩ ?_ ?_
    · exact Wk.of [(0,0),(3,3),(8,7)] rfl ⟨rfl,rfl,rfl,rfl,rfl,rfl,rfl,rfl,rfl,rfl,rfl,rfl,trivial⟩ ⟨rfl,rfl,(Qv (by simp only[List.take_zero,List.foldl_nil])),trivial⟩ rfl rfl
    rintro m_ s_ ⟨i,hk24,hm25,rfl⟩
    have hmv:=Qo6 (block:=(Ql c p r)) hr j i
    iterate 4 refine w_ ?_
    cases hb26:(decide ((i:Int) < (c.2.2.length:Int)))
    ·have hb26':=of_decide_eq_false hb26
     refine w_ ?_
     refine QA ?_
     refine (?_:AC _ _ _ _ _)
     iterate 3 refine w_ ?_
     refine Qj<|QS ⟨j+1,by omega,rfl,rfl⟩ (by omega) ?_
     exact Wk.of [(0,0),(3,3),(7,8)] rfl ⟨rfl,rfl,rfl,rfl,rfl,rfl,rfl,trivial⟩ ⟨rfl,rfl,(Qv (by rw[Zh (by omega)]; rfl)),trivial⟩ rfl rfl
    ·have hb26':=of_decide_eq_true hb26
     iterate 5 refine w_ ?_
     obtain ⟨ar,hx28⟩:∃z,c.2.2[i]? =some z:=⟨_,List.getElem?_eq_getElem (by omega)⟩
     have hain:=hr _ (List.mem_of_getElem? hx28)
     obtain ⟨⟨ha1,ha2⟩,ha3,ha4⟩:=hain
     have hlab:=(hs.arcs _ (List.mem_of_getElem? hx28)).2.2.1
     have hslt:ar.2.1 < (c.1.length:Int):=VK hlab
     refine lc (Qm (Qa rfl) (Qa rfl) Q9 QJ rfl (by omega) hx28) ?_
     refine w_ ?_
     refine lc (Qw 9 (.pr .int (.pr .int (.pr .bool .int))) Zq rfl rfl (Fresh.of rfl) (nlr rfl))<|lc (Qf (Qa rfl) rfl (Qb rfl) rfl QJ rfl) ?_
     refine w_ ?_
     refine Hy (fun s_=>∃(bi:Bool),(bi=inA c ar)∧s_=⟨[(3,lP 0 0),(6,lf (dS (⟨#[]⟩:ByteArray))),(7,lB false),(8,lR 3),(9,lR 8),(14,lP 9 0),(15,lB bi),(64,lI (c.2.1.length:Int)),(65,lI (j:Int)),(66,lB true),(67,lP 0 2),(68,lf (.dat (.sl 179 (.pr .int (.pr .int (.pr .bool .int)))) c.2.2)),(69,lI (c.2.2.length:Int)),(70,lI (i:Int)),(71,lB true),(72,lf (.elt (.pr .int (.pr .int (.pr .bool .int))) ar 0)),(73,ag [dI ar.1,dI ar.2.1,dB ar.2.2.1,dI ar.2.2.2])],[(0,some (.box 59 [.dat (.sl 145 (.pr .str .int)) c.1, .dat (.sl 9 .str) c.2.1, .dat (.sl 179 (.pr .int (.pr .int (.pr .bool .int)))) c.2.2])),(3,some (.arr 3 .int (Ql c p r))),(8,some (.arr 5 .u8 ((c.2.2.take i).foldl (Z6 c (Ql c p r)) (Zb (ZD c (Ql c p r)) j (ZR c (Ql c p r)))))),(9,some (.box 179 [dI ar.1,dI ar.2.1,dB ar.2.2.1,dI ar.2.2.2]))]⟩) ?_ fun J29=> ?_
     ·rintro s_ ⟨bi,hbi,rfl⟩
      iterate 3 refine w_ ?_
      cases hb30:(bi)
      ·iterate 7 refine w_ ?_
       refine Qo rfl rfl rfl ?_ rfl
       refine Qo rfl rfl rfl ?_ rfl
       refine Qo rfl rfl rfl ?_ rfl
       refine Qo rfl rfl rfl ?_ rfl
       refine Qo rfl rfl rfl ?_ rfl
       refine Qo rfl rfl rfl ?_ rfl
       iterate 10 refine w_ ?_
       refine AC.skip ?_
       refine (?_:AC _ _ _ _ _)
       iterate 3 refine w_ ?_
       refine Qj<|QS ⟨i+1,by omega,rfl,rfl⟩ (by omega) ?_
       exact Wk.of [(0,0),(3,3),(8,8)] rfl ⟨rfl,rfl,rfl,rfl,rfl,rfl,rfl,rfl,rfl,rfl,rfl,rfl,trivial⟩ ⟨rfl,rfl,(Qv (by first | exact Qax hx28 huu (by first | exact .inl (by assumption) | exact .inr (by assumption)) (hbi.symm.trans (by assumption)) (Qk4 (by assumption)) | exact Wv hx28 (Vu (fun h=>absurd ((hbi.symm.trans (by assumption:bi=false)).symm.trans h) (by decide))) | exact Wv hx28 (Uy huu (QdH (by assumption) (by assumption))) | exact Wv hx28 (WZ (Qkt (by assumption))))),trivial⟩ rfl rfl
      ·iterate 3 refine w_ ?_
       refine lgy rfl rfl (Qq (e:= .u8) (Qa rfl) rfl (Qa rfl) Zc ZA rfl (by omega) (by first | omega | (simp only[List.length_set]; omega))) ?_
       obtain ⟨u,hx32⟩:∃z,((c.2.2.take i).foldl (Z6 c (Ql c p r)) (Zb (ZD c (Ql c p r)) j (ZR c (Ql c p r))))[(ar.1).toNat]? =some z:=⟨_,List.getElem?_eq_getElem (by omega)⟩
       have huu:=hx32
       refine lgy rfl rfl (Q7 (e:= .u8) (Qa rfl) rfl hx32 rfl ZA rfl rfl)<|lgy rfl rfl (QG (Qa rfl) (QW 43 rfl) rfl) ?_
       refine w_ ?_
       cases hb33:(decide (u=43))
       ·have hb33':=of_decide_eq_false hb33
        iterate 3 refine w_ ?_
        refine lgy rfl rfl (Qq (e:= .u8) (Qa rfl) rfl (Qa rfl) Zc ZA rfl (by omega) (by first | omega | (simp only[List.length_set]; omega)))<|lgy rfl rfl (Q7 (e:= .u8) (Qa rfl) rfl hx32 rfl ZA rfl rfl)<|lgy rfl rfl (QG (Qa rfl) (QW 45 rfl) rfl) ?_
        iterate 3 refine w_ ?_
        cases hb34:(decide (u=45))
        ·have hb34':=of_decide_eq_false hb34
         iterate 7 refine w_ ?_
         refine AC.skip ?_
         refine (?_:AC _ _ _ _ _)
         iterate 3 refine w_ ?_
         refine Qj<|QS ⟨i+1,by omega,rfl,rfl⟩ (by omega) ?_
         exact Wk.of [(0,0),(3,3),(8,8)] rfl ⟨rfl,rfl,rfl,rfl,rfl,rfl,rfl,rfl,rfl,rfl,rfl,rfl,trivial⟩ ⟨rfl,rfl,(Qv (by first | exact Qax hx28 huu (by first | exact .inl (by assumption) | exact .inr (by assumption)) (hbi.symm.trans (by assumption)) (Qk4 (by assumption)) | exact Wv hx28 (Vu (fun h=>absurd ((hbi.symm.trans (by assumption:bi=false)).symm.trans h) (by decide))) | exact Wv hx28 (Uy huu (QdH (by assumption) (by assumption))) | exact Wv hx28 (WZ (Qkt (by assumption))))),trivial⟩ rfl rfl
        ·have hb34':=of_decide_eq_true hb34
         iterate 2 refine w_ ?_
         refine lgy rfl rfl (Zl (WE ar (Ql c p r)) JJ ⟨_,_,rfl,(Ev.b (Qb rfl)),⟨_,_,rfl,(X2 (Qa rfl) rfl),rfl⟩⟩ rfl rfl rfl) ?_
         iterate 3 refine w_ ?_
         cases hb35:(decide ((if¬ar.1∈(Ql c p r)∧ar.2.2.2∈(Ql c p r) then 1 else if ar.1∈(Ql c p r)∧¬ar.2.2.2∈(Ql c p r) then 2 else (0:Int))=0))
         ·have hb35':=of_decide_eq_false hb35
          refine w_ ?_
          refine AC.skip ?_
          refine (?_:AC _ _ _ _ _)
          iterate 3 refine w_ ?_
          refine Qj<|QS ⟨i+1,by omega,rfl,rfl⟩ (by omega) ?_
          exact Wk.of [(0,0),(3,3),(8,8)] rfl ⟨rfl,rfl,rfl,rfl,rfl,rfl,rfl,rfl,rfl,rfl,rfl,rfl,trivial⟩ ⟨rfl,rfl,(Qv (by first | exact Qax hx28 huu (by first | exact .inl (by assumption) | exact .inr (by assumption)) (hbi.symm.trans (by assumption)) (Qk4 (by assumption)) | exact Wv hx28 (Vu (fun h=>absurd ((hbi.symm.trans (by assumption:bi=false)).symm.trans h) (by decide))) | exact Wv hx28 (Uy huu (QdH (by assumption) (by assumption))) | exact Wv hx28 (WZ (Qkt (by assumption))))),trivial⟩ rfl rfl
         ·have hb35':=of_decide_eq_true hb35
          refine w_ ?_
          obtain ⟨x36,hx37⟩:∃z,((c.2.2.take i).foldl (Z6 c (Ql c p r)) (Zb (ZD c (Ql c p r)) j (ZR c (Ql c p r))))[(ar.2.2.2).toNat]? =some z:=⟨_,List.getElem?_eq_getElem (by omega)⟩
          have hux36:=hx37
          refine dv [io 110 (lR 8),io 111 (lP 9 3),io 112 (lI ar.2.2.2),io 113 (lR 8),io 114 (lP 9 0),io 115 (lI ar.1),io 116 (lf (.ept 8 1 ((ar.1).toNat) 0)),io 117 (lf (.dat .u8 u)),io 118 (lf (.ept 8 1 ((ar.2.2.2).toNat) 0)),⟨none,lf (.val undef),[(8,some (.arr 5 .u8 (((c.2.2.take i).foldl (Z6 c (Ql c p r)) (Zb (ZD c (Ql c p r)) j (ZR c (Ql c p r)))).set ((ar.2.2.2).toNat) u)))]⟩] [0,0,2,0,0,16,56,120,255,511] mixed rfl (by kernel_rfl) ⟨dxm rfl rfl,dxf Zg rfl rfl rfl,dxl QD rfl rfl rfl rfl rfl,dxm rfl rfl,dxf Zr rfl rfl rfl,dxl QD rfl rfl rfl rfl rfl,fun _ h_=>ac (Qq (e:= .u8) (h_.v rfl) (h_.en 8 rfl) (h_.v rfl) Zc ZA rfl (by omega) (by first | omega | (simp only[List.length_set]; omega))) rfl,fun _ h_=>ac (Q7 (e:= .u8) (h_.v rfl) (h_.n 8 rfl) hx32 rfl ZA rfl rfl) rfl,fun _ h_=>ac (Qq (e:= .u8) (h_.v rfl) (h_.en 8 rfl) (h_.v rfl) Zc ZA rfl (by omega) (by first | omega | (simp only[List.length_set]; omega))) rfl,fun _ h_=>ac (Q5 (e:= .u8) (z':=u) (h_.v rfl) (h_.n 8 rfl) hx37 rfl (h_.w rfl) rfl ZA rfl rfl) rfl,⟨⟩⟩ ?_
          refine (?_:AC _ _ _ _ _)
          iterate 3 refine w_ ?_
          refine Qj<|QS ⟨i+1,by omega,rfl,rfl⟩ (by omega) ?_
          exact Wk.of [(0,0),(3,3),(8,8)] rfl ⟨rfl,rfl,rfl,rfl,rfl,rfl,rfl,rfl,rfl,rfl,rfl,rfl,trivial⟩ ⟨rfl,rfl,(Qv (by first | exact Qax hx28 huu (by first | exact .inl (by assumption) | exact .inr (by assumption)) (hbi.symm.trans (by assumption)) (Qk4 (by assumption)) | exact Wv hx28 (Vu (fun h=>absurd ((hbi.symm.trans (by assumption:bi=false)).symm.trans h) (by decide))) | exact Wv hx28 (Uy huu (QdH (by assumption) (by assumption))) | exact Wv hx28 (WZ (Qkt (by assumption))))),trivial⟩ rfl rfl
       ·have hb33':=of_decide_eq_true hb33
        iterate 11 refine w_ ?_
        refine lgy rfl rfl (Zl (WE ar (Ql c p r)) JJ ⟨_,_,rfl,(Ev.b (Qb rfl)),⟨_,_,rfl,(X2 (Qa rfl) rfl),rfl⟩⟩ rfl rfl rfl) ?_
        iterate 3 refine w_ ?_
        cases hb38:(decide ((if¬ar.1∈(Ql c p r)∧ar.2.2.2∈(Ql c p r) then 1 else if ar.1∈(Ql c p r)∧¬ar.2.2.2∈(Ql c p r) then 2 else (0:Int))=0))
        ·have hb38':=of_decide_eq_false hb38
         refine w_ ?_
         refine AC.skip ?_
         refine (?_:AC _ _ _ _ _)
         iterate 3 refine w_ ?_
         refine Qj<|QS ⟨i+1,by omega,rfl,rfl⟩ (by omega) ?_
         exact Wk.of [(0,0),(3,3),(8,8)] rfl ⟨rfl,rfl,rfl,rfl,rfl,rfl,rfl,rfl,rfl,rfl,rfl,rfl,trivial⟩ ⟨rfl,rfl,(Qv (by first | exact Qax hx28 huu (by first | exact .inl (by assumption) | exact .inr (by assumption)) (hbi.symm.trans (by assumption)) (Qk4 (by assumption)) | exact Wv hx28 (Vu (fun h=>absurd ((hbi.symm.trans (by assumption:bi=false)).symm.trans h) (by decide))) | exact Wv hx28 (Uy huu (QdH (by assumption) (by assumption))) | exact Wv hx28 (WZ (Qkt (by assumption))))),trivial⟩ rfl rfl
        ·have hb38':=of_decide_eq_true hb38
         refine w_ ?_
         obtain ⟨x39,hx40⟩:∃z,((c.2.2.take i).foldl (Z6 c (Ql c p r)) (Zb (ZD c (Ql c p r)) j (ZR c (Ql c p r))))[(ar.2.2.2).toNat]? =some z:=⟨_,List.getElem?_eq_getElem (by omega)⟩
         have hux39:=hx40
         refine dv [io 110 (lR 8),io 111 (lP 9 3),io 112 (lI ar.2.2.2),io 113 (lR 8),io 114 (lP 9 0),io 115 (lI ar.1),io 116 (lf (.ept 8 1 ((ar.1).toNat) 0)),io 117 (lf (.dat .u8 u)),io 118 (lf (.ept 8 1 ((ar.2.2.2).toNat) 0)),⟨none,lf (.val undef),[(8,some (.arr 5 .u8 (((c.2.2.take i).foldl (Z6 c (Ql c p r)) (Zb (ZD c (Ql c p r)) j (ZR c (Ql c p r)))).set ((ar.2.2.2).toNat) u)))]⟩] [0,0,2,0,0,16,56,120,255,511] mixed rfl (by kernel_rfl) ⟨dxm rfl rfl,dxf Zg rfl rfl rfl,dxl QD rfl rfl rfl rfl rfl,dxm rfl rfl,dxf Zr rfl rfl rfl,dxl QD rfl rfl rfl rfl rfl,fun _ h_=>ac (Qq (e:= .u8) (h_.v rfl) (h_.en 8 rfl) (h_.v rfl) Zc ZA rfl (by omega) (by first | omega | (simp only[List.length_set]; omega))) rfl,fun _ h_=>ac (Q7 (e:= .u8) (h_.v rfl) (h_.n 8 rfl) hx32 rfl ZA rfl rfl) rfl,fun _ h_=>ac (Qq (e:= .u8) (h_.v rfl) (h_.en 8 rfl) (h_.v rfl) Zc ZA rfl (by omega) (by first | omega | (simp only[List.length_set]; omega))) rfl,fun _ h_=>ac (Q5 (e:= .u8) (z':=u) (h_.v rfl) (h_.n 8 rfl) hx40 rfl (h_.w rfl) rfl ZA rfl rfl) rfl,⟨⟩⟩ ?_
         refine (?_:AC _ _ _ _ _)
         iterate 3 refine w_ ?_
         refine Qj<|QS ⟨i+1,by omega,rfl,rfl⟩ (by omega) ?_
         exact Wk.of [(0,0),(3,3),(8,8)] rfl ⟨rfl,rfl,rfl,rfl,rfl,rfl,rfl,rfl,rfl,rfl,rfl,rfl,trivial⟩ ⟨rfl,rfl,(Qv (by first | exact Qax hx28 huu (by first | exact .inl (by assumption) | exact .inr (by assumption)) (hbi.symm.trans (by assumption)) (Qk4 (by assumption)) | exact Wv hx28 (Vu (fun h=>absurd ((hbi.symm.trans (by assumption:bi=false)).symm.trans h) (by decide))) | exact Wv hx28 (Uy huu (QdH (by assumption) (by assumption))) | exact Wv hx28 (WZ (Qkt (by assumption))))),trivial⟩ rfl rfl
     ·iterate 3 refine w_ ?_
      refine AL.fact (Qs (x:= .tmp 75) (Qa rfl)) fun hi41=> ?_
      iterate 2 refine w_ ?_
      cases hb42:(decide (ar.2.1 < 0))
      ·have hb42':=of_decide_eq_false hb42
       iterate 4 refine w_ ?_
       obtain ⟨sx,hx44⟩:∃z,c.1[(ar.2.1).toNat]? =some z:=⟨_,List.getElem?_eq_getElem (by omega)⟩
       have hsx:=hx44
       refine lgy rfl rfl (Qm (Qa rfl) (Qa rfl) Yh Yj rfl (by omega) hx44) ?_
       iterate 6 refine w_ ?_
       refine VI (J29 _ ⟨(decide (sx.2=1)),(by exact Qpq (by assumption) hsx),rfl⟩) ?_
       exact Wk.of [(0,0),(3,3),(8,8),(9,9)] rfl ⟨rfl,rfl,rfl,rfl,rfl,rfl,rfl,rfl,rfl,rfl,rfl,rfl,rfl,rfl,rfl,rfl,rfl,trivial⟩ ⟨rfl,rfl,rfl,rfl,trivial⟩ rfl rfl
      ·have hb42':=of_decide_eq_true hb42
       iterate 11 refine w_ ?_
       refine VI (J29 _ ⟨true,(by exact Qpi (by assumption)),rfl⟩) ?_
       exact Wk.of [(0,0),(3,3),(8,8),(9,9)] rfl ⟨rfl,rfl,rfl,rfl,rfl,rfl,rfl,rfl,rfl,rfl,rfl,rfl,rfl,rfl,rfl,rfl,rfl,trivial⟩ ⟨rfl,rfl,rfl,rfl,trivial⟩ rfl rfl
  ·have hb10':=of_decide_eq_true hb10
   iterate 5 refine w_ ?_
   obtain ⟨ar,hx46⟩:∃z,c.2.2[k]? =some z:=⟨_,List.getElem?_eq_getElem (by omega)⟩
   have hain:=hr _ (List.mem_of_getElem? hx46)
   obtain ⟨⟨ha1,ha2⟩,ha3,ha4⟩:=hain
   have hlab:=(hs.arcs _ (List.mem_of_getElem? hx46)).2.2.1
   have hslt:ar.2.1 < (c.1.length:Int):=VK hlab
   refine lc (Qm (Qa rfl) (Qa rfl) Q9 QJ rfl (by omega) hx46) ?_
   refine w_ ?_
   refine lc (Qw 10 (.pr .int (.pr .int (.pr .bool .int))) Zq rfl rfl (Fresh.of rfl) (nlr rfl))<|lc (Qf (Qa rfl) rfl (Qb rfl) rfl QJ rfl) ?_
   iterate 4 refine w_ ?_
   refine lc (Zl (WE ar (Ql c p r)) JJ ⟨_,_,rfl,(Ev.b (Qb rfl)),⟨_,_,rfl,(X2 (Qa rfl) rfl),rfl⟩⟩ rfl rfl rfl) ?_
   iterate 6 refine w_ ?_
   cases hb47:(decide ((if¬ar.1∈(Ql c p r)∧ar.2.2.2∈(Ql c p r) then 1 else if ar.1∈(Ql c p r)∧¬ar.2.2.2∈(Ql c p r) then 2 else (0:Int))=1))
   ·have hb47':=of_decide_eq_false hb47
    iterate 5 refine w_ ?_
    cases hb48:(decide ((if¬ar.1∈(Ql c p r)∧ar.2.2.2∈(Ql c p r) then 1 else if ar.1∈(Ql c p r)∧¬ar.2.2.2∈(Ql c p r) then 2 else (0:Int))=2))
    ·have hb48':=of_decide_eq_false hb48
     refine w_ ?_
     refine AC.skip ?_
     refine (?_:AC _ _ _ _ _)
     iterate 3 refine w_ ?_
     refine Qj<|QS ⟨k+1,by omega,rfl,rfl⟩ (by omega) ?_
     exact Wk.of [(0,0),(3,3),(6,6)] rfl ⟨rfl,rfl,rfl,rfl,rfl,rfl,rfl,rfl,trivial⟩ ⟨rfl,rfl,(Qv (by first | exact QeC hx46 (by assumption) | exact QeK hx46 (by assumption) | exact Hz hx46 (Qpa (by assumption) (by assumption)))),trivial⟩ rfl rfl
    ·have hb48':=of_decide_eq_true hb48
     iterate 5 refine w_ ?_
     refine AL.fact (Qs (x:= .tmp 59) (Qa rfl)) fun hi49=>lc (Qq (e:= .u8) (Qa rfl) rfl (Qa rfl) Zc ZA rfl (by omega) (by first | omega | (simp only[List.length_set]; omega))) ?_
     obtain ⟨x50,hx51⟩:∃z,((c.2.2.take k).foldl (Yo (Ql c p r)) (sg0 c.2.1.length (Ql c p r)))[(ar.2.2.2).toNat]? =some z:=⟨_,List.getElem?_eq_getElem (by omega)⟩
     refine lc (Q5 (e:= .u8) (z':=45) (Qa rfl) rfl hx51 rfl (Evl.ev (QW 45 rfl)) rfl ZA rfl rfl)<|Qj ?_
     refine (?_:AC _ _ _ _ _)
     iterate 3 refine w_ ?_
     refine Qj<|QS ⟨k+1,by omega,rfl,rfl⟩ (by omega) ?_
     exact Wk.of [(0,0),(3,3),(6,6)] rfl ⟨rfl,rfl,rfl,rfl,rfl,rfl,rfl,rfl,trivial⟩ ⟨rfl,rfl,(Qv (by first | exact QeC hx46 (by assumption) | exact QeK hx46 (by assumption) | exact Hz hx46 (Qpa (by assumption) (by assumption)))),trivial⟩ rfl rfl
   ·have hb47':=of_decide_eq_true hb47
    iterate 5 refine w_ ?_
    refine AL.fact (Qs (x:= .tmp 53) (Qa rfl)) fun hi52=>lc (Qq (e:= .u8) (Qa rfl) rfl (Qa rfl) Zc ZA rfl (by omega) (by first | omega | (simp only[List.length_set]; omega))) ?_
    obtain ⟨x53,hx54⟩:∃z,((c.2.2.take k).foldl (Yo (Ql c p r)) (sg0 c.2.1.length (Ql c p r)))[(ar.2.2.2).toNat]? =some z:=⟨_,List.getElem?_eq_getElem (by omega)⟩
    refine lc (Q5 (e:= .u8) (z':=43) (Qa rfl) rfl hx54 rfl (Evl.ev (QW 43 rfl)) rfl ZA rfl rfl)<|Qj ?_
    refine (?_:AC _ _ _ _ _)
    iterate 3 refine w_ ?_
    refine Qj<|QS ⟨k+1,by omega,rfl,rfl⟩ (by omega) ?_
    exact Wk.of [(0,0),(3,3),(6,6)] rfl ⟨rfl,rfl,rfl,rfl,rfl,rfl,rfl,rfl,trivial⟩ ⟨rfl,rfl,(Qv (by first | exact QeC hx46 (by assumption) | exact QeK hx46 (by assumption) | exact Hz hx46 (Qpa (by assumption) (by assumption)))),trivial⟩ rfl rfl
 ·have hb6':=of_decide_eq_true hb6
  iterate 11 refine w_ ?_
  refine lc (Qq (e:= .u8) (Qa rfl) rfl (Qa rfl) Zc ZA rfl (by omega) (by first | omega | (simp only[List.length_set]; omega))) ?_
  obtain ⟨x55,hx56⟩:∃z,(sgF c.2.1.length (Ql c p r) k)[k]? =some z:=⟨_,List.getElem?_eq_getElem (by omega)⟩
  refine lc (Q5 (e:= .u8) (z':=48) (Qa rfl) rfl hx56 rfl (Evl.ev (QW 48 rfl)) rfl ZA rfl rfl) ?_
  iterate 4 refine w_ ?_
  refine lc (Zl (Yn (Ql c p r) (k:Int)) Y9 ⟨_,_,rfl,(X2 (Qa rfl) rfl),⟨_,_,rfl,(Ev.b (Qb rfl)),rfl⟩⟩ rfl rfl rfl) ?_
  refine w_ ?_
  cases hb57:(decide ((k:Int)∈(Ql c p r)))
  ·have hb57':=of_decide_eq_false hb57
   refine w_ ?_
   refine AC.skip ?_
   refine (?_:AC _ _ _ _ _)
   iterate 3 refine w_ ?_
   refine Qj<|QS ⟨k+1,by omega,rfl,rfl⟩ (by omega) ?_
   exact Wk.of [(0,0),(3,3),(5,5)] rfl ⟨rfl,rfl,rfl,rfl,rfl,rfl,rfl,trivial⟩ ⟨rfl,rfl,(Qv (by first | exact QjX (by omega) (by assumption) | exact QlA (by omega) (by assumption))),trivial⟩ rfl rfl
  ·have hb57':=of_decide_eq_true hb57
   iterate 4 refine w_ ?_
   refine lc (Qq (e:= .u8) (Qa rfl) rfl (Qa rfl) Zc ZA rfl (by omega) (by first | omega | (simp only[List.length_set]; omega))) ?_
   refine lc (Q5 (e:= .u8) (z':=49) (Qa rfl) rfl (List.getElem?_set_self (by first | omega | (simp only[List.length_set]; omega))) rfl (Evl.ev (QW 49 rfl)) rfl ZA rfl rfl) ?_
   refine Qj ?_
   refine (?_:AC _ _ _ _ _)
   iterate 3 refine w_ ?_
   refine Qj<|QS ⟨k+1,by omega,rfl,rfl⟩ (by omega) ?_
   exact Wk.of [(0,0),(3,3),(5,5)] rfl ⟨rfl,rfl,rfl,rfl,rfl,rfl,rfl,trivial⟩ ⟨rfl,rfl,(Qv (by first | exact QjX (by omega) (by assumption) | exact QlA (by omega) (by assumption))),trivial⟩ rfl rfl
theorem KG (c:(List (ByteArray×Int))×List ByteArray×(List (Int×Int×Bool×Int)))(p:Int×Bool)(r:Int×Bool)(hs:SgOk c):FC Tryz.prog 132 [(true,[.dat (.sl 145 (.pr .str .int)) c.1, .dat (.sl 9 .str) c.2.1, .dat (.sl 179 (.pr .int (.pr .int (.pr .bool .int)))) c.2.2]),(true,[dI p.1,dB p.2]),(true,[dI r.1,dB r.2])] [] 0 (Zy (PV.tup [(false,[dS (ZV c p r)]),(false,[dB (okB c p r)])])):=by
 have hr:∀a∈c.2.2,InR c.2.1.length a:=fun a ha=>XG (hs.arcs a ha)
 have hrl:(List.replicate c.2.1.length (Ty.zero .u8)).length=c.2.1.length:=List.length_replicate ..
 have hn3:=hs.some_
 have hfw:=hs.few
 have hbs:=QcJ (p:=p) (r:=r) hr
 refine QQ Tryz.func132 rfl rfl Tryz.ntmps132 fun O_ hO w0_ N0_ X_ h0_ f0_=> ?_
 refine AC.fact (Q3 (x:= .tmp 1) (i:=0) (Qb rfl) rfl) fun hi1=>AC.fact (Q3 (x:= .tmp 2) (i:=0) (Qb rfl) rfl) fun hi2=> ?_
 refine w_ ?_
 refine lc (Qr 0 (Qb rfl) rfl rfl (Fresh.of rfl) (nlr rfl))<|lc (Qr 1 (Qb rfl) rfl rfl (Fresh.of rfl) (nlr rfl))<|lc (Qr 2 (Qb rfl) rfl rfl (Fresh.of rfl) (nlr rfl)) ?_
 iterate 7 refine w_ ?_
 refine lc (Y7 3 (QaE c p r hr (by omega)) Qip ⟨_,_,rfl,(Qb rfl),⟨_,_,rfl,(Qb rfl),⟨_,_,rfl,(Qb rfl),rfl⟩⟩⟩ rfl (Fresh.of rfl) (nlr rfl)) ?_
 iterate 5 refine w_ ?_
 refine lc (Zl (JI c (Ql c p r) hs) Qhw ⟨_,_,rfl,(Ev.b (Qb rfl)),⟨_,_,rfl,(X2 (Qa rfl) rfl),rfl⟩⟩ rfl rfl rfl) ?_
 iterate 8 refine w_ ?_
 refine AL.fact (QB (x:= .tmp 20) (Qa rfl)) fun hl3=> ?_
 iterate 2 refine w_ ?_
 refine lc (Qh (ZP ((Ql c p r).length:Int) 1 ((c.2.1.length:Int) - 1)) YO ⟨_,_,rfl,(Qb rfl),⟨_,_,rfl,(Evl.ev (QE rfl)),⟨_,_,rfl,(Qb rfl),rfl⟩⟩⟩ rfl rfl) ?_
 iterate 2 refine w_ ?_
 cases hb4:(decide (1≤((Ql c p r).length:Int)∧((Ql c p r).length:Int)≤((c.2.1.length:Int) - 1)))
 ·have hb4':=of_decide_eq_false hb4
  iterate 11 refine w_ ?_
  refine Qe ?_
  subst hO
  have e5:((⟨#[]⟩:ByteArray):ByteArray)=(ZV c p r):=by
   exact Qg0 (Qoo (by assumption))
  have e6:(false:Bool)=(okB c p r):=by
   exact (Qoo (by assumption)).symm
  exact Qg (Z8 rfl (Qc rfl) (Qc rfl)) (((congrArg (fun z_=>PV.tup [(false,[dS z_]),(false,[dB false])]) e5)).trans (congrArg (fun z_=>PV.tup [(false,[dS (ZV c p r)]),(false,[dB z_])]) e6)) rfl
 ·have hb4':=of_decide_eq_true hb4
  iterate 2 refine w_ ?_
  refine lgy rfl rfl (Qh (Vd c (Ym c (Ql c p r)) (QaN (block:=Ql c p r) hs)) Qcl ⟨_,_,rfl,(Qb rfl),⟨_,_,rfl,(Qb rfl),rfl⟩⟩ rfl rfl) ?_
  iterate 3 refine w_ ?_
  cases hb7:(Xx c (Ym c (Ql c p r)))
  ·iterate 5 refine w_ ?_
   refine Qe ?_
   subst hO
   have e8:((⟨#[]⟩:ByteArray):ByteArray)=(ZV c p r):=by
    exact Qg0 (Qmg (by assumption))
   have e9:(false:Bool)=(okB c p r):=by
    exact (Qmg (by assumption)).symm
   exact Qg (Z8 rfl (Qc rfl) (Qc rfl)) (((congrArg (fun z_=>PV.tup [(false,[dS z_]),(false,[dB false])]) e8)).trans (congrArg (fun z_=>PV.tup [(false,[dS (ZV c p r)]),(false,[dB z_])]) e9)) rfl
  ·iterate 7 refine w_ ?_
   refine Qe ?_
   subst hO
   have e10:(Ym c (Ql c p r):ByteArray)=(ZV c p r):=by
    exact QdL (Qoj (by assumption) (by assumption))
   have e11:(true:Bool)=(okB c p r):=by
    exact (Qoj (by assumption) (by assumption)).symm
   exact Qg (Z8 rfl (Qc rfl) (Qc rfl)) (((congrArg (fun z_=>PV.tup [(false,[dS z_]),(false,[dB true])]) e10)).trans (congrArg (fun z_=>PV.tup [(false,[dS (ZV c p r)]),(false,[dB z_])]) e11)) rfl
end Go.Proofs.YtnakmhfjafecpaaGreat
