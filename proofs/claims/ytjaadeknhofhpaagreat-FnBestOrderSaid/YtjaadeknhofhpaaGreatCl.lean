/- Walks over abstract states: the orders that may be put in, the program. -/
import Derived.Test.YtjaadeknhofhpaaGreatCi
import Derived.Test.YtjaadeknhofhpaaGreatWj
import Derived.Test.YtjaadeknhofhpaaGreatCa
set_option linter.unusedSimpArgs false
set_option linter.unusedVariables false
set_option linter.unusedSectionVars false
namespace Go.Proofs.YtjaadeknhofhpaaGreat
open Go.RowKit
set_option maxRecDepth 100000
set_option maxHeartbeats 4000000
section
variable [∀s,Decidable (StgOk s)]{s:QX}{l:List (List Int)}{p:List Int}{k i m:Nat}{a b:Int}
def Qd6 (s:QX)(l:List (List Int)):List Qq:=l.flatMap fun p=>VG s ((p[0]?).getD 0) ((p[1]?).getD 0) [false,true]
theorem Qbh (s:QX):(Zq s).length≤200000:=by
  cases h:(Qe s).2 with
  | false=>rw[← Qil h]; exact aw _
  | true=>
    have h1:=QlM (lt:=ltP) (Yl s.1 (Qe s).1.1)
    have h2:=Qcc (k:=(Qe s).1.1.length) h
    rw[br] at h2
    exact b5 h1 h2
theorem Qcd:∀x∈Zq s,∃t u:Int,x=[t,u]∧t < u∧0≤t∧u < (s.1.2.length:Int):=fun x hx=>QiU ((KW Qfc _).1 hx)
theorem Qp0 {as_:List (List Int)}(hx:l[k]? =some p)(h0:p[0]? =some a)(h1:p[1]? =some b):(as_++(l.take k).map swp)++[[b,a]]=as_++(l.take (k+1)).map swp:=by
  rw[Q0 hx,bA,aI]; simp[swp,h0,h1]
theorem Qdx (h:p∈Yn (Zq s++((Zq s).take k).map swp)):∃t u:Int,p=[t,u]∧0≤t∧t < (s.1.2.length:Int)∧0≤u∧u < (s.1.2.length:Int):=by
  rcases aJ.1 ((XY _).mem_iff.1 h) with h | h
  · obtain ⟨t,u,rfl,h1,h2,h3⟩:=Qcd p h; exact ⟨t,u,rfl,by omega,by omega,by omega,by omega⟩
  · obtain ⟨q, hq, rfl⟩ := bM.1 h
    obtain ⟨t,u,rfl,h1,h2,h3⟩:=Qcd q (List.mem_of_mem_take hq); exact ⟨u,t,rfl,by omega,by omega,by omega,by omega⟩
theorem Qnm (hx:l[i]? =some p){ms:List Bool}(hm:ms.length≤m)(h2:ms=[false,true]):Qd6 s (l.take i)++VG s ((p[0]?).getD 0) ((p[1]?).getD 0) (ms.take m)=Qd6 s (l.take (i+1)):=by
  rw[aH hm,h2]; unfold Qd6; rw[Q0 hx,c8]; simp
theorem QiO:∀l:List (List Int),(Qd6 s l).length≤2*l.length
  | []=>aL _
  | p :: l=>by
    have h1:=QiO l
    have h2:=Qa8 (s:=s) (a:=(p[0]?).getD 0) (b:=(p[1]?).getD 0) (ms:=[false,true])
    unfold Qd6 at*
    rw[c7,aa,ah]
    simp only[ah,aj] at h2
    omega
theorem Qk1 {ms:List Bool}(h2:ms.length≤2):(Qd6 s ((Yn (Zq s++((Zq s).take k).map swp)).take i)++VG s a b ms).length≤900000:=by
  have h1:=QiO (s:=s) ((Yn (Zq s++((Zq s).take k).map swp)).take i)
  have h3:=Qa8 (s:=s) (a:=a) (b:=b) (ms:=ms)
  have h4:=(XY (Zq s++((Zq s).take k).map swp)).length_eq
  have h5:=Qbh s
  simp only[aa,av,ab] at*
  omega
theorem Qow:(Qd6 s ((Yn (Zq s++((Zq s).take k).map swp)).take i)).length≤900000:=by
  have h:=Qk1 (s:=s) (k:=k) (i:=i) (a:=0) (b:=0) (ms:=[]) (aw _)
  rw[aa] at h; omega
theorem Qdt (h:p∈Yn (Zq s++((Zq s).take k).map swp)){z:Int}(hz:z∈p):0≤z∧z < (s.1.2.length:Int):=by
  obtain ⟨t,u,rfl,h1,h2,h3,h4⟩:=Qdx h
  rcases aG.1 hz with rfl | hz
  · exact ⟨h1,h2⟩
  · rcases aG.1 hz with rfl | hz
    · exact ⟨h3,h4⟩
    · cases hz
theorem Qkm (h:p∈Yn (Zq s++((Zq s).take k).map swp)):p.length=2:=by
  obtain ⟨t,u,rfl,_⟩:=Qdx h; rfl
theorem QmA (h:p∈Zq s):p.length=2:=by
  obtain ⟨t,u,rfl,_⟩:=Qcd p h; rfl
theorem QbD {A:List Qq}{ms:List Bool}{g:Bool}(h0:p[0]? =some a)(h1:p[1]? =some b)(hx:ms[m]? =some g)(ho:X2 s b=true)(hg:Yg s (a,b,g)=true):
    (A++VG s ((p[0]?).getD 0) ((p[1]?).getD 0) (ms.take m))++[(a,b,g)]=A++VG s ((p[0]?).getD 0) ((p[1]?).getD 0) (ms.take (m+1)):=by
  rw[h0,h1,aI]
  exact congrArg _ (Qh4 hx (by show (X2 s b&&Yg s (a,b,g))=true; rw[ho,hg]; rfl))
theorem UG {A:List Qq}{ms:List Bool}{g:Bool}(h1:p[1]? =some b)(hx:ms[m]? =some g)(ho:X2 s b=false):
    A++VG s ((p[0]?).getD 0) ((p[1]?).getD 0) (ms.take m)=A++VG s ((p[0]?).getD 0) ((p[1]?).getD 0) (ms.take (m+1)):=by
  rw[h1]
  exact congrArg _ (QhD hx (by show (X2 s b&&_)=false; rw[ho]; rfl))
theorem Qc7 {A:List Qq}{ms:List Bool}{g:Bool}(h0:p[0]? =some a)(h1:p[1]? =some b)(hx:ms[m]? =some g)(hg:Yg s (a,b,g)=false):
    A++VG s ((p[0]?).getD 0) ((p[1]?).getD 0) (ms.take m)=A++VG s ((p[0]?).getD 0) ((p[1]?).getD 0) (ms.take (m+1)):=by
  rw[h0,h1]
  exact congrArg _ (QhD hx (by show (_&&Yg s (a,b,g))=false; rw[hg]; simp))
theorem HH {l:Int×Bool}(hx:s.2.2.1[b.toNat]? =some l)(h:¬0≤l.1):X2 s b=false:=by unfold X2; rw[hx]; simp; intro h2; omega
theorem Hr {l:Int×Bool}{g:Q9}(hx:s.2.2.1[b.toNat]? =some l)(hg:s.2.1[(l.1).toNat]? =some g)(h:g.2=1):X2 s b=false:=by unfold X2; rw[hx]; simp[hg,h]
theorem Qc9 {l:Int×Bool}{g:Q9}(hx:s.2.2.1[b.toNat]? =some l)(h0:0≤l.1)(hg:s.2.1[(l.1).toNat]? =some g)(h:¬g.2=1):X2 s b=true:=by unfold X2; rw[hx]; simp[hg,h,h0]
theorem QnA (hk:(Zq s).length≤k)(hi:(Yn (Zq s++((Zq s).take k).map swp)).length≤i):Qd6 s ((Yn (Zq s++((Zq s).take k).map swp)).take i)=YX s:=by
  rw[aH hi,aH hk,Qid]; rfl
end
theorem XB (s:(Int×(List (List Int×List Int)))×(List (ByteArray×Int))×(List (Int×Bool))×ByteArray)[∀s,Decidable (StgOk s)](hz:Ty.tot ZC s≤2000000):FC Tryz.prog 36 [(true,[dI s.1.1, .dat QZ s.1.2, .dat QJ s.2.1, .dat QR s.2.2.1,dS s.2.2.2])] [] 0 (Is (PV.tup [(false,[.ref 0]),(false,[dB ((sgV s).2)])]) [(0,some (.arr 32 ZH (ZP s)))]):=by
 refine QO Tryz.func36 rfl rfl Tryz.ntmps36 fun O_ hO w0_ N0_ X_ h0_ f0_=> ?_
 refine AC.fact (QI (x:= .tmp 0) (i:=0) (Qb rfl) rfl) fun hi1=> ?_
 refine w_ ?_
 refine lc (Qy 0 (Qb rfl) rfl rfl (Fresh.of rfl) (nlr rfl)) ?_
 iterate 6 refine w_ ?_
 refine lc (Ql (Xc s).frozenG Qar ⟨_,_,rfl,(Qb rfl),rfl⟩ rfl rfl) ?_
 iterate 3 refine w_ ?_
 refine lc (Qj 1 QgX U5 rfl rfl (Fresh.of rfl) (nlr rfl))<|lc (Qc (Qa rfl) rfl (Qb rfl) rfl Yh rfl) ?_
 iterate 6 refine w_ ?_
 cases hb2:((sgV s).2)
 iterate 5 refine w_ ?_
 refine AC.wk (Wk.nilS 2 2 32 ZH rfl (Fresh.of rfl) (nlr rfl))<|Q4 ?_
 subst hO
 have e3:(false:Bool)=((sgV s).2):=by
  simp_all
 exact QD _ _ [(0,2)] (QB rfl (Qd rfl) (Qd rfl)) (by rw[← e3] <;> rfl) ⟨(Qp (by exact Qdo ‹_›)),trivial⟩ rfl rfl
 iterate 4 refine w_ ?_
 refine lc (Q8 3 (Qan s) QjW ⟨_,_,rfl,(Qb rfl),rfl⟩ rfl rfl ⟨Fresh.of rfl,trivial⟩ (nlr rfl)) ?_
 iterate 7 refine w_ ?_
 refine YY ?_
 have hsv:(sgV s).2=true:=by assumption
 obtain ⟨hsg,_⟩:=ZX (QbJ hsv)
 have hsl:=hsg.len
 have hlb:∀l∈s.2.2.1,l.1 < (s.2.1.length:Int):=fun l hl=>by rcases hsg.labs l hl with h | h <;> omega
 refine AC.wk (Wk.toFz (q:=3) rfl) ?_
 iterate 2 refine w_ ?_
 refine lc (QK 4 [(0,3)] (Ka (Zq s) (by have:=Qbh s; omega)) QkM ⟨_,_,rfl,(Qb rfl),rfl⟩ ⟨rfl,trivial⟩ rfl ⟨trivial,trivial⟩ (nlr rfl))<|AL.fact (Qo (x:= .tmp 30) (Qa rfl)) fun hl4=> ?_
 iterate 4 refine w_ ?_
 refine Qu (fun m_ s_=>∃(k:Nat),k≤(Zq s).length∧m_=(Zq s).length - k∧s_=⟨[(1,lP 0 0),(2,lf (.val (.slice none 0 0))),(3,lB false),(6,lR 5),(30,lf (.dat Uo (Zq s))),(31,lI ((Zq s).length:Int)),(32,lI (k:Int))],[(0,some (.box 29 [dI s.1.1, .dat QZ s.1.2, .dat QJ s.2.1, .dat QR s.2.2.1,dS s.2.2.2])),(5,some (.fz 95 Qs (Zq s++((Zq s).take k).map swp)))]⟩) ⟨0,aw _,rfl,rfl⟩ ?_ ?_
 exact wp [(0,0),(5,3)] ⟨rfl,(Qss (by simp)),trivial⟩
 rintro m_ s_ ⟨k,hk5,hm6,rfl⟩
 have hcf:=Qbh s
 have hcl:(Zq s++((Zq s).take k).map swp).length≤400000:=by simp only[aa,av,ab]; omega
 iterate 4 refine w_ ?_
 cases hb7:(decide ((k:Int) < ((Zq s).length:Int)))
 have hb7':=a7 hb7
 iterate 5 refine w_ ?_
 refine lc (QK 6 [(0,5)] (Qn0 (Zq s++((Zq s).take k).map swp) (by have:=Qbh s; simp only[aa,av,ab]; omega)) Qer ⟨_,_,rfl,(Qb rfl),⟨_,_,rfl,(Evl.ev QeW),rfl⟩⟩ ⟨rfl,trivial⟩ rfl ⟨trivial,trivial⟩ (nlr rfl)) ?_
 iterate 2 refine w_ ?_
 refine lc (Qf 7 (e:=ZH) Xn Zf Yz rfl rfl (ae.1 rfl) ⟨rfl,rfl⟩ (by decide) rfl rfl (Fresh.of rfl) (nlr rfl)) ?_
 iterate 3 refine w_ ?_
 refine YY<|AC.wk (QaM (i:=6) (q:=5) rfl rfl) ?_
 iterate 2 refine w_ ?_
 refine AL.fact (Qo (x:= .tmp 50) (Qa rfl)) fun hl8=> ?_
 iterate 4 refine w_ ?_
 refine Qu (fun m_ s_=>∃(i:Nat),i≤(Yn (Zq s++((Zq s).take k).map swp)).length∧m_=(Yn (Zq s++((Zq s).take k).map swp)).length - i∧s_=⟨[(1,lP 0 0),(2,lf (.val (.slice none 0 0))),(3,lB false),(10,lR 8),(50,lf (.dat Uo (Yn (Zq s++((Zq s).take k).map swp)))),(51,lI ((Yn (Zq s++((Zq s).take k).map swp)).length:Int)),(52,lI (i:Int))],[(0,some (.box 29 [dI s.1.1, .dat QZ s.1.2, .dat QJ s.2.1, .dat QR s.2.2.1,dS s.2.2.2])),(8,some (.arr 32 ZH (Qd6 s ((Yn (Zq s++((Zq s).take k).map swp)).take i))))]⟩) ⟨0,aw _,rfl,rfl⟩ ?_ ?_
 exact wp [(0,0),(8,7)] ⟨rfl,(Qp (by simp[Qd6])),trivial⟩
 rintro m_ s_ ⟨i,hk9,hm10,rfl⟩
 have hof:=Qow (s:=s) (k:=k) (i:=i)
 iterate 4 refine w_ ?_
 cases hb11:(decide ((i:Int) < ((Yn (Zq s++((Zq s).take k).map swp)).length:Int)))
 have hb11':=a7 hb11
 iterate 9 refine w_ ?_
 subst hO
 have e12:(true:Bool)=((sgV s).2):=by
  simp_all
 exact QD _ _ [(0,8)] (QB rfl (Qd rfl) (Qd rfl)) (by rw[← e12] <;> rfl) ⟨(Qp (by (rw[QnA (by omega) (by omega)]; exact J0 ‹_›))),trivial⟩ rfl rfl
 have hb11':=a8 hb11
 iterate 5 refine w_ ?_
 obtain ⟨pr,hx14⟩:=gx (Yn (Zq s++((Zq s).take k).map swp)) i
 have prh:=hx14
 have prl:=Qkm (ai hx14)
 refine lc (Qh (Qa rfl) (Qa rfl) Zi QU rfl (by omega) hx14) ?_
 iterate 3 refine w_ ?_
 obtain ⟨rb,hx16⟩:=gx pr 1
 have hrb:=hx16
 have hrrb:=Qdt (ai prh) (ai hx16)
 obtain ⟨lb,hx18⟩:=gx s.2.2.1 ((rb).toNat)
 have lbh:=hx18
 have lbr:=hlb _ (ai hx18)
 refine dw [io 56 (lP 0 3),io 57 (lf (.dat QR s.2.2.1)),io 58 (lf (.dat Qs pr)),io 59 (lf (.elt .int rb 0)),io 60 (lI rb),io 61 (lf (.elt Q5 lb 0)),io 62 (lf (.elt Q5 lb 0)),io 63 (lI lb.1),io 13 (lI lb.1)] [0,1,0,4,12,31,63,127,255] mixed rfl (by kernel_rfl) ⟨dxf XP rfl rfl rfl,dxl WK rfl rfl rfl rfl rfl,dxm rfl rfl,fun _ h_=>ac (Qh (h_.v rfl) (Qv rfl) QN QL rfl (by omega) hx16) rfl,fun _ h_=>ac (Q3 (h_.v rfl) QL rfl rfl) rfl,fun _ h_=>ac (Qh (h_.v rfl) (h_.v rfl) Yq ZO rfl (by omega) hx18) rfl,fun _ h_=>ac (Yp (h_.v rfl) Qi0 rfl) rfl,fun _ h_=>ac (Q3 (h_.v rfl) QL rfl rfl) rfl,dxt rfl rfl,⟨⟩⟩ ?_
 refine w_ ?_
 refine lc (Qf 9 (e:= .bool) Qdg Uj Qrc rfl ⟨_,_,rfl,(Evl.ev Xh),⟨_,_,rfl,(Evl.ev Xh),rfl⟩⟩ (ae.1 rfl) ⟨_,_,_,_,rfl,⟨rfl,rfl⟩,⟨_,_,_,_,rfl,⟨rfl,rfl⟩,⟨rfl,rfl⟩,rfl⟩,rfl⟩ (by decide) rfl rfl (Fresh.of rfl) (nlr rfl)) ?_
 iterate 4 refine w_ ?_
 refine Qu (fun m_ s_=>∃(m:Nat),m≤([false,true]).length∧m_=([false,true]).length - m∧s_=⟨[(1,lP 0 0),(2,lf (.val (.slice none 0 0))),(3,lB false),(10,lR 10),(12,lf (.dat Qs pr)),(13,lI lb.1),(50,lf (.dat Uo (Yn (Zq s++((Zq s).take k).map swp)))),(51,lI ((Yn (Zq s++((Zq s).take k).map swp)).length:Int)),(52,lI (i:Int)),(53,lB true),(54,lf (.elt Qs pr 0)),(55,lf (.dat Qs pr)),(56,lP 0 3),(57,lf (.dat QR s.2.2.1)),(58,lf (.dat Qs pr)),(59,lf (.elt .int rb 0)),(60,lI rb),(61,lf (.elt Q5 lb 0)),(62,lf (.elt Q5 lb 0)),(63,lI lb.1),(64,lR 9),(65,lI (([false,true]).length:Int)),(66,lI (m:Int))],[(0,some (.box 29 [dI s.1.1, .dat QZ s.1.2, .dat QJ s.2.1, .dat QR s.2.2.1,dS s.2.2.2])),(9,some (.arr 4 .bool ([false,true]))),(10,some (.arr 32 ZH (Qd6 s ((Yn (Zq s++((Zq s).take k).map swp)).take i)++VG s ((pr[0]?).getD 0) ((pr[1]?).getD 0) (([false,true]:List Bool).take m))))]⟩) ⟨0,aw _,rfl,rfl⟩ ?_ ?_
 exact wp [(0,0),(9,9),(10,8)] ⟨rfl,rfl,(Qp (by simp[VG])),trivial⟩
 rintro m_ s_ ⟨m,hk19,hm20,rfl⟩
 have h2l:(([false,true]:List Bool).length)=2:=rfl
 have hog:=Qk1 (s:=s) (k:=k) (i:=i) (a:=(pr[0]?).getD 0) (b:=(pr[1]?).getD 0) (ms:=([false,true]:List Bool).take m) (by simp only[ab]; omega)
 iterate 4 refine w_ ?_
 cases hb21:(decide ((m:Int) < (([false,true]).length:Int)))
 have hb21':=a7 hb21
 iterate 6 refine w_ ?_
 refine Qm<|QV ⟨i+1,by omega,rfl,rfl⟩ (by omega) ?_
 exact wp [(0,0),(8,10)] ⟨rfl,(Qp (Qnm prh (by omega) rfl)),trivial⟩
 have hb21':=a8 hb21
 iterate 5 refine w_ ?_
 refine lc (Qw (e:= .bool) (Qa rfl) rfl (Qa rfl) Qdg Uj rfl (by omega) (by first | omega | (simp only[aq]; omega))) ?_
 obtain ⟨mg,hx23⟩:=gx ([false,true]) m
 have mgh:=hx23
 refine lc (QP (e:= .bool) (Qa rfl) rfl hx23 rfl Uj rfl rfl) ?_
 iterate 2 refine w_ ?_
 obtain ⟨ra,hx25⟩:=gx pr 0
 have hra:=hx25
 have hrra:=Qdt (ai prh) (ai hx25)
 refine dw [io 70 (lf (.dat Qs pr)),io 71 (lf (.elt .int ra 0)),io 72 (lI ra),io 73 (lf (.dat Qs pr)),io 74 (lf (.elt .int rb 0)),io 75 (lI rb),io 76 (lB mg),io 77 (ag [dI ra,dI rb,dB mg]),⟨some 16,lP 11 0,[(11,some (.box 32 [dI 0,dI 0,dB false]))]⟩,⟨none,lf (.val undef),[(11,some (.box 32 [dI ra,dI rb,dB mg]))]⟩] [0,1,3,0,8,24,0,127,0,511] mixed rfl (by kernel_rfl) ⟨dxm rfl rfl,fun _ h_=>ac (Qh (h_.v rfl) (Qv rfl) QN QL rfl (by omega) hx25) rfl,fun _ h_=>ac (Q3 (h_.v rfl) QL rfl rfl) rfl,dxm rfl rfl,fun _ h_=>ac (Qh (h_.v rfl) (Qv rfl) QN QL rfl (by omega) hx16) rfl,fun _ h_=>ac (Q3 (h_.v rfl) QL rfl rfl) rfl,dxm rfl rfl,fun _ h_=>ac (QA Qds ⟨_,_,rfl,(h_.w rfl),⟨_,_,rfl,(h_.w rfl),⟨_,_,rfl,(h_.w rfl),rfl⟩⟩⟩ (ae.1 rfl) rfl rfl) rfl,fun _ h_=>ac (Qj 11 ZH Yz rfl rfl (h_.fr 11 rfl) (nlr rfl)) rfl,fun _ h_=>ac (Qc (h_.v rfl) (h_.n 11 rfl) (h_.w rfl) rfl Zf rfl) rfl,⟨⟩⟩ ?_
 iterate 4 refine w_ ?_
 cases hb26:(decide (0≤lb.1))
 have hb26':=a7 hb26
 iterate 20 refine w_ ?_
 refine Qm<|QV ⟨m+1,by omega,rfl,rfl⟩ (by omega) ?_
 exact wp [(0,0),(9,9),(10,10)] ⟨rfl,rfl,(Qp (by first | exact QbD hra hrb mgh (Qc9 lbh ‹_› sgh ‹_›) ‹_› | exact UG hrb mgh (HH lbh ‹_›) | exact UG hrb mgh (Hr lbh sgh ‹_›) | exact Qc7 hra hrb mgh ‹_›)),trivial⟩
 have hb26':=a8 hb26
 iterate 3 refine w_ ?_
 obtain ⟨sg,hx28⟩:=gx s.2.1 ((lb.1).toNat)
 have sgh:=hx28
 refine lgy rfl rfl (Qh (Qa rfl) (Qa rfl) YE YJ rfl (by omega) hx28) ?_
 iterate 5 refine w_ ?_
 cases hb29:(!decide (sg.2=1))
 have hb29':(sg.2=1):=Zm hb29
 iterate 11 refine w_ ?_
 refine Qm<|QV ⟨m+1,by omega,rfl,rfl⟩ (by omega) ?_
 exact wp [(0,0),(9,9),(10,10)] ⟨rfl,rfl,(Qp (by first | exact QbD hra hrb mgh (Qc9 lbh ‹_› sgh ‹_›) ‹_› | exact UG hrb mgh (HH lbh ‹_›) | exact UG hrb mgh (Hr lbh sgh ‹_›) | exact Qc7 hra hrb mgh ‹_›)),trivial⟩
 have hb29':¬(sg.2=1):=Zx hb29
 iterate 2 refine w_ ?_
 refine lgy rfl rfl (Ql (JT s (ra,rb,mg) hz) Qj2 ⟨_,_,rfl,(Qb rfl),⟨_,_,rfl,(Qb rfl),rfl⟩⟩ rfl rfl) ?_
 iterate 2 refine w_ ?_
 cases hb30:(Yg s (ra,rb,mg))
 iterate 6 refine w_ ?_
 refine Qm<|QV ⟨m+1,by omega,rfl,rfl⟩ (by omega) ?_
 exact wp [(0,0),(9,9),(10,10)] ⟨rfl,rfl,(Qp (by first | exact QbD hra hrb mgh (Qc9 lbh ‹_› sgh ‹_›) ‹_› | exact UG hrb mgh (HH lbh ‹_›) | exact UG hrb mgh (Hr lbh sgh ‹_›) | exact Qc7 hra hrb mgh ‹_›)),trivial⟩
 iterate 4 refine w_ ?_
 refine lc (Qf 12 (e:=ZH) Xn Zf Yz rfl ⟨_,_,rfl,(Qb rfl),rfl⟩ (ae.1 rfl) ⟨_,_,_,_,rfl,⟨[dI ra],[dI rb,dB mg],_,_,_,_,rfl,rfl,⟨rfl,rfl⟩,⟨[dI rb],[dB mg],_,_,_,_,rfl,rfl,⟨rfl,rfl⟩,⟨rfl,rfl⟩,rfl⟩,rfl⟩,⟨rfl,rfl⟩,rfl⟩ (by decide) rfl rfl (Fresh.of rfl) (nlr rfl))<|lc (QH 13 (Qa rfl) rfl (Qa rfl) rfl rfl Xn Qjr (by first | omega | (simp only[aa,av,ab,ah,aj] at*; omega)) rfl (Fresh.of rfl) (nlr rfl)) ?_
 refine w_ ?_
 refine Qm ?_
 iterate 4 refine w_ ?_
 refine Qm<|QV ⟨m+1,by omega,rfl,rfl⟩ (by omega) ?_
 exact wp [(0,0),(9,9),(10,13)] ⟨rfl,rfl,(Qp (by first | exact QbD hra hrb mgh (Qc9 lbh ‹_› sgh ‹_›) ‹_› | exact UG hrb mgh (HH lbh ‹_›) | exact UG hrb mgh (Hr lbh sgh ‹_›) | exact Qc7 hra hrb mgh ‹_›)),trivial⟩
 have hb7':=a8 hb7
 iterate 5 refine w_ ?_
 obtain ⟨p,hx32⟩:=gx (Zq s) k
 have ph:=hx32
 have pl:=QmA (ai hx32)
 refine lc (Qh (Qa rfl) (Qa rfl) Zi QU rfl (by omega) hx32) ?_
 iterate 3 refine w_ ?_
 obtain ⟨pb,hx34⟩:=gx p 1
 have hpb:=hx34
 obtain ⟨pa,hx36⟩:=gx p 0
 have hpa:=hx36
 refine dv [io 36 (lR 5),io 37 (lf (.dat Qs p)),io 38 (lf (.elt .int pb 0)),io 39 (lI pb),io 40 (lf (.dat Qs p)),io 41 (lf (.elt .int pa 0)),io 42 (lI pa),⟨some 43,lR 14,[(14,some (.arr 3 .int ([pb,pa])))]⟩,⟨some 44,lR 15,[(15,some (.arr 95 Qs ([[pb,pa]]))),(14,none)]⟩,⟨some 45,lR 16,[(16,some (.fz 95 Qs ((Zq s++((Zq s).take k).map swp)++([[pb,pa]])))),(5,none),(15,none)]⟩,io 6 (lR 16)] [0,0,2,6,0,16,48,126,254,511,1023] mixed rfl (by kernel_rfl) ⟨dxm rfl rfl,dxm rfl rfl,fun _ h_=>ac (Qh (h_.v rfl) (Qv rfl) QN QL rfl (by omega) hx34) rfl,fun _ h_=>ac (Q3 (h_.v rfl) QL rfl rfl) rfl,dxm rfl rfl,fun _ h_=>ac (Qh (h_.v rfl) (Qv rfl) QN QL rfl (by omega) hx36) rfl,fun _ h_=>ac (Q3 (h_.v rfl) QL rfl rfl) rfl,fun _ h_=>ac (Qf 14 (e:= .int) QN QL Yu rfl ⟨_,_,rfl,(h_.w rfl),⟨_,_,rfl,(h_.w rfl),rfl⟩⟩ (ae.1 rfl) ⟨_,_,_,_,rfl,⟨rfl,rfl⟩,⟨_,_,_,_,rfl,⟨rfl,rfl⟩,⟨rfl,rfl⟩,rfl⟩,rfl⟩ (by decide) rfl rfl (h_.fr 14 rfl) (nlr rfl)) rfl,fun _ h_=>ac (Qf 15 (e:=Qs) Zi QU XX rfl ⟨_,_,rfl,(h_.w rfl),rfl⟩ (ae.1 (by simp only[ZB,X7,aQ,b8]; rw[(h_.en 14 rfl)]; rfl)) ⟨_,_,_,_,rfl,(.inl ⟨_,rfl,(h_.en 14 rfl),rfl⟩),⟨rfl,rfl⟩,rfl⟩ (by decide) rfl rfl (h_.fr 15 rfl) (nlr rfl)) rfl,fun _ h_=>ac (Qfq 16 (h_.v rfl) (h_.en 5 rfl) (h_.v rfl) (h_.en 15 rfl) rfl Zi Va (by first | omega | (simp only[aa,av,ab,ah,aj] at*; omega)) rfl (h_.fr 16 rfl) (nlr rfl)) rfl,dxt rfl rfl,⟨⟩⟩ ?_
 iterate 4 refine w_ ?_
 refine Qm<|QV ⟨k+1,by omega,rfl,rfl⟩ (by omega) ?_
 exact wp [(0,0),(5,16)] ⟨rfl,(Qss (Qp0 ph hpa hpb)),trivial⟩
end Go.Proofs.YtjaadeknhofhpaaGreat
namespace Go.Proofs.YtjaadeknhofhpaaGreat
open Go.RowKit
set_option maxRecDepth 100000
set_option maxHeartbeats 4000000
theorem Qpv [∀s,Decidable (StgOk s)](s:QX):(ZP s).length≤5000:=by
  unfold ZP
  split
  · rename_i h
    have hn:=YL (QbJ h)
    have h1:=Qe6 (s:=s) (P:=Zq s) hn s.1.2.length
    show (Qav s (Zq s) s.1.2.length s.1.2.length).length≤_
    omega
  · exact aw _
end Go.Proofs.YtjaadeknhofhpaaGreat
namespace Go.Proofs.YtjaadeknhofhpaaGreat
open Go.RowKit
set_option maxRecDepth 100000
set_option maxHeartbeats 4000000
theorem Ql4 {n:Nat}{arcs:List DAr}:∀{f k:Nat} {c d:List ByteArray},goS n arcs f k c=some d→d.length=c.length
  | 0,_,c,d,h=>by rw[goS] at h; cases h; rfl
  | f+1,k,c,d,h=>by
    rw[goS] at h
    split at h
    · rw[Ql4 h,Qig]
    · cases h
theorem Qp3 (p r:Qq):Ty.beq ZH p r=decide (p=r):=by rw[bY,Ty.beq_iff,decide_eq_true_iff]
section
variable [∀s,Decidable (StgOk s)]{s:QX}{o x:Qq}{k:Nat}{l:List Qq}
theorem Qq9 (h:(sgV s).2=true):SgW (sgV s).1:=by
  unfold sgV at h ⊢
  split at h
  · rename_i h1
    rw[if_pos h1]
    obtain ⟨hs,hN1,hN2,_,hM,hL⟩:=ZX h1.1
    split at h
    · rename_i c hg
      have hl:=Ql4 hg
      rw[az] at hl
      refine ⟨hs.sigs.2.2,⟨by show 1≤c.length; omega,by show c.length≤300; omega⟩, ?_, ?_⟩
      · show (Q1 _ _).length ≤ _
        unfold Q1
        rw[av]; omega
      · intro a ha
        refine ⟨?_, ?_⟩
        · show InR c.length a
          rw[hl]; exact Um hM a ha
        · obtain ⟨v, hv, rfl⟩ := bM.1 ha
          obtain ⟨_,⟨h2,h3⟩,_⟩:=hM v hv
          obtain ⟨l,hl2⟩:∃l,s.2.2.1[v.2.1.toNat]? =some l:=⟨_,ap (by omega)⟩
          have h4:=hs.labs l (ai hl2)
          show Qm5 (s.2.1.length:Int) ((Qd7 s.2.2.1 v.2.1).1,(Qd7 s.2.2.1 v.2.1).2)
          rw[Qdm hl2]; exact h4
    · cases h
  · cases h
theorem QlV (h:Yg s o=true):Qbu s o∧(Q7 s o).1=Zb s o∧(ZA s o).1=Zb s o∧(sgV (Zb s o)).2=true:=by
  unfold Yg at h
  simp only[aF] at h
  obtain ⟨h1,h2,_⟩:=h
  have h3:Qbu s o∧(Q7 s o).1=Zb s o:=by
    unfold Q7 at h1 ⊢
    split at h1
    · rename_i g
      rw[if_pos g]
      unfold Z4 at h1 ⊢
      split at h1
      · rename_i g2; rw[if_pos g2]; exact ⟨g,rfl⟩
      · cases h1
    · cases h1
  refine ⟨h3.1,h3.2, ?_, ?_⟩
  · rw[Ur.2 (by rw[Ur.1]; exact h1),h3.2]
  · rw [h3.2] at h2
    cases hb:(sgV (Zb s o)).2 with
    | true=>rfl
    | false=>rw[QgJ hb] at h2; cases h2
theorem Qo0 {a b:Int}{ms:List Bool}(h:o∈VG s a b ms):Yg s o=true:=by
  unfold VG at h
  obtain ⟨m,hm,rfl⟩:=bM.1 h
  have:=(bX.1 hm).2
  simp only[aF] at this
  exact this.2
theorem Qit (h:o∈YX s):Yg s o=true:=by
  rw[Qid] at h
  obtain ⟨p,_,h⟩:=List.mem_flatMap.1 h
  exact Qo0 h
theorem Qgb (h:o∈ZP s):Yg s o=true:=by
  unfold ZP at h
  split at h
  · exact Qit h
  · cases h
def ocG (s:QX)(o:Qq):DSg:=(sgV (Zb s o)).1
def oc1 (s:QX)(o:Qq):Int:=((VM (ocG s o)).length:Int)
def oc2 (s:QX)(o:Qq):Int:=((ocG s o).2.1.length:Int)
def ocB (s:QX)(o:Qq):Bool:=(ZP s).any fun y=>decide (o=y)
def ox1 (s:QX)(o:Qq):Int:=if ocB s o=true then oc1 s o else 0
def ox2 (s:QX)(o:Qq):Int:=if ocB s o=true then oc2 s o else 0
theorem Qia (h:ocB s o=true):Yg s o=true:=by
  obtain ⟨y,hy,e⟩:=bm.1 h
  rw[a8 e]; exact Qgb hy
theorem Jk (h:ocB s o=false):ox1 s o=0∧ox2 s o=0∧false=ocB s o:=⟨if_neg (by rw[h]; decide),if_neg (by rw[h]; decide),h.symm⟩
theorem QaI (h:ocB s o=true):ox1 s o=oc1 s o∧ox2 s o=oc2 s o∧true=ocB s o:=⟨if_pos h,if_pos h,h.symm⟩
theorem Hp (h:(sgV s).2=false):ocB s o=false:=by unfold ocB; rw[← Qdo h]; rfl
theorem Qhc (h:(sgV s).2=true)(hx:(YX s)[k]? =some x)(e:Ty.beq ZH x o=true):ocB s o=true:=by
  unfold ocB
  rw[← J0 h]
  exact bm.2 ⟨x,ai hx,by rw[Qp3] at e; rw[a8 e]; exact aK rfl⟩
theorem QgW (h:(sgV s).2=true)(hn:NoneTo (fun y=>Ty.beq ZH y o) (YX s) k)(hk:(YX s).length≤k):ocB s o=false:=by
  unfold ocB
  rw[← J0 h,← hn.any_no hk]
  congr 1
  funext y
  rw[Qp3]
  exact d7.2 eq_comm
theorem QkS:0≤oc1 s o:=cC _
def Qgd (s:QX)(a:Qq×Int×Int)(o:Qq):Qq×Int×Int:=
  if a.2.1 < 0∨oc1 s o < a.2.1∨(oc1 s o=a.2.1∧a.2.2 < oc2 s o) then (o,oc1 s o,oc2 s o) else a
def JH (s:QX)(l:List Qq):Qq×Int×Int:=l.foldl (Qgd s) ((0,0,false), -1,0)
theorem Ut (hx:l[k]? =some x):JH s (l.take (k+1))=Qgd s (JH s (l.take k)) x:=by
  unfold JH; rw[Q0 hx,cp]; rfl
theorem Qof (hx:l[k]? =some x):0≤(JH s (l.take (k+1))).2.1:=by
  rw[Ut hx]
  unfold Qgd
  split
  · exact QkS
  · rename_i h
    have:¬(JH s (l.take k)).2.1 < 0:=fun g=>h (.inl g)
    omega
theorem Qgx (hk:0 < k)(hl:k≤l.length):0≤(JH s (l.take k)).2.1:=by
  obtain ⟨j,rfl⟩:∃j,k=j+1:=⟨k - 1,by omega⟩
  exact Qof (ap (by omega))
def BeS (s:QX)(l:List Qq)(k:Nat)(b:Qq)(c t:Int):Prop:=JH s (l.take k)=(b,c,t)
def BeI (s:QX)(l:List Qq)(k:Nat)(b:Qq)(c t:Int):Prop:=JH s (l.take k)=(b,if k=0 then -1 else c,t)∧(k=0→c=0)
theorem QgI {b:Qq}{c t:Int}(hx:l[k]? =some x)(h:BeS s l k b c t)(hc:c < 0∨oc1 s x < c∨(oc1 s x=c∧t < oc2 s x)):BeS s l (k+1) x (oc1 s x) (oc2 s x):=by
  unfold BeS at*
  rw[Ut hx,h]; exact if_pos hc
theorem QlB {b:Qq}{c t:Int}(hx:l[k]? =some x)(h:BeS s l k b c t)(hc:¬(c < 0∨oc1 s x < c∨(oc1 s x=c∧t < oc2 s x))):BeS s l (k+1) b c t:=by
  unfold BeS at*
  rw[Ut hx,h]; exact if_neg hc
theorem Qg5 {b:Qq}{c t:Int}(hx:l[k]? =some x)(h:BeI s l k b c t)(hc:k=0∨oc1 s x < c∨(oc1 s x=c∧t < oc2 s x)):BeI s l (k+1) x (oc1 s x) (oc2 s x):=by
  unfold BeI at*
  refine ⟨?_,fun e=>by omega⟩
  rw[Ut hx,h.1,if_neg (Nat.succ_ne_zero k)]
  refine if_pos ?_
  by_cases e:k=0
  · left; show (if k=0 then -1 else c) < 0; rw[if_pos e]; decide
  · right
    show oc1 s x < (if k=0 then -1 else c)∨(oc1 s x=(if k=0 then -1 else c)∧t < oc2 s x)
    rw[if_neg e]
    rcases hc with hc | hc
    · exact absurd hc e
    · exact hc
theorem QlW {b:Qq}{c t:Int}(hx:l[k]? =some x)(h:BeI s l k b c t)(h0:¬k=0)(h1:¬oc1 s x < c)(h2:¬(oc1 s x=c∧t < oc2 s x)):BeI s l (k+1) b c t:=by
  have hp:=Qgx (s:=s) (Nat.pos_of_ne_zero h0) (Nat.le_of_lt (au.1 hx).1)
  unfold BeI at*
  refine ⟨?_,fun e=>by omega⟩
  obtain ⟨h,_⟩:=h
  rw[if_neg h0] at h
  rw[Ut hx,h,if_neg (Nat.succ_ne_zero k)]
  rw[h] at hp
  have hp:0≤c:=hp
  refine if_neg ?_
  rintro (g | g | g)
  · have g : c < 0 := g
    omega
  · exact h1 g
  · exact h2 g
def boV (s:QX):Qq:=(JH s (ZP s)).1
def boB (s:QX):Bool:=decide (0 < ((ZP s).length:Int))
theorem QeJ (h:(sgV s).2=false):boV s=(0,0,false)∧boB s=false:=by unfold boV boB; rw[← Qdo h]; exact ⟨rfl,rfl⟩
theorem Qg9 {b:Qq}{c t:Int}(h:BeI s (ZP s) k b c t)(hk:(ZP s).length≤k):b=boV s:=by
  unfold BeI at h
  rw[aH hk] at h
  unfold boV; rw[h.1]
theorem Qdj {b:Qq}{c t:Int}(hs:(sgV s).2=true)(h:BeS s (YX s) k b c t)(hk:(YX s).length≤k):b=boV s∧decide (0≤c)=boB s:=by
  unfold BeS at h
  rw[aH hk] at h
  unfold boV boB
  rw[← J0 hs,h]
  refine ⟨rfl,d7.2 ⟨fun g=> ?_,fun g=> ?_⟩⟩
  · by_cases e : YX s = []
    · rw[e] at h; unfold JH at h; cases h; omega
    · have:=List.length_pos_iff.2 e; omega
  · have hp := Qgx (s := s) (l := YX s) (k := (YX s).length) (by omega) (aL _)
    rw[br,h] at hp; exact hp
end
theorem Vt (s:(Int×(List (List Int×List Int)))×(List (ByteArray×Int))×(List (Int×Bool))×ByteArray)(o:Int×Int×Bool)[∀s,Decidable (StgOk s)](hz:Ty.tot ZC s≤2000000)(hg:Yg s o=true):FC Tryz.prog 69 [(true,[dI s.1.1, .dat QZ s.1.2, .dat QJ s.2.1, .dat QR s.2.2.1,dS s.2.2.2]),(true,[dI o.1,dI o.2.1,dB o.2.2])] [] 0 (Yj (PV.tup [(false,[dI (oc1 s o)]),(false,[dI (oc2 s o)])])):=by
 obtain ⟨⟨hso,hoa,hob,hoc⟩,hv1,hv2,hv3⟩:=QlV hg
 have hll:=QE hso
 refine QO Tryz.func69 rfl rfl Tryz.ntmps69 fun O_ hO w0_ N0_ X_ h0_ f0_=> ?_
 refine AC.fact (QI (x:= .tmp 0) (i:=0) (Qb rfl) rfl) fun hi1=>AC.fact (QI (x:= .tmp 1) (i:=0) (Qb rfl) rfl) fun hi2=>AC.fact (QI (x:= .tmp 1) (i:=1) (Qb rfl) rfl) fun hi3=> ?_
 refine w_ ?_
 refine lc (Qy 0 (Qb rfl) rfl rfl (Fresh.of rfl) (nlr rfl))<|lc (Qy 1 (Qb rfl) rfl rfl (Fresh.of rfl) (nlr rfl)) ?_
 iterate 6 refine w_ ?_
 refine lc (Ql (Jq s o hz hoa hob hoc (Qay hso)).frozenG Qf8 ⟨_,_,rfl,(Qb rfl),⟨_,_,rfl,(Qb rfl),rfl⟩⟩ rfl rfl)<|lc (Ql (Xc (Zb s o)).frozenG Qar ⟨_,_,rfl,(Qb rfl),rfl⟩ rfl rfl) ?_
 iterate 3 refine w_ ?_
 refine lc (Qj 2 QgX U5 rfl rfl (Fresh.of rfl) (nlr rfl))<|lc (Qc (Qa rfl) rfl (Qb rfl) rfl Yh rfl) ?_
 iterate 2 refine w_ ?_
 refine dw [io 15 (ag [.dat QJ (((sgV (Zb s o)).1).1), .dat Zr (((sgV (Zb s o)).1).2.1), .dat VR (((sgV (Zb s o)).1).2.2)]),io 16 (lf (.dat Uo (VM ((sgV (Zb s o)).1)))),io 17 (lI ((VM ((sgV (Zb s o)).1)).length:Int)),io 18 (lP 2 1),io 19 (lf (.dat Zr (((sgV (Zb s o)).1).2.1))),io 20 (lI ((((sgV (Zb s o)).1).2.1).length:Int)),io 4 (lI ((VM ((sgV (Zb s o)).1)).length:Int)),io 5 (lI ((((sgV (Zb s o)).1).2.1).length:Int))] [0,1,3,0,8,24,7,127] mixed rfl (by kernel_rfl) ⟨dxa Yh rfl rfl rfl rfl,fun _ h_=>ac (Ql (QbK ((sgV (Zb s o)).1) (Qq9 hv3)) QmM ⟨_,_,rfl,(h_.w rfl),rfl⟩ rfl rfl) rfl,fun _ h_=>ac (WO (h_.v rfl) rfl Zi) rfl,dxf Uf rfl rfl rfl,dxl XS rfl rfl rfl rfl rfl,fun _ h_=>ac (WO (h_.v rfl) rfl Zo) rfl,dxt rfl rfl,dxt rfl rfl,⟨⟩⟩<|Q4 ?_
 subst hO
 have e4:(((VM ((sgV (Zb s o)).1)).length:Int):Int)=(oc1 s o):=by
  rfl
 have e5:(((((sgV (Zb s o)).1).2.1).length:Int):Int)=(oc2 s o):=by
  rfl
 exact Qi (QB rfl (Qd rfl) (Qd rfl)) (by rw[e4,e5] <;> rfl) rfl
theorem Jh (s:(Int×(List (List Int×List Int)))×(List (ByteArray×Int))×(List (Int×Bool))×ByteArray)(o:Int×Int×Bool)[∀s,Decidable (StgOk s)](hz:Ty.tot ZC s≤2000000)(hg:Yg s o=true):FC Tryz.prog 72 [(true,[dI s.1.1, .dat QZ s.1.2, .dat QJ s.2.1, .dat QR s.2.2.1,dS s.2.2.2]),(true,[dI o.1,dI o.2.1,dB o.2.2])] [] 0 (Yj (PV.tup [(false,[dI (oc1 s o)]),(false,[dI (oc2 s o)])])):=by
 obtain ⟨⟨hso,hoa,hob,hoc⟩,hv1,hv2,hv3⟩:=QlV hg
 have hll:=QE hso
 refine QO Tryz.func72 rfl rfl Tryz.ntmps72 fun O_ hO w0_ N0_ X_ h0_ f0_=> ?_
 refine AC.fact (QI (x:= .tmp 0) (i:=0) (Qb rfl) rfl) fun hi1=>AC.fact (QI (x:= .tmp 1) (i:=0) (Qb rfl) rfl) fun hi2=>AC.fact (QI (x:= .tmp 1) (i:=1) (Qb rfl) rfl) fun hi3=> ?_
 refine w_ ?_
 refine lc (Qy 0 (Qb rfl) rfl rfl (Fresh.of rfl) (nlr rfl))<|lc (Qy 1 (Qb rfl) rfl rfl (Fresh.of rfl) (nlr rfl)) ?_
 iterate 6 refine w_ ?_
 refine lc (Ql (Ul s o hz).frozenG QbW ⟨_,_,rfl,(Qb rfl),⟨_,_,rfl,(Qb rfl),rfl⟩⟩ rfl rfl) ?_
 iterate 3 refine w_ ?_
 refine lc (Qj 2 Xr ZE rfl rfl (Fresh.of rfl) (nlr rfl))<|lc (Qc (Qa rfl) rfl (Qb rfl) rfl Qz rfl) ?_
 iterate 4 refine w_ ?_
 refine lc (Ql (Ws ((ZA s o).1)).frozenG Qdz ⟨_,_,rfl,(Qb rfl),rfl⟩ rfl rfl) ?_
 iterate 3 refine w_ ?_
 refine lc (Qj 3 QgX U5 rfl rfl (Fresh.of rfl) (nlr rfl))<|lc (Qc (Qa rfl) rfl (Qb rfl) rfl Yh rfl) ?_
 iterate 2 refine w_ ?_
 refine dw [io 21 (ag [.dat QJ (((sgV ((ZA s o).1)).1).1), .dat Zr (((sgV ((ZA s o).1)).1).2.1), .dat VR (((sgV ((ZA s o).1)).1).2.2)]),⟨some 22,lR 4,[(4,some (.arr 95 Qs (VM ((sgV ((ZA s o).1)).1))))]⟩,io 23 (lI ((VM ((sgV ((ZA s o).1)).1)).length:Int)),io 24 (lP 3 1),io 25 (lf (.dat Zr (((sgV ((ZA s o).1)).1).2.1))),io 26 (lI ((((sgV ((ZA s o).1)).1).2.1).length:Int)),io 4 (lI ((VM ((sgV ((ZA s o).1)).1)).length:Int)),io 5 (lI ((((sgV ((ZA s o).1)).1).2.1).length:Int))] [0,1,3,0,8,24,7,127] mixed rfl (by kernel_rfl) ⟨dxa Yh rfl rfl rfl rfl,fun _ h_=>ac (YF 4 (QaC ((sgV ((ZA s o).1)).1) (by rw[hv2]; exact Qq9 hv3)) QkN ⟨_,_,rfl,(h_.w rfl),rfl⟩ rfl (h_.fr 4 rfl) (nlr rfl)) rfl,fun _ h_=>ac (Hh (h_.v rfl) (h_.n 4 rfl) rfl Zi) rfl,dxf Uf rfl rfl rfl,dxl XS rfl rfl rfl rfl rfl,fun _ h_=>ac (WO (h_.v rfl) rfl Zo) rfl,dxt rfl rfl,dxt rfl rfl,⟨⟩⟩<|Q4 ?_
 subst hO
 have e4:(((VM ((sgV ((ZA s o).1)).1)).length:Int):Int)=(oc1 s o):=by
  (rw[hv2]; rfl)
 have e5:(((((sgV ((ZA s o).1)).1).2.1).length:Int):Int)=(oc2 s o):=by
  (rw[hv2]; rfl)
 exact Qi (QB rfl (Qd rfl) (Qd rfl)) (by rw[e4,e5] <;> rfl) rfl
theorem Xk (s:List (Int×Int×Bool))(v:Int×Int×Bool):FC Tryz.prog 160 [(false,[.dat KZ s]),(true,[dI v.1,dI v.2.1,dB v.2.2])] [] 0 (Yj (lI (ZN (fun y=>decide (v=y)) s))):=by
 refine QO Tryz.func160 rfl rfl Tryz.ntmps160 fun O_ hO w0_ N0_ X_ h0_ f0_=> ?_
 refine AC.fact (QI (x:= .tmp 1) (i:=0) (Qb rfl) rfl) fun hi1=>AC.fact (QI (x:= .tmp 1) (i:=1) (Qb rfl) rfl) fun hi2=> ?_
 refine w_ ?_
 refine lc (Qy 0 (Qb rfl) rfl rfl (Fresh.of rfl) (nlr rfl)) ?_
 iterate 5 refine w_ ?_
 refine AL.fact (Qo (x:= .tmp 6) (Qa rfl)) fun hl3=> ?_
 iterate 4 refine w_ ?_
 refine Qu (fun m_ s_=>∃(k:Nat),k≤s.length∧m_=s.length - k∧(NoneTo (fun y=>decide (v=y)) s k)∧s_=⟨[(0,lf (.dat KZ s)),(3,lP 0 0),(7,lI (s.length:Int)),(8,lI (k:Int))],[(0,some (.box 32 [dI v.1,dI v.2.1,dB v.2.2]))]⟩) ⟨0,aw _,rfl,NoneTo.zero,rfl⟩ ?_ ?_
 exact wo [(0,0)]
 rintro m_ s_ ⟨k,hk4,hm5,hno,rfl⟩
 iterate 4 refine w_ ?_
 cases hb6:(decide ((k:Int) < (s.length:Int)))
 have hb6':=a7 hb6
 iterate 7 refine w_ ?_
 subst hO
 have e7:((-1):Int)=(ZN (fun y=>decide (v=y)) s):=by
  first | exact (hno.no (by omega)).symm
 exact Qi (Qg rfl (Qd rfl)) (by rw[← e7] <;> rfl) rfl
 have hb6':=a8 hb6
 iterate 8 refine w_ ?_
 obtain ⟨x8,hx9⟩:=gx s k
 refine dw [io 11 (ag [dI v.1,dI v.2.1,dB v.2.2]),io 12 (lf (.dat KZ s)),io 13 (lI (k:Int)),io 14 (lf (.elt ZH x8 0)),io 15 (ag [dI x8.1,dI x8.2.1,dB x8.2.2]),io 16 (lB (Ty.beq ZH v x8))] [0,0,0,6,14,31] mixed rfl (by kernel_rfl) ⟨dxa Zf rfl rfl rfl rfl,dxm rfl rfl,dxm rfl rfl,fun _ h_=>ac (Qh (h_.v rfl) (h_.v rfl) Xn Zf rfl (by omega) hx9) rfl,fun _ h_=>ac (Ya (h_.v rfl) Zf rfl rfl) rfl,fun _ h_=>ac (QfV Qjl QjY (h_.w rfl) (h_.w rfl) (p:=v) (q:=x8) rfl rfl rfl) rfl,⟨⟩⟩ ?_
 cases hb10:(Ty.beq ZH v x8)
 iterate 6 refine w_ ?_
 refine Qm<|QV ⟨k+1,by omega,rfl,hno.step hx9 ((Qp3 _ _).symm.trans ‹_›),rfl⟩ (by omega) ?_
 exact wo [(0,0)]
 iterate 6 refine w_ ?_
 subst hO
 have e11:((k:Int):Int)=(ZN (fun y=>decide (v=y)) s):=by
  exact (hno.at hx9 ((Qp3 _ _).symm.trans ‹_›)).symm
 exact Qi (Qg rfl (Qd rfl)) (by rw[e11] <;> rfl) rfl
theorem Y0 (s:List (Int×Int×Bool))(v:Int×Int×Bool):FC Tryz.prog 73 [(false,[.dat KZ s]),(true,[dI v.1,dI v.2.1,dB v.2.2])] [] 0 (Yj (lB (s.any (fun y=>decide (v=y))))):=by
 refine QO Tryz.func73 rfl rfl Tryz.ntmps73 fun O_ hO w0_ N0_ X_ h0_ f0_=> ?_
 refine AC.fact (QI (x:= .tmp 1) (i:=0) (Qb rfl) rfl) fun hi1=>AC.fact (QI (x:= .tmp 1) (i:=1) (Qb rfl) rfl) fun hi2=> ?_
 refine w_ ?_
 refine lc (Qy 0 (Qb rfl) rfl rfl (Fresh.of rfl) (nlr rfl)) ?_
 iterate 5 refine w_ ?_
 refine lc (Ql (Xk s v) Qju ⟨_,_,rfl,(Qb rfl),⟨_,_,rfl,(Qb rfl),rfl⟩⟩ rfl rfl) ?_
 iterate 4 refine w_ ?_
 subst hO
 have e3:(decide (0≤(ZN (fun y=>decide (v=y)) s)):Bool)=(s.any (fun y=>decide (v=y))):=by
  exact Vx _ _
 exact Qi (Qg rfl (Qd rfl)) (by rw[e3] <;> rfl) rfl
theorem ZQ (s:(Int×(List (List Int×List Int)))×(List (ByteArray×Int))×(List (Int×Bool))×ByteArray)(o:Int×Int×Bool)[∀s,Decidable (StgOk s)](hz:Ty.tot ZC s≤2000000):FC Tryz.prog 13 [(true,[dI s.1.1, .dat QZ s.1.2, .dat QJ s.2.1, .dat QR s.2.2.1,dS s.2.2.2]),(true,[dI o.1,dI o.2.1,dB o.2.2])] [] 0 (Yj (PV.tup [(false,[dI (ox1 s o)]),(false,[dI (ox2 s o)]),(false,[dB (ocB s o)])])):=by
 refine QO Tryz.func13 rfl rfl Tryz.ntmps13 fun O_ hO w0_ N0_ X_ h0_ f0_=> ?_
 refine AC.fact (QI (x:= .tmp 0) (i:=0) (Qb rfl) rfl) fun hi1=>AC.fact (QI (x:= .tmp 1) (i:=0) (Qb rfl) rfl) fun hi2=>AC.fact (QI (x:= .tmp 1) (i:=1) (Qb rfl) rfl) fun hi3=> ?_
 refine w_ ?_
 refine lc (Qy 0 (Qb rfl) rfl rfl (Fresh.of rfl) (nlr rfl))<|lc (Qy 1 (Qb rfl) rfl rfl (Fresh.of rfl) (nlr rfl)) ?_
 iterate 6 refine w_ ?_
 refine lc (Ql (XB s hz).frozenG QfT ⟨_,_,rfl,(Qb rfl),rfl⟩ rfl rfl) ?_
 iterate 11 refine w_ ?_
 cases hb4:((sgV s).2)
 iterate 13 refine w_ ?_
 subst hO
 have e5:(0:Int)=(ox1 s o):=by
  exact Eq.symm (Jk (Hp ‹_›)).1
 have e6:(0:Int)=(ox2 s o):=by
  exact Eq.symm (Jk (Hp ‹_›)).2.1
 have e7:(false:Bool)=(ocB s o):=by
  exact (Jk (Hp ‹_›)).2.2
 exact Qi (Wv rfl (Qd rfl) (Qd rfl) (Qd rfl)) (by rw[← e5,← e6,← e7] <;> rfl) rfl
 iterate 2 refine w_ ?_
 refine lgy rfl rfl (Ql (Y0 (ZP s) o) Qnn ⟨_,_,rfl,(Qb rfl),⟨_,_,rfl,(Qb rfl),rfl⟩⟩ rfl rfl) ?_
 iterate 3 refine w_ ?_
 cases hb8:((ZP s).any (fun y=>decide (o=y)))
 iterate 7 refine w_ ?_
 subst hO
 have e9:(0:Int)=(ox1 s o):=by
  exact Eq.symm (Jk ‹_›).1
 have e10:(0:Int)=(ox2 s o):=by
  exact Eq.symm (Jk ‹_›).2.1
 have e11:(false:Bool)=(ocB s o):=by
  exact (Jk ‹_›).2.2
 exact Qi (Wv rfl (Qd rfl) (Qd rfl) (Qd rfl)) (by rw[← e9,← e10,← e11] <;> rfl) rfl
 iterate 5 refine w_ ?_
 refine lc (Ql (Vt s o hz (Qia ‹_›)) QfB ⟨_,_,rfl,(Qb rfl),⟨_,_,rfl,(Qb rfl),rfl⟩⟩ rfl rfl) ?_
 iterate 14 refine w_ ?_
 subst hO
 have e12:(oc1 s o:Int)=(ox1 s o):=by
  exact Eq.symm (QaI ‹_›).1
 have e13:(oc2 s o:Int)=(ox2 s o):=by
  exact Eq.symm (QaI ‹_›).2.1
 have e14:(true:Bool)=(ocB s o):=by
  exact (QaI ‹_›).2.2
 exact Qi (Wv rfl (Qd rfl) (Qd rfl) (Qd rfl)) (by rw[e12,e13,← e14] <;> rfl) rfl
theorem JC (s:(Int×(List (List Int×List Int)))×(List (ByteArray×Int))×(List (Int×Bool))×ByteArray)(o:Int×Int×Bool)[∀s,Decidable (StgOk s)](hz:Ty.tot ZC s≤2000000):FC Tryz.prog 14 [(true,[dI s.1.1, .dat QZ s.1.2, .dat QJ s.2.1, .dat QR s.2.2.1,dS s.2.2.2]),(true,[dI o.1,dI o.2.1,dB o.2.2])] [] 0 (Yj (PV.tup [(false,[dI (ox1 s o)]),(false,[dI (ox2 s o)]),(false,[dB (ocB s o)])])):=by
 refine QO Tryz.func14 rfl rfl Tryz.ntmps14 fun O_ hO w0_ N0_ X_ h0_ f0_=> ?_
 refine AC.fact (QI (x:= .tmp 0) (i:=0) (Qb rfl) rfl) fun hi1=>AC.fact (QI (x:= .tmp 1) (i:=0) (Qb rfl) rfl) fun hi2=>AC.fact (QI (x:= .tmp 1) (i:=1) (Qb rfl) rfl) fun hi3=> ?_
 refine w_ ?_
 refine lc (Qy 0 (Qb rfl) rfl rfl (Fresh.of rfl) (nlr rfl))<|lc (Qy 1 (Qb rfl) rfl rfl (Fresh.of rfl) (nlr rfl)) ?_
 iterate 7 refine w_ ?_
 refine lc (Ql (Xe s) Kt ⟨_,_,rfl,(Qb rfl),rfl⟩ rfl rfl) ?_
 iterate 2 refine w_ ?_
 cases hb4:((sgV s).2)
 iterate 7 refine w_ ?_
 subst hO
 have e5:(0:Int)=(ox1 s o):=by
  exact Eq.symm (Jk (Hp ‹_›)).1
 have e6:(0:Int)=(ox2 s o):=by
  exact Eq.symm (Jk (Hp ‹_›)).2.1
 have e7:(false:Bool)=(ocB s o):=by
  exact (Jk (Hp ‹_›)).2.2
 exact Qi (Wv rfl (Qd rfl) (Qd rfl) (Qd rfl)) (by rw[← e5,← e6,← e7] <;> rfl) rfl
 iterate 5 refine w_ ?_
 refine lc (Ql (WG s hz (QbJ ‹_›)).frozen Qcn ⟨_,_,rfl,(Qb rfl),rfl⟩ rfl rfl)<|AL.fact (Qo (x:= .tmp 15) (Qa rfl)) fun hl8=> ?_
 iterate 4 refine w_ ?_
 refine Qu (fun m_ s_=>∃(k:Nat),k≤(YX s).length∧m_=(YX s).length - k∧(NoneTo (fun y=>Ty.beq ZH y o) (YX s) k)∧s_=⟨[(2,lP 0 0),(3,lP 1 0),(15,lf (.dat KZ (YX s))),(16,lI ((YX s).length:Int)),(17,lI (k:Int))],[(0,some (.box 29 [dI s.1.1, .dat QZ s.1.2, .dat QJ s.2.1, .dat QR s.2.2.1,dS s.2.2.2])),(1,some (.box 32 [dI o.1,dI o.2.1,dB o.2.2]))]⟩) ⟨0,aw _,rfl,NoneTo.zero,rfl⟩ ?_ ?_
 exact wo [(0,0),(1,1)]
 rintro m_ s_ ⟨k,hk9,hm10,hno,rfl⟩
 iterate 4 refine w_ ?_
 cases hb11:(decide ((k:Int) < ((YX s).length:Int)))
 have hb11':=a7 hb11
 iterate 9 refine w_ ?_
 subst hO
 have e12:(0:Int)=(ox1 s o):=by
  exact Eq.symm (Jk (QgW ‹_› hno (by omega))).1
 have e13:(0:Int)=(ox2 s o):=by
  exact Eq.symm (Jk (QgW ‹_› hno (by omega))).2.1
 have e14:(false:Bool)=(ocB s o):=by
  exact (Jk (QgW ‹_› hno (by omega))).2.2
 exact Qi (Wv rfl (Qd rfl) (Qd rfl) (Qd rfl)) (by rw[← e12,← e13,← e14] <;> rfl) rfl
 have hb11':=a8 hb11
 iterate 5 refine w_ ?_
 obtain ⟨x15,hx16⟩:=gx (YX s) k
 refine lc (Qh (Qa rfl) (Qa rfl) Xn Zf rfl (by omega) hx16) ?_
 refine w_ ?_
 refine lc (Qj 2 ZH Yz rfl rfl (Fresh.of rfl) (nlr rfl))<|lc (Qc (Qa rfl) rfl (Qb rfl) rfl Zf rfl) ?_
 iterate 4 refine w_ ?_
 refine lc (QfV Qjl QjY (Qb rfl) (Qb rfl) (p:=x15) (q:=o) rfl rfl rfl) ?_
 refine w_ ?_
 cases hb17:(Ty.beq ZH x15 o)
 iterate 6 refine w_ ?_
 refine Qm<|QV ⟨k+1,by omega,rfl,hno.step hx16 ‹_›,rfl⟩ (by omega) ?_
 exact wo [(0,0),(1,1)]
 iterate 4 refine w_ ?_
 refine lc (Ql (Jh s o hz (Qia (Qhc ‹_› hx16 ‹_›))) QfI ⟨_,_,rfl,(Qb rfl),⟨_,_,rfl,(Qb rfl),rfl⟩⟩ rfl rfl) ?_
 iterate 14 refine w_ ?_
 subst hO
 have e18:(oc1 s o:Int)=(ox1 s o):=by
  exact Eq.symm (QaI (Qhc ‹_› hx16 ‹_›)).1
 have e19:(oc2 s o:Int)=(ox2 s o):=by
  exact Eq.symm (QaI (Qhc ‹_› hx16 ‹_›)).2.1
 have e20:(true:Bool)=(ocB s o):=by
  exact (QaI (Qhc ‹_› hx16 ‹_›)).2.2
 exact Qi (Wv rfl (Qd rfl) (Qd rfl) (Qd rfl)) (by rw[e18,e19,← e20] <;> rfl) rfl
theorem JZ (s:(Int×(List (List Int×List Int)))×(List (ByteArray×Int))×(List (Int×Bool))×ByteArray)[∀s,Decidable (StgOk s)](hz:Ty.tot ZC s≤2000000):FC Tryz.prog 10 [(true,[dI s.1.1, .dat QZ s.1.2, .dat QJ s.2.1, .dat QR s.2.2.1,dS s.2.2.2])] [] 0 (Yj (PV.tup [(true,[dI ((boV s).1),dI ((boV s).2.1),dB ((boV s).2.2)]),(false,[dB (boB s)])])):=by
 have hvl:=Qpv s
 refine QO Tryz.func10 rfl rfl Tryz.ntmps10 fun O_ hO w0_ N0_ X_ h0_ f0_=> ?_
 refine AC.fact (QI (x:= .tmp 0) (i:=0) (Qb rfl) rfl) fun hi1=> ?_
 refine w_ ?_
 refine lc (Qy 0 (Qb rfl) rfl rfl (Fresh.of rfl) (nlr rfl))<|lc (Qj 1 ZH Yz rfl rfl (Fresh.of rfl) (nlr rfl)) ?_
 iterate 4 refine w_ ?_
 refine lc (Ql (XB s hz).frozenG QfT ⟨_,_,rfl,(Qb rfl),rfl⟩ rfl rfl) ?_
 iterate 7 refine w_ ?_
 refine lc (QA Qds rfl (ae.1 rfl) rfl rfl)<|lc (Qj 2 ZH Yz rfl rfl (Fresh.of rfl) (nlr rfl))<|lc (Qc (Qa rfl) rfl (Qb rfl) rfl Zf rfl) ?_
 iterate 6 refine w_ ?_
 refine AL.fact (Qo (x:= .tmp 19) (Qa rfl)) fun hl2=> ?_
 iterate 4 refine w_ ?_
 refine Qu (fun m_ s_=>∃(k:Nat) (bo:Int×Int×Bool) (few:Int) (mo:Int),k≤(ZP s).length∧m_=(ZP s).length - k∧(BeI s (ZP s) k bo few mo)∧s_=⟨[(1,lP 0 0),(2,lP 1 0),(3,lB false),(4,lf (.dat KZ (ZP s))),(6,lP 2 0),(7,lI few),(8,lI mo),(19,lf (.dat KZ (ZP s))),(20,lI ((ZP s).length:Int)),(21,lI (k:Int))],[(0,some (.box 29 [dI s.1.1, .dat QZ s.1.2, .dat QJ s.2.1, .dat QR s.2.2.1,dS s.2.2.2])),(1,some (.box 32 [dI 0,dI 0,dB false])),(2,some (.box 32 [dI bo.1,dI bo.2.1,dB bo.2.2]))]⟩) ⟨0,(0,0,false),0,0,aw _,rfl,⟨rfl,fun _=>rfl⟩,rfl⟩ ?_ ?_
 exact wo [(0,0),(1,1),(2,2)]
 rintro m_ s_ ⟨k,bo,few,mo,hk3,hm4,hB,rfl⟩
 iterate 4 refine w_ ?_
 cases hb5:(decide ((k:Int) < ((ZP s).length:Int)))
 have hb5':=a7 hb5
 iterate 6 refine w_ ?_
 refine AL.fact (Qo (x:= .tmp 54) (Qa rfl)) fun hl6=> ?_
 iterate 2 refine w_ ?_
 refine lc (Qc (Qa rfl) rfl (Qb rfl) rfl Zf rfl) ?_
 iterate 3 refine w_ ?_
 subst hO
 have e7:(bo.1:Int)=((boV s).1):=by
  (rw[Qg9 hB (by omega)]; done)
 have e8:(bo.2.1:Int)=((boV s).2.1):=by
  (rw[Qg9 hB (by omega)]; done)
 have e9:(bo.2.2:Bool)=((boV s).2.2):=by
  (rw[Qg9 hB (by omega)]; done)
 have e10:(decide (0 < ((ZP s).length:Int)):Bool)=(boB s):=by
  rfl
 exact Qi (QB rfl (QG rfl rfl Zf rfl) (Qd rfl)) (by rw[e7,e8,e9,e10] <;> rfl) rfl
 have hb5':=a8 hb5
 iterate 6 refine w_ ?_
 obtain ⟨x11,hx12⟩:=gx (ZP s) k
 refine lc (Qh (Qa rfl) (Qa rfl) Xn Zf rfl (by omega) hx12) ?_
 refine w_ ?_
 refine lc (Qj 3 ZH Yz rfl rfl (Fresh.of rfl) (nlr rfl)) ?_
 refine w_ ?_
 refine lc (Qc (Qa rfl) rfl (Qb rfl) rfl Zf rfl) ?_
 iterate 4 refine w_ ?_
 refine lc (Ql (Vt s x11 hz (Qgb (ai hx12))) QfB ⟨_,_,rfl,(Qb rfl),⟨_,_,rfl,(Qb rfl),rfl⟩⟩ rfl rfl) ?_
 iterate 10 refine w_ ?_
 cases hb13:(decide ((k:Int)=0))
 have hb13':=a7 hb13
 iterate 5 refine w_ ?_
 cases hb14:(decide ((oc1 s x11) < few))
 have hb14':=a7 hb14
 iterate 4 refine w_ ?_
 cases hb15:(decide ((oc1 s x11)=few))
 have hb15':=a7 hb15
 iterate 12 refine w_ ?_
 refine Qm<|QV ⟨k+1,bo,few,mo,by omega,rfl,(by exact QlW hx12 hB (by omega) ‹_› (fun g=>absurd g.1 ‹_›)),rfl⟩ (by omega) ?_
 exact wo [(0,0),(1,1),(2,2)]
 have hb15':=a8 hb15
 iterate 6 refine w_ ?_
 cases hb16:(decide (mo < (oc2 s x11)))
 have hb16':=a7 hb16
 iterate 6 refine w_ ?_
 refine Qm<|QV ⟨k+1,bo,few,mo,by omega,rfl,(by exact QlW hx12 hB (by omega) ‹_› (fun g=>absurd g.2 ‹_›)),rfl⟩ (by omega) ?_
 exact wo [(0,0),(1,1),(2,2)]
 have hb16':=a8 hb16
 iterate 5 refine w_ ?_
 refine lc (Qc (Qa rfl) rfl (Qb rfl) rfl Zf rfl) ?_
 iterate 2 refine w_ ?_
 refine Qm ?_
 iterate 4 refine w_ ?_
 refine Qm<|QV ⟨k+1,x11,(oc1 s x11),(oc2 s x11),by omega,rfl,(by exact Qg5 hx12 hB (.inr (.inr ⟨by assumption,by assumption⟩))),rfl⟩ (by omega) ?_
 exact wo [(0,0),(1,1),(2,2)]
 have hb14':=a8 hb14
 iterate 4 refine w_ ?_
 refine QQ rfl rfl rfl ?_ rfl
 refine QQ rfl rfl rfl ?_ rfl
 refine QQ rfl rfl rfl ?_ rfl
 iterate 8 refine w_ ?_
 refine lc (Qc (Qa rfl) rfl (Qb rfl) rfl Zf rfl) ?_
 iterate 2 refine w_ ?_
 refine Qm ?_
 iterate 4 refine w_ ?_
 refine Qm<|QV ⟨k+1,x11,(oc1 s x11),(oc2 s x11),by omega,rfl,(by exact Qg5 hx12 hB (.inr (.inl ‹_›))),rfl⟩ (by omega) ?_
 exact wo [(0,0),(1,1),(2,2)]
 have hb13':=a8 hb13
 iterate 9 refine w_ ?_
 refine QQ rfl rfl rfl ?_ rfl
 refine QQ rfl rfl rfl ?_ rfl
 refine QQ rfl rfl rfl ?_ rfl
 iterate 8 refine w_ ?_
 refine lc (Qc (Qa rfl) rfl (Qb rfl) rfl Zf rfl) ?_
 iterate 2 refine w_ ?_
 refine Qm ?_
 iterate 4 refine w_ ?_
 refine Qm<|QV ⟨k+1,x11,(oc1 s x11),(oc2 s x11),by omega,rfl,(by exact Qg5 hx12 hB (.inl (by omega))),rfl⟩ (by omega) ?_
 exact wo [(0,0),(1,1),(2,2)]
theorem J7 (s:(Int×(List (List Int×List Int)))×(List (ByteArray×Int))×(List (Int×Bool))×ByteArray)[∀s,Decidable (StgOk s)](hz:Ty.tot ZC s≤2000000):FC Tryz.prog 11 [(true,[dI s.1.1, .dat QZ s.1.2, .dat QJ s.2.1, .dat QR s.2.2.1,dS s.2.2.2])] [] 0 (Yj (PV.tup [(true,[dI ((boV s).1),dI ((boV s).2.1),dB ((boV s).2.2)]),(false,[dB (boB s)])])):=by
 refine QO Tryz.func11 rfl rfl Tryz.ntmps11 fun O_ hO w0_ N0_ X_ h0_ f0_=> ?_
 refine AC.fact (QI (x:= .tmp 0) (i:=0) (Qb rfl) rfl) fun hi1=> ?_
 refine w_ ?_
 refine lc (Qy 0 (Qb rfl) rfl rfl (Fresh.of rfl) (nlr rfl))<|lc (Qj 1 ZH Yz rfl rfl (Fresh.of rfl) (nlr rfl)) ?_
 iterate 5 refine w_ ?_
 refine lc (Ql (Xe s) Kt ⟨_,_,rfl,(Qb rfl),rfl⟩ rfl rfl) ?_
 iterate 2 refine w_ ?_
 cases hb2:((sgV s).2)
 iterate 2 refine w_ ?_
 refine lc (QA Qds rfl (ae.1 rfl) rfl rfl)<|lc (Qc (Qa rfl) rfl (Qb rfl) rfl Zf rfl) ?_
 iterate 3 refine w_ ?_
 subst hO
 have e3:(0:Int)=((boV s).1):=by
  (rw[(QeJ ‹_›).1]; done)
 have e4:(0:Int)=((boV s).2.1):=by
  (rw[(QeJ ‹_›).1]; done)
 have e5:(false:Bool)=((boV s).2.2):=by
  (rw[(QeJ ‹_›).1]; done)
 have e6:(false:Bool)=(boB s):=by
  (rw[(QeJ ‹_›).2]; done)
 exact Qi (QB rfl (QG rfl rfl Zf rfl) (Qd rfl)) (by rw[← e3,← e4,← e5,← e6] <;> rfl) rfl
 iterate 3 refine w_ ?_
 refine lc (Qj 2 ZH Yz rfl rfl (Fresh.of rfl) (nlr rfl)) ?_
 iterate 8 refine w_ ?_
 refine lc (Ql (WG s hz (QbJ ‹_›)).frozen Qcn ⟨_,_,rfl,(Qb rfl),rfl⟩ rfl rfl)<|AL.fact (Qo (x:= .tmp 16) (Qa rfl)) fun hl7=> ?_
 iterate 4 refine w_ ?_
 refine Qu (fun m_ s_=>∃(k:Nat) (bo:Int×Int×Bool) (few:Int) (mo:Int),k≤(YX s).length∧m_=(YX s).length - k∧(BeS s (YX s) k bo few mo)∧s_=⟨[(1,lP 0 0),(2,lP 1 0),(3,lB false),(4,lP 2 0),(5,lI few),(6,lI mo),(16,lf (.dat KZ (YX s))),(17,lI ((YX s).length:Int)),(18,lI (k:Int))],[(0,some (.box 29 [dI s.1.1, .dat QZ s.1.2, .dat QJ s.2.1, .dat QR s.2.2.1,dS s.2.2.2])),(1,some (.box 32 [dI 0,dI 0,dB false])),(2,some (.box 32 [dI bo.1,dI bo.2.1,dB bo.2.2]))]⟩) ⟨0,(0,0,false),(-1),0,aw _,rfl,rfl,rfl⟩ ?_ ?_
 exact wo [(0,0),(1,1),(2,2)]
 rintro m_ s_ ⟨k,bo,few,mo,hk8,hm9,hB,rfl⟩
 iterate 4 refine w_ ?_
 cases hb10:(decide ((k:Int) < ((YX s).length:Int)))
 have hb10':=a7 hb10
 iterate 7 refine w_ ?_
 refine lc (Qc (Qa rfl) rfl (Qb rfl) rfl Zf rfl) ?_
 iterate 3 refine w_ ?_
 subst hO
 have e11:(bo.1:Int)=((boV s).1):=by
  (rw[(Qdj ‹_› hB (by omega)).1]; done)
 have e12:(bo.2.1:Int)=((boV s).2.1):=by
  (rw[(Qdj ‹_› hB (by omega)).1]; done)
 have e13:(bo.2.2:Bool)=((boV s).2.2):=by
  (rw[(Qdj ‹_› hB (by omega)).1]; done)
 have e14:(decide (0≤few):Bool)=(boB s):=by
  (rw[(Qdj ‹_› hB (by omega)).2]; done)
 exact Qi (QB rfl (QG rfl rfl Zf rfl) (Qd rfl)) (by rw[e11,e12,e13,e14] <;> rfl) rfl
 have hb10':=a8 hb10
 iterate 5 refine w_ ?_
 obtain ⟨x15,hx16⟩:=gx (YX s) k
 refine lc (Qh (Qa rfl) (Qa rfl) Xn Zf rfl (by omega) hx16) ?_
 refine w_ ?_
 refine lc (Qj 3 ZH Yz rfl rfl (Fresh.of rfl) (nlr rfl))<|lc (Qc (Qa rfl) rfl (Qb rfl) rfl Zf rfl) ?_
 iterate 4 refine w_ ?_
 refine lc (Ql (Jh s x15 hz (Qit (ai hx16))) QfI ⟨_,_,rfl,(Qb rfl),⟨_,_,rfl,(Qb rfl),rfl⟩⟩ rfl rfl) ?_
 iterate 10 refine w_ ?_
 cases hb17:(decide (few < 0))
 have hb17':=a7 hb17
 iterate 5 refine w_ ?_
 cases hb18:(decide ((oc1 s x15) < few))
 have hb18':=a7 hb18
 iterate 4 refine w_ ?_
 cases hb19:(decide ((oc1 s x15)=few))
 have hb19':=a7 hb19
 iterate 12 refine w_ ?_
 refine Qm<|QV ⟨k+1,bo,few,mo,by omega,rfl,(by exact QlB hx16 hB (by omega)),rfl⟩ (by omega) ?_
 exact wo [(0,0),(1,1),(2,2)]
 have hb19':=a8 hb19
 iterate 6 refine w_ ?_
 cases hb20:(decide (mo < (oc2 s x15)))
 have hb20':=a7 hb20
 iterate 6 refine w_ ?_
 refine Qm<|QV ⟨k+1,bo,few,mo,by omega,rfl,(by exact QlB hx16 hB (by omega)),rfl⟩ (by omega) ?_
 exact wo [(0,0),(1,1),(2,2)]
 have hb20':=a8 hb20
 iterate 3 refine w_ ?_
 refine lc (Qc (Qa rfl) rfl (Qb rfl) rfl Zf rfl) ?_
 iterate 8 refine w_ ?_
 refine Qm ?_
 iterate 4 refine w_ ?_
 refine Qm<|QV ⟨k+1,x15,(oc1 s x15),(oc2 s x15),by omega,rfl,(by exact QgI hx16 hB (.inr (.inr ⟨by assumption,by assumption⟩))),rfl⟩ (by omega) ?_
 exact wo [(0,0),(1,1),(2,2)]
 have hb18':=a8 hb18
 iterate 4 refine w_ ?_
 refine QQ rfl rfl rfl ?_ rfl
 refine QQ rfl rfl rfl ?_ rfl
 refine QQ rfl rfl rfl ?_ rfl
 iterate 6 refine w_ ?_
 refine lc (Qc (Qa rfl) rfl (Qb rfl) rfl Zf rfl) ?_
 iterate 8 refine w_ ?_
 refine Qm ?_
 iterate 4 refine w_ ?_
 refine Qm<|QV ⟨k+1,x15,(oc1 s x15),(oc2 s x15),by omega,rfl,(by exact QgI hx16 hB (.inr (.inl ‹_›))),rfl⟩ (by omega) ?_
 exact wo [(0,0),(1,1),(2,2)]
 have hb17':=a8 hb17
 iterate 9 refine w_ ?_
 refine QQ rfl rfl rfl ?_ rfl
 refine QQ rfl rfl rfl ?_ rfl
 refine QQ rfl rfl rfl ?_ rfl
 iterate 6 refine w_ ?_
 refine lc (Qc (Qa rfl) rfl (Qb rfl) rfl Zf rfl) ?_
 iterate 8 refine w_ ?_
 refine Qm ?_
 iterate 4 refine w_ ?_
 refine Qm<|QV ⟨k+1,x15,(oc1 s x15),(oc2 s x15),by omega,rfl,(by exact QgI hx16 hB (.inl ‹_›)),rfl⟩ (by omega) ?_
 exact wo [(0,0),(1,1),(2,2)]
end Go.Proofs.YtjaadeknhofhpaaGreat
