/- Walks over abstract states: what is enabled together, the program. -/
import Derived.Test.YtnakmhfjafecpaaGreatCc
import Derived.Test.YtnakmhfjafecpaaGreatWy
import Derived.Test.YtnakmhfjafecpaaGreatWj
import Derived.Test.YtnakmhfjafecpaaGreatFs
import Derived.Test.YtnakmhfjafecpaaGreatAg
set_option linter.unusedSimpArgs false
set_option linter.unusedVariables false
set_option linter.unusedSectionVars false
namespace Go.Proofs.YtnakmhfjafecpaaGreat
open Go.RowKit
set_option maxRecDepth 100000
set_option maxHeartbeats 4000000
section
variable {n:Y0}{k i j m:Nat}{mk:ByteArray}{t u:Int}{on l:List Int}{s:Q5}{ms:List ByteArray}{as_:List (List Int)}
theorem Qll (h:on.length≤24)(hk:k≤on.length):(Qak n on k).length≤24*k:=by
  unfold Qak
  have:=KM (f:=fun i=>V3 n ((on[i]?).getD 0) (on.drop (i+1))) (m:=24) (l:=List.range k) fun i _=>Nat.le_trans QgH (by simp only[List.length_drop]; omega)
  simpa using this
theorem Qkp (hn:n.2.length≤24)(hk:k≤ms.length)(hm:ms.length≤300)(he:on.length≤24)(hi:i≤on.length)(hj:l.length≤24):(ZI n (ms.take k)++Qak n on i++V3 n t l).length≤200000:=by
  have h1:=Qcw (n:=n) (ms:=ms.take k) hn
  have h2:=Qll (n:=n) he hi
  have h3:=QgH (n:=n) (t:=t) (l:=l)
  simp only[List.length_append,List.length_take] at*
  omega
theorem QkV (hx:ms[k]? =some mk)(hi:i=(Q4 n mk).length):ZI n (ms.take k)++Qak n (Q4 n mk) i=ZI n (ms.take (k+1)):=by rw[Qm2 QmM hi,QdO hx]
theorem Qln (hx:on[i]? =some t)(hj:on.length≤j+(i+1)):as_++Qak n on i++V3 n t ((on.drop (i+1)).take j)=as_++Qak n on (i+1):=by
  rw[List.take_of_length_le (by simp only[List.length_drop]; omega),List.append_assoc]
  unfold Qak
  rw[List.range_succ,List.flatMap_append]
  simp only[List.flatMap_cons,List.flatMap_nil,List.append_nil]
  rw[hx,Option.getD_some]
theorem H6 [∀s,Decidable (StgOk s)](h:(Qc s).2=true):(ZI s.1 ((Qc s).1.1.take k)).length≤200000:=by
  have h1:=Qcw (n:=s.1) (ms:=(Qc s).1.1.take k) (ZY h)
  have h2:=WK (s:=s)
  simp only[List.length_take] at h1
  omega
theorem Qi1 (h:((on.take on.length).drop ((i:Int)+1).toNat)[j]? =some u):(on.drop (i+1))[j]? =some u:=by
  rw[List.take_length,show ((i:Int)+1).toNat=i+1 by omega] at h; exact h
theorem Qnn (h:((on.take on.length).drop ((i:Int)+1).toNat)[j]? =some u):on[i+1+j]? =some u:=by
  have:=Qi1 h
  rwa [List.getElem?_drop] at this
theorem Qg9 {xt xu:QJ}(hx:l[k]? =some u)(h1:n.2[t.toNat]? =some xt)(h2:n.2[u.toNat]? =some xu)(h:(xt.1.any fun z=>xu.1.any fun y=>decide (z=y))=false):(as_++V3 n t (l.take k))++[[t,u]]=as_++V3 n t (l.take (k+1)):=by
  rw[List.append_assoc,Qma hx h1 h2 (by rw[h]; rfl)]
theorem Qef {xt xu:QJ}(hx:l[k]? =some u)(h1:n.2[t.toNat]? =some xt)(h2:n.2[u.toNat]? =some xu)(h:(xt.1.any fun z=>xu.1.any fun y=>decide (z=y))=true):as_++V3 n t (l.take k)=as_++V3 n t (l.take (k+1)):=by
  rw[QmU hx h1 h2 (by rw[h]; rfl)]
theorem Qj0 [∀s,Decidable (StgOk s)](hk:k=(Qc s).1.1.length):Ug (ZJ (ZI s.1 ((Qc s).1.1.take k)))=Q7 s:=by rw[hk,List.take_length,Qmb]; rfl
end
theorem JL (s:(Int×(List (List Int×List Int)))×(List (ByteArray×Int))×(List (Int×Bool))×ByteArray)[∀s,Decidable (StgOk s)]:FC Tryz.prog 57 [(true,[dI s.1.1, .dat (.sl 159 (.pr (.sl 3 .int) (.sl 3 .int))) s.1.2, .dat (.sl 145 (.pr .str .int)) s.2.1, .dat (.sl 61 (.pr .int .bool)) s.2.2.1,dS s.2.2.2])] [] 0 (Is (PV.tup [(false,[.ref 0]),(false,[dB ((Qc s).2)])]) [(0,some (.arr 106 (.sl 3 .int) (Q7 s)))]):=by
 refine QN Tryz.func57 rfl rfl Tryz.ntmps57 fun O_ hO w0_ N0_ X_ h0_ f0_=> ?_
 refine AC.fact (QG (x:= .tmp 0) (i:=0) (Qb rfl) rfl) fun hi1=> ?_
 refine w_ ?_
 refine lc (Qw 0 (Qb rfl) rfl rfl (Fresh.of rfl) (nlr rfl)) ?_
 iterate 5 refine w_ ?_
 refine lc (Qn (Ww s).frozenG JR ⟨_,_,rfl,(Qb rfl),rfl⟩ rfl rfl) ?_
 iterate 3 refine w_ ?_
 refine lc (Qp 1 (.pr (.sl 9 .str) (.sl 226 (.pr .int (.pr .int .int)))) Wr rfl rfl (Fresh.of rfl) (nlr rfl))<|lc (Qe (Qa rfl) rfl (Qb rfl) rfl ZD rfl) ?_
 iterate 7 refine w_ ?_
 cases hb2:((Qc s).2)
 ·iterate 5 refine w_ ?_
  refine AC.wk (Wk.nilS 2 2 106 (.sl 3 .int) rfl (Fresh.of rfl) (nlr rfl))<|Qf ?_
  subst hO
  have e3:(false:Bool)=((Qc s).2):=by
   simp_all
  exact QF _ _ [(0,2)] (QC rfl (Qd rfl) (Qd rfl)) ((congrArg (fun z_=>PV.tup [(false,[.ref 2]),(false,[dB z_])]) e3)) ⟨(Qy (by exact QgN (by assumption))),trivial⟩ rfl rfl
 ·iterate 3 refine w_ ?_
  refine lc (Qg 3 (e:=(.sl 3 .int)) Q1 QI Z9 rfl rfl (List.all_eq_true.1 rfl) ⟨rfl,rfl⟩ (by decide) rfl rfl (Fresh.of rfl) (nlr rfl)) ?_
  iterate 6 refine w_ ?_
  refine AL.fact (Qq (x:= .tmp 23) (Qa rfl)) fun hl4=> ?_
  iterate 4 refine w_ ?_
  refine Qx (fun m_ s_=>∃(k:Nat),k≤(((Qc s).1).1).length∧m_=(((Qc s).1).1).length - k∧s_=⟨[(1,lP 0 0),(2,lf (.val (.slice none 0 0))),(3,lB false),(6,lR 4),(23,lf (.dat (.sl 9 .str) (((Qc s).1).1))),(24,lI ((((Qc s).1).1).length:Int)),(25,lI (k:Int))],[(0,some (.box 39 [dI s.1.1, .dat (.sl 159 (.pr (.sl 3 .int) (.sl 3 .int))) s.1.2, .dat (.sl 145 (.pr .str .int)) s.2.1, .dat (.sl 61 (.pr .int .bool)) s.2.2.1,dS s.2.2.2])),(4,some (.arr 106 (.sl 3 .int) (ZI s.1 ((Qc s).1.1.take k))))]⟩) ⟨0,Nat.zero_le _,rfl,rfl⟩ ?_ ?_
  · exact Wk.of [(0,0),(4,3)] rfl ⟨rfl,rfl,rfl,rfl,rfl,rfl,rfl,trivial⟩ ⟨rfl,(Qy (by first | rfl | simp)),trivial⟩ rfl rfl
  rintro m_ s_ ⟨k,hk5,hm6,rfl⟩
  iterate 4 refine w_ ?_
  cases hb7:(decide ((k:Int) < ((((Qc s).1).1).length:Int)))
  ·have hb7':=of_decide_eq_false hb7
   refine w_ ?_
   refine QB ?_
   refine (?_:AC _ _ _ _ _)
   iterate 2 refine w_ ?_
   refine lc (Za 5 [(0,4)] (Qk0 (ZI s.1 ((Qc s).1.1.take k)) (by have:=H6 (s:=s) (k:=k) (by assumption); omega)) QeA ⟨_,_,rfl,(Qb rfl),⟨_,_,rfl,(Evl.ev QbZ),rfl⟩⟩ ⟨rfl,trivial⟩ rfl ⟨trivial,trivial⟩ (nlr rfl)) ?_
   iterate 3 refine w_ ?_
   refine lc (Za 6 [(0,4)] (Wa (ZJ (ZI s.1 ((Qc s).1.1.take k))) (by rw[WP]; have:=H6 (s:=s) (k:=k) (by assumption); omega)) QhU ⟨_,_,rfl,(Qb rfl),⟨_,_,rfl,(Evl.ev QbZ),rfl⟩⟩ ⟨rfl,trivial⟩ rfl ⟨(Fresh.of rfl),trivial⟩ (nlr rfl)) ?_
   iterate 3 refine w_ ?_
   refine Qf ?_
   subst hO
   have e8:(true:Bool)=((Qc s).2):=by
    simp_all
   exact QF _ _ [(0,6)] (QC rfl (Qd rfl) (Qd rfl)) ((congrArg (fun z_=>PV.tup [(false,[.ref 6]),(false,[dB z_])]) e8)) ⟨(Qy (by exact Qj0 (by omega))),trivial⟩ rfl rfl
  ·have hb7':=of_decide_eq_true hb7
   iterate 5 refine w_ ?_
   obtain ⟨mk,hx10⟩:∃z,(((Qc s).1).1)[k]? =some z:=⟨_,List.getElem?_eq_getElem (by omega)⟩
   have mkh:=hx10
   have hmn:=ZY (s:=s) (by assumption)
   have hmf:=WK (s:=s)
   refine lc (Qh (Qa rfl) (Qa rfl) Zi Ze rfl (by omega) hx10) ?_
   iterate 7 refine w_ ?_
   refine lc (Qn (UR s.1 mk (QaG _ (List.mem_of_getElem? hx10)) (by have:=ZY (s:=s) (by assumption); omega)).frozen QcI ⟨_,_,rfl,(Qb rfl),⟨_,_,rfl,(Qb rfl),rfl⟩⟩ rfl rfl) ?_
   iterate 4 refine w_ ?_
   refine AL.fact (Qq (x:= .tmp 33) (Qa rfl)) fun hl11=> ?_
   iterate 4 refine w_ ?_
   refine Qx (fun m_ s_=>∃(i:Nat),i≤(Q4 s.1 mk).length∧m_=(Q4 s.1 mk).length - i∧s_=⟨[(1,lP 0 0),(2,lf (.val (.slice none 0 0))),(3,lB false),(6,lR 7),(8,lf (dS mk)),(9,lf (.dat (.sl 3 .int) (Q4 s.1 mk))),(23,lf (.dat (.sl 9 .str) (((Qc s).1).1))),(24,lI ((((Qc s).1).1).length:Int)),(25,lI (k:Int)),(26,lB true),(27,lf (.elt .str mk 0)),(28,lf (dS mk)),(29,lP 0 0),(30,ag [dI s.1.1, .dat (.sl 159 (.pr (.sl 3 .int) (.sl 3 .int))) s.1.2]),(31,lf (dS mk)),(32,lf (.dat (.sl 3 .int) (Q4 s.1 mk))),(33,lf (.dat (.sl 3 .int) (Q4 s.1 mk))),(34,lI ((Q4 s.1 mk).length:Int)),(35,lI (i:Int))],[(0,some (.box 39 [dI s.1.1, .dat (.sl 159 (.pr (.sl 3 .int) (.sl 3 .int))) s.1.2, .dat (.sl 145 (.pr .str .int)) s.2.1, .dat (.sl 61 (.pr .int .bool)) s.2.2.1,dS s.2.2.2])),(7,some (.arr 106 (.sl 3 .int) (ZI s.1 ((Qc s).1.1.take k)++Qak s.1 (Q4 s.1 mk) i)))]⟩) ⟨0,Nat.zero_le _,rfl,rfl⟩ ?_ ?_
   · exact Wk.of [(0,0),(7,4)] rfl ⟨rfl,rfl,rfl,rfl,rfl,rfl,rfl,rfl,rfl,rfl,rfl,rfl,rfl,rfl,rfl,rfl,rfl,rfl,rfl,trivial⟩ ⟨rfl,(Qy (by simp[Qak])),trivial⟩ rfl rfl
   rintro m_ s_ ⟨i,hk12,hm13,rfl⟩
   iterate 4 refine w_ ?_
   cases hb14:(decide ((i:Int) < ((Q4 s.1 mk).length:Int)))
   ·have hb14':=of_decide_eq_false hb14
    refine w_ ?_
    refine QB ?_
    refine (?_:AC _ _ _ _ _)
    iterate 3 refine w_ ?_
    refine Qk<|QU ⟨k+1,by omega,rfl,rfl⟩ (by omega) ?_
    exact Wk.of [(0,0),(4,7)] rfl ⟨rfl,rfl,rfl,rfl,rfl,rfl,rfl,trivial⟩ ⟨rfl,(Qy (QkV mkh (by omega))),trivial⟩ rfl rfl
   ·have hb14':=of_decide_eq_true hb14
    iterate 6 refine w_ ?_
    obtain ⟨t,hx16⟩:∃z,(Q4 s.1 mk)[i]? =some z:=⟨_,List.getElem?_eq_getElem (by omega)⟩
    have tq:=Yb hx16
    have th:=hx16
    have hon:=Vg s.1 mk
    refine lc (Qh (Qa rfl) (Qa rfl) QE QO rfl (by omega) hx16) ?_
    refine w_ ?_
    refine AL.fact (QA (x:= .tmp 39) (Qa rfl)) fun hi17=> ?_
    iterate 7 refine w_ ?_
    refine lc (QaJ (l:=(some ((i:Int)+1))) (h:=none) (Qa rfl) (by exact (Qa rfl)) (by exact trivial) QE QO rfl (by simp only[Option.getD_none,Option.getD_some]; omega) (by simp only[Option.getD_none,Option.getD_some]; omega) (by simp only[Option.getD_none,Option.getD_some]; omega))<|AL.fact (Qq (x:= .tmp 43) (Qa rfl)) fun hl18=> ?_
    iterate 4 refine w_ ?_
    refine Qx (fun m_ s_=>∃(j:Nat),j≤(((Q4 s.1 mk).take (Q4 s.1 mk).length).drop ((i:Int)+1).toNat).length∧m_=(((Q4 s.1 mk).take (Q4 s.1 mk).length).drop ((i:Int)+1).toNat).length - j∧s_=⟨[(1,lP 0 0),(2,lf (.val (.slice none 0 0))),(3,lB false),(6,lR 8),(8,lf (dS mk)),(9,lf (.dat (.sl 3 .int) (Q4 s.1 mk))),(10,lI (i:Int)),(11,lI t),(23,lf (.dat (.sl 9 .str) (((Qc s).1).1))),(24,lI ((((Qc s).1).1).length:Int)),(25,lI (k:Int)),(26,lB true),(27,lf (.elt .str mk 0)),(28,lf (dS mk)),(29,lP 0 0),(30,ag [dI s.1.1, .dat (.sl 159 (.pr (.sl 3 .int) (.sl 3 .int))) s.1.2]),(31,lf (dS mk)),(32,lf (.dat (.sl 3 .int) (Q4 s.1 mk))),(33,lf (.dat (.sl 3 .int) (Q4 s.1 mk))),(34,lI ((Q4 s.1 mk).length:Int)),(35,lI (i:Int)),(36,lB true),(37,lI (i:Int)),(38,lf (.elt .int t 0)),(39,lI t),(40,lf (.dat (.sl 3 .int) (Q4 s.1 mk))),(41,lI (i:Int)),(42,lI ((i:Int)+1)),(43,lf (.dat (.sl 3 .int) (((Q4 s.1 mk).take (Q4 s.1 mk).length).drop ((i:Int)+1).toNat))),(44,lI ((((Q4 s.1 mk).take (Q4 s.1 mk).length).drop ((i:Int)+1).toNat).length:Int)),(45,lI (j:Int))],[(0,some (.box 39 [dI s.1.1, .dat (.sl 159 (.pr (.sl 3 .int) (.sl 3 .int))) s.1.2, .dat (.sl 145 (.pr .str .int)) s.2.1, .dat (.sl 61 (.pr .int .bool)) s.2.2.1,dS s.2.2.2])),(8,some (.arr 106 (.sl 3 .int) (ZI s.1 ((Qc s).1.1.take k)++Qak s.1 (Q4 s.1 mk) i++V3 s.1 t (((Q4 s.1 mk).drop (i+1)).take j))))]⟩) ⟨0,Nat.zero_le _,rfl,rfl⟩ ?_ ?_
    · exact Wk.of [(0,0),(8,7)] rfl ⟨rfl,rfl,rfl,rfl,rfl,rfl,rfl,rfl,rfl,rfl,rfl,rfl,rfl,rfl,rfl,rfl,rfl,rfl,rfl,rfl,rfl,rfl,rfl,rfl,rfl,rfl,rfl,rfl,rfl,rfl,rfl,trivial⟩ ⟨rfl,(Qy (by simp[V3])),trivial⟩ rfl rfl
    rintro m_ s_ ⟨j,hk19,hm20,rfl⟩
    iterate 4 refine w_ ?_
    cases hb21:(decide ((j:Int) < ((((Q4 s.1 mk).take (Q4 s.1 mk).length).drop ((i:Int)+1).toNat).length:Int)))
    ·have hb21':=of_decide_eq_false hb21
     refine w_ ?_
     refine QB ?_
     refine (?_:AC _ _ _ _ _)
     iterate 3 refine w_ ?_
     refine Qk<|QU ⟨i+1,by omega,rfl,rfl⟩ (by omega) ?_
     exact Wk.of [(0,0),(7,8)] rfl ⟨rfl,rfl,rfl,rfl,rfl,rfl,rfl,rfl,rfl,rfl,rfl,rfl,rfl,rfl,rfl,rfl,rfl,rfl,rfl,trivial⟩ ⟨rfl,(Qy (Qln th (by simp only[List.length_take,List.length_drop] at*; omega))),trivial⟩ rfl rfl
    ·have hb21':=of_decide_eq_true hb21
     iterate 5 refine w_ ?_
     obtain ⟨u,hx23⟩:∃z,(((Q4 s.1 mk).take (Q4 s.1 mk).length).drop ((i:Int)+1).toNat)[j]? =some z:=⟨_,List.getElem?_eq_getElem (by omega)⟩
     have hdl:(((Q4 s.1 mk).take (Q4 s.1 mk).length).drop ((i:Int)+1).toNat).length≤24:=by simp only[List.length_drop,List.length_take]; omega
     have uh:=Qnn hx23
     have ud:=Qi1 hx23
     have uq:=Yb uh
     refine lc (Qh (Qa rfl) (Qa rfl) QE QO rfl (by omega) hx23) ?_
     refine w_ ?_
     refine AL.fact (QA (x:= .tmp 48) (Qa rfl)) fun hi24=> ?_
     iterate 2 refine w_ ?_
     obtain ⟨xt,hx26⟩:∃z,s.1.2[(t).toNat]? =some z:=⟨_,List.getElem?_eq_getElem (by omega)⟩
     have xth:=hx26
     obtain ⟨xu,hx28⟩:∃z,s.1.2[(u).toNat]? =some z:=⟨_,List.getElem?_eq_getElem (by omega)⟩
     have xuh:=hx28
     refine dw [io 49 (lP 0 0),io 50 (lP 0 1),io 51 (lf (.dat (.sl 159 (.pr (.sl 3 .int) (.sl 3 .int))) s.1.2)),io 52 (lI t),io 53 (lf (.elt (.pr (.sl 3 .int) (.sl 3 .int)) xt 0)),io 54 (lf (.elt (.pr (.sl 3 .int) (.sl 3 .int)) xt 0)),io 55 (lf (.dat (.sl 3 .int) xt.1)),io 56 (lP 0 0),io 57 (lP 0 1),io 58 (lf (.dat (.sl 159 (.pr (.sl 3 .int) (.sl 3 .int))) s.1.2)),io 59 (lI u),io 60 (lf (.elt (.pr (.sl 3 .int) (.sl 3 .int)) xu 0)),io 61 (lf (.elt (.pr (.sl 3 .int) (.sl 3 .int)) xu 0)),io 62 (lf (.dat (.sl 3 .int) xu.1)),io 63 (lB (xt.1.any (fun p=>xu.1.any (fun y=>decide (p=y))))),io 64 (lB (!(xt.1.any (fun p=>xu.1.any (fun y=>decide (p=y))))))] [0,1,3,0,15,31,63,0,128,384,0,1920,3968,8064,16383,32767] mixed rfl (by kernel_rfl) ⟨dxf ZP rfl rfl rfl,dxf ZW rfl rfl rfl,dxl Y7 rfl rfl rfl rfl rfl,dxm rfl rfl,fun _ h_=>ac (Qh (h_.v rfl) (h_.v rfl) ZO Zh rfl (by omega) hx26) rfl,fun _ h_=>ac (XC (h_.v rfl) Yo rfl) rfl,fun _ h_=>ac (Q0 (h_.v rfl) QI rfl rfl) rfl,dxf ZP rfl rfl rfl,dxf ZW rfl rfl rfl,dxl Y7 rfl rfl rfl rfl rfl,dxm rfl rfl,fun _ h_=>ac (Qh (h_.v rfl) (h_.v rfl) ZO Zh rfl (by omega) hx28) rfl,fun _ h_=>ac (XC (h_.v rfl) Yo rfl) rfl,fun _ h_=>ac (Q0 (h_.v rfl) QI rfl rfl) rfl,fun _ h_=>ac (Qn (QdF xt.1 xu.1) Qh3 ⟨_,_,rfl,(h_.w rfl),⟨_,_,rfl,(h_.w rfl),rfl⟩⟩ rfl rfl) rfl,fun _ h_=>ac (Wn (h_.v rfl) rfl) rfl,⟨⟩⟩ ?_
     cases hb29:(xt.1.any (fun p=>xu.1.any (fun y=>decide (p=y))))
     ·iterate 5 refine w_ ?_
      refine lc (Qg 9 (e:= .int) QE QO Yf rfl ⟨_,_,rfl,(Qb rfl),⟨_,_,rfl,(Qb rfl),rfl⟩⟩ (List.all_eq_true.1 rfl) ⟨_,_,_,_,rfl,⟨rfl,rfl⟩,⟨_,_,_,_,rfl,⟨rfl,rfl⟩,⟨rfl,rfl⟩,rfl⟩,rfl⟩ (by decide) rfl rfl (Fresh.of rfl) (nlr rfl))<|lc (Qg 10 (e:=(.sl 3 .int)) Q1 QI Z9 rfl ⟨_,_,rfl,(Qb rfl),rfl⟩ (List.all_eq_true.1 rfl) ⟨_,_,_,_,rfl,(.inl ⟨_,rfl,rfl,rfl⟩),⟨rfl,rfl⟩,rfl⟩ (by decide) rfl rfl (Fresh.of rfl) (nlr rfl))<|lc (QQ 11 (Qa rfl) rfl (Qa rfl) rfl rfl Q1 Y5 (by (have:=Qkp (n:=s.1) (ms:=((Qc s).1).1) (k:=k) (on:=Q4 s.1 mk) (i:=i) (l:=((Q4 s.1 mk).drop (i+1)).take j) (t:=t) (ZY (by assumption)) (by omega) WK (by have:=ZY (s:=s) (by assumption); omega) (by omega) (by have:=ZY (s:=s) (by assumption); simp only[List.length_take,List.length_drop]; omega); simp only[List.length_cons,List.length_nil] at*; omega)) rfl (Fresh.of rfl) (nlr rfl)) ?_
      refine w_ ?_
      refine Qk ?_
      refine (?_:AC _ _ _ _ _)
      iterate 3 refine w_ ?_
      refine Qk<|QU ⟨j+1,by omega,rfl,rfl⟩ (by omega) ?_
      exact Wk.of [(0,0),(8,11)] rfl ⟨rfl,rfl,rfl,rfl,rfl,rfl,rfl,rfl,rfl,rfl,rfl,rfl,rfl,rfl,rfl,rfl,rfl,rfl,rfl,rfl,rfl,rfl,rfl,rfl,rfl,rfl,rfl,rfl,rfl,rfl,rfl,trivial⟩ ⟨rfl,(Qy (by first | exact Qg9 ud xth xuh (by assumption) | exact Qef ud xth xuh (by assumption))),trivial⟩ rfl rfl
     ·refine w_ ?_
      refine AC.skip ?_
      refine (?_:AC _ _ _ _ _)
      iterate 3 refine w_ ?_
      refine Qk<|QU ⟨j+1,by omega,rfl,rfl⟩ (by omega) ?_
      exact Wk.of [(0,0),(8,8)] rfl ⟨rfl,rfl,rfl,rfl,rfl,rfl,rfl,rfl,rfl,rfl,rfl,rfl,rfl,rfl,rfl,rfl,rfl,rfl,rfl,rfl,rfl,rfl,rfl,rfl,rfl,rfl,rfl,rfl,rfl,rfl,rfl,trivial⟩ ⟨rfl,(Qy (by first | exact Qg9 ud xth xuh (by assumption) | exact Qef ud xth xuh (by assumption))),trivial⟩ rfl rfl
end Go.Proofs.YtnakmhfjafecpaaGreat
namespace Go.Proofs.YtnakmhfjafecpaaGreat
open Go.RowKit
set_option maxRecDepth 100000
set_option maxHeartbeats 4000000
section
variable [∀s,Decidable (StgOk s)]{s:Q5}{o:QD}
def Zw (s:Q5)(o:QD):Bool:=(ZB s o).2&&((pfV s (ZB s o).1).2&&(pfV s (ZB s o).1).1)
def YX (s:Q5)(b:Int):Bool:=decide (0≤((s.2.2.1[b.toNat]?).getD (0,false)).1)&& !decide (((s.2.1[(((s.2.2.1[b.toNat]?).getD (0,false)).1).toNat]?).getD (ByteArray.empty,0)).2=1)
theorem QgM (h:(ZB s o).2=false):false=Zw s o:=by unfold Zw; rw[h]; rfl
theorem Qgt (h:(ZB s o).2=true)(h2:(pfV s (ZB s o).1).2=false):false=Zw s o:=by unfold Zw; rw[h,h2]; rfl
theorem Qi9 (h:(ZB s o).2=true)(h2:(pfV s (ZB s o).1).2=true):(pfV s (ZB s o).1).1=Zw s o:=by unfold Zw; rw[h,h2]; rfl
theorem Vd:(Zf s o).2=(ZB s o).2∧((Zf s o).2=true→(Zf s o).1=(ZB s o).1):=by
  unfold Zf ZB
  split
  · unfold Zu
    split
    · rename_i h; exact ⟨decide_eq_true h,fun _=>rfl⟩
    · rename_i h; exact ⟨decide_eq_false h,fun h2=>absurd (of_decide_eq_true h2) h⟩
  · exact ⟨rfl,fun h=>by cases h⟩
theorem Qla {l:Int×Bool}(hx:s.2.2.1[(o.2.1).toNat]? =some l)(h:l.1 < 0):false=(YX s o.2.1&&Zw s o):=by unfold YX; rw[hx]; simp; intro h2; omega
theorem QnD {l:Int×Bool}{g:Zc}(hx:s.2.2.1[(o.2.1).toNat]? =some l)(hg:s.2.1[(l.1).toNat]? =some g)(h:g.2=1):false=(YX s o.2.1&&Zw s o):=by unfold YX; rw[hx]; simp[hg,h]
theorem Qcb {l:Int×Bool}{g:Zc}(hx:s.2.2.1[(o.2.1).toNat]? =some l)(h0:¬l.1 < 0)(hg:s.2.1[(l.1).toNat]? =some g)(h:¬g.2=1):YX s o.2.1=true:=by unfold YX; rw[hx]; simp[hg,h]; omega
theorem Qou (h1:YX s o.2.1=true)(h:(Zf s o).2=false):false=(YX s o.2.1&&Zw s o):=by rw[h1,← QgM (by rw[← Vd.1]; exact h)]; rfl
theorem Qoq (h1:YX s o.2.1=true)(h:(Zf s o).2=true)(h2:(pfV s (Zf s o).1).2=false):false=(YX s o.2.1&&Zw s o):=by
  rw[Vd.2 h] at h2
  rw[h1,← Qgt (by rw[← Vd.1]; exact h) h2]; rfl
theorem Qo6 (h1:YX s o.2.1=true)(h:(Zf s o).2=true)(h2:(pfV s (Zf s o).1).2=true):(pfV s (Zf s o).1).1=(YX s o.2.1&&Zw s o):=by
  rw[Vd.2 h] at h2 ⊢
  rw[h1,Qi9 (by rw[← Vd.1]; exact h) h2]; rfl
end
theorem Ke (s:(Int×(List (List Int×List Int)))×(List (ByteArray×Int))×(List (Int×Bool))×ByteArray)(o:Int×Int×Bool)[∀s,Decidable (StgOk s)](hz:Ty.tot Y8 s≤2000000):FC Tryz.prog 95 [(true,[dI s.1.1, .dat (.sl 159 (.pr (.sl 3 .int) (.sl 3 .int))) s.1.2, .dat (.sl 145 (.pr .str .int)) s.2.1, .dat (.sl 61 (.pr .int .bool)) s.2.2.1,dS s.2.2.2]),(true,[dI o.1,dI o.2.1,dB o.2.2])] [] 0 (Zq (lB (Zw s o))):=by
 refine QN Tryz.func95 rfl rfl Tryz.ntmps95 fun O_ hO w0_ N0_ X_ h0_ f0_=> ?_
 refine AC.fact (QG (x:= .tmp 0) (i:=0) (Qb rfl) rfl) fun hi1=>AC.fact (QG (x:= .tmp 1) (i:=0) (Qb rfl) rfl) fun hi2=>AC.fact (QG (x:= .tmp 1) (i:=1) (Qb rfl) rfl) fun hi3=> ?_
 refine w_ ?_
 refine lc (Qw 0 (Qb rfl) rfl rfl (Fresh.of rfl) (nlr rfl))<|lc (Qw 1 (Qb rfl) rfl rfl (Fresh.of rfl) (nlr rfl)) ?_
 iterate 5 refine w_ ?_
 refine lc (Qn (Jd s o hz).frozenG QhG ⟨_,_,rfl,(Qb rfl),⟨_,_,rfl,(Qb rfl),rfl⟩⟩ rfl rfl) ?_
 iterate 3 refine w_ ?_
 refine lc (Qp 2 (.pr (.pr .int (.sl 159 (.pr (.sl 3 .int) (.sl 3 .int)))) (.pr (.sl 145 (.pr .str .int)) (.pr (.sl 61 (.pr .int .bool)) .str))) XH rfl rfl (Fresh.of rfl) (nlr rfl))<|lc (Qe (Qa rfl) rfl (Qb rfl) rfl Q9 rfl) ?_
 iterate 7 refine w_ ?_
 cases hb4:((ZB s o).2)
 ·iterate 4 refine w_ ?_
  refine Qf ?_
  subst hO
  have e5:(false:Bool)=(Zw s o):=by
   exact QgM (by assumption)
  exact Ql (Qm rfl (Qd rfl)) ((congrArg (fun z_=>lB z_) e5)) rfl
 ·iterate 5 refine w_ ?_
  refine lc (Qn (VJ s ((ZB s o).1)) QhN ⟨_,_,rfl,(Qb rfl),⟨_,_,rfl,(Qb rfl),rfl⟩⟩ rfl rfl) ?_
  iterate 9 refine w_ ?_
  cases hb6:((pfV s ((ZB s o).1)).2)
  ·iterate 4 refine w_ ?_
   refine Qf ?_
   subst hO
   have e7:(false:Bool)=(Zw s o):=by
    exact Qgt (by assumption) (by assumption)
   exact Ql (Qm rfl (Qd rfl)) ((congrArg (fun z_=>lB z_) e7)) rfl
  ·iterate 4 refine w_ ?_
   refine Qf ?_
   subst hO
   have e8:((pfV s ((ZB s o).1)).1:Bool)=(Zw s o):=by
    exact Qi9 (by assumption) (by assumption)
   exact Ql (Qm rfl (Qd rfl)) ((congrArg (fun z_=>lB z_) e8)) rfl
theorem Qa0 (s:(Int×(List (List Int×List Int)))×(List (ByteArray×Int))×(List (Int×Bool))×ByteArray)(o:Int×Int×Bool)[∀s,Decidable (StgOk s)](hz:Ty.tot Y8 s≤2000000)(hb:0≤o.2.1∧o.2.1 < (s.2.2.1.length:Int))(hl:∀l∈s.2.2.1,l.1 < (s.2.1.length:Int)):FC Tryz.prog 167 [(true,[dI s.1.1, .dat (.sl 159 (.pr (.sl 3 .int) (.sl 3 .int))) s.1.2, .dat (.sl 145 (.pr .str .int)) s.2.1, .dat (.sl 61 (.pr .int .bool)) s.2.2.1,dS s.2.2.2]),(true,[dI o.1,dI o.2.1,dB o.2.2])] [] 0 (Zq (lB (YX s o.2.1&&Zw s o))):=by
 refine QN Tryz.func167 rfl rfl Tryz.ntmps167 fun O_ hO w0_ N0_ X_ h0_ f0_=> ?_
 refine AC.fact (QG (x:= .tmp 0) (i:=0) (Qb rfl) rfl) fun hi1=>AC.fact (QG (x:= .tmp 1) (i:=0) (Qb rfl) rfl) fun hi2=>AC.fact (QG (x:= .tmp 1) (i:=1) (Qb rfl) rfl) fun hi3=> ?_
 refine w_ ?_
 refine lc (Qw 0 (Qb rfl) rfl rfl (Fresh.of rfl) (nlr rfl))<|lc (Qw 1 (Qb rfl) rfl rfl (Fresh.of rfl) (nlr rfl)) ?_
 iterate 7 refine w_ ?_
 obtain ⟨lb,hx5⟩:∃z,s.2.2.1[(o.2.1).toNat]? =some z:=⟨_,List.getElem?_eq_getElem (by omega)⟩
 have lbh:=hx5
 have lbl:=hl _ (List.mem_of_getElem? hx5)
 refine lc (Qh (Qa rfl) (Qa rfl) X2 Yr rfl (by omega) hx5) ?_
 refine w_ ?_
 refine lc (Qp 2 (.pr .int .bool) JY rfl rfl (Fresh.of rfl) (nlr rfl))<|lc (Qe (Qa rfl) rfl (Qb rfl) rfl Yr rfl) ?_
 iterate 5 refine w_ ?_
 refine AL.fact (QA (x:= .tmp 17) (Qa rfl)) fun hi6=> ?_
 iterate 2 refine w_ ?_
 cases hb7:(decide (lb.1 < 0))
 ·have hb7':=of_decide_eq_false hb7
  iterate 4 refine w_ ?_
  obtain ⟨sg,hx9⟩:∃z,s.2.1[(lb.1).toNat]? =some z:=⟨_,List.getElem?_eq_getElem (by omega)⟩
  have sgh:=hx9
  refine lgy rfl rfl (Qh (Qa rfl) (Qa rfl) YQ Z4 rfl (by omega) hx9) ?_
  iterate 5 refine w_ ?_
  cases hb10:(decide (sg.2=1))
  ·have hb10':=of_decide_eq_false hb10
   iterate 5 refine w_ ?_
   refine lc (Qn (Kz s o hz).frozenG Qcs ⟨_,_,rfl,(Qb rfl),⟨_,_,rfl,(Qb rfl),rfl⟩⟩ rfl rfl) ?_
   iterate 3 refine w_ ?_
   refine lc (Qp 3 (.pr (.pr .int (.sl 159 (.pr (.sl 3 .int) (.sl 3 .int)))) (.pr (.sl 145 (.pr .str .int)) (.pr (.sl 61 (.pr .int .bool)) .str))) XH rfl rfl (Fresh.of rfl) (nlr rfl))<|lc (Qe (Qa rfl) rfl (Qb rfl) rfl Q9 rfl) ?_
   iterate 7 refine w_ ?_
   cases hb11:((Zf s o).2)
   ·iterate 4 refine w_ ?_
    refine Qf ?_
    subst hO
    have e12:(false:Bool)=(YX s o.2.1&&Zw s o):=by
     exact Qou (Qcb lbh (by assumption) sgh (by assumption)) (by assumption)
    exact Ql (Qm rfl (Qd rfl)) ((congrArg (fun z_=>lB z_) e12)) rfl
   ·iterate 5 refine w_ ?_
    refine lc (Qn (VQ s ((Zf s o).1)) Qhr ⟨_,_,rfl,(Qb rfl),⟨_,_,rfl,(Qb rfl),rfl⟩⟩ rfl rfl) ?_
    iterate 9 refine w_ ?_
    cases hb13:((pfV s ((Zf s o).1)).2)
    ·iterate 4 refine w_ ?_
     refine Qf ?_
     subst hO
     have e14:(false:Bool)=(YX s o.2.1&&Zw s o):=by
      exact Qoq (Qcb lbh (by assumption) sgh (by assumption)) (by assumption) (by assumption)
     exact Ql (Qm rfl (Qd rfl)) ((congrArg (fun z_=>lB z_) e14)) rfl
    ·iterate 4 refine w_ ?_
     refine Qf ?_
     subst hO
     have e15:((pfV s ((Zf s o).1)).1:Bool)=(YX s o.2.1&&Zw s o):=by
      exact Qo6 (Qcb lbh (by assumption) sgh (by assumption)) (by assumption) (by assumption)
     exact Ql (Qm rfl (Qd rfl)) ((congrArg (fun z_=>lB z_) e15)) rfl
  ·have hb10':=of_decide_eq_true hb10
   iterate 4 refine w_ ?_
   refine Qf ?_
   subst hO
   have e16:(false:Bool)=(YX s o.2.1&&Zw s o):=by
    exact QnD lbh sgh (by assumption)
   exact Ql (Qm rfl (Qd rfl)) ((congrArg (fun z_=>lB z_) e16)) rfl
 ·have hb7':=of_decide_eq_true hb7
  iterate 14 refine w_ ?_
  refine Qf ?_
  subst hO
  have e17:(false:Bool)=(YX s o.2.1&&Zw s o):=by
   exact Qla lbh (by assumption)
  exact Ql (Qm rfl (Qd rfl)) ((congrArg (fun z_=>lB z_) e17)) rfl
end Go.Proofs.YtnakmhfjafecpaaGreat
namespace Go.Proofs.YtnakmhfjafecpaaGreat
open Go.RowKit
set_option maxRecDepth 100000
set_option maxHeartbeats 4000000
section
variable [∀s,Decidable (StgOk s)]{s:Q5}{P:List (List Int)}{a b:Int}{k i j n:Nat}{m:Bool}{ms:List Bool}{x:List Int}{os_:List QD}
def Wq (s:Q5)(a b:Int)(ms:List Bool):List QD:=(ms.filter fun m=>YX s b&&Zw s (a,b,m)).map fun m=>(a,b,m)
def Qej (s:Q5)(P:List (List Int))(a b:Int):List QD:=if (P.any fun p=>decide (p=[min a b,max a b]))=true∧a≠b then Wq s a b [false,true] else []
def JV (s:Q5)(P:List (List Int))(a:Int)(i:Nat):List QD:=(List.range i).flatMap fun b=>Qej s P a ((b:Nat):Int)
def Jt (s:Q5)(P:List (List Int))(n k:Nat):List QD:=(List.range k).flatMap fun a=>JV s P ((a:Nat):Int) n
theorem Qg2 (hx:ms[j]? =some m)(h:(YX s b&&Zw s (a,b,m))=true):Wq s a b (ms.take j)++[(a,b,m)]=Wq s a b (ms.take (j+1)):=by
  unfold Wq
  rw[QW hx,List.filter_append,List.map_append]; simp[h]
theorem QeJ (hx:ms[j]? =some m)(h:(YX s b&&Zw s (a,b,m))=false):Wq s a b (ms.take j)=Wq s a b (ms.take (j+1)):=by
  unfold Wq
  rw[QW hx,List.filter_append,List.map_append]; simp[h]
theorem Hc:(Wq s a b ms).length≤ms.length:=by unfold Wq; rw[List.length_map]; exact List.length_filter_le ..
theorem Qj4:(Qej s P a b).length≤2:=by
  unfold Qej
  split
  · exact Hc
  · exact Nat.zero_le _
theorem Qd1:JV s P a i++Qej s P a (i:Int)=JV s P a (i+1):=by unfold JV; rw[List.range_succ,List.flatMap_append]; simp
theorem QdW:Jt s P n k++JV s P (k:Int) n=Jt s P n (k+1):=by unfold Jt; rw[List.range_succ,List.flatMap_append]; simp
theorem Qcg:∀i,(JV s P a i).length≤2*i
  | 0=>Nat.le_refl _
  | i+1=>by rw[← Qd1,List.length_append]; have:=Qcg i; have:=Qj4 (s:=s) (P:=P) (a:=a) (b:=(i:Int)); omega
theorem Qcl (hn:n≤24):∀k,(Jt s P n k).length≤48*k
  | 0=>Nat.le_refl _
  | k+1=>by rw[← QdW,List.length_append]; have:=Qcl hn k; have:=Qcg n (s:=s) (P:=P) (a:=(k:Int)); omega
theorem Qjm {l:List (List Int)}{y:List Int}(hx:l[k]? =some x)(h:x=y):(true:Bool)=((l.take (k+1)).any fun p=>decide (p=y)):=by rw[QW hx]; simp[h]
theorem QlS {l:List (List Int)}{y:List Int}(hx:l[k]? =some x)(h:¬x=y):((l.take k).any fun p=>decide (p=y))=((l.take (k+1)).any fun p=>decide (p=y)):=by rw[QW hx]; simp[h]
theorem QjB {l:List (List Int)}{y:List Int}(h:((l.take k).any fun p=>decide (p=y))=true):(true:Bool)=((l.take (k+1)).any fun p=>decide (p=y)):=by
  obtain ⟨z,h1,h2⟩:=List.any_eq_true.1 h
  exact (List.any_eq_true.2 ⟨z,List.mem_of_mem_take (i:=k) (by rw[List.take_take,show min k (k+1)=k by omega]; exact h1),h2⟩).symm
def Xw (s:Q5)(c:Bool)(a b:Int)(ms:List Bool):List QD:=if c=true∧a≠b then Wq s a b ms else []
theorem KO {c:Bool}(hx:ms[j]? =some m)(hc:c=true)(hab:a≠b)(h:(YX s b&&Zw s (a,b,m))=true):Xw s c a b (ms.take j)++[(a,b,m)]=Xw s c a b (ms.take (j+1)):=by
  unfold Xw
  rw[if_pos ⟨hc,hab⟩,if_pos ⟨hc,hab⟩,Qg2 hx h]
theorem HO {c:Bool}(hx:ms[j]? =some m)(h:(YX s b&&Zw s (a,b,m))=false):Xw s c a b (ms.take j)=Xw s c a b (ms.take (j+1)):=by
  unfold Xw
  rw[QeJ hx h]
theorem Xo {c:Bool}(h:¬(c=true∧a≠b)):Xw s c a b (ms.take j)=Xw s c a b (ms.take (j+1)):=by
  unfold Xw
  rw[if_neg h,if_neg h]
theorem Qkf {c:Bool}:(Xw s c a b ms).length≤ms.length:=by
  unfold Xw
  split
  · exact Hc
  · exact Nat.zero_le _
theorem QkR (hj:P.length≤j):Xw s ((P.take j).any fun p=>decide (p=[min a b,max a b])) a b [false,true]=Qej s P a b:=by rw[List.take_of_length_le hj]; rfl
theorem QlR (hm:([false,true]:List Bool).length≤k)(hj:P.length≤j):os_++JV s P a i++Xw s ((P.take j).any fun p=>decide (p=[min a (i:Int),max a (i:Int)])) a (i:Int) (([false,true]:List Bool).take k)=os_++JV s P a (i+1):=by
  rw[List.take_of_length_le hm,QkR hj,List.append_assoc,Qd1]
theorem Ho {c:Bool}{os2:List QD}(h:Xw s c a b (ms.take j)++[(a,b,m)]=Xw s c a b (ms.take (j+1))):(os2++Xw s c a b (ms.take j))++[(a,b,m)]=os2++Xw s c a b (ms.take (j+1)):=by rw[List.append_assoc,h]
theorem Qjv {l:List (List Int)}{y:List Int}(hx:l[k]? =some x)(h:((l.take k).any fun p=>decide (p=y))=false):decide (x=y)=((l.take (k+1)).any fun p=>decide (p=y)):=by rw[QW hx,List.any_append,h]; simp
theorem Qm9 (hi:i=n):Jt s P n k++JV s P (k:Int) i=Jt s P n (k+1):=by rw[hi,QdW]
theorem QmE {c:Bool}(hn:n≤24)(hk:k≤n)(hi:i≤n)(hj:ms.length≤2):(Jt s P n k++JV s P a i++Xw s c a b ms).length≤5000:=by
  have h1:=Qcl hn k (s:=s) (P:=P)
  have h2:=Qcg i (s:=s) (P:=P) (a:=a)
  have h3:=Qkf (s:=s) (c:=c) (a:=a) (b:=b) (ms:=ms)
  simp only[List.length_append]; omega
def Yc (s:Q5):List QD:=Jt s (Q7 s) s.1.2.length s.1.2.length
end
theorem VD (s:(Int×(List (List Int×List Int)))×(List (ByteArray×Int))×(List (Int×Bool))×ByteArray)[∀s,Decidable (StgOk s)](hz:Ty.tot Y8 s≤2000000)(he:(Qc s).2=true):FC Tryz.prog 90 [(true,[dI s.1.1, .dat (.sl 159 (.pr (.sl 3 .int) (.sl 3 .int))) s.1.2, .dat (.sl 145 (.pr .str .int)) s.2.1, .dat (.sl 61 (.pr .int .bool)) s.2.2.1,dS s.2.2.2])] [] 0 (UC 85 (.pr .int (.pr .int .bool)) (Yc s)):=by
 obtain ⟨hsg,_⟩:=Zo he
 have hnn:=ZY he
 have hsl:=hsg.len
 have hlb:∀l∈s.2.2.1,l.1 < (s.2.1.length:Int):=fun l hl=>by rcases hsg.labs l hl with h | h <;> omega
 refine QN Tryz.func90 rfl rfl Tryz.ntmps90 fun O_ hO w0_ N0_ X_ h0_ f0_=> ?_
 refine AC.fact (QG (x:= .tmp 0) (i:=0) (Qb rfl) rfl) fun hi1=> ?_
 refine w_ ?_
 refine lc (Qw 0 (Qb rfl) rfl rfl (Fresh.of rfl) (nlr rfl)) ?_
 iterate 4 refine w_ ?_
 refine lc (Qn (Wt s).frozenG Qav ⟨_,_,rfl,(Qb rfl),rfl⟩ rfl rfl) ?_
 iterate 3 refine w_ ?_
 refine lc (Qp 1 (.pr (.sl 9 .str) (.sl 226 (.pr .int (.pr .int .int)))) Wr rfl rfl (Fresh.of rfl) (nlr rfl))<|lc (Qe (Qa rfl) rfl (Qb rfl) rfl ZD rfl) ?_
 iterate 5 refine w_ ?_
 refine lc (Qn (Qaa s ((Qc s).1) QaG (ZY he) WK).frozen Qj9 ⟨_,_,rfl,(Qb rfl),⟨_,_,rfl,(Qb rfl),rfl⟩⟩ rfl rfl) ?_
 iterate 10 refine w_ ?_
 refine AL.fact (Qq (x:= .tmp 25) (Qa rfl)) fun hl2=> ?_
 iterate 4 refine w_ ?_
 refine AC.wk (Wk.nilS 2 6 85 (.pr .int (.pr .int .bool)) rfl (Fresh.of rfl) (nlr rfl)) ?_
 refine Qx (fun m_ s_=>∃(k:Nat),k≤s.1.2.length∧m_=s.1.2.length - k∧s_=⟨[(1,lP 0 0),(2,lf (.val (.slice none 0 0))),(5,lf (.dat (.sl 106 (.sl 3 .int)) (ofG ltP (ZI s.1 ((Qc s).1).1)))),(6,lR 3),(26,lI (s.1.2.length:Int)),(27,lI (k:Int))],[(0,some (.box 39 [dI s.1.1, .dat (.sl 159 (.pr (.sl 3 .int) (.sl 3 .int))) s.1.2, .dat (.sl 145 (.pr .str .int)) s.2.1, .dat (.sl 61 (.pr .int .bool)) s.2.2.1,dS s.2.2.2])),(3,some (.arr 85 (.pr .int (.pr .int .bool)) (Jt s (ofG ltP (ZI s.1 (((Qc s).1).1))) s.1.2.length k)))]⟩) ⟨0,Nat.zero_le _,rfl,rfl⟩ ?_ ?_
 · exact Wk.of [(0,0),(3,2)] rfl ⟨rfl,rfl,rfl,rfl,rfl,rfl,trivial⟩ ⟨rfl,(Qy (by first | rfl | simp)),trivial⟩ rfl rfl
 rintro m_ s_ ⟨k,hk3,hm4,rfl⟩
 iterate 4 refine w_ ?_
 cases hb5:(decide ((k:Int) < (s.1.2.length:Int)))
 ·have hb5':=of_decide_eq_false hb5
  refine w_ ?_
  refine QB ?_
  refine (?_:AC _ _ _ _ _)
  iterate 4 refine w_ ?_
  refine Qf ?_
  subst hO
  refine ZU (e:=(.pr .int (.pr .int .bool))) (xs:=(Jt s (ofG ltP (ZI s.1 (((Qc s).1).1))) s.1.2.length k)) (Qm rfl (Qd rfl)) rfl ?_
  (have hkk:k=s.1.2.length:=(by omega); rw[hkk]; rfl)
 ·have hb5':=of_decide_eq_true hb5
  iterate 12 refine w_ ?_
  refine AL.fact (Qq (x:= .tmp 32) (Qa rfl)) fun hl6=> ?_
  iterate 4 refine w_ ?_
  refine Qx (fun m_ s_=>∃(i:Nat),i≤s.1.2.length∧m_=s.1.2.length - i∧s_=⟨[(1,lP 0 0),(2,lf (.val (.slice none 0 0))),(5,lf (.dat (.sl 106 (.sl 3 .int)) (ofG ltP (ZI s.1 ((Qc s).1).1)))),(6,lR 4),(7,lI (k:Int)),(26,lI (s.1.2.length:Int)),(27,lI (k:Int)),(28,lB true),(29,lI (k:Int)),(30,lP 0 0),(31,lP 0 1),(32,lf (.dat (.sl 159 (.pr (.sl 3 .int) (.sl 3 .int))) s.1.2)),(33,lI (s.1.2.length:Int)),(34,lI (i:Int))],[(0,some (.box 39 [dI s.1.1, .dat (.sl 159 (.pr (.sl 3 .int) (.sl 3 .int))) s.1.2, .dat (.sl 145 (.pr .str .int)) s.2.1, .dat (.sl 61 (.pr .int .bool)) s.2.2.1,dS s.2.2.2])),(4,some (.arr 85 (.pr .int (.pr .int .bool)) (Jt s (ofG ltP (ZI s.1 (((Qc s).1).1))) s.1.2.length k++JV s (ofG ltP (ZI s.1 (((Qc s).1).1))) (k:Int) i)))]⟩) ⟨0,Nat.zero_le _,rfl,rfl⟩ ?_ ?_
  · exact Wk.of [(0,0),(4,3)] rfl ⟨rfl,rfl,rfl,rfl,rfl,rfl,rfl,rfl,rfl,rfl,rfl,rfl,rfl,rfl,trivial⟩ ⟨rfl,(Qy (by simp[JV])),trivial⟩ rfl rfl
  rintro m_ s_ ⟨i,hk7,hm8,rfl⟩
  iterate 4 refine w_ ?_
  cases hb9:(decide ((i:Int) < (s.1.2.length:Int)))
  ·have hb9':=of_decide_eq_false hb9
   refine w_ ?_
   refine QB ?_
   refine (?_:AC _ _ _ _ _)
   iterate 3 refine w_ ?_
   refine Qk<|QU ⟨k+1,by omega,rfl,rfl⟩ (by omega) ?_
   exact Wk.of [(0,0),(3,4)] rfl ⟨rfl,rfl,rfl,rfl,rfl,rfl,trivial⟩ ⟨rfl,(Qy (Qm9 (by omega))),trivial⟩ rfl rfl
  ·have hb9':=of_decide_eq_true hb9
   iterate 14 refine w_ ?_
   refine AL.fact (Qq (x:= .tmp 37) (Qa rfl)) fun hl10=> ?_
   iterate 4 refine w_ ?_
   refine Qx (fun m_ s_=>∃(j:Nat),j≤(ofG ltP (ZI s.1 (((Qc s).1).1))).length∧m_=(ofG ltP (ZI s.1 (((Qc s).1).1))).length - j∧s_=⟨[(1,lP 0 0),(2,lf (.val (.slice none 0 0))),(5,lf (.dat (.sl 106 (.sl 3 .int)) (ofG ltP (ZI s.1 ((Qc s).1).1)))),(6,lR 4),(7,lI (k:Int)),(8,lI (i:Int)),(9,lB (((ofG ltP (ZI s.1 (((Qc s).1).1))).take j).any (fun p=>decide (p=[min (k:Int) (i:Int),max (k:Int) (i:Int)])))),(26,lI (s.1.2.length:Int)),(27,lI (k:Int)),(28,lB true),(29,lI (k:Int)),(30,lP 0 0),(31,lP 0 1),(32,lf (.dat (.sl 159 (.pr (.sl 3 .int) (.sl 3 .int))) s.1.2)),(33,lI (s.1.2.length:Int)),(34,lI (i:Int)),(35,lB true),(36,lI (i:Int)),(37,lf (.dat (.sl 106 (.sl 3 .int)) (ofG ltP (ZI s.1 ((Qc s).1).1)))),(38,lI ((ofG ltP (ZI s.1 ((Qc s).1).1)).length:Int)),(39,lI (j:Int))],[(0,some (.box 39 [dI s.1.1, .dat (.sl 159 (.pr (.sl 3 .int) (.sl 3 .int))) s.1.2, .dat (.sl 145 (.pr .str .int)) s.2.1, .dat (.sl 61 (.pr .int .bool)) s.2.2.1,dS s.2.2.2])),(4,some (.arr 85 (.pr .int (.pr .int .bool)) (Jt s (ofG ltP (ZI s.1 (((Qc s).1).1))) s.1.2.length k++JV s (ofG ltP (ZI s.1 (((Qc s).1).1))) (k:Int) i)))]⟩) ⟨0,Nat.zero_le _,rfl,rfl⟩ ?_ ?_
   · exact Wk.of [(0,0),(4,4)] rfl ⟨rfl,rfl,rfl,rfl,rfl,rfl,(show some (lB false)=some (lB (((ofG ltP (ZI s.1 (((Qc s).1).1))).take 0).any (fun p=>decide (p=[min (k:Int) (i:Int),max (k:Int) (i:Int)])))) from congrArg (fun z_=>some (lB z_)) (by simp)),rfl,rfl,rfl,rfl,rfl,rfl,rfl,rfl,rfl,rfl,rfl,rfl,rfl,rfl,trivial⟩ ⟨rfl,rfl,trivial⟩ rfl rfl
   rintro m_ s_ ⟨j,hk12,hm13,rfl⟩
   iterate 4 refine w_ ?_
   cases hb14:(decide ((j:Int) < ((ofG ltP (ZI s.1 ((Qc s).1).1)).length:Int)))
   ·have hb14':=of_decide_eq_false hb14
    refine w_ ?_
    refine QB ?_
    refine (?_:AC _ _ _ _ _)
    refine w_ ?_
    refine lc (Qg 5 (e:= .bool) Qbi WW Qn5 rfl ⟨_,_,rfl,(Evl.ev Yy),⟨_,_,rfl,(Evl.ev Yy),rfl⟩⟩ (List.all_eq_true.1 rfl) ⟨_,_,_,_,rfl,⟨rfl,rfl⟩,⟨_,_,_,_,rfl,⟨rfl,rfl⟩,⟨rfl,rfl⟩,rfl⟩,rfl⟩ (by decide) rfl rfl (Fresh.of rfl) (nlr rfl)) ?_
    iterate 4 refine w_ ?_
    refine Qx (fun m_ s_=>∃(m:Nat),m≤([false,true]).length∧m_=([false,true]).length - m∧s_=⟨[(1,lP 0 0),(2,lf (.val (.slice none 0 0))),(5,lf (.dat (.sl 106 (.sl 3 .int)) (ofG ltP (ZI s.1 ((Qc s).1).1)))),(6,lR 6),(7,lI (k:Int)),(8,lI (i:Int)),(9,lB (((ofG ltP (ZI s.1 (((Qc s).1).1))).take j).any (fun p=>decide (p=[min (k:Int) (i:Int),max (k:Int) (i:Int)])))),(26,lI (s.1.2.length:Int)),(27,lI (k:Int)),(28,lB true),(29,lI (k:Int)),(30,lP 0 0),(31,lP 0 1),(32,lf (.dat (.sl 159 (.pr (.sl 3 .int) (.sl 3 .int))) s.1.2)),(33,lI (s.1.2.length:Int)),(34,lI (i:Int)),(35,lB true),(36,lI (i:Int)),(37,lf (.dat (.sl 106 (.sl 3 .int)) (ofG ltP (ZI s.1 ((Qc s).1).1)))),(38,lI ((ofG ltP (ZI s.1 ((Qc s).1).1)).length:Int)),(39,lI (j:Int)),(40,lB false),(56,lR 5),(57,lI (([false,true]).length:Int)),(58,lI (m:Int))],[(0,some (.box 39 [dI s.1.1, .dat (.sl 159 (.pr (.sl 3 .int) (.sl 3 .int))) s.1.2, .dat (.sl 145 (.pr .str .int)) s.2.1, .dat (.sl 61 (.pr .int .bool)) s.2.2.1,dS s.2.2.2])),(5,some (.arr 4 .bool ([false,true]))),(6,some (.arr 85 (.pr .int (.pr .int .bool)) (Jt s (ofG ltP (ZI s.1 (((Qc s).1).1))) s.1.2.length k++JV s (ofG ltP (ZI s.1 (((Qc s).1).1))) (k:Int) i++Xw s (((ofG ltP (ZI s.1 (((Qc s).1).1))).take j).any (fun p=>decide (p=[min (k:Int) (i:Int),max (k:Int) (i:Int)]))) (k:Int) (i:Int) (([false,true]:List Bool).take m))))]⟩) ⟨0,Nat.zero_le _,rfl,rfl⟩ ?_ ?_
    · exact Wk.of [(0,0),(5,5),(6,4)] rfl ⟨rfl,rfl,rfl,rfl,rfl,rfl,rfl,rfl,rfl,rfl,rfl,rfl,rfl,rfl,rfl,rfl,rfl,rfl,rfl,rfl,rfl,rfl,rfl,rfl,rfl,trivial⟩ ⟨rfl,rfl,(Qy (by simp[Xw,Wq])),trivial⟩ rfl rfl
    rintro m_ s_ ⟨m,hk15,hm16,rfl⟩
    have h2l:(([false,true]:List Bool).length)=2:=rfl
    iterate 4 refine w_ ?_
    cases hb17:(decide ((m:Int) < (([false,true]).length:Int)))
    ·have hb17':=of_decide_eq_false hb17
     refine w_ ?_
     refine QB ?_
     refine (?_:AC _ _ _ _ _)
     iterate 3 refine w_ ?_
     refine Qk<|QU ⟨i+1,by omega,rfl,rfl⟩ (by omega) ?_
     exact Wk.of [(0,0),(4,6)] rfl ⟨rfl,rfl,rfl,rfl,rfl,rfl,rfl,rfl,rfl,rfl,rfl,rfl,rfl,rfl,trivial⟩ ⟨rfl,(Qy (QlR (by omega) (by omega))),trivial⟩ rfl rfl
    ·have hb17':=of_decide_eq_true hb17
     iterate 5 refine w_ ?_
     refine lc (Qu (e:= .bool) (Qa rfl) rfl (Qa rfl) Qbi WW rfl (by omega) (by first | omega | (simp only[List.length_set]; omega))) ?_
     obtain ⟨mg,hx19⟩:∃z,([false,true])[m]? =some z:=⟨_,List.getElem?_eq_getElem (by omega)⟩
     have mgh:=hx19
     refine lc (QL (e:= .bool) (Qa rfl) rfl hx19 rfl WW rfl rfl) ?_
     iterate 6 refine w_ ?_
     refine lc (QH Qfu ⟨_,_,rfl,(Qb rfl),⟨_,_,rfl,(Qb rfl),⟨_,_,rfl,(Qb rfl),rfl⟩⟩⟩ (List.all_eq_true.1 rfl) rfl rfl)<|lc (Qp 7 (.pr .int (.pr .int .bool)) Xj rfl rfl (Fresh.of rfl) (nlr rfl))<|lc (Qe (Qa rfl) rfl (Qb rfl) rfl ZF rfl) ?_
     iterate 4 refine w_ ?_
     cases hb20:(((ofG ltP (ZI s.1 (((Qc s).1).1))).take j).any (fun p=>decide (p=[min (k:Int) (i:Int),max (k:Int) (i:Int)])))
     ·iterate 11 refine w_ ?_
      refine AC.skip ?_
      refine (?_:AC _ _ _ _ _)
      iterate 3 refine w_ ?_
      refine Qk<|QU ⟨m+1,by omega,rfl,rfl⟩ (by omega) ?_
      exact Wk.of [(0,0),(5,5),(6,6)] rfl ⟨rfl,rfl,rfl,rfl,rfl,rfl,rfl,rfl,rfl,rfl,rfl,rfl,rfl,rfl,rfl,rfl,rfl,rfl,rfl,rfl,rfl,rfl,rfl,rfl,rfl,trivial⟩ ⟨rfl,rfl,(Qy (by first | exact Ho (KO mgh rfl (by omega) (by assumption)) | exact congrArg _ (HO mgh (by assumption)) | exact congrArg _ (Xo (fun h=>h.2 (by omega))) | exact congrArg _ (Xo (fun h=>by cases h.1)))),trivial⟩ rfl rfl
     ·iterate 5 refine w_ ?_
      cases hb21:(!decide ((k:Int)=(i:Int)))
      ·have hb21':((k:Int)=(i:Int)):=Zb hb21
       iterate 6 refine w_ ?_
       refine AC.skip ?_
       refine (?_:AC _ _ _ _ _)
       iterate 3 refine w_ ?_
       refine Qk<|QU ⟨m+1,by omega,rfl,rfl⟩ (by omega) ?_
       exact Wk.of [(0,0),(5,5),(6,6)] rfl ⟨rfl,rfl,rfl,rfl,rfl,rfl,rfl,rfl,rfl,rfl,rfl,rfl,rfl,rfl,rfl,rfl,rfl,rfl,rfl,rfl,rfl,rfl,rfl,rfl,rfl,trivial⟩ ⟨rfl,rfl,(Qy (by first | exact Ho (KO mgh rfl (by omega) (by assumption)) | exact congrArg _ (HO mgh (by assumption)) | exact congrArg _ (Xo (fun h=>h.2 (by omega))) | exact congrArg _ (Xo (fun h=>by cases h.1)))),trivial⟩ rfl rfl
      ·have hb21':¬((k:Int)=(i:Int)):=Zk hb21
       iterate 2 refine w_ ?_
       refine lgy rfl rfl (Qn (Qa0 s ((k:Int),(i:Int),mg) hz (by show (0:Int)≤(i:Int)∧(i:Int) < _; omega) hlb) QhI ⟨_,_,rfl,(Qb rfl),⟨_,_,rfl,(Qb rfl),rfl⟩⟩ rfl rfl) ?_
       iterate 2 refine w_ ?_
       cases hb22:(YX s ((k:Int),(i:Int),mg).2.1&&Zw s ((k:Int),(i:Int),mg))
       ·refine w_ ?_
        refine AC.skip ?_
        refine (?_:AC _ _ _ _ _)
        iterate 3 refine w_ ?_
        refine Qk<|QU ⟨m+1,by omega,rfl,rfl⟩ (by omega) ?_
        exact Wk.of [(0,0),(5,5),(6,6)] rfl ⟨rfl,rfl,rfl,rfl,rfl,rfl,rfl,rfl,rfl,rfl,rfl,rfl,rfl,rfl,rfl,rfl,rfl,rfl,rfl,rfl,rfl,rfl,rfl,rfl,rfl,trivial⟩ ⟨rfl,rfl,(Qy (by first | exact Ho (KO mgh rfl (by omega) (by assumption)) | exact congrArg _ (HO mgh (by assumption)) | exact congrArg _ (Xo (fun h=>h.2 (by omega))) | exact congrArg _ (Xo (fun h=>by cases h.1)))),trivial⟩ rfl rfl
       ·iterate 4 refine w_ ?_
        refine lc (Qg 8 (e:=(.pr .int (.pr .int .bool))) Uz ZF Xj rfl ⟨_,_,rfl,(Qb rfl),rfl⟩ (List.all_eq_true.1 rfl) ⟨_,_,_,_,rfl,⟨[dI (k:Int)],[dI (i:Int),dB mg],_,_,_,_,rfl,rfl,⟨rfl,rfl⟩,⟨[dI (i:Int)],[dB mg],_,_,_,_,rfl,rfl,⟨rfl,rfl⟩,⟨rfl,rfl⟩,rfl⟩,rfl⟩,⟨rfl,rfl⟩,rfl⟩ (by decide) rfl rfl (Fresh.of rfl) (nlr rfl))<|lc (QQ 9 (Qa rfl) rfl (Qa rfl) rfl rfl Uz Qls (by (have:=QmE (s:=s) (P:=ofG ltP (ZI s.1 (((Qc s).1).1))) (n:=s.1.2.length) (k:=k) (i:=i) (a:=(k:Int)) (b:=(i:Int)) (c:=true) (ms:=([false,true]:List Bool).take m) hnn (by omega) (by omega) (by simp only[List.length_take]; omega); simp only[List.length_cons,List.length_nil] at*; omega)) rfl (Fresh.of rfl) (nlr rfl)) ?_
        refine w_ ?_
        refine Qk ?_
        refine (?_:AC _ _ _ _ _)
        iterate 3 refine w_ ?_
        refine Qk<|QU ⟨m+1,by omega,rfl,rfl⟩ (by omega) ?_
        exact Wk.of [(0,0),(5,5),(6,9)] rfl ⟨rfl,rfl,rfl,rfl,rfl,rfl,rfl,rfl,rfl,rfl,rfl,rfl,rfl,rfl,rfl,rfl,rfl,rfl,rfl,rfl,rfl,rfl,rfl,rfl,rfl,trivial⟩ ⟨rfl,rfl,(Qy (by first | exact Ho (KO mgh rfl (by omega) (by assumption)) | exact congrArg _ (HO mgh (by assumption)) | exact congrArg _ (Xo (fun h=>h.2 (by omega))) | exact congrArg _ (Xo (fun h=>by cases h.1)))),trivial⟩ rfl rfl
   ·have hb14':=of_decide_eq_true hb14
    iterate 5 refine w_ ?_
    obtain ⟨x23,hx24⟩:∃z,(ofG ltP (ZI s.1 ((Qc s).1).1))[j]? =some z:=⟨_,List.getElem?_eq_getElem (by omega)⟩
    refine lc (Qh (Qa rfl) (Qa rfl) Q1 QI rfl (by omega) hx24) ?_
    iterate 6 refine w_ ?_
    cases hb25:(((ofG ltP (ZI s.1 (((Qc s).1).1))).take j).any (fun p=>decide (p=[min (k:Int) (i:Int),max (k:Int) (i:Int)])))
    ·iterate 3 refine w_ ?_
     refine lgy rfl rfl (Qn (U0 (k:Int) (i:Int)) QbL ⟨_,_,rfl,(Qb rfl),⟨_,_,rfl,(Qb rfl),rfl⟩⟩ rfl rfl) ?_
     iterate 2 refine w_ ?_
     refine lgy rfl rfl (Qn (Kc (k:Int) (i:Int)) QcF ⟨_,_,rfl,(Qb rfl),⟨_,_,rfl,(Qb rfl),rfl⟩⟩ rfl rfl)<|lgy rfl rfl (Qg 10 (e:= .int) QE QO Yf rfl ⟨_,_,rfl,(Qb rfl),⟨_,_,rfl,(Qb rfl),rfl⟩⟩ (List.all_eq_true.1 rfl) ⟨_,_,_,_,rfl,⟨rfl,rfl⟩,⟨_,_,_,_,rfl,⟨rfl,rfl⟩,⟨rfl,rfl⟩,rfl⟩,rfl⟩ (by decide) rfl rfl (Fresh.of rfl) (nlr rfl))<|lgy rfl rfl (Zm (WX x23 ([min (k:Int) (i:Int),max (k:Int) (i:Int)])) JP ⟨_,_,rfl,(Ev.b (Qb rfl)),⟨_,_,rfl,(Us (Qa rfl) rfl),rfl⟩⟩ rfl rfl rfl) ?_
     iterate 2 refine w_ ?_
     refine Qk ?_
     refine (?_:AC _ _ _ _ _)
     iterate 3 refine w_ ?_
     refine Qk<|QU ⟨j+1,by omega,rfl,rfl⟩ (by omega) ?_
     exact Wk.of [(0,0),(4,4)] rfl ⟨rfl,rfl,rfl,rfl,rfl,rfl,(show some (lB (decide (x23=([min (k:Int) (i:Int),max (k:Int) (i:Int)]))))=some (lB (((ofG ltP (ZI s.1 (((Qc s).1).1))).take (j+1)).any (fun p=>decide (p=[min (k:Int) (i:Int),max (k:Int) (i:Int)])))) from congrArg (fun z_=>some (lB z_)) (by first | exact QjB (by assumption) | exact Qjv hx24 (by assumption) | exact Qjm hx24 (of_decide_eq_true (by assumption)) | exact QlS hx24 (of_decide_eq_false (by assumption)))),rfl,rfl,rfl,rfl,rfl,rfl,rfl,rfl,rfl,rfl,rfl,rfl,rfl,rfl,trivial⟩ ⟨rfl,rfl,trivial⟩ rfl rfl
    ·iterate 11 refine w_ ?_
     refine Qk ?_
     refine (?_:AC _ _ _ _ _)
     iterate 3 refine w_ ?_
     refine Qk<|QU ⟨j+1,by omega,rfl,rfl⟩ (by omega) ?_
     exact Wk.of [(0,0),(4,4)] rfl ⟨rfl,rfl,rfl,rfl,rfl,rfl,(show some (lB true)=some (lB (((ofG ltP (ZI s.1 (((Qc s).1).1))).take (j+1)).any (fun p=>decide (p=[min (k:Int) (i:Int),max (k:Int) (i:Int)])))) from congrArg (fun z_=>some (lB z_)) (by first | exact QjB (by assumption) | exact Qjv hx24 (by assumption) | exact Qjm hx24 (of_decide_eq_true (by assumption)) | exact QlS hx24 (of_decide_eq_false (by assumption)))),rfl,rfl,rfl,rfl,rfl,rfl,rfl,rfl,rfl,rfl,rfl,rfl,rfl,rfl,trivial⟩ ⟨rfl,rfl,trivial⟩ rfl rfl
section
variable [∀s,Decidable (StgOk s)]{s:Q5}
theorem Qbz (h:(sgV s).2=true):(Qc s).2=true:=by
  cases he:(Qc s).2 with
  | true=>rfl
  | false=>rw[WJ he] at h; cases h
def XP (s:Q5):List QD:=if (sgV s).2=true then Yc s else []
theorem Hu (h:(sgV s).2=true):Yc s=XP s:=by unfold XP; rw[if_pos h]
theorem QeS (h:(sgV s).2=false):[]=XP s:=by unfold XP; rw[if_neg (by rw[h]; decide)]
end
end Go.Proofs.YtnakmhfjafecpaaGreat
namespace Go.Proofs.YtnakmhfjafecpaaGreat
open Go.RowKit
set_option maxRecDepth 100000
set_option maxHeartbeats 4000000
def swp (p:List Int):List Int:=[(p[1]?).getD 0,(p[0]?).getD 0]
def QkL (P:List (List Int))(n:Nat):List (List Int):=(List.range n).flatMap fun a:Nat=>((List.range n).filter fun b:Nat=>(P.any fun p=>decide (p=[min (a:Int) (b:Int),max (a:Int) (b:Int)]))&&decide ((a:Int)≠(b:Int))).map fun b:Nat=>[(a:Int),(b:Int)]
section
variable {P:List (List Int)}{n:Nat}{x:List Int}{ms:List ByteArray}{g:Y0}
theorem QfL (h:x∈ZI g ms):∃t u:Int,x=[t,u]∧t < u∧0≤t∧u < (g.2.length:Int):=by
  unfold ZI U3 Vl at h
  simp only[List.mem_flatMap,List.mem_map,List.mem_filter,Bool.and_eq_true,decide_eq_true_eq] at h
  obtain ⟨mk,_,t,ht,u,⟨hu,h1,_⟩,rfl⟩:=h
  obtain ⟨i,hi⟩:=List.mem_iff_getElem?.1 ht
  obtain ⟨j,hj⟩:=List.mem_iff_getElem?.1 hu
  exact ⟨t,u,rfl,h1,(Yb hi).1,(Yb hj).2⟩
theorem Qlj (hP:∀x∈P,∃t u:Int,x=[t,u]∧t < u∧0≤t∧u < (n:Int)):x∈QkL P n↔x∈P++P.map swp:=by
  unfold QkL
  simp only[List.mem_flatMap,List.mem_range,List.mem_map,List.mem_filter,Bool.and_eq_true,decide_eq_true_eq,List.any_eq_true,List.mem_append]
  constructor
  · rintro ⟨a, ha, b, ⟨hb, ⟨p, hp, rfl⟩, hne⟩, rfl⟩
    rcases Int.lt_or_gt_of_ne hne with h | h
    · left; rwa [show min (a:Int) (b:Int)=a by omega,show max (a:Int) (b:Int)=b by omega] at hp
    · right; exact ⟨_,hp,by rw[show min (a:Int) (b:Int)=b by omega,show max (a:Int) (b:Int)=a by omega]; rfl⟩
  · rintro (h | ⟨p, hp, rfl⟩)
    · obtain ⟨t, u, rfl, h1, h2, h3⟩ := hP x h
      refine ⟨t.toNat,by omega,u.toNat,⟨by omega,⟨_,h, ?_⟩,by omega⟩, ?_⟩
      · rw[show min (t.toNat:Int) (u.toNat:Int)=t by omega,show max (t.toNat:Int) (u.toNat:Int)=u by omega]
      · rw[show (t.toNat:Int)=t by omega,show (u.toNat:Int)=u by omega]
    · obtain ⟨t, u, rfl, h1, h2, h3⟩ := hP p hp
      refine ⟨u.toNat,by omega,t.toNat,⟨by omega,⟨_,hp, ?_⟩,by omega⟩, ?_⟩
      · rw[show min (u.toNat:Int) (t.toNat:Int)=t by omega,show max (u.toNat:Int) (t.toNat:Int)=u by omega]
      · rw[show (t.toNat:Int)=t by omega,show (u.toNat:Int)=u by omega]; rfl
theorem Qnp {a b c d:Int}(h:a < c):ltP [a,b] [c,d]=true:=by unfold ltP; rw[if_pos h]
theorem QmY {a b d:Int}(h:b < d):ltP [a,b] [a,d]=true:=by unfold ltP; rw[if_neg (by omega),if_neg (by omega)]; unfold ltP; rw[if_pos h]
theorem Qmx:(QkL P n).Pairwise fun x y=>ltP x y=true:=by
  unfold QkL
  rw[List.pairwise_flatMap]
  refine ⟨fun a _=> ?_, ?_⟩
  · rw [List.pairwise_map]
    exact (List.pairwise_lt_range.filter _).imp fun h=>QmY (by omega)
  · refine List.pairwise_lt_range.imp fun {a b} h x hx y hy => ?_
    obtain ⟨_,_,rfl⟩:=List.mem_map.1 hx
    obtain ⟨_,_,rfl⟩:=List.mem_map.1 hy
    exact Qnp (by omega)
theorem Qb2 {l:List (List Int)}(h:l.Pairwise fun x y=>ltP x y=true):l.Nodup:=h.imp fun h e=>by rw[e,K5] at h; cases h
theorem QmQ (hs:P.Pairwise fun x y=>ltP x y=true)(hP:∀x∈P,∃t u:Int,x=[t,u]∧t < u∧0≤t∧u < (n:Int)):ZJ (P++P.map swp)=QkL P n:=by
  have hn:(P++P.map swp).Nodup:=by
    refine List.nodup_append.2 ⟨Qb2 hs, ?_,fun a ha b hb e=> ?_⟩
    · refine List.Pairwise.map (R := fun x y => x ∈ P ∧ y ∈ P ∧ x ≠ y) _ (fun x y h e => ?_) ?_
      · obtain ⟨hx, hy, hne⟩ := h
        obtain ⟨t,u,rfl,_⟩:=hP x hx
        obtain ⟨t',u',rfl,_⟩:=hP y hy
        simp[swp] at e
        exact hne (by rw[e.1,e.2])
      · exact List.Pairwise.imp_of_mem (fun hx hy h=>⟨hx,hy,h⟩) (Qb2 hs)
    · obtain ⟨p, hp, rfl⟩ := List.mem_map.1 hb
      obtain ⟨t,u,rfl,h1,_⟩:=hP a ha
      obtain ⟨t',u',rfl,h1',_⟩:=hP p hp
      simp[swp] at e
      omega
  have hn2:(ZJ (P++P.map swp)).Nodup:=(YH _).nodup_iff.2 hn
  refine QcT.ext ?_ Qmx fun x=> ?_
  · refine ((WL _).and hn2).imp fun ⟨h1, h2⟩ => ?_
    rcases Hz _ _ with h | h | h
    · exact h
    · exact absurd h h2
    · rw[h1] at h; cases h
  · rw[(YH _).mem_iff,Qlj hP]
theorem QjA {α β γ:Type}(c:α→Bool)(f:α→β)(h:β→List γ):∀l:List α,((l.filter c).map f).flatMap h=l.flatMap fun a=>if c a=true then h (f a) else []
  | []=>rfl
  | a :: l=>by
    rw[List.filter_cons,List.flatMap_cons,← QjA c f h l]
    split <;> simp
variable [∀s,Decidable (StgOk s)]{s:Q5}
theorem Qg4:Yc s=(ZJ (Q7 s++(Q7 s).map swp)).flatMap fun p=>Wq s ((p[0]?).getD 0) ((p[1]?).getD 0) [false,true]:=by
  have hc:Q7 s=ofG ltP (ZI s.1 (Qc s).1.1):=rfl
  rw[QmQ (P:=Q7 s) (n:=s.1.2.length) (hc▸Qbw QcT _) fun x hx=>QfL ((UL QcT _).1 (hc▸hx))]
  unfold Yc Jt QkL JV
  rw[List.flatMap_assoc]
  refine congrArg (fun f=>(List.range s.1.2.length).flatMap f) (funext fun a=> ?_)
  rw[QjA]
  refine congrArg (fun f=>(List.range s.1.2.length).flatMap f) (funext fun b=> ?_)
  unfold Qej
  simp only[Bool.and_eq_true,decide_eq_true_eq]
  rfl
end
end Go.Proofs.YtnakmhfjafecpaaGreat
namespace Go.Proofs.YtnakmhfjafecpaaGreat
open Go.RowKit
set_option maxRecDepth 100000
set_option maxHeartbeats 4000000
theorem Uh (s:List (List Int))(hl:s.length≤1000000):FC Tryz.prog 92 [(false,[.ref 0])] [(0,some (.fz 106 (.sl 3 .int) s))] 1 (Is (lf (.dat (.sl 106 (.sl 3 .int)) s)) [(0,some (.fz 106 (.sl 3 .int) s))]):=by
 refine QN Tryz.func92 rfl rfl Tryz.ntmps92 fun O_ hO w0_ N0_ X_ h0_ f0_=> ?_
 iterate 6 refine w_ ?_
 refine Qkw (Qa rfl) rfl Evl.val Q1 rfl fun b1 hnil=> ?_
 refine w_ ?_
 cases hb2:(b1)
 ·iterate 3 refine w_ ?_
  refine lc (Qg 1 (e:=(.sl 3 .int)) Q1 QI Z9 rfl rfl (List.all_eq_true.1 rfl) ⟨rfl,rfl⟩ (by decide) rfl rfl (Fresh.of rfl) (nlr rfl)) ?_
  refine w_ ?_
  refine AL.wk (Wk.toFz (q:=1) rfl)<|lc (Qdw 2 (Qa rfl) rfl (Qa rfl) rfl Q1 Y5 (by first | omega | (simp only[List.length_append,List.length_map,List.length_take,List.length_cons,List.length_nil]; omega) | (simp only[List.length_append,List.length_drop,List.length_take,List.length_cons,List.length_nil]; omega)) rfl (Fresh.of rfl) (nlr rfl)) ?_
  iterate 2 refine w_ ?_
  refine AC.wk (JN (i:=2) (q:=2) rfl rfl)<|Qf ?_
  subst hO
  have e3:(([])++s:((.sl 106 (.sl 3 .int)):Ty).Den)=s:=by
   rfl
  exact QF _ _ [(0,0)] (Qm rfl (Qd rfl)) ((congrArg (fun z_=>lf (.dat (.sl 106 (.sl 3 .int)) z_)) e3)) ⟨rfl,trivial⟩ rfl rfl
 ·iterate 4 refine w_ ?_
  refine AC.wk (Wk.nilS 3 2 106 (.sl 3 .int) rfl (Fresh.of rfl) (nlr rfl))<|AC.wk (Wk.toFz (q:=3) rfl)<|AC.wk (JN (i:=2) (q:=3) rfl rfl)<|Qf ?_
  subst hO
  have e4:([]:((.sl 106 (.sl 3 .int)):Ty).Den)=s:=by
   exact (hnil (by assumption)).symm
  exact QF _ _ [(0,0)] (Qm rfl (Qd rfl)) ((congrArg (fun z_=>lf (.dat (.sl 106 (.sl 3 .int)) z_)) e4)) ⟨rfl,trivial⟩ rfl rfl
end Go.Proofs.YtnakmhfjafecpaaGreat
