/- Walks over abstract states: tidied lists of numbers; labels; which signals are no inputs; the name of the next state signal. -/
import Derived.Test.YtnakmhfjafecpaaGreatVh
import Derived.Test.YtnakmhfjafecpaaGreatBp
set_option linter.unusedSimpArgs false
set_option linter.unusedVariables false
set_option linter.unusedSectionVars false
namespace Go.Proofs.YtnakmhfjafecpaaGreat
open Go.RowKit
set_option maxRecDepth 100000
set_option maxHeartbeats 4000000
def swL (as_:List DAr)(l:Int×Bool):List Int:=(as_.filter fun a=>decide (a.2.1=l.1∧a.2.2.1=l.2)).map fun a=>a.2.2.2
def XD (c:DSg)(sig:Int):Bool:=decide (0≤sig)&&decide (((c.1[sig.toNat]?).getD (ByteArray.empty,0)).2=1)
def ZW (l:List Q4)(k:Nat):List Int:=((List.range k).filter fun i=> !decide (((l[i]?).getD (ByteArray.empty,0)).2=1)).map fun i=>((i:Nat):Int)
def Z0 (c:DSg):ByteArray:=if ZJ (fun x:Q4=>decide (x.1=(⟨#[122,48]⟩:ByteArray))) c.1 < 0 then ⟨#[122,48]⟩ else if ZJ (fun x:Q4=>decide (x.1=(⟨#[122,49]⟩:ByteArray))) c.1 < 0 then ⟨#[122,49]⟩ else ⟨#[122,50]⟩
section
variable {c:DSg}{l:List Int}{as_:List DAr}{a:DAr}{p:Int×Bool}{k:Nat}{n m y sig:Int}{x:Q4}{ss:List Q4}
theorem QoK (p r:Int×Bool):Ty.beq (.pr .int .bool) p r=decide (p=r):=by rw[Bool.eq_iff_iff,Ty.beq_iff,decide_eq_true_iff]
theorem JK {p r:Int×Bool}(h:Ty.beq (.pr .int .bool) p r=true):p.1=r.1∧p.2=r.2:=by rw[(Ty.beq_iff _ _ _).1 h]; exact ⟨rfl,rfl⟩
theorem Qhi {p r:Int×Bool}(h:Ty.beq (.pr .int .bool) p r=false):¬(p.1=r.1∧p.2=r.2):=fun g=>by
  have:p=r:=Prod.ext g.1 g.2
  rw[(Ty.beq_iff _ _ _).2 this] at h; cases h
theorem Qk8 {A B C:Prop}{p r:Int×Bool}[Decidable (((A∧B)∧C)∧¬p=r)](h1:A)(h2:B)(h3:C):(!Ty.beq (.pr .int .bool) p r)=decide (((A∧B)∧C)∧¬p=r):=by
  rw[QoK]
  by_cases h:p=r <;> simp[h,h1,h2,h3]
theorem Qi6 (hx:as_[k]? =some a)(h1:a.2.1=p.1)(h2:a.2.2.1=p.2):swL (as_.take k) p++[a.2.2.2]=swL (as_.take (k+1)) p:=by
  unfold swL
  rw[Za hx,List.filter_append,List.map_append]; simp[h1,h2]
theorem Qmb (hx:as_[k]? =some a)(h:¬(a.2.1=p.1∧a.2.2.1=p.2)):swL (as_.take k) p=swL (as_.take (k+1)) p:=by
  unfold swL
  rw[Za hx,List.filter_append,List.map_append]; simp[h]
theorem Qnm:(swL as_ p).length≤as_.length:=by unfold swL; rw[List.length_map]; exact List.length_filter_le ..
theorem UA (hx:ss[k]? =some x)(h:¬x.2=1):ZW ss k++[(k:Int)]=ZW ss (k+1):=by
  unfold ZW
  rw[List.range_succ,List.filter_append,List.map_append]; simp[hx,h]
theorem HJ (hx:ss[k]? =some x)(h:x.2=1):ZW ss k=ZW ss (k+1):=by
  unfold ZW
  rw[List.range_succ,List.filter_append,List.map_append]; simp[hx,h]
theorem QaD:(ZW ss k).length≤k:=by unfold ZW; rw[List.length_map]; exact Nat.le_trans (List.length_filter_le ..) (by simp)
theorem Ul:y∈ZW ss k↔∃i:Nat,y=(i:Int)∧i < k∧¬((ss[i]?).getD (ByteArray.empty,0)).2=1:=by
  unfold ZW
  simp only[List.mem_map,List.mem_filter,List.mem_range,Bool.not_eq_true',decide_eq_false_iff_not]
  constructor
  · rintro ⟨i,⟨h1,h2⟩,rfl⟩; exact ⟨i,rfl,h1,h2⟩
  · rintro ⟨i,rfl,h1,h2⟩; exact ⟨i,⟨h1,h2⟩,rfl⟩
theorem QeS (h:¬0≤sig):false=XD c sig:=by unfold XD; rw[decide_eq_false h]; rfl
theorem QeR (h:0≤sig)(hx:c.1[sig.toNat]? =some x):decide (x.2=1)=XD c sig:=by unfold XD; rw[decide_eq_true h,hx]; rfl
theorem Qph (hP:∀j:Nat,(j:Int) < m→∀y,l[j]? =some y→y < n)(h:l[m.toNat]? =some n):l=XB ltI n l:=
  (Qer (k:=m.toNat) (fun j hj y hy=>by have:=hP j (by omega) y hy; simp[ltI,this]) h (by simp[ltI])).symm
theorem QoW (hP:∀j:Nat,(j:Int) < m→∀y,l[j]? =some y→y < n)(h0:0≤m)(h1:m≤(l.length:Int))(h:∀y,l[m.toNat]? =some y→¬y < n∧y≠n):l.take m.toNat++n :: l.drop m.toNat=XB ltI n l:=
  (Qka (k:=m.toNat) (fun j hj y hy=>by have:=hP j (by omega) y hy; simp[ltI,this]) (by omega) fun y hy=>by have:=h y hy; simp[ltI,this]).symm
theorem QjQ (hP:∀j:Nat,(j:Int) < m→∀y,l[j]? =some y→y < n)(h0:0≤m)(h1:m≤(l.length:Int))(h:∀y,l[m.toNat]? =some y→¬y < n∧y≠n):
    (([]++(l.take (0+m.toNat)).drop 0)++[n])++(l.take (m.toNat+(l.length - m.toNat))).drop m.toNat=XB ltI n l:=by
  rw[← QoW hP h0 h1 h,show m.toNat+(l.length - m.toNat)=l.length by omega,List.take_length]
  simp
abbrev Qb7:List ByteArray:=[(⟨#[122,48]⟩:ByteArray),(⟨#[122,49]⟩:ByteArray)]
theorem QfW {y:ByteArray}(hno:∀j,j < k→∀y,Qb7[j]? =some y→¬ZJ (fun x:Q4=>decide (x.1=y)) c.1 < 0)(hx:Qb7[k]? =some y)(h:ZJ (fun x:Q4=>decide (x.1=y)) c.1 < 0):y=Z0 c:=by
  unfold Z0
  match k,hx with
  | 0,hx=>cases hx; rw[if_pos h]
  | 1,hx=>
    cases hx
    rw[if_neg (hno 0 (by omega) _ rfl),if_pos h]
theorem QgW (hno:∀j,j < k→∀y,Qb7[j]? =some y→¬ZJ (fun x:Q4=>decide (x.1=y)) c.1 < 0)(hk:¬(k:Int) < (Qb7.length:Int)):(⟨#[122,50]⟩:ByteArray)=Z0 c:=by
  have hk:2≤k:=by simp only[Qb7,List.length_cons,List.length_nil] at hk; omega
  unfold Z0
  rw[if_neg (hno 0 (by omega) _ rfl),if_neg (hno 1 (by omega) _ rfl)]
end
theorem Qab (l:List Int)(hl:l.length≤1000000):FC Tryz.prog 209 [(false,[.ref 0])] [(0,some (.arr 3 .int l))] 0 (XZ 3 .int (ofG ltI l)):=by
 refine QQ Tryz.func209 rfl rfl Tryz.ntmps209 fun O_ hO w0_ N0_ X_ h0_ f0_=> ?_
 iterate 5 refine w_ ?_
 refine lc (QP 1 [(0,0)] (QnM l (by omega)) QiR ⟨_,_,rfl,(Qb rfl),rfl⟩ ⟨rfl,trivial⟩ rfl ⟨trivial,trivial⟩ (nlr rfl)) ?_
 iterate 3 refine w_ ?_
 refine lc (QP 2 [(0,0)] (Qhv (WW l) (by rw[QaG]; omega)) Qhl ⟨_,_,rfl,(Qb rfl),rfl⟩ ⟨rfl,trivial⟩ rfl ⟨(Fresh.of rfl),trivial⟩ (nlr rfl)) ?_
 iterate 2 refine w_ ?_
 refine Qe ?_
 subst hO
 refine ZC (e:= .int) (xs:=(Xa (WW l))) (Qd rfl (Qc rfl)) rfl ?_
 exact Qnh _
theorem QaO (c:(List (ByteArray×Int))×List ByteArray×(List (Int×Int×Bool×Int)))(p:Int×Bool)(hl:c.2.2.length≤100000):FC Tryz.prog 206 [(true,[.dat (.sl 145 (.pr .str .int)) c.1, .dat (.sl 9 .str) c.2.1, .dat (.sl 179 (.pr .int (.pr .int (.pr .bool .int)))) c.2.2]),(true,[dI p.1,dB p.2])] [] 0 (XZ 3 .int (ofG ltI (swL c.2.2 p))):=by
 refine QQ Tryz.func206 rfl rfl Tryz.ntmps206 fun O_ hO w0_ N0_ X_ h0_ f0_=> ?_
 refine AC.fact (Q3 (x:= .tmp 1) (i:=0) (Qb rfl) rfl) fun hi1=> ?_
 refine w_ ?_
 refine lc (Qr 0 (Qb rfl) rfl rfl (Fresh.of rfl) (nlr rfl))<|lc (Qr 1 (Qb rfl) rfl rfl (Fresh.of rfl) (nlr rfl)) ?_
 iterate 3 refine w_ ?_
 refine lc (Qk 2 (e:= .int) QO QD Xl rfl rfl (List.all_eq_true.1 rfl) ⟨rfl,rfl⟩ (by decide) rfl rfl (Fresh.of rfl) (nlr rfl)) ?_
 iterate 6 refine w_ ?_
 refine AL.fact (QB (x:= .tmp 10) (Qa rfl)) fun hl2=> ?_
 iterate 4 refine w_ ?_
 refine Qy (fun m_ s_=>∃(k:Nat),k≤c.2.2.length∧m_=c.2.2.length - k∧s_=⟨[(3,lP 1 0),(4,lf (.val (.slice none 0 0))),(5,lR 3),(10,lf (.dat (.sl 179 (.pr .int (.pr .int (.pr .bool .int)))) c.2.2)),(11,lI (c.2.2.length:Int)),(12,lI (k:Int))],[(1,some (.box 61 [dI p.1,dB p.2])),(3,some (.arr 3 .int (swL (c.2.2.take k) p)))]⟩) ⟨0,Nat.zero_le _,rfl,rfl⟩ ?_ ?_
 · exact Wk.of [(1,1),(3,2)] rfl ⟨rfl,rfl,rfl,rfl,rfl,rfl,trivial⟩ ⟨rfl,(Qv (by first | rfl | simp)),trivial⟩ rfl rfl
 rintro m_ s_ ⟨k,hk3,hm4,rfl⟩
 have hfl:=Qnm (as_:=c.2.2.take k) (p:=p)
 have hft:(c.2.2.take k).length≤c.2.2.length:=by simp only[List.length_take]; omega
 iterate 4 refine w_ ?_
 cases hb5:(decide ((k:Int) < (c.2.2.length:Int)))
 ·have hb5':=of_decide_eq_false hb5
  refine w_ ?_
  refine QA ?_
  refine (?_:AC _ _ _ _ _)
  iterate 2 refine w_ ?_
  refine lc (QP 4 [(0,3)] (Qab (swL (c.2.2.take k) p) (by omega)) Qb0 ⟨_,_,rfl,(Qb rfl),rfl⟩ ⟨rfl,trivial⟩ rfl ⟨(Fresh.of rfl),trivial⟩ (nlr rfl)) ?_
  iterate 2 refine w_ ?_
  refine Qe ?_
  subst hO
  refine ZC (e:= .int) (xs:=(ofG ltI (swL (c.2.2.take k) p))) (Qd rfl (Qc rfl)) rfl ?_
  rw[Zh (by omega)]
 ·have hb5':=of_decide_eq_true hb5
  iterate 5 refine w_ ?_
  obtain ⟨x6,hx7⟩:∃z,c.2.2[k]? =some z:=⟨_,List.getElem?_eq_getElem (by omega)⟩
  refine lc (Qm (Qa rfl) (Qa rfl) Q9 QJ rfl (by omega) hx7) ?_
  refine w_ ?_
  refine lc (Qw 5 (.pr .int (.pr .int (.pr .bool .int))) Zq rfl rfl (Fresh.of rfl) (nlr rfl))<|lc (Qf (Qa rfl) rfl (Qb rfl) rfl QJ rfl) ?_
  refine w_ ?_
  refine dw [io 16 (ag [dI x6.1,dI x6.2.1,dB x6.2.2.1,dI x6.2.2.2]),io 17 (ag [dI x6.2.1,dB x6.2.2.1]),io 18 (ag [dI p.1,dB p.2]),io 19 (lB (Ty.beq (.pr .int .bool) (x6.2.1,x6.2.2.1) p))] [0,1,0,7] mixed rfl (by kernel_rfl) ⟨dxa QJ rfl rfl rfl rfl,fun _ h_=>ac (Qh (Zw x6) Y8 ⟨_,_,rfl,(h_.w rfl),rfl⟩ rfl rfl) rfl,dxa Xt rfl rfl rfl rfl,fun _ h_=>ac (KU JL Jy (h_.w rfl) (h_.w rfl) (p:=(x6.2.1,x6.2.2.1)) (q:=p) rfl rfl rfl) rfl,⟨⟩⟩ ?_
  cases hb8:(Ty.beq (.pr .int .bool) (x6.2.1,x6.2.2.1) p)
  ·refine w_ ?_
   refine AC.skip ?_
   refine (?_:AC _ _ _ _ _)
   iterate 3 refine w_ ?_
   refine Qj<|QS ⟨k+1,by omega,rfl,rfl⟩ (by omega) ?_
   exact Wk.of [(1,1),(3,3)] rfl ⟨rfl,rfl,rfl,rfl,rfl,rfl,trivial⟩ ⟨rfl,(Qv (by first | exact Qi6 hx7 (JK (by assumption)).1 (JK (by assumption)).2 | exact Qmb hx7 (Qhi (by assumption)))),trivial⟩ rfl rfl
  ·iterate 5 refine w_ ?_
   refine AL.fact (Qs (x:= .tmp 22) (Qa rfl)) fun hi9=>lc (Qk 6 (e:= .int) QO QD Xl rfl ⟨_,_,rfl,(Qb rfl),rfl⟩ (List.all_eq_true.1 rfl) ⟨_,_,_,_,rfl,⟨rfl,rfl⟩,⟨rfl,rfl⟩,rfl⟩ (by decide) rfl rfl (Fresh.of rfl) (nlr rfl))<|lc (Q0 7 (Qa rfl) rfl (Qa rfl) rfl rfl QO WX (by first | omega | (simp only[List.length_append,List.length_map,List.length_take,List.length_cons,List.length_nil]; omega) | (simp only[List.length_append,List.length_drop,List.length_take,List.length_cons,List.length_nil]; omega)) rfl (Fresh.of rfl) (nlr rfl)) ?_
   refine w_ ?_
   refine Qj ?_
   refine (?_:AC _ _ _ _ _)
   iterate 3 refine w_ ?_
   refine Qj<|QS ⟨k+1,by omega,rfl,rfl⟩ (by omega) ?_
   exact Wk.of [(1,1),(3,7)] rfl ⟨rfl,rfl,rfl,rfl,rfl,rfl,trivial⟩ ⟨rfl,(Qv (by first | exact Qi6 hx7 (JK (by assumption)).1 (JK (by assumption)).2 | exact Qmb hx7 (Qhi (by assumption)))),trivial⟩ rfl rfl
theorem V2 (a:Int×Int×Bool×Int)(s:Int)(up:Bool):FC Tryz.prog 256 [(true,[dI a.1,dI a.2.1,dB a.2.2.1,dI a.2.2.2]),(false,[dI s]),(false,[dB up])] [] 0 (Zy (lB (decide (a.2.1=s∧a.2.2.1=up)))):=by
 refine QQ Tryz.func256 rfl rfl Tryz.ntmps256 fun O_ hO w0_ N0_ X_ h0_ f0_=> ?_
 refine AC.fact (Q3 (x:= .tmp 0) (i:=0) (Qb rfl) rfl) fun hi1=>AC.fact (Q3 (x:= .tmp 0) (i:=1) (Qb rfl) rfl) fun hi2=>AC.fact (Q3 (x:= .tmp 0) (i:=3) (Qb rfl) rfl) fun hi3=>AC.fact (Qs (x:= .tmp 1) (Qa rfl)) fun hi4=> ?_
 refine w_ ?_
 refine lc (Qr 0 (Qb rfl) rfl rfl (Fresh.of rfl) (nlr rfl)) ?_
 iterate 8 refine w_ ?_
 cases hb5:(decide (a.2.1=s))
 ·have hb5':=of_decide_eq_false hb5
  iterate 7 refine w_ ?_
  refine Qe ?_
  subst hO
  have e6:(false:Bool)=(decide (a.2.1=s∧a.2.2.1=up)):=by
   (cases a.2.2.1 <;> cases up <;> simp_all; done)
  exact Qg (Qd rfl (Qc rfl)) ((congrArg (fun z_=>lB z_) e6)) rfl
 ·have hb5':=of_decide_eq_true hb5
  iterate 3 refine w_ ?_
  refine lgy rfl rfl (Jb (Qa rfl) (Qa rfl) rfl VV) ?_
  iterate 3 refine w_ ?_
  refine Qe ?_
  subst hO
  have e7:(a.2.2.1==up:Bool)=(decide (a.2.1=s∧a.2.2.1=up)):=by
   (cases a.2.2.1 <;> cases up <;> simp_all; done)
  exact Qg (Qd rfl (Qc rfl)) ((congrArg (fun z_=>lB z_) e7)) rfl
theorem Yn (l:List Int)(n:Int):FC Tryz.prog 187 [(false,[.dat (.sl 3 .int) l]),(false,[dI n])] [] 0 (Zy (lB (decide (n∈l)))):=by
 refine QQ Tryz.func187 rfl rfl Tryz.ntmps187 fun O_ hO w0_ N0_ X_ h0_ f0_=> ?_
 refine AC.fact (Qs (x:= .tmp 1) (Qa rfl)) fun hi1=> ?_
 iterate 6 refine w_ ?_
 refine AL.fact (QB (x:= .tmp 7) (Qa rfl)) fun hl2=> ?_
 iterate 4 refine w_ ?_
 refine Qy (fun m_ s_=>∃(k:Nat),k≤l.length∧m_=l.length - k∧(∀j,j < k→∀y,l[j]? =some y→¬y=n)∧s_=⟨[(1,lI n),(7,lf (.dat (.sl 3 .int) l)),(8,lI (l.length:Int)),(9,lI (k:Int))],[]⟩) ⟨0,Nat.zero_le _,rfl,(fun j hj=>absurd hj (Nat.not_lt_zero j)),rfl⟩ ?_ ?_
 · exact Wk.of [] rfl ⟨rfl,rfl,rfl,rfl,trivial⟩ trivial rfl rfl
 rintro m_ s_ ⟨k,hk3,hm4,hno,rfl⟩
 iterate 4 refine w_ ?_
 cases hb5:(decide ((k:Int) < (l.length:Int)))
 ·have hb5':=of_decide_eq_false hb5
  refine w_ ?_
  refine QA ?_
  refine (?_:AC _ _ _ _ _)
  iterate 3 refine w_ ?_
  refine Qe ?_
  subst hO
  have e6:(false:Bool)=(decide (n∈l)):=by
   first | exact (decide_eq_false fun hm=>by obtain ⟨j,hj⟩:=List.mem_iff_getElem?.1 hm; exact hno j (by have:=(List.getElem?_eq_some_iff.1 hj).1; omega) n hj rfl).symm
  exact Qg (Qd rfl (Qc rfl)) ((congrArg (fun z_=>lB z_) e6)) rfl
 ·have hb5':=of_decide_eq_true hb5
  iterate 5 refine w_ ?_
  obtain ⟨x7,hx8⟩:∃z,l[k]? =some z:=⟨_,List.getElem?_eq_getElem (by omega)⟩
  refine lc (Qm (Qa rfl) (Qa rfl) QO QD rfl (by omega) hx8) ?_
  refine w_ ?_
  refine AL.fact (Qs (x:= .tmp 12) (Qa rfl)) fun hi9=> ?_
  iterate 7 refine w_ ?_
  cases hb10:(decide (x7=n))
  ·have hb10':=of_decide_eq_false hb10
   refine w_ ?_
   refine AC.skip ?_
   refine (?_:AC _ _ _ _ _)
   iterate 3 refine w_ ?_
   refine Qj<|QS ⟨k+1,by omega,rfl,(YW hno hx8 (by assumption)),rfl⟩ (by omega) ?_
   exact Wk.of [] rfl ⟨rfl,rfl,rfl,rfl,trivial⟩ trivial rfl rfl
  ·have hb10':=of_decide_eq_true hb10
   iterate 4 refine w_ ?_
   refine Qe ?_
   subst hO
   have e11:(true:Bool)=(decide (n∈l)):=by
    exact (decide_eq_true (by have:=List.mem_of_getElem? hx8; simp_all)).symm
   exact Qg (Qd rfl (Qc rfl)) ((congrArg (fun z_=>lB z_) e11)) rfl
theorem WJ (l:List Int)(n:Int)(hl:l.length≤1000000):FC Tryz.prog 257 [(false,[.ref 0]),(false,[dI n])] [(0,some (.arr 3 .int l))] 0 (XZ 3 .int (XB ltI n l)):=by
 refine QQ Tryz.func257 rfl rfl Tryz.ntmps257 fun O_ hO w0_ N0_ X_ h0_ f0_=> ?_
 refine AC.fact (Qs (x:= .tmp 1) (Qa rfl)) fun hi1=> ?_
 iterate 8 refine w_ ?_
 refine Qy (fun m_ s_=>∃(m:Int),m_=((l.length:Int) - m).toNat∧(0≤m∧m≤(l.length:Int))∧(∀j:Nat,(j:Int) < m→∀y,l[j]? =some y→y < n)∧s_=⟨[(0,lR 0),(1,lI n),(4,lf (.val (.slice none 0 0))),(5,lI m)],[(0,some (.arr 3 .int l))]⟩) ⟨0,rfl,(by omega),(fun j hj=>by omega),rfl⟩ ?_ ?_
 · exact Wk.of [(0,0)] rfl ⟨rfl,rfl,rfl,rfl,trivial⟩ ⟨rfl,trivial⟩ rfl rfl
 rintro m_ s_ ⟨m,hm3,hm,hP,rfl⟩
 iterate 7 refine w_ ?_
 cases hb4:(decide (m < (l.length:Int)))
 ·have hb4':=of_decide_eq_false hb4
  iterate 9 refine w_ ?_
  refine QA ?_
  refine (?_:AC _ _ _ _ _)
  iterate 7 refine w_ ?_
  have hb5:(decide (m < (l.length:Int)))=false:=hb4
  try rw[hb5]
  iterate 11 refine w_ ?_
  refine lc (Qk 1 (e:= .int) QO QD Xl rfl rfl (List.all_eq_true.1 rfl) ⟨rfl,rfl⟩ (by decide) rfl rfl (Fresh.of rfl) (nlr rfl)) ?_
  iterate 2 refine w_ ?_
  refine lc (YD (e:= .int) (a:=0) (b:=(m).toNat) (l:=none) (h:=(some m)) (Qa rfl) rfl (by exact trivial) (by exact (Qa rfl)) QO QD rfl (by first | (simp only[Option.getD_none,Option.getD_some]; omega) | omega | (simp only[Option.getD_none,Option.getD_some,List.length_append,List.length_take,List.length_replicate]; omega)) (by first | (simp only[Option.getD_none,Option.getD_some]; omega) | omega | (simp only[Option.getD_none,Option.getD_some,List.length_append,List.length_take,List.length_replicate]; omega)) (by first | (simp only[Option.getD_none,Option.getD_some]; omega) | omega | (simp only[Option.getD_none,Option.getD_some,List.length_append,List.length_take,List.length_replicate]; omega)) (by first | rfl | simp) (by first | rfl | simp))<|lc (ZI 2 (Qa rfl) rfl (Vt (e:= .int) (Qa rfl) rfl (by omega)) rfl QO WX (by first | omega | (simp only[List.length_append,List.length_map,List.length_take,List.length_cons,List.length_nil]; omega) | (simp only[List.length_append,List.length_drop,List.length_take,List.length_cons,List.length_nil]; omega)) rfl (Fresh.of rfl) (nlr rfl)) ?_
  iterate 5 refine w_ ?_
  refine lc (Qk 3 (e:= .int) QO QD Xl rfl ⟨_,_,rfl,(Qb rfl),rfl⟩ (List.all_eq_true.1 rfl) ⟨_,_,_,_,rfl,⟨rfl,rfl⟩,⟨rfl,rfl⟩,rfl⟩ (by decide) rfl rfl (Fresh.of rfl) (nlr rfl))<|lc (Q0 4 (Qa rfl) rfl (Qa rfl) rfl rfl QO WX (by first | omega | (simp only[List.length_append,List.length_map,List.length_take,List.length_cons,List.length_nil]; omega) | (simp only[List.length_append,List.length_drop,List.length_take,List.length_cons,List.length_nil]; omega)) rfl (Fresh.of rfl) (nlr rfl)) ?_
  iterate 6 refine w_ ?_
  refine lc (YD (e:= .int) (a:=(m).toNat) (b:=l.length - (m).toNat) (l:=(some m)) (h:=none) (Qa rfl) rfl (by exact (Qa rfl)) (by exact trivial) QO QD rfl (by first | (simp only[Option.getD_none,Option.getD_some]; omega) | omega | (simp only[Option.getD_none,Option.getD_some,List.length_append,List.length_take,List.length_replicate]; omega)) (by first | (simp only[Option.getD_none,Option.getD_some]; omega) | omega | (simp only[Option.getD_none,Option.getD_some,List.length_append,List.length_take,List.length_replicate]; omega)) (by first | (simp only[Option.getD_none,Option.getD_some]; omega) | omega | (simp only[Option.getD_none,Option.getD_some,List.length_append,List.length_take,List.length_replicate]; omega)) (by first | rfl | simp) (by first | rfl | simp))<|lc (ZI 5 (Qa rfl) rfl (Vt (e:= .int) (Qa rfl) rfl (by omega)) rfl QO WX (by first | omega | (simp only[List.length_append,List.length_map,List.length_take,List.length_cons,List.length_nil]; omega) | (simp only[List.length_append,List.length_drop,List.length_take,List.length_cons,List.length_nil]; omega)) rfl (Fresh.of rfl) (nlr rfl)) ?_
  iterate 2 refine w_ ?_
  refine Qe ?_
  subst hO
  refine ZC (e:= .int) (xs:=(((([])++((l.take (0+((m).toNat))).drop 0))++([n]))++((l.take (((m).toNat)+(l.length - (m).toNat))).drop ((m).toNat)))) (Qd rfl (Qc rfl)) rfl ?_
  exact QjQ hP (by omega) (by omega) (fun z hz=>by simp_all)
 ·have hb4':=of_decide_eq_true hb4
  iterate 2 refine w_ ?_
  refine lgy rfl rfl (Qq (e:= .int) (Qa rfl) rfl (Qa rfl) QO QD rfl (by omega) (by first | omega | (simp only[List.length_set]; omega))) ?_
  obtain ⟨y,hx7⟩:∃z,l[(m).toNat]? =some z:=⟨_,List.getElem?_eq_getElem (by omega)⟩
  refine lgy rfl rfl (Q7 (e:= .int) (Qa rfl) rfl hx7 rfl QD rfl rfl) ?_
  iterate 4 refine w_ ?_
  cases hb8:(decide (y < n))
  ·have hb8':=of_decide_eq_false hb8
   refine w_ ?_
   refine QA ?_
   refine (?_:AC _ _ _ _ _)
   iterate 7 refine w_ ?_
   have hb9:(decide (m < (l.length:Int)))=true:=hb4
   try rw[hb9]
   iterate 2 refine w_ ?_
   refine lgy rfl rfl (Qq (e:= .int) (Qa rfl) rfl (Qa rfl) QO QD rfl (by omega) (by first | omega | (simp only[List.length_set]; omega)))<|lgy rfl rfl (Q7 (e:= .int) (Qa rfl) rfl hx7 rfl QD rfl rfl) ?_
   iterate 4 refine w_ ?_
   cases hb10:(decide (y=n))
   ·have hb10':=of_decide_eq_false hb10
    iterate 3 refine w_ ?_
    refine lc (Qk 6 (e:= .int) QO QD Xl rfl rfl (List.all_eq_true.1 rfl) ⟨rfl,rfl⟩ (by decide) rfl rfl (Fresh.of rfl) (nlr rfl)) ?_
    iterate 2 refine w_ ?_
    refine lc (YD (e:= .int) (a:=0) (b:=(m).toNat) (l:=none) (h:=(some m)) (Qa rfl) rfl (by exact trivial) (by exact (Qa rfl)) QO QD rfl (by first | (simp only[Option.getD_none,Option.getD_some]; omega) | omega | (simp only[Option.getD_none,Option.getD_some,List.length_append,List.length_take,List.length_replicate]; omega)) (by first | (simp only[Option.getD_none,Option.getD_some]; omega) | omega | (simp only[Option.getD_none,Option.getD_some,List.length_append,List.length_take,List.length_replicate]; omega)) (by first | (simp only[Option.getD_none,Option.getD_some]; omega) | omega | (simp only[Option.getD_none,Option.getD_some,List.length_append,List.length_take,List.length_replicate]; omega)) (by first | rfl | simp) (by first | rfl | simp))<|lc (ZI 7 (Qa rfl) rfl (Vt (e:= .int) (Qa rfl) rfl (by omega)) rfl QO WX (by first | omega | (simp only[List.length_append,List.length_map,List.length_take,List.length_cons,List.length_nil]; omega) | (simp only[List.length_append,List.length_drop,List.length_take,List.length_cons,List.length_nil]; omega)) rfl (Fresh.of rfl) (nlr rfl)) ?_
    iterate 5 refine w_ ?_
    refine lc (Qk 8 (e:= .int) QO QD Xl rfl ⟨_,_,rfl,(Qb rfl),rfl⟩ (List.all_eq_true.1 rfl) ⟨_,_,_,_,rfl,⟨rfl,rfl⟩,⟨rfl,rfl⟩,rfl⟩ (by decide) rfl rfl (Fresh.of rfl) (nlr rfl))<|lc (Q0 9 (Qa rfl) rfl (Qa rfl) rfl rfl QO WX (by first | omega | (simp only[List.length_append,List.length_map,List.length_take,List.length_cons,List.length_nil]; omega) | (simp only[List.length_append,List.length_drop,List.length_take,List.length_cons,List.length_nil]; omega)) rfl (Fresh.of rfl) (nlr rfl)) ?_
    iterate 6 refine w_ ?_
    refine lc (YD (e:= .int) (a:=(m).toNat) (b:=l.length - (m).toNat) (l:=(some m)) (h:=none) (Qa rfl) rfl (by exact (Qa rfl)) (by exact trivial) QO QD rfl (by first | (simp only[Option.getD_none,Option.getD_some]; omega) | omega | (simp only[Option.getD_none,Option.getD_some,List.length_append,List.length_take,List.length_replicate]; omega)) (by first | (simp only[Option.getD_none,Option.getD_some]; omega) | omega | (simp only[Option.getD_none,Option.getD_some,List.length_append,List.length_take,List.length_replicate]; omega)) (by first | (simp only[Option.getD_none,Option.getD_some]; omega) | omega | (simp only[Option.getD_none,Option.getD_some,List.length_append,List.length_take,List.length_replicate]; omega)) (by first | rfl | simp) (by first | rfl | simp))<|lc (ZI 10 (Qa rfl) rfl (Vt (e:= .int) (Qa rfl) rfl (by omega)) rfl QO WX (by first | omega | (simp only[List.length_append,List.length_map,List.length_take,List.length_cons,List.length_nil]; omega) | (simp only[List.length_append,List.length_drop,List.length_take,List.length_cons,List.length_nil]; omega)) rfl (Fresh.of rfl) (nlr rfl)) ?_
    iterate 2 refine w_ ?_
    refine Qe ?_
    subst hO
    refine ZC (e:= .int) (xs:=(((([])++((l.take (0+((m).toNat))).drop 0))++([n]))++((l.take (((m).toNat)+(l.length - (m).toNat))).drop ((m).toNat)))) (Qd rfl (Qc rfl)) rfl ?_
    exact QjQ hP (by omega) (by omega) (fun z hz=>by simp_all)
   ·have hb10':=of_decide_eq_true hb10
    iterate 5 refine w_ ?_
    refine Qe ?_
    subst hO
    refine ZC (e:= .int) (xs:=l) (Qd rfl (Qc rfl)) rfl ?_
    exact Qph hP (by simp_all)
  ·have hb8':=of_decide_eq_true hb8
   iterate 7 refine w_ ?_
   refine Qj<|QS ⟨(m+1),rfl,(by omega),(fun j hj z hz=>by by_cases e:j=m.toNat <;> first | (subst e; simp_all; done) | exact hP j (by omega) z hz),rfl⟩ (by omega) ?_
   exact Wk.of [(0,0)] rfl ⟨rfl,rfl,rfl,rfl,trivial⟩ ⟨rfl,trivial⟩ rfl rfl
theorem XT (c:(List (ByteArray×Int))×List ByteArray×(List (Int×Int×Bool×Int)))(sig:Int)(hs:sig < (c.1.length:Int)):FC Tryz.prog 136 [(true,[.dat (.sl 145 (.pr .str .int)) c.1, .dat (.sl 9 .str) c.2.1, .dat (.sl 179 (.pr .int (.pr .int (.pr .bool .int)))) c.2.2]),(false,[dI sig])] [] 0 (Zy (lB (XD c sig))):=by
 refine QQ Tryz.func136 rfl rfl Tryz.ntmps136 fun O_ hO w0_ N0_ X_ h0_ f0_=> ?_
 refine AC.fact (Qs (x:= .tmp 1) (Qa rfl)) fun hi1=> ?_
 refine w_ ?_
 refine lc (Qr 0 (Qb rfl) rfl rfl (Fresh.of rfl) (nlr rfl)) ?_
 iterate 6 refine w_ ?_
 cases hb2:(decide (0≤sig))
 ·have hb2':=of_decide_eq_false hb2
  iterate 10 refine w_ ?_
  refine Qe ?_
  subst hO
  have e3:(false:Bool)=(XD c sig):=by
   first | exact QeS (by assumption)
  exact Qg (Qd rfl (Qc rfl)) ((congrArg (fun z_=>lB z_) e3)) rfl
 ·have hb2':=of_decide_eq_true hb2
  iterate 3 refine w_ ?_
  obtain ⟨x4,hx5⟩:∃z,c.1[(sig).toNat]? =some z:=⟨_,List.getElem?_eq_getElem (by omega)⟩
  refine lgy rfl rfl (Qm (Qa rfl) (Qa rfl) Yh Yj rfl (by omega) hx5) ?_
  iterate 6 refine w_ ?_
  refine Qe ?_
  subst hO
  have e6:(decide (x4.2=1):Bool)=(XD c sig):=by
   exact QeR (by assumption) hx5
  exact Qg (Qd rfl (Qc rfl)) ((congrArg (fun z_=>lB z_) e6)) rfl
theorem Ke (c:(List (ByteArray×Int))×List ByteArray×(List (Int×Int×Bool×Int)))(hl:c.1.length≤100000):FC Tryz.prog 141 [(true,[.dat (.sl 145 (.pr .str .int)) c.1, .dat (.sl 9 .str) c.2.1, .dat (.sl 179 (.pr .int (.pr .int (.pr .bool .int)))) c.2.2])] [] 0 (XZ 3 .int (ZW c.1 c.1.length)):=by
 refine QQ Tryz.func141 rfl rfl Tryz.ntmps141 fun O_ hO w0_ N0_ X_ h0_ f0_=> ?_
 refine w_ ?_
 refine lc (Qr 0 (Qb rfl) rfl rfl (Fresh.of rfl) (nlr rfl)) ?_
 iterate 3 refine w_ ?_
 refine lc (Qk 1 (e:= .int) QO QD Xl rfl rfl (List.all_eq_true.1 rfl) ⟨rfl,rfl⟩ (by decide) rfl rfl (Fresh.of rfl) (nlr rfl)) ?_
 iterate 6 refine w_ ?_
 refine AL.fact (QB (x:= .tmp 8) (Qa rfl)) fun hl1=> ?_
 iterate 4 refine w_ ?_
 refine Qy (fun m_ s_=>∃(k:Nat),k≤c.1.length∧m_=c.1.length - k∧s_=⟨[(2,lf (.val (.slice none 0 0))),(3,lR 2),(8,lf (.dat (.sl 145 (.pr .str .int)) c.1)),(9,lI (c.1.length:Int)),(10,lI (k:Int))],[(2,some (.arr 3 .int (ZW c.1 k)))]⟩) ⟨0,Nat.zero_le _,rfl,rfl⟩ ?_ ?_
 · exact Wk.of [(2,1)] rfl ⟨rfl,rfl,rfl,rfl,rfl,trivial⟩ ⟨(Qv (rfl)),trivial⟩ rfl rfl
 rintro m_ s_ ⟨k,hk2,hm3,rfl⟩
 have hfl:=QaD (ss:=c.1) (k:=k)
 iterate 4 refine w_ ?_
 cases hb4:(decide ((k:Int) < (c.1.length:Int)))
 ·have hb4':=of_decide_eq_false hb4
  refine w_ ?_
  refine QA ?_
  refine (?_:AC _ _ _ _ _)
  iterate 4 refine w_ ?_
  refine Qe ?_
  subst hO
  refine ZC (e:= .int) (xs:=(ZW c.1 k)) (Qd rfl (Qc rfl)) rfl ?_
  (congr 1; omega)
 ·have hb4':=of_decide_eq_true hb4
  iterate 6 refine w_ ?_
  obtain ⟨x5,hx6⟩:∃z,c.1[k]? =some z:=⟨_,List.getElem?_eq_getElem (by omega)⟩
  refine lc (Qm (Qa rfl) (Qa rfl) Yh Yj rfl (by omega) hx6) ?_
  refine w_ ?_
  refine lc (Qw 3 (.pr .str .int) Wq rfl rfl (Fresh.of rfl) (nlr rfl)) ?_
  refine w_ ?_
  refine lc (Qf (Qa rfl) rfl (Qb rfl) rfl Yj rfl) ?_
  iterate 4 refine w_ ?_
  refine AL.fact (Qs (x:= .tmp 16) (Qa rfl)) fun hi7=> ?_
  iterate 2 refine w_ ?_
  cases hb8:(!decide (x5.2=1))
  ·have hb8':(x5.2=1):=Ze hb8
   refine w_ ?_
   refine AC.skip ?_
   refine (?_:AC _ _ _ _ _)
   iterate 3 refine w_ ?_
   refine Qj<|QS ⟨k+1,by omega,rfl,rfl⟩ (by omega) ?_
   exact Wk.of [(2,2)] rfl ⟨rfl,rfl,rfl,rfl,rfl,trivial⟩ ⟨(Qv (by first | exact UA hx6 (by assumption) | exact HJ hx6 (by assumption))),trivial⟩ rfl rfl
  ·have hb8':¬(x5.2=1):=Zp hb8
   iterate 4 refine w_ ?_
   refine lc (Qk 4 (e:= .int) QO QD Xl rfl ⟨_,_,rfl,(Qb rfl),rfl⟩ (List.all_eq_true.1 rfl) ⟨_,_,_,_,rfl,⟨rfl,rfl⟩,⟨rfl,rfl⟩,rfl⟩ (by decide) rfl rfl (Fresh.of rfl) (nlr rfl))<|lc (Q0 5 (Qa rfl) rfl (Qa rfl) rfl rfl QO WX (by first | omega | (simp only[List.length_append,List.length_map,List.length_take,List.length_cons,List.length_nil]; omega) | (simp only[List.length_append,List.length_drop,List.length_take,List.length_cons,List.length_nil]; omega)) rfl (Fresh.of rfl) (nlr rfl)) ?_
   refine w_ ?_
   refine Qj ?_
   refine (?_:AC _ _ _ _ _)
   iterate 3 refine w_ ?_
   refine Qj<|QS ⟨k+1,by omega,rfl,rfl⟩ (by omega) ?_
   exact Wk.of [(2,5)] rfl ⟨rfl,rfl,rfl,rfl,rfl,trivial⟩ ⟨(Qv (by first | exact UA hx6 (by assumption) | exact HJ hx6 (by assumption))),trivial⟩ rfl rfl
theorem Qad (c:(List (ByteArray×Int))×List ByteArray×(List (Int×Int×Bool×Int))):FC Tryz.prog 138 [(true,[.dat (.sl 145 (.pr .str .int)) c.1, .dat (.sl 9 .str) c.2.1, .dat (.sl 179 (.pr .int (.pr .int (.pr .bool .int)))) c.2.2])] [] 0 (Zy (lf (dS (Z0 c)))):=by
 refine QQ Tryz.func138 rfl rfl Tryz.ntmps138 fun O_ hO w0_ N0_ X_ h0_ f0_=> ?_
 refine w_ ?_
 refine lc (Qr 0 (Qb rfl) rfl rfl (Fresh.of rfl) (nlr rfl)) ?_
 iterate 4 refine w_ ?_
 refine lc (Qk 1 (e:= .str) ZL Zx Qcu rfl ⟨_,_,rfl,(Evl.ev (Evl.str rfl)),⟨_,_,rfl,(Evl.ev (Evl.str rfl)),rfl⟩⟩ (List.all_eq_true.1 rfl) ⟨_,_,_,_,rfl,⟨rfl,rfl⟩,⟨_,_,_,_,rfl,⟨rfl,rfl⟩,⟨rfl,rfl⟩,rfl⟩,rfl⟩ (by decide) rfl rfl (Fresh.of rfl) (nlr rfl)) ?_
 iterate 4 refine w_ ?_
 refine Qy (fun m_ s_=>∃(k:Nat),k≤([(⟨#[122,48]⟩:ByteArray),(⟨#[122,49]⟩:ByteArray)]).length∧m_=([(⟨#[122,48]⟩:ByteArray),(⟨#[122,49]⟩:ByteArray)]).length - k∧(∀j,j < k→∀y,[(⟨#[122,48]⟩:ByteArray),⟨#[122,49]⟩][j]? =some y→¬ZJ (fun x:Q4=>decide (x.1=y)) c.1 < 0)∧s_=⟨[(1,lP 0 0),(5,lR 1),(6,lI (([(⟨#[122,48]⟩:ByteArray),(⟨#[122,49]⟩:ByteArray)]).length:Int)),(7,lI (k:Int))],[(0,some (.box 59 [.dat (.sl 145 (.pr .str .int)) c.1, .dat (.sl 9 .str) c.2.1, .dat (.sl 179 (.pr .int (.pr .int (.pr .bool .int)))) c.2.2])),(1,some (.arr 9 .str ([(⟨#[122,48]⟩:ByteArray),(⟨#[122,49]⟩:ByteArray)])))]⟩) ⟨0,Nat.zero_le _,rfl,(fun j hj=>absurd hj (Nat.not_lt_zero j)),rfl⟩ ?_ ?_
 · exact Wk.of [(0,0),(1,1)] rfl ⟨rfl,rfl,rfl,rfl,trivial⟩ ⟨rfl,rfl,trivial⟩ rfl rfl
 rintro m_ s_ ⟨k,hk1,hm2,hno,rfl⟩
 have hzl:(([(⟨#[122,48]⟩:ByteArray),(⟨#[122,49]⟩:ByteArray)]:List ByteArray).length)=2:=rfl
 iterate 4 refine w_ ?_
 cases hb3:(decide ((k:Int) < (([(⟨#[122,48]⟩:ByteArray),(⟨#[122,49]⟩:ByteArray)]).length:Int)))
 ·have hb3':=of_decide_eq_false hb3
  refine w_ ?_
  refine QA ?_
  refine (?_:AC _ _ _ _ _)
  iterate 3 refine w_ ?_
  refine Qe ?_
  subst hO
  have e4:((⟨#[122,50]⟩:ByteArray):ByteArray)=(Z0 c):=by
   first | exact QgW hno (by assumption)
  exact Qg (Qd rfl (Qc rfl)) ((congrArg (fun z_=>lf (dS z_)) e4)) rfl
 ·have hb3':=of_decide_eq_true hb3
  iterate 5 refine w_ ?_
  refine lc (Qq (e:= .str) (Qa rfl) rfl (Qa rfl) ZL Zx rfl (by omega) (by first | omega | (simp only[List.length_set]; omega))) ?_
  obtain ⟨x5,hx6⟩:∃z,([(⟨#[122,48]⟩:ByteArray),(⟨#[122,49]⟩:ByteArray)])[k]? =some z:=⟨_,List.getElem?_eq_getElem (by omega)⟩
  refine lc (Q7 (e:= .str) (Qa rfl) rfl hx6 rfl Zx rfl rfl) ?_
  iterate 6 refine w_ ?_
  refine lc (Qh (Uq c.1 x5) Qda ⟨_,_,rfl,(Qb rfl),⟨_,_,rfl,(Qb rfl),rfl⟩⟩ rfl rfl) ?_
  iterate 2 refine w_ ?_
  cases hb7:(decide ((ZJ (fun x:Q4=>decide (x.1=x5)) c.1) < 0))
  ·have hb7':=of_decide_eq_false hb7
   refine w_ ?_
   refine AC.skip ?_
   refine (?_:AC _ _ _ _ _)
   iterate 3 refine w_ ?_
   refine Qj<|QS ⟨k+1,by omega,rfl,(YW hno hx6 (by assumption)),rfl⟩ (by omega) ?_
   exact Wk.of [(0,0),(1,1)] rfl ⟨rfl,rfl,rfl,rfl,trivial⟩ ⟨rfl,rfl,trivial⟩ rfl rfl
  ·have hb7':=of_decide_eq_true hb7
   iterate 5 refine w_ ?_
   refine Qe ?_
   subst hO
   have e8:(x5:ByteArray)=(Z0 c):=by
    exact QfW hno hx6 (by assumption)
   exact Qg (Qd rfl (Qc rfl)) ((congrArg (fun z_=>lf (dS z_)) e8)) rfl
theorem Qbj (c:(List (ByteArray×Int))×List ByteArray×(List (Int×Int×Bool×Int))):FC Tryz.prog 126 [(true,[.dat (.sl 145 (.pr .str .int)) c.1, .dat (.sl 9 .str) c.2.1, .dat (.sl 179 (.pr .int (.pr .int (.pr .bool .int)))) c.2.2])] [] 0 (Zy (lf (dS (Z0 c)))):=by
 refine QQ Tryz.func126 rfl rfl Tryz.ntmps126 fun O_ hO w0_ N0_ X_ h0_ f0_=> ?_
 refine w_ ?_
 refine lc (Qr 0 (Qb rfl) rfl rfl (Fresh.of rfl) (nlr rfl)) ?_
 iterate 4 refine w_ ?_
 refine lc (Qk 1 (e:= .str) ZL Zx Qcu rfl ⟨_,_,rfl,(Evl.ev (Evl.str rfl)),⟨_,_,rfl,(Evl.ev (Evl.str rfl)),rfl⟩⟩ (List.all_eq_true.1 rfl) ⟨_,_,_,_,rfl,⟨rfl,rfl⟩,⟨_,_,_,_,rfl,⟨rfl,rfl⟩,⟨rfl,rfl⟩,rfl⟩,rfl⟩ (by decide) rfl rfl (Fresh.of rfl) (nlr rfl)) ?_
 iterate 4 refine w_ ?_
 refine Qy (fun m_ s_=>∃(k:Nat),k≤([(⟨#[122,48]⟩:ByteArray),(⟨#[122,49]⟩:ByteArray)]).length∧m_=([(⟨#[122,48]⟩:ByteArray),(⟨#[122,49]⟩:ByteArray)]).length - k∧(∀j,j < k→∀y,[(⟨#[122,48]⟩:ByteArray),⟨#[122,49]⟩][j]? =some y→¬ZJ (fun x:Q4=>decide (x.1=y)) c.1 < 0)∧s_=⟨[(1,lP 0 0),(5,lR 1),(6,lI (([(⟨#[122,48]⟩:ByteArray),(⟨#[122,49]⟩:ByteArray)]).length:Int)),(7,lI (k:Int))],[(0,some (.box 59 [.dat (.sl 145 (.pr .str .int)) c.1, .dat (.sl 9 .str) c.2.1, .dat (.sl 179 (.pr .int (.pr .int (.pr .bool .int)))) c.2.2])),(1,some (.arr 9 .str ([(⟨#[122,48]⟩:ByteArray),(⟨#[122,49]⟩:ByteArray)])))]⟩) ⟨0,Nat.zero_le _,rfl,(fun j hj=>absurd hj (Nat.not_lt_zero j)),rfl⟩ ?_ ?_
 · exact Wk.of [(0,0),(1,1)] rfl ⟨rfl,rfl,rfl,rfl,trivial⟩ ⟨rfl,rfl,trivial⟩ rfl rfl
 rintro m_ s_ ⟨k,hk1,hm2,hno,rfl⟩
 have hzl:(([(⟨#[122,48]⟩:ByteArray),(⟨#[122,49]⟩:ByteArray)]:List ByteArray).length)=2:=rfl
 iterate 4 refine w_ ?_
 cases hb3:(decide ((k:Int) < (([(⟨#[122,48]⟩:ByteArray),(⟨#[122,49]⟩:ByteArray)]).length:Int)))
 ·have hb3':=of_decide_eq_false hb3
  refine w_ ?_
  refine QA ?_
  refine (?_:AC _ _ _ _ _)
  iterate 3 refine w_ ?_
  refine Qe ?_
  subst hO
  have e4:((⟨#[122,50]⟩:ByteArray):ByteArray)=(Z0 c):=by
   first | exact QgW hno (by assumption)
  exact Qg (Qd rfl (Qc rfl)) ((congrArg (fun z_=>lf (dS z_)) e4)) rfl
 ·have hb3':=of_decide_eq_true hb3
  iterate 5 refine w_ ?_
  refine lc (Qq (e:= .str) (Qa rfl) rfl (Qa rfl) ZL Zx rfl (by omega) (by first | omega | (simp only[List.length_set]; omega))) ?_
  obtain ⟨x5,hx6⟩:∃z,([(⟨#[122,48]⟩:ByteArray),(⟨#[122,49]⟩:ByteArray)])[k]? =some z:=⟨_,List.getElem?_eq_getElem (by omega)⟩
  refine lc (Q7 (e:= .str) (Qa rfl) rfl hx6 rfl Zx rfl rfl) ?_
  iterate 6 refine w_ ?_
  refine lc (Qh (Ur c.1 x5) Qdc ⟨_,_,rfl,(Qb rfl),⟨_,_,rfl,(Qb rfl),rfl⟩⟩ rfl rfl) ?_
  iterate 2 refine w_ ?_
  cases hb7:(decide ((ZJ (fun x:Q4=>decide (x.1=x5)) c.1) < 0))
  ·have hb7':=of_decide_eq_false hb7
   refine w_ ?_
   refine AC.skip ?_
   refine (?_:AC _ _ _ _ _)
   iterate 3 refine w_ ?_
   refine Qj<|QS ⟨k+1,by omega,rfl,(YW hno hx6 (by assumption)),rfl⟩ (by omega) ?_
   exact Wk.of [(0,0),(1,1)] rfl ⟨rfl,rfl,rfl,rfl,trivial⟩ ⟨rfl,rfl,trivial⟩ rfl rfl
  ·have hb7':=of_decide_eq_true hb7
   iterate 5 refine w_ ?_
   refine Qe ?_
   subst hO
   have e8:(x5:ByteArray)=(Z0 c):=by
    exact QfW hno hx6 (by assumption)
   exact Qg (Qd rfl (Qc rfl)) ((congrArg (fun z_=>lf (dS z_)) e8)) rfl
theorem Ui (c:(List (ByteArray×Int))×List ByteArray×(List (Int×Int×Bool×Int)))(x:Int×Bool):FC Tryz.prog 122 [(true,[.dat (.sl 145 (.pr .str .int)) c.1, .dat (.sl 9 .str) c.2.1, .dat (.sl 179 (.pr .int (.pr .int (.pr .bool .int)))) c.2.2]),(true,[dI x.1,dB x.2])] [] 0 (Zy (lB (decide (0≤x.1∧x.1≤(c.1.length:Int) - 1)))):=by
 refine QQ Tryz.func122 rfl rfl Tryz.ntmps122 fun O_ hO w0_ N0_ X_ h0_ f0_=> ?_
 refine AC.fact (Q3 (x:= .tmp 1) (i:=0) (Qb rfl) rfl) fun hi1=> ?_
 refine w_ ?_
 refine lc (Qr 0 (Qb rfl) rfl rfl (Fresh.of rfl) (nlr rfl))<|lc (Qr 1 (Qb rfl) rfl rfl (Fresh.of rfl) (nlr rfl)) ?_
 iterate 7 refine w_ ?_
 refine AL.fact (QB (x:= .tmp 8) (Qa rfl)) fun hl2=> ?_
 iterate 2 refine w_ ?_
 refine lc (Qh (XE x.1 0 ((c.1.length:Int) - 1)) WI ⟨_,_,rfl,(Qb rfl),⟨_,_,rfl,(Evl.ev (QE rfl)),⟨_,_,rfl,(Qb rfl),rfl⟩⟩⟩ rfl rfl) ?_
 iterate 2 refine w_ ?_
 refine Qe ?_
 subst hO
 have e3:(decide (0≤x.1∧x.1≤((c.1.length:Int) - 1)):Bool)=(decide (0≤x.1∧x.1≤(c.1.length:Int) - 1)):=by
  rfl
 exact Qg (Qd rfl (Qc rfl)) ((congrArg (fun z_=>lB z_) e3)) rfl
theorem QaA (c:(List (ByteArray×Int))×List ByteArray×(List (Int×Int×Bool×Int)))(p:Int×Bool)(r:Int×Bool)[∀c,Decidable (SgOk c)]:FC Tryz.prog 69 [(true,[.dat (.sl 145 (.pr .str .int)) c.1, .dat (.sl 9 .str) c.2.1, .dat (.sl 179 (.pr .int (.pr .int (.pr .bool .int)))) c.2.2]),(true,[dI p.1,dB p.2]),(true,[dI r.1,dB r.2])] [] 0 (Zy (lB (decide (((SgOk c∧0≤p.1∧p.1≤(c.1.length:Int) - 1)∧(0≤r.1∧r.1≤(c.1.length:Int) - 1))∧¬p=r)))):=by
 refine QQ Tryz.func69 rfl rfl Tryz.ntmps69 fun O_ hO w0_ N0_ X_ h0_ f0_=> ?_
 refine AC.fact (Q3 (x:= .tmp 1) (i:=0) (Qb rfl) rfl) fun hi1=>AC.fact (Q3 (x:= .tmp 2) (i:=0) (Qb rfl) rfl) fun hi2=> ?_
 refine w_ ?_
 refine lc (Qr 0 (Qb rfl) rfl rfl (Fresh.of rfl) (nlr rfl))<|lc (Qr 1 (Qb rfl) rfl rfl (Fresh.of rfl) (nlr rfl))<|lc (Qr 2 (Qb rfl) rfl rfl (Fresh.of rfl) (nlr rfl)) ?_
 iterate 4 refine w_ ?_
 refine lc (Qh (Y2 c) Vs ⟨_,_,rfl,(Qb rfl),rfl⟩ rfl rfl) ?_
 refine w_ ?_
 cases hb3:(decide (SgOk c))
 ·have hb3':=of_decide_eq_false hb3
  iterate 16 refine w_ ?_
  refine Qe ?_
  subst hO
  have e4:(false:Bool)=(decide (((SgOk c∧0≤p.1∧p.1≤(c.1.length:Int) - 1)∧(0≤r.1∧r.1≤(c.1.length:Int) - 1))∧¬p=r)):=by
   exact (decide_eq_false fun g=>absurd g.1.1.1 (by assumption)).symm
  exact Qg (Qd rfl (Qc rfl)) ((congrArg (fun z_=>lB z_) e4)) rfl
 ·have hb3':=of_decide_eq_true hb3
  iterate 2 refine w_ ?_
  refine lgy rfl rfl (Qh (Ui c p) QcN ⟨_,_,rfl,(Qb rfl),⟨_,_,rfl,(Qb rfl),rfl⟩⟩ rfl rfl) ?_
  iterate 2 refine w_ ?_
  cases hb5:(decide (0≤p.1∧p.1≤(c.1.length:Int) - 1))
  ·have hb5':=of_decide_eq_false hb5
   iterate 11 refine w_ ?_
   refine Qe ?_
   subst hO
   have e6:(false:Bool)=(decide (((SgOk c∧0≤p.1∧p.1≤(c.1.length:Int) - 1)∧(0≤r.1∧r.1≤(c.1.length:Int) - 1))∧¬p=r)):=by
    exact (decide_eq_false fun g=>absurd g.1.1.2 (by assumption)).symm
   exact Qg (Qd rfl (Qc rfl)) ((congrArg (fun z_=>lB z_) e6)) rfl
  ·have hb5':=of_decide_eq_true hb5
   iterate 2 refine w_ ?_
   refine lgy rfl rfl (Qh (Ui c r) QcN ⟨_,_,rfl,(Qb rfl),⟨_,_,rfl,(Qb rfl),rfl⟩⟩ rfl rfl) ?_
   iterate 2 refine w_ ?_
   cases hb7:(decide (0≤r.1∧r.1≤(c.1.length:Int) - 1))
   ·have hb7':=of_decide_eq_false hb7
    iterate 6 refine w_ ?_
    refine Qe ?_
    subst hO
    have e8:(false:Bool)=(decide (((SgOk c∧0≤p.1∧p.1≤(c.1.length:Int) - 1)∧(0≤r.1∧r.1≤(c.1.length:Int) - 1))∧¬p=r)):=by
     exact (decide_eq_false fun g=>absurd g.1.2 (by assumption)).symm
    exact Qg (Qd rfl (Qc rfl)) ((congrArg (fun z_=>lB z_) e8)) rfl
   ·have hb7':=of_decide_eq_true hb7
    iterate 2 refine w_ ?_
    refine lgy rfl rfl (Qau JL Jy (Qb rfl) (Qb rfl) (p:=p) (q:=r) rfl rfl rfl) ?_
    iterate 3 refine w_ ?_
    refine Qe ?_
    subst hO
    have e9:(!(Ty.beq (.pr .int .bool) p r):Bool)=(decide (((SgOk c∧0≤p.1∧p.1≤(c.1.length:Int) - 1)∧(0≤r.1∧r.1≤(c.1.length:Int) - 1))∧¬p=r)):=by
     exact Qk8 (by assumption) (by assumption) (by assumption)
    exact Qg (Qd rfl (Qc rfl)) ((congrArg (fun z_=>lB z_) e9)) rfl
end Go.Proofs.YtnakmhfjafecpaaGreat
