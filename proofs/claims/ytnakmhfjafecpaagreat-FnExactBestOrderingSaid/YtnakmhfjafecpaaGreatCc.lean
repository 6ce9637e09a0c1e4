/- Walks over abstract states: what is enabled together, the reference. -/
import Derived.Test.YtnakmhfjafecpaaGreatCa
import Derived.Test.YtnakmhfjafecpaaGreatWp
import Derived.Test.YtnakmhfjafecpaaGreatUd
import Derived.Test.YtnakmhfjafecpaaGreatWy
set_option linter.unusedSimpArgs false
set_option linter.unusedVariables false
set_option linter.unusedSectionVars false
namespace Go.Proofs.YtnakmhfjafecpaaGreat
open Go.RowKit
set_option maxRecDepth 100000
set_option maxHeartbeats 4000000
theorem QgO {α:Type _}[DecidableEq α]{lt:α→α→Bool}(x:α):∀l:List α,(Xa lt x l).length≤l.length+1
  | []=>Nat.le_refl _
  | y :: l=>by
    unfold Xa
    have:=QgO (lt:=lt) x l
    split
    · simp only[List.length_cons]; omega
    · split <;> simp
theorem QjK {α:Type _}[DecidableEq α]{lt:α→α→Bool}(l:List α):(ofG lt l).length≤l.length:=by
  have:∀(l s:List α),(l.foldl (fun s x=>Xa lt x s) s).length≤s.length+l.length:=fun l=>by
    induction l with
    | nil=>intro s; simp
    | cons x l ih=>intro s; have h1:=ih (Xa lt x s); have h2:=QgO (lt:=lt) x s; rw[List.foldl_cons,List.length_cons]; omega
  simpa [ofG] using this l []
def shV (n:Y0)(t u:Int):Bool:=((n.2[t.toNat]?).getD ([],[])).1.any fun z=>decide (z∈((n.2[u.toNat]?).getD ([],[])).1)
def Vl (n:Y0)(t:Int)(l:List Int):List (List Int):=(l.filter fun u=>decide (t < u)&& !shV n t u).map fun u=>[t,u]
def V3 (n:Y0)(t:Int)(l:List Int):List (List Int):=(l.filter fun u=> !shV n t u).map fun u=>[t,u]
def U3 (n:Y0)(on l:List Int):List (List Int):=l.flatMap fun t=>Vl n t on
def Qak (n:Y0)(on:List Int)(k:Nat):List (List Int):=(List.range k).flatMap fun i=>V3 n ((on[i]?).getD 0) (on.drop (i+1))
def ZI (n:Y0)(ms:List ByteArray):List (List Int):=ms.flatMap fun mk=>U3 n (Q4 n mk) (Q4 n mk)
section
variable {n:Y0}{k f i j:Nat}{mk:ByteArray}{t u:Int}{ts on l:List Int}{st:RS}{s:Q5}{xt xu:QJ}{ms:List ByteArray}{as_ bs:List (List Int)}
theorem Qmo (hm:XW mk n.1)(h:∀m∈st.1,XW m n.1):∀m∈(goT n k mk ts st).1.1,XW m n.1:=by
  induction ts generalizing st with
  | nil=>rw[goT]; exact h
  | cons t ts ih=>
    rw[goT]
    split
    · exact h
    · rename_i h0
      split
      · exact ih (st:=(st.1,_,st.2.2)) h
      · split
        · exact h
        · exact ih (st:=(st.1++[_],_,_)) (H0 h (W5 hm rfl (by revert h0; cases (Zy n mk t).2 <;> simp)))
theorem QkX (h:∀m∈st.1,XW m n.1):∀m∈(goK n f k st).1.1,XW m n.1:=by
  induction f generalizing k st with
  | zero=>rw[goK]; exact h
  | succ f ih=>
    rw[goK]
    cases hx:st.1[k]? with
    | none=>exact h
    | some mk=>
      have h1:=Qmo (k:=k) (ts:=Q4 n mk) (h mk (List.mem_of_getElem? hx)) h
      show∀m∈(if (goT n k mk (Q4 n mk) st).2.2.2=true then goK n f (k+1) (goT n k mk (Q4 n mk) st).1 else goT n k mk (Q4 n mk) st).1.1,XW m n.1
      split
      · exact ih h1
      · exact h1
theorem QaG [∀s,Decidable (StgOk s)]:∀m∈(Qc s).1.1,∀t∈s.1.2,VS m t.1∧VS m t.2:=fun m hm=>by
  unfold Qc at hm
  split at hm
  · rename_i h1
    refine Qhf h1.1.net ?_
    exact QkX (n:=s.1) (k:=0) (f:=301) (st:=([s.2.2.2],[],[((0:Int),(0:Int),(0:Int))])) (fun m hm=>by rw[List.mem_singleton.1 hm]; exact h1.1.bits) m hm
  · cases hm
theorem WK [∀s,Decidable (StgOk s)]:(Qc s).1.1.length≤300:=by
  cases h:(Qc s).2 with
  | true=>exact (Zo h).2.2.1
  | false=>
    unfold Qc at h ⊢
    split
    · rename_i h1; rw[if_pos h1] at h; cases h
    · exact Nat.zero_le _
theorem ZY [∀s,Decidable (StgOk s)](h:(Qc s).2=true):s.1.2.length≤24:=(Zo h).1.net.2.1
theorem Qft [∀s,Decidable (StgOk s)](h:(Qc s).2=false):(Qc s).1.1=[]:=by
  unfold Qc at h ⊢
  split
  · rename_i h1; rw[if_pos h1] at h; cases h
  · rfl
theorem Qe3 (h1:n.2[t.toNat]? =some xt)(h2:n.2[u.toNat]? =some xu):shV n t u=xt.1.any fun z=>decide (z∈xu.1):=by unfold shV; rw[h1,h2]; rfl
theorem QcZ (hx:on[k]? =some u)(h1:n.2[t.toNat]? =some xt)(h2:n.2[u.toNat]? =some xu)(ht:t < u)(h:(xt.1.any fun z=>decide (z∈xu.1))=false):Vl n t (on.take k)++[[t,u]]=Vl n t (on.take (k+1)):=by
  unfold Vl
  rw[QW hx,List.filter_append,List.map_append]
  rw[← Qe3 h1 h2] at h
  simp[ht,h]
theorem Qe6 (hx:on[k]? =some u)(ht:¬t < u):Vl n t (on.take k)=Vl n t (on.take (k+1)):=by
  unfold Vl
  rw[QW hx,List.filter_append,List.map_append]
  simp[ht]
theorem Qff (hx:on[k]? =some u)(h1:n.2[t.toNat]? =some xt)(h2:n.2[u.toNat]? =some xu)(h:(xt.1.any fun z=>decide (z∈xu.1))=true):Vl n t (on.take k)=Vl n t (on.take (k+1)):=by
  unfold Vl
  rw[QW hx,List.filter_append,List.map_append]
  rw[← Qe3 h1 h2] at h
  simp[h]
theorem QgL:(Vl n t l).length≤l.length:=by unfold Vl; rw[List.length_map]; exact List.length_filter_le ..
theorem QgH:(V3 n t l).length≤l.length:=by unfold V3; rw[List.length_map]; exact List.length_filter_le ..
theorem KM {α:Type}{f:α→List (List Int)}{m:Nat}:∀{l:List α},(∀x∈l,(f x).length≤m)→(l.flatMap f).length≤m*l.length
  | [],_=>by simp
  | x :: l,h=>by
    rw[List.flatMap_cons,List.length_append,List.length_cons,Nat.mul_add]
    have h1:=h x (List.mem_cons_self ..)
    have h2:=KM (f:=f) (l:=l) fun y hy=>h y (List.mem_cons_of_mem _ hy)
    omega
theorem QfQ (h:on.length≤24):(U3 n on l).length≤24*l.length:=KM fun _ _=>Nat.le_trans QgL h
theorem Qcw (h:n.2.length≤24):(ZI n ms).length≤576*ms.length:=KM fun mk _=>by
  have h1:=Vg n mk
  have h2:=QfQ (n:=n) (on:=Q4 n mk) (l:=Q4 n mk) (by omega)
  omega
theorem Qer (hx:l[k]? =some t):U3 n on (l.take k)++Vl n t on=U3 n on (l.take (k+1)):=by unfold U3; rw[QW hx,List.flatMap_append]; simp
theorem QdO (hx:ms[k]? =some mk):ZI n (ms.take k)++U3 n (Q4 n mk) (Q4 n mk)=ZI n (ms.take (k+1)):=by unfold ZI; rw[QW hx,List.flatMap_append]; simp
theorem Qml (hx:ms[k]? =some mk)(hi:(Q4 n mk).length≤i):ofG ltP (ZI n (ms.take k)++U3 n (Q4 n mk) ((Q4 n mk).take i))=ofG ltP (ZI n (ms.take (k+1))):=by rw[List.take_of_length_le hi,QdO hx]
theorem Qmm (hx:on[i]? =some t)(hj:on.length≤j):ofG ltP (as_++U3 n on (on.take i)++Vl n t (on.take j))=ofG ltP (as_++U3 n on (on.take (i+1))):=by rw[List.take_of_length_le hj,List.append_assoc,Qer hx]
end
section
variable {vs vs2:List Hdr}{gf gf2 gj:Hdr→List Int}{l:List (List Int)}{m:Int}{x:List Int}
theorem QnQ (hvf:vs.map gf=l)(h0:0≤m)(hP:∀j:Nat,(j:Int) < m→∀y,vs[j]? =some y→ltP (gf y) x=true){y:Hdr}(h:vs[m.toNat]? =some y)(he:gf y=x):vs.map gf=Xa ltP x l:=by
  subst hvf
  refine (Qee (k:=m.toNat) (fun j hj z hz=> ?_) (by rw[List.getElem?_map,h,Option.map_some,he]) (K5 x)).symm
  rw[List.getElem?_map] at hz
  obtain ⟨z',h1,rfl⟩:=Option.map_eq_some_iff.1 hz
  exact hP j (by omega) z' h1
theorem Qi0 (hvf:vs.map gf=l)(h2:vs2.map gf2=[x])(j1:∀v∈vs,gj v=gf v)(j2:∀v∈vs2,gj v=gf2 v)(h0:0≤m)(h1:m≤(vs.length:Int))(hP:∀j:Nat,(j:Int) < m→∀y,vs[j]? =some y→ltP (gf y) x=true)
    (h:∀y,vs[m.toNat]? =some y→ltP (gf y) x=false∧gf y≠x):(((vs.take m.toNat)++vs2)++vs.drop m.toNat).map gj=Xa ltP x l:=by
  subst hvf
  rw[List.map_append,List.map_append,List.map_congr_left (l:=vs.take m.toNat) (fun v hv=>j1 v (List.mem_of_mem_take hv)),List.map_congr_left (l:=vs.drop m.toNat) (fun v hv=>j1 v (List.mem_of_mem_drop hv)),List.map_congr_left j2,h2,List.map_take,List.map_drop,List.append_assoc]
  refine (QiZ (k:=m.toNat) (fun j hj z hz=> ?_) (by rw[List.length_map]; omega) fun z hz=> ?_).symm
  · rw [List.getElem?_map] at hz
    obtain ⟨z',h1,rfl⟩:=Option.map_eq_some_iff.1 hz
    exact hP j (by omega) z' h1
  · rw [List.getElem?_map] at hz
    obtain ⟨z',h1,rfl⟩:=Option.map_eq_some_iff.1 hz
    exact h z' h1
theorem QdT:∃l:List Hdr,l.Perm (((vs.take m.toNat)++vs2)++vs.drop m.toNat)∧l.Sublist (vs++vs2):=⟨vs++vs2,by
  have h:(vs.take m.toNat++vs.drop m.toNat++vs2).Perm (vs.take m.toNat++vs2++vs.drop m.toNat):=by
    rw[List.append_assoc,List.append_assoc]
    exact List.Perm.append_left _ List.perm_append_comm
  rwa [List.take_append_drop] at h,List.Sublist.refl _⟩
theorem Qm8 (h0:0≤m)(h1:m≤(vs.length:Int)):(([]++(vs.take (0+m.toNat)).drop 0)++vs2)++([]++(vs.take (m.toNat+(vs.length - m.toNat))).drop m.toNat)=((vs.take m.toNat)++vs2)++vs.drop m.toNat:=by
  rw[show m.toNat+(vs.length - m.toNat)=vs.length by omega,List.take_length]
  simp
end
theorem U0 (a:Int)(b:Int):FC Tryz.prog 165 [(false,[dI a]),(false,[dI b])] [] 0 (Zq (lI (min a b))):=by
 refine QN Tryz.func165 rfl rfl Tryz.ntmps165 fun O_ hO w0_ N0_ X_ h0_ f0_=> ?_
 refine AC.fact (QA (x:= .tmp 0) (Qa rfl)) fun hi1=>AC.fact (QA (x:= .tmp 1) (Qa rfl)) fun hi2=> ?_
 iterate 9 refine w_ ?_
 cases hb3:(decide (a < b))
 ·have hb3':=of_decide_eq_false hb3
  iterate 6 refine w_ ?_
  refine Qf ?_
  subst hO
  have e4:(b:Int)=(min a b):=by
   omega
  exact Ql (Qm rfl (Qd rfl)) ((congrArg (fun z_=>lI z_) e4)) rfl
 ·have hb3':=of_decide_eq_true hb3
  iterate 5 refine w_ ?_
  refine Qf ?_
  subst hO
  have e5:(a:Int)=(min a b):=by
   omega
  exact Ql (Qm rfl (Qd rfl)) ((congrArg (fun z_=>lI z_) e5)) rfl
theorem Kc (a:Int)(b:Int):FC Tryz.prog 166 [(false,[dI a]),(false,[dI b])] [] 0 (Zq (lI (max a b))):=by
 refine QN Tryz.func166 rfl rfl Tryz.ntmps166 fun O_ hO w0_ N0_ X_ h0_ f0_=> ?_
 refine AC.fact (QA (x:= .tmp 0) (Qa rfl)) fun hi1=>AC.fact (QA (x:= .tmp 1) (Qa rfl)) fun hi2=> ?_
 iterate 9 refine w_ ?_
 cases hb3:(decide (b < a))
 ·have hb3':=of_decide_eq_false hb3
  iterate 6 refine w_ ?_
  refine Qf ?_
  subst hO
  have e4:(b:Int)=(max a b):=by
   omega
  exact Ql (Qm rfl (Qd rfl)) ((congrArg (fun z_=>lI z_) e4)) rfl
 ·have hb3':=of_decide_eq_true hb3
  iterate 5 refine w_ ?_
  refine Qf ?_
  subst hO
  have e5:(a:Int)=(max a b):=by
   omega
  exact Ql (Qm rfl (Qd rfl)) ((congrArg (fun z_=>lI z_) e5)) rfl
theorem Qcx (a:List Int)(b:List Int):FC Tryz.prog 109 [(false,[.dat (.sl 3 .int) a]),(false,[.dat (.sl 3 .int) b])] [] 0 (Zq (lB (a.any fun z=>decide (z∈b)))):=by
 refine QN Tryz.func109 rfl rfl Tryz.ntmps109 fun O_ hO w0_ N0_ X_ h0_ f0_=> ?_
 iterate 6 refine w_ ?_
 refine AL.fact (Qq (x:= .tmp 7) (Qa rfl)) fun hl1=> ?_
 iterate 4 refine w_ ?_
 refine Qx (fun m_ s_=>∃(k:Nat),k≤a.length∧m_=a.length - k∧(∀j,j < k→∀y,a[j]? =some y→¬y∈b)∧s_=⟨[(1,lf (.dat (.sl 3 .int) b)),(7,lf (.dat (.sl 3 .int) a)),(8,lI (a.length:Int)),(9,lI (k:Int))],[]⟩) ⟨0,Nat.zero_le _,rfl,(fun j hj=>absurd hj (Nat.not_lt_zero j)),rfl⟩ ?_ ?_
 · exact Wk.of [] rfl ⟨rfl,rfl,rfl,rfl,trivial⟩ trivial rfl rfl
 rintro m_ s_ ⟨k,hk2,hm3,hno,rfl⟩
 iterate 4 refine w_ ?_
 cases hb4:(decide ((k:Int) < (a.length:Int)))
 ·have hb4':=of_decide_eq_false hb4
  refine w_ ?_
  refine QB ?_
  refine (?_:AC _ _ _ _ _)
  iterate 3 refine w_ ?_
  refine Qf ?_
  subst hO
  have e5:(false:Bool)=(a.any fun z=>decide (z∈b)):=by
   first | exact (List.any_eq_false.2 fun z hz=>by obtain ⟨j,hj⟩:=List.mem_iff_getElem?.1 hz; rw[decide_eq_true_eq]; exact hno j (by have:=(List.getElem?_eq_some_iff.1 hj).1; omega) z hj).symm
  exact Ql (Qm rfl (Qd rfl)) ((congrArg (fun z_=>lB z_) e5)) rfl
 ·have hb4':=of_decide_eq_true hb4
  iterate 5 refine w_ ?_
  obtain ⟨x6,hx7⟩:∃z,a[k]? =some z:=⟨_,List.getElem?_eq_getElem (by omega)⟩
  refine lc (Qh (Qa rfl) (Qa rfl) QE QO rfl (by omega) hx7) ?_
  refine w_ ?_
  refine AL.fact (QA (x:= .tmp 12) (Qa rfl)) fun hi8=> ?_
  iterate 5 refine w_ ?_
  refine lc (Qn (Qdn b x6) QiF ⟨_,_,rfl,(Qb rfl),⟨_,_,rfl,(Qb rfl),rfl⟩⟩ rfl rfl) ?_
  refine w_ ?_
  cases hb9:(decide (x6∈b))
  ·have hb9':=of_decide_eq_false hb9
   refine w_ ?_
   refine AC.skip ?_
   refine (?_:AC _ _ _ _ _)
   iterate 3 refine w_ ?_
   refine Qk<|QU ⟨k+1,by omega,rfl,(K8 hno hx7 (of_decide_eq_false (by assumption))),rfl⟩ (by omega) ?_
   exact Wk.of [] rfl ⟨rfl,rfl,rfl,rfl,trivial⟩ trivial rfl rfl
  ·have hb9':=of_decide_eq_true hb9
   iterate 4 refine w_ ?_
   refine Qf ?_
   subst hO
   have e10:(true:Bool)=(a.any fun z=>decide (z∈b)):=by
    exact (List.any_eq_true.2 ⟨_,List.mem_of_getElem? hx7,by assumption⟩).symm
   exact Ql (Qm rfl (Qd rfl)) ((congrArg (fun z_=>lB z_) e10)) rfl
theorem Qok {a b:List Int}{k:Nat}{x y:Int}(hE:∀j,j < k→a[j]? =b[j]?)(ha:a[k]? =some x)(hb:b[k]? =some y)(h:x≠y):decide (x < y)=ltP a b:=by
  induction k generalizing a b with
  | zero=>
    cases a with
    | nil=>cases ha
    | cons p a=>
      cases b with
      | nil=>cases hb
      | cons q b=>
        cases ha; cases hb
        unfold ltP
        by_cases h1:x < y
        · simp[h1]
        · rw[if_neg h1,if_pos (by omega),decide_eq_false h1]
  | succ k ih=>
    cases a with
    | nil=>cases ha
    | cons p a=>
      cases b with
      | nil=>cases hb
      | cons q b=>
        have h0:=hE 0 (Nat.succ_pos _)
        cases h0
        unfold ltP
        rw[if_neg (by omega),if_neg (by omega)]
        exact ih (fun j hj=>hE (j+1) (by omega)) ha hb
theorem QiX {a b:List Int}{k:Nat}(hE:∀j,j < k→a[j]? =b[j]?)(h:a.length≤k∨b.length≤k)(hk:k≤a.length∧k≤b.length):decide ((a.length:Int) < (b.length:Int))=ltP a b:=by
  induction k generalizing a b with
  | zero=>
    rcases h with h | h
    · cases a with
      | nil=>cases b <;> simp[ltP]
      | cons p a=>simp at h
    · cases b with
      | nil=>cases a <;> simp[ltP]; omega
      | cons p a=>simp at h
  | succ k ih=>
    cases a with
    | nil=>simp at hk
    | cons p a=>
      cases b with
      | nil=>simp at hk
      | cons q b=>
        have h0:=hE 0 (Nat.succ_pos _)
        cases h0
        unfold ltP
        rw[if_neg (by omega),if_neg (by omega),← ih (a:=a) (b:=b) (fun j hj=>hE (j+1) (by omega)) (by simp at h; omega) (by simp at hk; omega)]
        simp
theorem QaV (a:List Int)(b:List Int):FC Tryz.prog 188 [(false,[.dat (.sl 3 .int) a]),(false,[.dat (.sl 3 .int) b])] [] 0 (Zq (lB (ltP a b))):=by
 refine QN Tryz.func188 rfl rfl Tryz.ntmps188 fun O_ hO w0_ N0_ X_ h0_ f0_=> ?_
 iterate 8 refine w_ ?_
 refine Qx (fun m_ s_=>∃(m:Int),m_=((a.length:Int) - m).toNat∧(0≤m∧m≤(a.length:Int)∧m≤(b.length:Int))∧(∀j,j < m.toNat→a[j]? =b[j]?)∧s_=⟨[(0,lf (.dat (.sl 3 .int) a)),(1,lf (.dat (.sl 3 .int) b)),(5,lI m)],[]⟩) ⟨0,rfl,(by omega),(fun j hj=>by omega),rfl⟩ ?_ ?_
 · exact Wk.of [] rfl ⟨rfl,rfl,rfl,trivial⟩ trivial rfl rfl
 rintro m_ s_ ⟨m,hm2,hm,hE,rfl⟩
 iterate 4 refine w_ ?_
 refine AL.fact (Qq (x:= .tmp 7) (Qa rfl)) fun hl3=> ?_
 iterate 3 refine w_ ?_
 cases hb4:(decide (m < (a.length:Int)))
 ·have hb4':=of_decide_eq_false hb4
  iterate 7 refine w_ ?_
  refine QB ?_
  refine (?_:AC _ _ _ _ _)
  iterate 2 refine w_ ?_
  refine AL.fact (Qq (x:= .tmp 36) (Qa rfl)) fun hl5=> ?_
  iterate 2 refine w_ ?_
  refine AL.fact (Qq (x:= .tmp 38) (Qa rfl)) fun hl6=> ?_
  iterate 4 refine w_ ?_
  refine Qf ?_
  subst hO
  have e7:(decide ((a.length:Int) < (b.length:Int)):Bool)=(ltP a b):=by
   exact QiX hE (by omega) (by omega)
  exact Ql (Qm rfl (Qd rfl)) ((congrArg (fun z_=>lB z_) e7)) rfl
 ·have hb4':=of_decide_eq_true hb4
  iterate 2 refine w_ ?_
  refine AL.fact (Qq (x:= .tmp 12) (Qa rfl)) fun hl8=> ?_
  iterate 4 refine w_ ?_
  cases hb9:(decide (m < (b.length:Int)))
  ·have hb9':=of_decide_eq_false hb9
   refine w_ ?_
   refine QB ?_
   refine (?_:AC _ _ _ _ _)
   iterate 2 refine w_ ?_
   refine AL.fact (Qq (x:= .tmp 36) (Qa rfl)) fun hl10=> ?_
   iterate 2 refine w_ ?_
   refine AL.fact (Qq (x:= .tmp 38) (Qa rfl)) fun hl11=> ?_
   iterate 4 refine w_ ?_
   refine Qf ?_
   subst hO
   have e12:(decide ((a.length:Int) < (b.length:Int)):Bool)=(ltP a b):=by
    exact QiX hE (by omega) (by omega)
   exact Ql (Qm rfl (Qd rfl)) ((congrArg (fun z_=>lB z_) e12)) rfl
  ·have hb9':=of_decide_eq_true hb9
   iterate 4 refine w_ ?_
   obtain ⟨x,hx14⟩:∃z,a[(m).toNat]? =some z:=⟨_,List.getElem?_eq_getElem (by omega)⟩
   have xh:=hx14
   obtain ⟨y,hx16⟩:∃z,b[(m).toNat]? =some z:=⟨_,List.getElem?_eq_getElem (by omega)⟩
   have yh:=hx16
   refine dw [io 18 (lf (.dat (.sl 3 .int) a)),io 19 (lI m),io 20 (lf (.elt .int x 0)),io 21 (lI x),io 22 (lf (.dat (.sl 3 .int) b)),io 23 (lI m),io 24 (lf (.elt .int y 0)),io 25 (lI y),io 26 (lB (!decide (x=y)))] [0,0,3,7,0,0,48,112,255] mixed rfl (by kernel_rfl) ⟨dxm rfl rfl,dxm rfl rfl,fun _ h_=>ac (Qh (h_.v rfl) (h_.v rfl) QE QO rfl (by omega) hx14) rfl,fun _ h_=>ac (Q0 (h_.v rfl) QO rfl rfl) rfl,dxm rfl rfl,dxm rfl rfl,fun _ h_=>ac (Qh (h_.v rfl) (h_.v rfl) QE QO rfl (by omega) hx16) rfl,fun _ h_=>ac (Q0 (h_.v rfl) QO rfl rfl) rfl,fun _ h_=>ac (He (h_.v rfl) (h_.v rfl) rfl) rfl,⟨⟩⟩ ?_
   cases hb17:(!decide (x=y))
   ·have hb17':(x=y):=Zb hb17
    refine w_ ?_
    refine AC.skip ?_
    refine (?_:AC _ _ _ _ _)
    iterate 4 refine w_ ?_
    refine Qk<|QU ⟨(m+1),rfl,(by omega),(fun j hj=>by by_cases e:j=m.toNat <;> first | (subst e; rw[xh,yh]; simp_all; done) | exact hE j (by omega)),rfl⟩ (by omega) ?_
    exact Wk.of [] rfl ⟨rfl,rfl,rfl,trivial⟩ trivial rfl rfl
   ·have hb17':¬(x=y):=Zk hb17
    refine w_ ?_
    refine dw [io 27 (lf (.dat (.sl 3 .int) a)),io 28 (lI m),io 29 (lf (.elt .int x 0)),io 30 (lI x),io 31 (lf (.dat (.sl 3 .int) b)),io 32 (lI m),io 33 (lf (.elt .int y 0)),io 34 (lI y),io 35 (lB (decide (x < y))),io 4 (lB (decide (x < y)))] [0,0,3,7,0,0,48,112,255,511] mixed rfl (by kernel_rfl) ⟨dxm rfl rfl,dxm rfl rfl,fun _ h_=>ac (Qh (h_.v rfl) (h_.v rfl) QE QO rfl (by omega) hx14) rfl,fun _ h_=>ac (Q0 (h_.v rfl) QO rfl rfl) rfl,dxm rfl rfl,dxm rfl rfl,fun _ h_=>ac (Qh (h_.v rfl) (h_.v rfl) QE QO rfl (by omega) hx16) rfl,fun _ h_=>ac (Q0 (h_.v rfl) QO rfl rfl) rfl,fun _ h_=>ac (HV (h_.v rfl) (h_.v rfl) rfl) rfl,dxt rfl rfl,⟨⟩⟩<|Qf ?_
    subst hO
    have e18:(decide (x < y):Bool)=(ltP a b):=by
     exact Qok hE xh yh (by simp_all)
    exact Ql (Qm rfl (Qd rfl)) ((congrArg (fun z_=>lB z_) e18)) rfl
theorem QdD (l:List (List Int))(a:Int)(b:Int)(hl:l.length≤1000000):FC Tryz.prog 110 [(false,[.ref 0]),(false,[dI a]),(false,[dI b])] [(0,some (.arr 106 (.sl 3 .int) l))] 0 (UC 106 (.sl 3 .int) (Xa ltP [min a b,max a b] l)):=by
 refine QN Tryz.func110 rfl rfl Tryz.ntmps110 fun O_ hO w0_ N0_ X_ h0_ f0_=> ?_
 refine AC.fact (QA (x:= .tmp 1) (Qa rfl)) fun hi1=>AC.fact (QA (x:= .tmp 2) (Qa rfl)) fun hi2=>Wp<|AC.poolO (q:=0) (e:= .int) 1 rfl (Fresh.of rfl) (nlr rfl) fun vs gf hvf=> ?_
 have hvl:vs.length=l.length:=by rw[← hvf,List.length_map]
 iterate 6 refine w_ ?_
 refine lc (Qn (U0 a b) QbL ⟨_,_,rfl,(Qb rfl),⟨_,_,rfl,(Qb rfl),rfl⟩⟩ rfl rfl) ?_
 iterate 2 refine w_ ?_
 refine lc (Qn (Kc a b) QcF ⟨_,_,rfl,(Qb rfl),⟨_,_,rfl,(Qb rfl),rfl⟩⟩ rfl rfl)<|lc (Qg 2 (e:= .int) QE QO Yf rfl ⟨_,_,rfl,(Qb rfl),⟨_,_,rfl,(Qb rfl),rfl⟩⟩ (List.all_eq_true.1 rfl) ⟨_,_,_,_,rfl,⟨rfl,rfl⟩,⟨_,_,_,_,rfl,⟨rfl,rfl⟩,⟨rfl,rfl⟩,rfl⟩,rfl⟩ (by decide) rfl rfl (Fresh.of rfl) (nlr rfl)) ?_
 iterate 7 refine w_ ?_
 refine Qx (fun m_ s_=>∃(m:Int),m_=((vs.length:Int) - m).toNat∧(0≤m∧m≤(vs.length:Int))∧(∀j:Nat,(j:Int) < m→∀y,vs[j]? =some y→ltP (gf y) [min a b,max a b]=true)∧s_=⟨[(0,lR 0),(6,lf (.val (.slice none 0 0))),(7,lR 2),(8,lI m)],[(0,some (.arr 106 .vl vs)),(1,some (.pl true (.sl 3 .int) vs gf)),(2,some (.arr 3 .int ([min a b,max a b])))]⟩) ⟨0,rfl,(by omega),(fun j hj=>by omega),rfl⟩ ?_ ?_
 · exact Wk.of [(0,0),(1,1),(2,2)] rfl ⟨rfl,rfl,rfl,rfl,trivial⟩ ⟨rfl,rfl,rfl,trivial⟩ rfl rfl
 rintro m_ s_ ⟨m,hm4,hm,hP,rfl⟩
 iterate 7 refine w_ ?_
 cases hb5:(decide (m < (vs.length:Int)))
 ·have hb5':=of_decide_eq_false hb5
  iterate 9 refine w_ ?_
  refine QB ?_
  refine (?_:AC _ _ _ _ _)
  iterate 7 refine w_ ?_
  have hb6:(decide (m < (vs.length:Int)))=false:=hb5
  try rw[hb6]
  iterate 11 refine w_ ?_
  refine lc (Qg 3 (e:= .vl) Q1 QI Z9 rfl rfl (List.all_eq_true.1 rfl) ⟨rfl,rfl⟩ (by decide) rfl rfl (Fresh.of rfl) (nlr rfl)) ?_
  iterate 2 refine w_ ?_
  refine lc (Ya (e:= .vl) (a:=(m).toNat) (b:=vs.length - (m).toNat) (l:=(some m)) (h:=none) (Qa rfl) rfl (by exact (Qa rfl)) (by exact trivial) Q1 QI rfl (by first | (simp only[Option.getD_none,Option.getD_some]; omega) | omega | (simp only[Option.getD_none,Option.getD_some,List.length_append,List.length_take,List.length_replicate]; omega)) (by first | (simp only[Option.getD_none,Option.getD_some]; omega) | omega | (simp only[Option.getD_none,Option.getD_some,List.length_append,List.length_take,List.length_replicate]; omega)) (by first | (simp only[Option.getD_none,Option.getD_some]; omega) | omega | (simp only[Option.getD_none,Option.getD_some,List.length_append,List.length_take,List.length_replicate]; omega)) (by first | rfl | simp) (by first | rfl | simp))<|lc (Zj 4 (Qa rfl) rfl (UA (e:= .vl) (Qa rfl) rfl (by omega)) rfl Q1 Y5 (by first | omega | (simp only[List.length_append,List.length_map,List.length_take,List.length_cons,List.length_nil]; omega) | (simp only[List.length_append,List.length_drop,List.length_take,List.length_cons,List.length_nil]; omega)) rfl (Fresh.of rfl) (nlr rfl)) ?_
  iterate 3 refine w_ ?_
  refine lc (Qg 5 (e:= .vl) Q1 QI Z9 rfl rfl (List.all_eq_true.1 rfl) ⟨rfl,rfl⟩ (by decide) rfl rfl (Fresh.of rfl) (nlr rfl)) ?_
  iterate 2 refine w_ ?_
  refine lc (Ya (e:= .vl) (a:=0) (b:=(m).toNat) (l:=none) (h:=(some m)) (Qa rfl) rfl (by exact trivial) (by exact (Qa rfl)) Q1 QI rfl (by first | (simp only[Option.getD_none,Option.getD_some]; omega) | omega | (simp only[Option.getD_none,Option.getD_some,List.length_append,List.length_take,List.length_replicate]; omega)) (by first | (simp only[Option.getD_none,Option.getD_some]; omega) | omega | (simp only[Option.getD_none,Option.getD_some,List.length_append,List.length_take,List.length_replicate]; omega)) (by first | (simp only[Option.getD_none,Option.getD_some]; omega) | omega | (simp only[Option.getD_none,Option.getD_some,List.length_append,List.length_take,List.length_replicate]; omega)) (by first | rfl | simp) (by first | rfl | simp))<|lc (Zj 6 (Qa rfl) rfl (UA (e:= .vl) (Qa rfl) rfl (by omega)) rfl Q1 Y5 (by first | omega | (simp only[List.length_append,List.length_map,List.length_take,List.length_cons,List.length_nil]; omega) | (simp only[List.length_append,List.length_drop,List.length_take,List.length_cons,List.length_nil]; omega)) rfl (Fresh.of rfl) (nlr rfl)) ?_
  refine w_ ?_
  refine lc (Qg 7 (e:=(.sl 3 .int)) Q1 QI Z9 rfl ⟨_,_,rfl,(Qb rfl),rfl⟩ (List.all_eq_true.1 rfl) ⟨_,_,_,_,rfl,(.inl ⟨_,rfl,rfl,rfl⟩),⟨rfl,rfl⟩,rfl⟩ (by decide) rfl rfl (Fresh.of rfl) (nlr rfl))<|AL.poolO (q:=7) (e:= .int) 9 rfl (Fresh.of rfl) (nlr rfl) fun vs2 gf2 hvf2=> ?_
  have hvl2:vs2.length=([[min a b,max a b]]).length:=by rw[← hvf2,List.length_map]
  simp only[List.length_cons,List.length_nil] at hvl2
  refine AL.poolJ (p:=1) (p2:=9) rfl rfl rfl fun gj hj1 hj2=>lc (QQ 8 (Qa rfl) rfl (Qa rfl) rfl rfl Q1 Y5 (by first | omega | (simp only[List.length_append,List.length_map,List.length_take,List.length_cons,List.length_nil]; omega) | (simp only[List.length_append,List.length_drop,List.length_take,List.length_cons,List.length_nil]; omega)) rfl (Fresh.of rfl) (nlr rfl)) ?_
  refine w_ ?_
  refine lc (Zj 10 (Qa rfl) rfl (Ui (Qa rfl) rfl) rfl Q1 Y5 (by first | omega | (simp only[List.length_append,List.length_map,List.length_take,List.length_cons,List.length_nil]; omega) | (simp only[List.length_append,List.length_drop,List.length_take,List.length_cons,List.length_nil]; omega)) rfl (Fresh.of rfl) (nlr rfl)) ?_
  iterate 2 refine w_ ?_
  refine AC.wk (WV (q:=10) (p:=1) (zs:=((([])++((vs.take (0+((m).toNat))).drop 0))++vs2)++(([])++((vs.take (((m).toNat)+(vs.length - (m).toNat))).drop ((m).toNat)))) rfl rfl (by (rw[Qm8 (by omega) (by omega)]; exact QdT)))<|Qf ?_
  subst hO
  refine ZU (e:=(.sl 3 .int)) (xs:=((((([])++((vs.take (0+((m).toNat))).drop 0))++vs2)++(([])++((vs.take (((m).toNat)+(vs.length - (m).toNat))).drop ((m).toNat)))).map gj)) (Qm rfl (Qd rfl)) rfl ?_
  (rw[Qm8 (by omega) (by omega)]; exact Qi0 hvf hvf2 hj1 hj2 (by omega) (by omega) hP (fun z hz=>by simp_all))
 ·have hb5':=of_decide_eq_true hb5
  iterate 2 refine w_ ?_
  refine lgy rfl rfl (Qu (e:= .vl) (Qa rfl) rfl (Qa rfl) Q1 QI rfl (by omega) (by first | omega | (simp only[List.length_set]; omega))) ?_
  obtain ⟨y,hx8⟩:∃z,vs[(m).toNat]? =some z:=⟨_,List.getElem?_eq_getElem (by omega)⟩
  have yh:=hx8
  refine lgy rfl rfl (QL (e:= .vl) (Qa rfl) rfl hx8 rfl QI rfl rfl) ?_
  refine w_ ?_
  refine lgy rfl rfl (Zm (QaV (gf y) ([min a b,max a b])) Qiv ⟨_,_,rfl,(KJ (p:=1) (Qa rfl) rfl (List.mem_of_getElem? hx8)),⟨_,_,rfl,(Us (Qa rfl) rfl),rfl⟩⟩ rfl rfl rfl) ?_
  iterate 2 refine w_ ?_
  cases hb9:(ltP (gf y) ([min a b,max a b]))
  ·refine w_ ?_
   refine QB ?_
   refine (?_:AC _ _ _ _ _)
   iterate 7 refine w_ ?_
   have hb10:(decide (m < (vs.length:Int)))=true:=hb5
   try rw[hb10]
   iterate 2 refine w_ ?_
   refine lgy rfl rfl (Qu (e:= .vl) (Qa rfl) rfl (Qa rfl) Q1 QI rfl (by omega) (by first | omega | (simp only[List.length_set]; omega)))<|lgy rfl rfl (QL (e:= .vl) (Qa rfl) rfl hx8 rfl QI rfl rfl) ?_
   refine w_ ?_
   refine lgy rfl rfl (Zm (WX (gf y) ([min a b,max a b])) JP ⟨_,_,rfl,(KJ (p:=1) (Qa rfl) rfl (List.mem_of_getElem? hx8)),⟨_,_,rfl,(Us (Qa rfl) rfl),rfl⟩⟩ rfl rfl rfl) ?_
   iterate 2 refine w_ ?_
   cases hb11:(decide ((gf y)=([min a b,max a b])))
   ·have hb11':=of_decide_eq_false hb11
    iterate 3 refine w_ ?_
    refine lc (Qg 11 (e:= .vl) Q1 QI Z9 rfl rfl (List.all_eq_true.1 rfl) ⟨rfl,rfl⟩ (by decide) rfl rfl (Fresh.of rfl) (nlr rfl)) ?_
    iterate 2 refine w_ ?_
    refine lc (Ya (e:= .vl) (a:=(m).toNat) (b:=vs.length - (m).toNat) (l:=(some m)) (h:=none) (Qa rfl) rfl (by exact (Qa rfl)) (by exact trivial) Q1 QI rfl (by first | (simp only[Option.getD_none,Option.getD_some]; omega) | omega | (simp only[Option.getD_none,Option.getD_some,List.length_append,List.length_take,List.length_replicate]; omega)) (by first | (simp only[Option.getD_none,Option.getD_some]; omega) | omega | (simp only[Option.getD_none,Option.getD_some,List.length_append,List.length_take,List.length_replicate]; omega)) (by first | (simp only[Option.getD_none,Option.getD_some]; omega) | omega | (simp only[Option.getD_none,Option.getD_some,List.length_append,List.length_take,List.length_replicate]; omega)) (by first | rfl | simp) (by first | rfl | simp))<|lc (Zj 12 (Qa rfl) rfl (UA (e:= .vl) (Qa rfl) rfl (by omega)) rfl Q1 Y5 (by first | omega | (simp only[List.length_append,List.length_map,List.length_take,List.length_cons,List.length_nil]; omega) | (simp only[List.length_append,List.length_drop,List.length_take,List.length_cons,List.length_nil]; omega)) rfl (Fresh.of rfl) (nlr rfl)) ?_
    iterate 3 refine w_ ?_
    refine lc (Qg 13 (e:= .vl) Q1 QI Z9 rfl rfl (List.all_eq_true.1 rfl) ⟨rfl,rfl⟩ (by decide) rfl rfl (Fresh.of rfl) (nlr rfl)) ?_
    iterate 2 refine w_ ?_
    refine lc (Ya (e:= .vl) (a:=0) (b:=(m).toNat) (l:=none) (h:=(some m)) (Qa rfl) rfl (by exact trivial) (by exact (Qa rfl)) Q1 QI rfl (by first | (simp only[Option.getD_none,Option.getD_some]; omega) | omega | (simp only[Option.getD_none,Option.getD_some,List.length_append,List.length_take,List.length_replicate]; omega)) (by first | (simp only[Option.getD_none,Option.getD_some]; omega) | omega | (simp only[Option.getD_none,Option.getD_some,List.length_append,List.length_take,List.length_replicate]; omega)) (by first | (simp only[Option.getD_none,Option.getD_some]; omega) | omega | (simp only[Option.getD_none,Option.getD_some,List.length_append,List.length_take,List.length_replicate]; omega)) (by first | rfl | simp) (by first | rfl | simp))<|lc (Zj 14 (Qa rfl) rfl (UA (e:= .vl) (Qa rfl) rfl (by omega)) rfl Q1 Y5 (by first | omega | (simp only[List.length_append,List.length_map,List.length_take,List.length_cons,List.length_nil]; omega) | (simp only[List.length_append,List.length_drop,List.length_take,List.length_cons,List.length_nil]; omega)) rfl (Fresh.of rfl) (nlr rfl)) ?_
    refine w_ ?_
    refine lc (Qg 15 (e:=(.sl 3 .int)) Q1 QI Z9 rfl ⟨_,_,rfl,(Qb rfl),rfl⟩ (List.all_eq_true.1 rfl) ⟨_,_,_,_,rfl,(.inl ⟨_,rfl,rfl,rfl⟩),⟨rfl,rfl⟩,rfl⟩ (by decide) rfl rfl (Fresh.of rfl) (nlr rfl))<|AL.poolO (q:=15) (e:= .int) 17 rfl (Fresh.of rfl) (nlr rfl) fun vs2 gf2 hvf2=> ?_
    have hvl2:vs2.length=([[min a b,max a b]]).length:=by rw[← hvf2,List.length_map]
    simp only[List.length_cons,List.length_nil] at hvl2
    refine AL.poolJ (p:=1) (p2:=17) rfl rfl rfl fun gj hj1 hj2=>lc (QQ 16 (Qa rfl) rfl (Qa rfl) rfl rfl Q1 Y5 (by first | omega | (simp only[List.length_append,List.length_map,List.length_take,List.length_cons,List.length_nil]; omega) | (simp only[List.length_append,List.length_drop,List.length_take,List.length_cons,List.length_nil]; omega)) rfl (Fresh.of rfl) (nlr rfl)) ?_
    refine w_ ?_
    refine lc (Zj 18 (Qa rfl) rfl (Ui (Qa rfl) rfl) rfl Q1 Y5 (by first | omega | (simp only[List.length_append,List.length_map,List.length_take,List.length_cons,List.length_nil]; omega) | (simp only[List.length_append,List.length_drop,List.length_take,List.length_cons,List.length_nil]; omega)) rfl (Fresh.of rfl) (nlr rfl)) ?_
    iterate 2 refine w_ ?_
    refine AC.wk (WV (q:=18) (p:=1) (zs:=((([])++((vs.take (0+((m).toNat))).drop 0))++vs2)++(([])++((vs.take (((m).toNat)+(vs.length - (m).toNat))).drop ((m).toNat)))) rfl rfl (by (rw[Qm8 (by omega) (by omega)]; exact QdT)))<|Qf ?_
    subst hO
    refine ZU (e:=(.sl 3 .int)) (xs:=((((([])++((vs.take (0+((m).toNat))).drop 0))++vs2)++(([])++((vs.take (((m).toNat)+(vs.length - (m).toNat))).drop ((m).toNat)))).map gj)) (Qm rfl (Qd rfl)) rfl ?_
    (rw[Qm8 (by omega) (by omega)]; exact Qi0 hvf hvf2 hj1 hj2 (by omega) (by omega) hP (fun z hz=>by simp_all))
   ·have hb11':=of_decide_eq_true hb11
    iterate 5 refine w_ ?_
    refine AC.wk (WV (q:=0) (p:=1) (zs:=vs) rfl rfl (by exact ⟨_,List.Perm.refl _,List.Sublist.refl _⟩))<|Qf ?_
    subst hO
    refine ZU (e:=(.sl 3 .int)) (xs:=(vs.map gf)) (Qm rfl (Qd rfl)) rfl ?_
    exact QnQ hvf (by omega) hP yh (by simp_all)
  ·iterate 7 refine w_ ?_
   refine Qk<|QU ⟨(m+1),rfl,(by omega),(fun j hj z hz=>by by_cases e:j=m.toNat <;> first | (subst e; simp_all; done) | exact hP j (by omega) z hz),rfl⟩ (by omega) ?_
   exact Wk.of [(0,0),(1,1),(2,2)] rfl ⟨rfl,rfl,rfl,rfl,trivial⟩ ⟨rfl,rfl,rfl,trivial⟩ rfl rfl
end Go.Proofs.YtnakmhfjafecpaaGreat
namespace Go.Proofs.YtnakmhfjafecpaaGreat
open Go.RowKit
set_option maxRecDepth 100000
set_option maxHeartbeats 4000000
theorem QdU {α:Type}(f:α→Bool)(l:List α):∀k,(Yv f l k).Pairwise (· < ·)
  | 0=>List.Pairwise.nil
  | k+1=>by
    unfold Yv
    have h:∀x∈Yv f l k,x < (k:Int):=fun x hx=>by obtain ⟨_,_,_,h,_⟩:=Qam hx; exact h
    refine List.pairwise_append.2 ⟨QdU f l k, ?_,fun x hx y hy=> ?_⟩
    · split
      · split <;> simp
      · simp
    · split at hy
      · split at hy
        · rw[List.mem_singleton.1 hy]; exact h x hx
        · cases hy
      · cases hy
section
variable {n:Y0}{k i j m:Nat}{mk:ByteArray}{t u:Int}{on l:List Int}{s:Q5}{xt xu:QJ}{ms:List ByteArray}{as_:List (List Int)}
theorem QmM:(Q4 n mk).Pairwise (· < ·):=QdU ..
theorem Qle {P:Int→Bool}(h:on.Pairwise (· < ·))(hx:on[i]? =some t):(on.filter fun u=>decide (t < u)&&P u)=(on.drop (i+1)).filter P:=by
  induction on generalizing i with
  | nil=>cases hx
  | cons y on ih=>
    obtain ⟨h1,h2⟩:=List.pairwise_cons.1 h
    cases i with
    | zero=>
      cases hx
      rw[List.filter_cons,if_neg (by simp),List.drop_succ_cons,List.drop_zero]
      exact List.filter_congr fun u hu=>by simp[h1 u hu]
    | succ i=>
      have h3:on[i]? =some t:=hx
      rw[List.filter_cons,if_neg (by have:=h1 t (List.mem_of_getElem? h3); simp; omega),List.drop_succ_cons]
      exact ih h2 h3
theorem QnM (h:on.Pairwise (· < ·))(hx:on[i]? =some t):V3 n t (on.drop (i+1))=Vl n t on:=by unfold V3 Vl; rw[Qle h hx]
theorem QdJ (h:on.Pairwise (· < ·)):∀k,k≤on.length→Qak n on k=U3 n on (on.take k)
  | 0,_=>rfl
  | k+1,hk=>by
    have hx:=List.getElem?_eq_getElem (l:=on) (i:=k) (by omega)
    rw[← Qer hx,← QdJ h k (by omega)]
    unfold Qak
    rw[List.range_succ,List.flatMap_append]
    simp only[List.flatMap_cons,List.flatMap_nil,List.append_nil]
    rw[hx,Option.getD_some,QnM h hx]
theorem Qm2 (h:on.Pairwise (· < ·))(hk:k=on.length):Qak n on k=U3 n on on:=by rw[QdJ h k (by omega),hk,List.take_length]
theorem Qma (hx:l[k]? =some u)(h1:n.2[t.toNat]? =some xt)(h2:n.2[u.toNat]? =some xu)(h:(!(xt.1.any fun z=>xu.1.any fun y=>decide (z=y)))=true):V3 n t (l.take k)++[[t,u]]=V3 n t (l.take (k+1)):=by
  unfold V3
  rw[QW hx,List.filter_append,List.map_append]
  have:shV n t u=false:=by
    rw[Qe3 h1 h2]
    simp only[Bool.not_eq_true',List.any_eq_false,decide_eq_true_eq] at h ⊢
    intro z hz hu
    exact h z hz (List.any_eq_true.2 ⟨z,hu,by simp⟩)
  simp[this]
theorem QmU (hx:l[k]? =some u)(h1:n.2[t.toNat]? =some xt)(h2:n.2[u.toNat]? =some xu)(h:(!(xt.1.any fun z=>xu.1.any fun y=>decide (z=y)))=false):V3 n t (l.take k)=V3 n t (l.take (k+1)):=by
  unfold V3
  rw[QW hx,List.filter_append,List.map_append]
  have:shV n t u=true:=by
    rw[Qe3 h1 h2]
    simp only[Bool.not_eq_false',List.any_eq_true,decide_eq_true_eq] at h ⊢
    obtain ⟨z,hz,y,hy,rfl⟩:=h
    exact ⟨z,hz,hy⟩
  simp[this]
def Q7 [∀s,Decidable (StgOk s)](s:Q5):List (List Int):=ofG ltP (ZI s.1 (Qc s).1.1)
theorem QgN [∀s,Decidable (StgOk s)](h:(Qc s).2=false):[]=Q7 s:=by unfold Q7; rw[Qft h]; rfl
theorem QeM (h:t < u):[min t u,max t u]=[t,u]:=by rw[show min t u=t by omega,show max t u=u by omega]
theorem Qkh (hn:n.2.length≤24)(hk:k≤ms.length)(hm:ms.length≤300)(he:on.length≤24)(hi:i≤on.length)(hj:l.length≤24):(ZI n (ms.take k)++U3 n on (on.take i)++Vl n t l).length≤200000:=by
  have h1:=Qcw (n:=n) (ms:=ms.take k) hn
  have h2:=QfQ (n:=n) (on:=on) (l:=on.take i) he
  have h3:=QgL (n:=n) (t:=t) (l:=l)
  simp only[List.length_append,List.length_take] at*
  omega
end
theorem Qaa (s:(Int×(List (List Int×List Int)))×(List (ByteArray×Int))×(List (Int×Bool))×ByteArray)(r:List ByteArray×(List (Int×Int×Int)))(hB:∀m∈r.1,∀t∈s.1.2,VS m t.1∧VS m t.2)(hn:s.1.2.length≤24)(hr:r.1.length≤300):FC Tryz.prog 53 [(true,[dI s.1.1, .dat (.sl 159 (.pr (.sl 3 .int) (.sl 3 .int))) s.1.2, .dat (.sl 145 (.pr .str .int)) s.2.1, .dat (.sl 61 (.pr .int .bool)) s.2.2.1,dS s.2.2.2]),(true,[.dat (.sl 9 .str) r.1, .dat (.sl 226 (.pr .int (.pr .int .int))) r.2])] [] 0 (UC 106 (.sl 3 .int) (ofG ltP (ZI s.1 r.1))):=by
 refine QN Tryz.func53 rfl rfl Tryz.ntmps53 fun O_ hO w0_ N0_ X_ h0_ f0_=> ?_
 refine AC.fact (QG (x:= .tmp 0) (i:=0) (Qb rfl) rfl) fun hi1=> ?_
 refine w_ ?_
 refine lc (Qw 0 (Qb rfl) rfl rfl (Fresh.of rfl) (nlr rfl))<|lc (Qw 1 (Qb rfl) rfl rfl (Fresh.of rfl) (nlr rfl)) ?_
 iterate 9 refine w_ ?_
 refine AL.fact (Qq (x:= .tmp 14) (Qa rfl)) fun hl2=> ?_
 iterate 4 refine w_ ?_
 refine AC.wk (Wk.nilS 2 5 106 (.sl 3 .int) rfl (Fresh.of rfl) (nlr rfl)) ?_
 refine Qx (fun m_ s_=>∃(k:Nat),k≤r.1.length∧m_=r.1.length - k∧s_=⟨[(2,lP 0 0),(4,lf (.val (.slice none 0 0))),(5,lR 3),(14,lf (.dat (.sl 9 .str) r.1)),(15,lI (r.1.length:Int)),(16,lI (k:Int))],[(0,some (.box 39 [dI s.1.1, .dat (.sl 159 (.pr (.sl 3 .int) (.sl 3 .int))) s.1.2, .dat (.sl 145 (.pr .str .int)) s.2.1, .dat (.sl 61 (.pr .int .bool)) s.2.2.1,dS s.2.2.2])),(3,some (.arr 106 (.sl 3 .int) (ofG ltP (ZI s.1 (r.1.take k)))))]⟩) ⟨0,Nat.zero_le _,rfl,rfl⟩ ?_ ?_
 · exact Wk.of [(0,0),(3,2)] rfl ⟨rfl,rfl,rfl,rfl,rfl,rfl,trivial⟩ ⟨rfl,(Qy (by first | rfl | simp)),trivial⟩ rfl rfl
 rintro m_ s_ ⟨k,hk3,hm4,rfl⟩
 iterate 4 refine w_ ?_
 cases hb5:(decide ((k:Int) < (r.1.length:Int)))
 ·have hb5':=of_decide_eq_false hb5
  refine w_ ?_
  refine QB ?_
  refine (?_:AC _ _ _ _ _)
  iterate 4 refine w_ ?_
  refine Qf ?_
  subst hO
  refine ZU (e:=(.sl 3 .int)) (xs:=(ofG ltP (ZI s.1 (r.1.take k)))) (Qm rfl (Qd rfl)) rfl ?_
  (rw[List.take_of_length_le (by omega)])
 ·have hb5':=of_decide_eq_true hb5
  iterate 5 refine w_ ?_
  obtain ⟨mk,hx7⟩:∃z,r.1[k]? =some z:=⟨_,List.getElem?_eq_getElem (by omega)⟩
  have mkh:=hx7
  refine lc (Qh (Qa rfl) (Qa rfl) Zi Ze rfl (by omega) hx7) ?_
  iterate 7 refine w_ ?_
  refine lc (Qn (VF s.1 mk (hB _ (List.mem_of_getElem? hx7)) (by omega)).frozen QbM ⟨_,_,rfl,(Qb rfl),⟨_,_,rfl,(Qb rfl),rfl⟩⟩ rfl rfl) ?_
  iterate 4 refine w_ ?_
  refine AL.fact (Qq (x:= .tmp 24) (Qa rfl)) fun hl8=> ?_
  iterate 4 refine w_ ?_
  refine Qx (fun m_ s_=>∃(i:Nat),i≤(Q4 s.1 mk).length∧m_=(Q4 s.1 mk).length - i∧s_=⟨[(2,lP 0 0),(4,lf (.val (.slice none 0 0))),(5,lR 4),(7,lf (dS mk)),(8,lf (.dat (.sl 3 .int) (Q4 s.1 mk))),(14,lf (.dat (.sl 9 .str) r.1)),(15,lI (r.1.length:Int)),(16,lI (k:Int)),(17,lB true),(18,lf (.elt .str mk 0)),(19,lf (dS mk)),(20,lP 0 0),(21,ag [dI s.1.1, .dat (.sl 159 (.pr (.sl 3 .int) (.sl 3 .int))) s.1.2]),(22,lf (dS mk)),(23,lf (.dat (.sl 3 .int) (Q4 s.1 mk))),(24,lf (.dat (.sl 3 .int) (Q4 s.1 mk))),(25,lI ((Q4 s.1 mk).length:Int)),(26,lI (i:Int))],[(0,some (.box 39 [dI s.1.1, .dat (.sl 159 (.pr (.sl 3 .int) (.sl 3 .int))) s.1.2, .dat (.sl 145 (.pr .str .int)) s.2.1, .dat (.sl 61 (.pr .int .bool)) s.2.2.1,dS s.2.2.2])),(4,some (.arr 106 (.sl 3 .int) (ofG ltP (ZI s.1 (r.1.take k)++U3 s.1 (Q4 s.1 mk) ((Q4 s.1 mk).take i)))))]⟩) ⟨0,Nat.zero_le _,rfl,rfl⟩ ?_ ?_
  · exact Wk.of [(0,0),(4,3)] rfl ⟨rfl,rfl,rfl,rfl,rfl,rfl,rfl,rfl,rfl,rfl,rfl,rfl,rfl,rfl,rfl,rfl,rfl,rfl,trivial⟩ ⟨rfl,(Qy (by simp[U3])),trivial⟩ rfl rfl
  rintro m_ s_ ⟨i,hk9,hm10,rfl⟩
  iterate 4 refine w_ ?_
  cases hb11:(decide ((i:Int) < ((Q4 s.1 mk).length:Int)))
  ·have hb11':=of_decide_eq_false hb11
   refine w_ ?_
   refine QB ?_
   refine (?_:AC _ _ _ _ _)
   iterate 3 refine w_ ?_
   refine Qk<|QU ⟨k+1,by omega,rfl,rfl⟩ (by omega) ?_
   exact Wk.of [(0,0),(3,4)] rfl ⟨rfl,rfl,rfl,rfl,rfl,rfl,trivial⟩ ⟨rfl,(Qy (Qml mkh (by omega))),trivial⟩ rfl rfl
  ·have hb11':=of_decide_eq_true hb11
   iterate 5 refine w_ ?_
   obtain ⟨t,hx13⟩:∃z,(Q4 s.1 mk)[i]? =some z:=⟨_,List.getElem?_eq_getElem (by omega)⟩
   have tq:=Yb hx13
   have th:=hx13
   have hon:=Vg s.1 mk
   refine lc (Qh (Qa rfl) (Qa rfl) QE QO rfl (by omega) hx13) ?_
   refine w_ ?_
   refine AL.fact (QA (x:= .tmp 29) (Qa rfl)) fun hi14=> ?_
   iterate 4 refine w_ ?_
   refine AL.fact (Qq (x:= .tmp 30) (Qa rfl)) fun hl15=> ?_
   iterate 4 refine w_ ?_
   refine Qx (fun m_ s_=>∃(j:Nat),j≤(Q4 s.1 mk).length∧m_=(Q4 s.1 mk).length - j∧s_=⟨[(2,lP 0 0),(4,lf (.val (.slice none 0 0))),(5,lR 5),(7,lf (dS mk)),(8,lf (.dat (.sl 3 .int) (Q4 s.1 mk))),(10,lI t),(14,lf (.dat (.sl 9 .str) r.1)),(15,lI (r.1.length:Int)),(16,lI (k:Int)),(17,lB true),(18,lf (.elt .str mk 0)),(19,lf (dS mk)),(20,lP 0 0),(21,ag [dI s.1.1, .dat (.sl 159 (.pr (.sl 3 .int) (.sl 3 .int))) s.1.2]),(22,lf (dS mk)),(23,lf (.dat (.sl 3 .int) (Q4 s.1 mk))),(24,lf (.dat (.sl 3 .int) (Q4 s.1 mk))),(25,lI ((Q4 s.1 mk).length:Int)),(26,lI (i:Int)),(27,lB true),(28,lf (.elt .int t 0)),(29,lI t),(30,lf (.dat (.sl 3 .int) (Q4 s.1 mk))),(31,lI ((Q4 s.1 mk).length:Int)),(32,lI (j:Int))],[(0,some (.box 39 [dI s.1.1, .dat (.sl 159 (.pr (.sl 3 .int) (.sl 3 .int))) s.1.2, .dat (.sl 145 (.pr .str .int)) s.2.1, .dat (.sl 61 (.pr .int .bool)) s.2.2.1,dS s.2.2.2])),(5,some (.arr 106 (.sl 3 .int) (ofG ltP (ZI s.1 (r.1.take k)++U3 s.1 (Q4 s.1 mk) ((Q4 s.1 mk).take i)++Vl s.1 t ((Q4 s.1 mk).take j)))))]⟩) ⟨0,Nat.zero_le _,rfl,rfl⟩ ?_ ?_
   · exact Wk.of [(0,0),(5,4)] rfl ⟨rfl,rfl,rfl,rfl,rfl,rfl,rfl,rfl,rfl,rfl,rfl,rfl,rfl,rfl,rfl,rfl,rfl,rfl,rfl,rfl,rfl,rfl,rfl,rfl,rfl,trivial⟩ ⟨rfl,(Qy (by simp[Vl])),trivial⟩ rfl rfl
   rintro m_ s_ ⟨j,hk16,hm17,rfl⟩
   iterate 4 refine w_ ?_
   cases hb18:(decide ((j:Int) < ((Q4 s.1 mk).length:Int)))
   ·have hb18':=of_decide_eq_false hb18
    refine w_ ?_
    refine QB ?_
    refine (?_:AC _ _ _ _ _)
    iterate 3 refine w_ ?_
    refine Qk<|QU ⟨i+1,by omega,rfl,rfl⟩ (by omega) ?_
    exact Wk.of [(0,0),(4,5)] rfl ⟨rfl,rfl,rfl,rfl,rfl,rfl,rfl,rfl,rfl,rfl,rfl,rfl,rfl,rfl,rfl,rfl,rfl,rfl,trivial⟩ ⟨rfl,(Qy (Qmm th (by omega))),trivial⟩ rfl rfl
   ·have hb18':=of_decide_eq_true hb18
    iterate 5 refine w_ ?_
    obtain ⟨u,hx20⟩:∃z,(Q4 s.1 mk)[j]? =some z:=⟨_,List.getElem?_eq_getElem (by omega)⟩
    have uq:=Yb hx20
    have uh:=hx20
    have hon:=Vg s.1 mk
    refine lc (Qh (Qa rfl) (Qa rfl) QE QO rfl (by omega) hx20) ?_
    refine w_ ?_
    refine AL.fact (QA (x:= .tmp 35) (Qa rfl)) fun hi21=> ?_
    iterate 2 refine w_ ?_
    cases hb22:(decide (t < u))
    ·have hb22':=of_decide_eq_false hb22
     refine dw [io 36 (lI t),io 37 (lI u),io 38 (lB false),io 39 (lB false),io 40 (lf (.val undef)),io 41 (lf (.val undef)),io 42 (lf (.val undef)),io 43 (lf (.val undef)),io 44 (lf (.val undef)),io 45 (lf (.val undef)),io 46 (lf (.val undef)),io 47 (lf (.val undef)),io 48 (lf (.val undef)),io 49 (lf (.val undef)),io 50 (lf (.val undef)),io 51 (lf (.val undef)),io 52 (lf (.val undef)),io 53 (lf (.val undef)),io 54 (lf (.val undef)),io 55 (lf (.val undef)),io 56 (lB false)] [0,0,3,7,15,31,63,15,255,511,1023,15,2063,6159,15,30735,63503,129039,262143,524287,1048575] mixed rfl (by kernel_rfl) ⟨dxm rfl rfl,dxm rfl rfl,fun _ h_=>ac (Hj (hb22) (HV (h_.v rfl) (h_.v rfl) rfl)) rfl,dxm rfl rfl,dxo rfl rfl rfl,dxo rfl rfl rfl,dxo rfl rfl rfl,dxo rfl rfl rfl,dxo rfl rfl rfl,dxo rfl rfl rfl,dxo rfl rfl rfl,dxo rfl rfl rfl,dxo rfl rfl rfl,dxo rfl rfl rfl,dxo rfl rfl rfl,dxo rfl rfl rfl,dxo rfl rfl rfl,dxo rfl rfl rfl,dxo rfl rfl rfl,dxo rfl rfl rfl,fun _ h_=>ac (Jw (h_.v rfl) (Evl.ev Yy) rfl) rfl,⟨⟩⟩ ?_
     refine w_ ?_
     refine AC.skip ?_
     refine (?_:AC _ _ _ _ _)
     iterate 3 refine w_ ?_
     refine Qk<|QU ⟨j+1,by omega,rfl,rfl⟩ (by omega) ?_
     exact Wk.of [(0,0),(5,5)] rfl ⟨rfl,rfl,rfl,rfl,rfl,rfl,rfl,rfl,rfl,rfl,rfl,rfl,rfl,rfl,rfl,rfl,rfl,rfl,rfl,rfl,rfl,rfl,rfl,rfl,rfl,trivial⟩ ⟨rfl,(Qy (by first | exact (by rw[QeM (of_decide_eq_true (by assumption)),Qc0,List.append_assoc,QcZ uh xth xuh (of_decide_eq_true (by assumption)) (by assumption)]) | exact (by rw[Qe6 uh (of_decide_eq_false (by assumption))]) | exact (by rw[Qff uh xth xuh (by assumption)]))),trivial⟩ rfl rfl
    ·have hb22':=of_decide_eq_true hb22
     obtain ⟨xt,hx24⟩:∃z,s.1.2[(t).toNat]? =some z:=⟨_,List.getElem?_eq_getElem (by omega)⟩
     have xth:=hx24
     obtain ⟨xu,hx26⟩:∃z,s.1.2[(u).toNat]? =some z:=⟨_,List.getElem?_eq_getElem (by omega)⟩
     have xuh:=hx26
     refine dw [io 36 (lI t),io 37 (lI u),io 38 (lB true),io 39 (lB true),io 40 (lP 0 0),io 41 (lP 0 1),io 42 (lf (.dat (.sl 159 (.pr (.sl 3 .int) (.sl 3 .int))) s.1.2)),io 43 (lI t),io 44 (lf (.elt (.pr (.sl 3 .int) (.sl 3 .int)) xt 0)),io 45 (lf (.elt (.pr (.sl 3 .int) (.sl 3 .int)) xt 0)),io 46 (lf (.dat (.sl 3 .int) xt.1)),io 47 (lP 0 0),io 48 (lP 0 1),io 49 (lf (.dat (.sl 159 (.pr (.sl 3 .int) (.sl 3 .int))) s.1.2)),io 50 (lI u),io 51 (lf (.elt (.pr (.sl 3 .int) (.sl 3 .int)) xu 0)),io 52 (lf (.elt (.pr (.sl 3 .int) (.sl 3 .int)) xu 0)),io 53 (lf (.dat (.sl 3 .int) xu.1)),io 54 (lB (xt.1.any fun z=>decide (z∈xu.1))),io 55 (lB (!(xt.1.any fun z=>decide (z∈xu.1)))),io 56 (lB (!(xt.1.any fun z=>decide (z∈xu.1))))] [0,0,3,7,15,31,63,15,255,511,1023,15,2063,6159,15,30735,63503,129039,262143,524287,1048575] mixed rfl (by kernel_rfl) ⟨dxm rfl rfl,dxm rfl rfl,fun _ h_=>ac (Hj (hb22) (HV (h_.v rfl) (h_.v rfl) rfl)) rfl,dxm rfl rfl,fun _ h_=>day rfl (h_.k rfl) (Xy (h_.v rfl) ZP (by rw[(h_.en 0 rfl)]; rfl) rfl) rfl,fun _ h_=>day rfl (h_.k rfl) (Xy (h_.v rfl) ZW (by rw[(h_.en 0 rfl)]; rfl) rfl) rfl,fun _ h_=>day rfl (h_.k rfl) (Ux (h_.v rfl) (h_.n 0 rfl) Y7 rfl rfl) rfl,fun _ h_=>day rfl (h_.k rfl) (X0 (h_.k rfl) rfl) rfl,fun _ h_=>day rfl (h_.k rfl) (Qh (h_.v rfl) (h_.v rfl) ZO Zh rfl (by omega) hx24) rfl,fun _ h_=>day rfl (h_.k rfl) (XC (h_.v rfl) Yo rfl) rfl,fun _ h_=>day rfl (h_.k rfl) (Q0 (h_.v rfl) QI rfl rfl) rfl,fun _ h_=>day rfl (h_.k rfl) (Xy (h_.v rfl) ZP (by rw[(h_.en 0 rfl)]; rfl) rfl) rfl,fun _ h_=>day rfl (h_.k rfl) (Xy (h_.v rfl) ZW (by rw[(h_.en 0 rfl)]; rfl) rfl) rfl,fun _ h_=>day rfl (h_.k rfl) (Ux (h_.v rfl) (h_.n 0 rfl) Y7 rfl rfl) rfl,fun _ h_=>day rfl (h_.k rfl) (X0 (h_.k rfl) rfl) rfl,fun _ h_=>day rfl (h_.k rfl) (Qh (h_.v rfl) (h_.v rfl) ZO Zh rfl (by omega) hx26) rfl,fun _ h_=>day rfl (h_.k rfl) (XC (h_.v rfl) Yo rfl) rfl,fun _ h_=>day rfl (h_.k rfl) (Q0 (h_.v rfl) QI rfl rfl) rfl,fun _ h_=>day rfl (h_.k rfl) (Qn (Qcx xt.1 xu.1) Qhh ⟨_,_,rfl,(h_.w rfl),⟨_,_,rfl,(h_.w rfl),rfl⟩⟩ rfl rfl) rfl,fun _ h_=>day rfl (h_.k rfl) (Wn (h_.v rfl) rfl) rfl,fun _ h_=>ac (JK (h_.v rfl) (h_.w rfl) rfl) rfl,⟨⟩⟩ ?_
     cases hb27:(xt.1.any fun z=>decide (z∈xu.1))
     ·iterate 5 refine w_ ?_
      refine lc (Za 6 [(0,5)] (QdD (ofG ltP (ZI s.1 (r.1.take k)++U3 s.1 (Q4 s.1 mk) ((Q4 s.1 mk).take i)++Vl s.1 t ((Q4 s.1 mk).take j))) t u (by have:=Qkh (n:=s.1) (ms:=r.1) (k:=k) (on:=Q4 s.1 mk) (i:=i) (l:=(Q4 s.1 mk).take j) (t:=t) hn (by omega) hr (by omega) (by omega) (by simp only[List.length_take]; omega); have:=QjK (lt:=ltP) (ZI s.1 (r.1.take k)++U3 s.1 (Q4 s.1 mk) ((Q4 s.1 mk).take i)++Vl s.1 t ((Q4 s.1 mk).take j)); omega)) Qhy ⟨_,_,rfl,(Qb rfl),⟨_,_,rfl,(Qb rfl),⟨_,_,rfl,(Qb rfl),rfl⟩⟩⟩ ⟨rfl,trivial⟩ rfl ⟨(Fresh.of rfl),trivial⟩ (nlr rfl)) ?_
      refine w_ ?_
      refine Qk ?_
      refine (?_:AC _ _ _ _ _)
      iterate 3 refine w_ ?_
      refine Qk<|QU ⟨j+1,by omega,rfl,rfl⟩ (by omega) ?_
      exact Wk.of [(0,0),(5,6)] rfl ⟨rfl,rfl,rfl,rfl,rfl,rfl,rfl,rfl,rfl,rfl,rfl,rfl,rfl,rfl,rfl,rfl,rfl,rfl,rfl,rfl,rfl,rfl,rfl,rfl,rfl,trivial⟩ ⟨rfl,(Qy (by first | exact (by rw[QeM (of_decide_eq_true (by assumption)),Qc0,List.append_assoc,QcZ uh xth xuh (of_decide_eq_true (by assumption)) (by assumption)]) | exact (by rw[Qe6 uh (of_decide_eq_false (by assumption))]) | exact (by rw[Qff uh xth xuh (by assumption)]))),trivial⟩ rfl rfl
     ·refine w_ ?_
      refine AC.skip ?_
      refine (?_:AC _ _ _ _ _)
      iterate 3 refine w_ ?_
      refine Qk<|QU ⟨j+1,by omega,rfl,rfl⟩ (by omega) ?_
      exact Wk.of [(0,0),(5,5)] rfl ⟨rfl,rfl,rfl,rfl,rfl,rfl,rfl,rfl,rfl,rfl,rfl,rfl,rfl,rfl,rfl,rfl,rfl,rfl,rfl,rfl,rfl,rfl,rfl,rfl,rfl,trivial⟩ ⟨rfl,(Qy (by first | exact (by rw[QeM (of_decide_eq_true (by assumption)),Qc0,List.append_assoc,QcZ uh xth xuh (of_decide_eq_true (by assumption)) (by assumption)]) | exact (by rw[Qe6 uh (of_decide_eq_false (by assumption))]) | exact (by rw[Qff uh xth xuh (by assumption)]))),trivial⟩ rfl rfl
theorem Qa4 (p:Int)(b:List Int):FC Tryz.prog 193 [(false,[dI p]),(false,[.ptr 0 0])] [(0,some (.box 106 [.dat (.sl 3 .int) b]))] 1 (Is (lB (b.any (fun y=>decide (p=y)))) [(0,some (.box 106 [.dat (.sl 3 .int) b]))]):=by
 refine QN Tryz.func193 rfl rfl Tryz.ntmps193 fun O_ hO w0_ N0_ X_ h0_ f0_=> ?_
 refine AC.fact (QA (x:= .tmp 0) (Qa rfl)) fun hi1=> ?_
 iterate 6 refine w_ ?_
 refine lc (Qn (Ve b p) QiL ⟨_,_,rfl,(Qb rfl),⟨_,_,rfl,(Qb rfl),rfl⟩⟩ rfl rfl) ?_
 iterate 2 refine w_ ?_
 refine Qf ?_
 subst hO
 exact QF _ _ [(0,0)] (Qm rfl (Qd rfl)) (rfl) ⟨rfl,trivial⟩ rfl rfl
theorem UH (s:List Int)(b:List Int):FC Tryz.prog 218 [(false,[.dat (.sl 3 .int) s]),(false,[.clo 193 [0]])] [(0,some (.box 106 [.dat (.sl 3 .int) b]))] 1 (Is (lI (ZH (fun p=>b.any (fun y=>decide (p=y))) s)) [(0,some (.box 106 [.dat (.sl 3 .int) b]))]):=by
 refine QN Tryz.func218 rfl rfl Tryz.ntmps218 fun O_ hO w0_ N0_ X_ h0_ f0_=> ?_
 iterate 6 refine w_ ?_
 refine AL.fact (Qq (x:= .tmp 6) (Qa rfl)) fun hl1=> ?_
 iterate 4 refine w_ ?_
 refine Qx (fun m_ s_=>∃(k:Nat),k≤s.length∧m_=s.length - k∧(NoneTo (fun p=>b.any (fun y=>decide (p=y))) s k)∧s_=⟨[(0,lf (.dat (.sl 3 .int) s)),(1,lf (.clo 193 [0])),(7,lI (s.length:Int)),(8,lI (k:Int))],[(0,some (.box 106 [.dat (.sl 3 .int) b]))]⟩) ⟨0,Nat.zero_le _,rfl,NoneTo.zero,rfl⟩ ?_ ?_
 · exact Wk.of [(0,0)] rfl ⟨rfl,rfl,rfl,rfl,trivial⟩ ⟨rfl,trivial⟩ rfl rfl
 rintro m_ s_ ⟨k,hk2,hm3,hno,rfl⟩
 iterate 4 refine w_ ?_
 cases hb4:(decide ((k:Int) < (s.length:Int)))
 ·have hb4':=of_decide_eq_false hb4
  refine w_ ?_
  refine QB ?_
  refine (?_:AC _ _ _ _ _)
  iterate 3 refine w_ ?_
  refine Qf ?_
  subst hO
  have e5:((-1):Int)=(ZH (fun p=>b.any (fun y=>decide (p=y))) s):=by
   first | exact (hno.no (by omega)).symm
  exact QF _ _ [(0,0)] (Qm rfl (Qd rfl)) ((congrArg (fun z_=>lI z_) e5)) ⟨rfl,trivial⟩ rfl rfl
 ·have hb4':=of_decide_eq_true hb4
  iterate 12 refine w_ ?_
  obtain ⟨x6,hx7⟩:∃z,s[k]? =some z:=⟨_,List.getElem?_eq_getElem (by omega)⟩
  refine lc (Qh (Qa rfl) (Qa rfl) QE QO rfl (by omega) hx7) ?_
  refine w_ ?_
  refine AL.fact (QA (x:= .tmp 15) (Qa rfl)) fun hi8=>lc (Xi (args0:=[(false,[dI x6])]) (caps:=[0]) 1 [(0,0)] (Qa4 x6 b) Qhm rfl (Qa rfl) rfl rfl ⟨_,_,rfl,(Qb rfl),rfl⟩ ⟨rfl,trivial⟩ rfl ⟨trivial,trivial⟩ (nlr rfl)) ?_
  refine w_ ?_
  cases hb9:(b.any (fun y=>decide (x6=y)))
  ·refine w_ ?_
   refine AC.skip ?_
   refine (?_:AC _ _ _ _ _)
   iterate 3 refine w_ ?_
   refine Qk<|QU ⟨k+1,by omega,rfl,hno.step hx7 (by assumption),rfl⟩ (by omega) ?_
   exact Wk.of [(0,0)] rfl ⟨rfl,rfl,rfl,rfl,trivial⟩ ⟨rfl,trivial⟩ rfl rfl
  ·iterate 5 refine w_ ?_
   refine Qf ?_
   subst hO
   have e10:((k:Int):Int)=(ZH (fun p=>b.any (fun y=>decide (p=y))) s):=by
    exact (hno.at hx7 (by assumption)).symm
   exact QF _ _ [(0,0)] (Qm rfl (Qd rfl)) ((congrArg (fun z_=>lI z_) e10)) ⟨rfl,trivial⟩ rfl rfl
theorem Vk (s:List Int)(b:List Int):FC Tryz.prog 145 [(false,[.dat (.sl 3 .int) s]),(false,[.clo 193 [0]])] [(0,some (.box 106 [.dat (.sl 3 .int) b]))] 1 (Is (lB (s.any (fun p=>b.any (fun y=>decide (p=y))))) [(0,some (.box 106 [.dat (.sl 3 .int) b]))]):=by
 refine QN Tryz.func145 rfl rfl Tryz.ntmps145 fun O_ hO w0_ N0_ X_ h0_ f0_=> ?_
 iterate 6 refine w_ ?_
 refine lc (Za 1 [(0,0)] (UH s b) JJ ⟨_,_,rfl,(Qb rfl),⟨_,_,rfl,(Qb rfl),rfl⟩⟩ ⟨rfl,trivial⟩ rfl ⟨trivial,trivial⟩ (nlr rfl)) ?_
 iterate 3 refine w_ ?_
 refine Qf ?_
 subst hO
 have e1:(decide (0≤(ZH (fun p=>b.any (fun y=>decide (p=y))) s)):Bool)=(s.any (fun p=>b.any (fun y=>decide (p=y)))):=by
  exact W6 _ _
 exact QF _ _ [(0,0)] (Qm rfl (Qd rfl)) ((congrArg (fun z_=>lB z_) e1)) ⟨rfl,trivial⟩ rfl rfl
theorem QdF (a:List Int)(b:List Int):FC Tryz.prog 115 [(false,[.dat (.sl 3 .int) a]),(false,[.dat (.sl 3 .int) b])] [] 0 (Zq (lB (a.any (fun p=>b.any (fun y=>decide (p=y)))))):=by
 refine QN Tryz.func115 rfl rfl Tryz.ntmps115 fun O_ hO w0_ N0_ X_ h0_ f0_=> ?_
 refine w_ ?_
 refine lc (Qw 0 (Qb rfl) rfl rfl (Fresh.of rfl) (nlr rfl)) ?_
 iterate 4 refine w_ ?_
 refine lc (YB ⟨_,_,rfl,(Qa rfl),rfl,rfl⟩ rfl)<|lc (Za 1 [(0,0)] (Vk a b) JT ⟨_,_,rfl,(Qb rfl),⟨_,_,rfl,(Qb rfl),rfl⟩⟩ ⟨rfl,trivial⟩ rfl ⟨trivial,trivial⟩ (nlr rfl)) ?_
 iterate 2 refine w_ ?_
 refine Qf ?_
 subst hO
 exact Ql (Qm rfl (Qd rfl)) rfl rfl
end Go.Proofs.YtnakmhfjafecpaaGreat
