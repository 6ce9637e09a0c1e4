/- Walks over abstract states: what is enabled together, the reference. -/
import Derived.Test.YtjaadeknhofhpaaGreatCa
import Derived.Test.YtjaadeknhofhpaaGreatWq
import Derived.Test.YtjaadeknhofhpaaGreatUd
import Derived.Test.YtjaadeknhofhpaaGreatVc
set_option linter.unusedSimpArgs false
set_option linter.unusedVariables false
set_option linter.unusedSectionVars false
namespace Go.Proofs.YtjaadeknhofhpaaGreat
open Go.RowKit
set_option maxRecDepth 100000
set_option maxHeartbeats 4000000
theorem Qa9 {α:Type _}[DecidableEq α]{lt:α→α→Bool}(x:α):∀l:List α,(Y1 lt x l).length≤l.length+1
  | []=>aL _
  | y :: l=>by
    unfold Y1
    have:=Qa9 (lt:=lt) x l
    split
    · simp only[ah]; omega
    · split <;> simp
theorem QlM {α:Type _}[DecidableEq α]{lt:α→α→Bool}(l:List α):(ofG lt l).length≤l.length:=by
  have:∀(l s:List α),(l.foldl (fun s x=>Y1 lt x s) s).length≤s.length+l.length:=fun l=>by
    induction l with
    | nil=>intro s; simp
    | cons x l ih=>intro s; have h1:=ih (Y1 lt x s); have h2:=Qa9 (lt:=lt) x s; rw[bC,ah]; omega
  simpa [ofG] using this l []
def shV (n:Xj)(t u:Int):Bool:=((n.2[t.toNat]?).getD ([],[])).1.any fun z=>decide (z∈((n.2[u.toNat]?).getD ([],[])).1)
def UE (n:Xj)(t:Int)(l:List Int):List (List Int):=(l.filter fun u=>decide (t < u)&& !shV n t u).map fun u=>[t,u]
def Kd (n:Xj)(t:Int)(l:List Int):List (List Int):=(l.filter fun u=> !shV n t u).map fun u=>[t,u]
def Js (n:Xj)(on l:List Int):List (List Int):=l.flatMap fun t=>UE n t on
def Qcb (n:Xj)(on:List Int)(k:Nat):List (List Int):=(List.range k).flatMap fun i=>Kd n ((on[i]?).getD 0) (on.drop (i+1))
def Yl (n:Xj)(ms:List ByteArray):List (List Int):=ms.flatMap fun mk=>Js n (Zl n mk) (Zl n mk)
section
variable {n:Xj}{k f i j:Nat}{mk:ByteArray}{t u:Int}{ts on l:List Int}{st:RS}{s:QX}{xt xu:QW}{ms:List ByteArray}{as_ bs:List (List Int)}
theorem Qom (hm:W8 mk n.1)(h:∀m∈st.1,W8 m n.1):∀m∈(goT n k mk ts st).1.1,W8 m n.1:=by
  induction ts generalizing st with
  | nil=>rw[goT]; exact h
  | cons t ts ih=>
    rw[goT]
    split
    · exact h
    · rename_i h0
      split
      · exact ih (st:=(st.1,_,st.2.2)) h
      · split
        · exact h
        · exact ih (st:=(st.1++[_],_,_)) (Qa4 h (Ug hm rfl (by revert h0; cases (Ym n mk t).2 <;> simp)))
theorem QoC (h:∀m∈st.1,W8 m n.1):∀m∈(goK n f k st).1.1,W8 m n.1:=by
  induction f generalizing k st with
  | zero=>rw[goK]; exact h
  | succ f ih=>
    rw[goK]
    cases hx:st.1[k]? with
    | none=>exact h
    | some mk=>
      have h1:=Qom (k:=k) (ts:=Zl n mk) (h mk (ai hx)) h
      show∀m∈(if (goT n k mk (Zl n mk) st).2.2.2=true then goK n f (k+1) (goT n k mk (Zl n mk) st).1 else goT n k mk (Zl n mk) st).1.1,W8 m n.1
      split
      · exact ih h1
      · exact h1
theorem Qcu [∀s,Decidable (StgOk s)]:∀m∈(Qe s).1.1,∀t∈s.1.2,U4 m t.1∧U4 m t.2:=fun m hm=>by
  unfold Qe at hm
  split at hm
  · rename_i h1
    refine Qjt h1.1.net ?_
    exact QoC (n:=s.1) (k:=0) (f:=301) (st:=([s.2.2.2],[],[((0:Int),(0:Int),(0:Int))])) (fun m hm=>by rw[aM.1 hm]; exact h1.1.bits) m hm
  · cases hm
theorem VY [∀s,Decidable (StgOk s)]:(Qe s).1.1.length≤300:=by
  cases h:(Qe s).2 with
  | true=>exact (ZX h).2.2.1
  | false=>
    unfold Qe at h ⊢
    split
    · rename_i h1; rw[if_pos h1] at h; cases h
    · exact aw _
theorem YL [∀s,Decidable (StgOk s)](h:(Qe s).2=true):s.1.2.length≤24:=(ZX h).1.net.2.1
theorem Qg2 [∀s,Decidable (StgOk s)](h:(Qe s).2=false):(Qe s).1.1=[]:=by
  unfold Qe at h ⊢
  split
  · rename_i h1; rw[if_pos h1] at h; cases h
  · rfl
theorem QgM (h1:n.2[t.toNat]? =some xt)(h2:n.2[u.toNat]? =some xu):shV n t u=xt.1.any fun z=>decide (z∈xu.1):=by unfold shV; rw[h1,h2]; rfl
theorem Qe9 (hx:on[k]? =some u)(h1:n.2[t.toNat]? =some xt)(h2:n.2[u.toNat]? =some xu)(ht:t < u)(h:(xt.1.any fun z=>decide (z∈xu.1))=false):UE n t (on.take k)++[[t,u]]=UE n t (on.take (k+1)):=by
  unfold UE
  rw[Q0 hx,bc,bA]
  rw[← QgM h1 h2] at h
  simp[ht,h]
theorem Qg1 (hx:on[k]? =some u)(ht:¬t < u):UE n t (on.take k)=UE n t (on.take (k+1)):=by
  unfold UE
  rw[Q0 hx,bc,bA]
  simp[ht]
theorem Qhq (hx:on[k]? =some u)(h1:n.2[t.toNat]? =some xt)(h2:n.2[u.toNat]? =some xu)(h:(xt.1.any fun z=>decide (z∈xu.1))=true):UE n t (on.take k)=UE n t (on.take (k+1)):=by
  unfold UE
  rw[Q0 hx,bc,bA]
  rw[← QgM h1 h2] at h
  simp[h]
theorem Qiw:(UE n t l).length≤l.length:=by unfold UE; rw[av]; exact bQ ..
theorem QhQ:(Kd n t l).length≤l.length:=by unfold Kd; rw[av]; exact bQ ..
theorem Ht {α:Type}{f:α→List (List Int)}{m:Nat}:∀{l:List α},(∀x∈l,(f x).length≤m)→(l.flatMap f).length≤m*l.length
  | [],_=>by simp
  | x :: l,h=>by
    rw[c7,aa,ah,Nat.mul_add]
    have h1:=h x (aA ..)
    have h2:=Ht (f:=f) (l:=l) fun y hy=>h y (aD _ hy)
    omega
theorem QhX (h:on.length≤24):(Js n on l).length≤24*l.length:=Ht fun _ _=>b5 Qiw h
theorem QdW (h:n.2.length≤24):(Yl n ms).length≤576*ms.length:=Ht fun mk _=>by
  have h1:=Uv n mk
  have h2:=QhX (n:=n) (on:=Zl n mk) (l:=Zl n mk) (by omega)
  omega
theorem QfS (hx:l[k]? =some t):Js n on (l.take k)++UE n t on=Js n on (l.take (k+1)):=by unfold Js; rw[Q0 hx,c8]; simp
theorem QfL (hx:ms[k]? =some mk):Yl n (ms.take k)++Js n (Zl n mk) (Zl n mk)=Yl n (ms.take (k+1)):=by unfold Yl; rw[Q0 hx,c8]; simp
theorem QnH (hx:ms[k]? =some mk)(hi:(Zl n mk).length≤i):ofG ltP (Yl n (ms.take k)++Js n (Zl n mk) ((Zl n mk).take i))=ofG ltP (Yl n (ms.take (k+1))):=by rw[aH hi,QfL hx]
theorem Qnu (hx:on[i]? =some t)(hj:on.length≤j):ofG ltP (as_++Js n on (on.take i)++UE n t (on.take j))=ofG ltP (as_++Js n on (on.take (i+1))):=by rw[aH hj,aI,QfS hx]
end
section
variable {vs vs2:List Hdr}{gf gf2 gj:Hdr→List Int}{l:List (List Int)}{m:Int}{x:List Int}
theorem QqK (hvf:vs.map gf=l)(h0:0≤m)(hP:∀j:Nat,(j:Int) < m→∀y,vs[j]? =some y→ltP (gf y) x=true){y:Hdr}(h:vs[m.toNat]? =some y)(he:gf y=x):vs.map gf=Y1 ltP x l:=by
  subst hvf
  refine (Qcq (k:=m.toNat) (fun j hj z hz=> ?_) (by rw[bj,h,cX,he]) (HK x)).symm
  rw[bj] at hz
  obtain ⟨z',h1,rfl⟩:=bE.1 hz
  exact hP j (by omega) z' h1
theorem Qlc (hvf:vs.map gf=l)(h2:vs2.map gf2=[x])(j1:∀v∈vs,gj v=gf v)(j2:∀v∈vs2,gj v=gf2 v)(h0:0≤m)(h1:m≤(vs.length:Int))(hP:∀j:Nat,(j:Int) < m→∀y,vs[j]? =some y→ltP (gf y) x=true)
    (h:∀y,vs[m.toNat]? =some y→ltP (gf y) x=false∧gf y≠x):(((vs.take m.toNat)++vs2)++vs.drop m.toNat).map gj=Y1 ltP x l:=by
  subst hvf
  rw[bA,bA,ck (l:=vs.take m.toNat) (fun v hv=>j1 v (List.mem_of_mem_take hv)),ck (l:=vs.drop m.toNat) (fun v hv=>j1 v (List.mem_of_mem_drop hv)),ck j2,h2,List.map_take,List.map_drop,aI]
  refine (QgY (k:=m.toNat) (fun j hj z hz=> ?_) (by rw[av]; omega) fun z hz=> ?_).symm
  · rw [bj] at hz
    obtain ⟨z',h1,rfl⟩:=bE.1 hz
    exact hP j (by omega) z' h1
  · rw [bj] at hz
    obtain ⟨z',h1,rfl⟩:=bE.1 hz
    exact h z' h1
theorem Qgz:∃l:List Hdr,l.Perm (((vs.take m.toNat)++vs2)++vs.drop m.toNat)∧l.Sublist (vs++vs2):=⟨vs++vs2,by
  have h:(vs.take m.toNat++vs.drop m.toNat++vs2).Perm (vs.take m.toNat++vs2++vs.drop m.toNat):=by
    rw[aI,aI]
    exact List.Perm.append_left _ List.perm_append_comm
  rwa [bI] at h,cJ _⟩
theorem Qqp (h0:0≤m)(h1:m≤(vs.length:Int)):(([]++(vs.take (0+m.toNat)).drop 0)++vs2)++([]++(vs.take (m.toNat+(vs.length - m.toNat))).drop m.toNat)=((vs.take m.toNat)++vs2)++vs.drop m.toNat:=by
  rw[show m.toNat+(vs.length - m.toNat)=vs.length by omega,br]
  simp
end
theorem Jl (a:Int)(b:Int):FC Tryz.prog 157 [(false,[dI a]),(false,[dI b])] [] 0 (Yj (lI (min a b))):=by
 refine QO Tryz.func157 rfl rfl Tryz.ntmps157 fun O_ hO w0_ N0_ X_ h0_ f0_=> ?_
 refine AC.fact (QC (x:= .tmp 0) (Qa rfl)) fun hi1=>AC.fact (QC (x:= .tmp 1) (Qa rfl)) fun hi2=> ?_
 iterate 9 refine w_ ?_
 cases hb3:(decide (a < b))
 have hb3':=a7 hb3
 iterate 7 refine w_ ?_
 subst hO
 have e4:(b:Int)=(min a b):=by
  omega
 exact Qi (Qg rfl (Qd rfl)) (by rw[← e4] <;> rfl) rfl
 have hb3':=a8 hb3
 iterate 6 refine w_ ?_
 subst hO
 have e5:(a:Int)=(min a b):=by
  omega
 exact Qi (Qg rfl (Qd rfl)) (by rw[← e5] <;> rfl) rfl
theorem Uc (a:Int)(b:Int):FC Tryz.prog 158 [(false,[dI a]),(false,[dI b])] [] 0 (Yj (lI (max a b))):=by
 refine QO Tryz.func158 rfl rfl Tryz.ntmps158 fun O_ hO w0_ N0_ X_ h0_ f0_=> ?_
 refine AC.fact (QC (x:= .tmp 0) (Qa rfl)) fun hi1=>AC.fact (QC (x:= .tmp 1) (Qa rfl)) fun hi2=> ?_
 iterate 9 refine w_ ?_
 cases hb3:(decide (b < a))
 have hb3':=a7 hb3
 iterate 7 refine w_ ?_
 subst hO
 have e4:(b:Int)=(max a b):=by
  omega
 exact Qi (Qg rfl (Qd rfl)) (by rw[← e4] <;> rfl) rfl
 have hb3':=a8 hb3
 iterate 6 refine w_ ?_
 subst hO
 have e5:(a:Int)=(max a b):=by
  omega
 exact Qi (Qg rfl (Qd rfl)) (by rw[← e5] <;> rfl) rfl
theorem QdK (a:List Int)(b:List Int):FC Tryz.prog 232 [(false,[.dat Qs a]),(false,[.dat Qs b])] [] 0 (Yj (lB (a.any fun z=>decide (z∈b)))):=by
 refine QO Tryz.func232 rfl rfl Tryz.ntmps232 fun O_ hO w0_ N0_ X_ h0_ f0_=> ?_
 iterate 6 refine w_ ?_
 refine AL.fact (Qo (x:= .tmp 7) (Qa rfl)) fun hl1=> ?_
 iterate 4 refine w_ ?_
 refine Qu (fun m_ s_=>∃(k:Nat),k≤a.length∧m_=a.length - k∧(∀j,j < k→∀y,a[j]? =some y→¬y∈b)∧s_=⟨[(1,lf (.dat Qs b)),(7,lf (.dat Qs a)),(8,lI (a.length:Int)),(9,lI (k:Int))],[]⟩) ⟨0,aw _,rfl,(fun j hj=>absurd hj (bK j)),rfl⟩ ?_ ?_
 exact wo []
 rintro m_ s_ ⟨k,hk2,hm3,hno,rfl⟩
 iterate 4 refine w_ ?_
 cases hb4:(decide ((k:Int) < (a.length:Int)))
 have hb4':=a7 hb4
 iterate 7 refine w_ ?_
 subst hO
 have e5:(false:Bool)=(a.any fun z=>decide (z∈b)):=by
  first | exact (cr.2 fun z hz=>by obtain ⟨j,hj⟩:=aS.1 hz; rw[aN]; exact hno j (by have:=(au.1 hj).1; omega) z hj).symm
 exact Qi (Qg rfl (Qd rfl)) (by rw[← e5] <;> rfl) rfl
 have hb4':=a8 hb4
 iterate 5 refine w_ ?_
 obtain ⟨x6,hx7⟩:=gx a k
 refine lc (Qh (Qa rfl) (Qa rfl) QN QL rfl (by omega) hx7) ?_
 refine w_ ?_
 refine AL.fact (QC (x:= .tmp 12) (Qa rfl)) fun hi8=> ?_
 iterate 5 refine w_ ?_
 refine lc (Ql (Qfp b x6) Qi2 ⟨_,_,rfl,(Qb rfl),⟨_,_,rfl,(Qb rfl),rfl⟩⟩ rfl rfl) ?_
 refine w_ ?_
 cases hb9:(decide (x6∈b))
 have hb9':=a7 hb9
 iterate 6 refine w_ ?_
 refine Qm<|QV ⟨k+1,by omega,rfl,(Hj hno hx7 (a7 ‹_›)),rfl⟩ (by omega) ?_
 exact wo []
 have hb9':=a8 hb9
 iterate 5 refine w_ ?_
 subst hO
 have e10:(true:Bool)=(a.any fun z=>decide (z∈b)):=by
  exact (bm.2 ⟨_,ai hx7,by assumption⟩).symm
 exact Qi (Qg rfl (Qd rfl)) (by rw[← e10] <;> rfl) rfl
theorem QrE {a b:List Int}{k:Nat}{x y:Int}(hE:∀j,j < k→a[j]? =b[j]?)(ha:a[k]? =some x)(hb:b[k]? =some y)(h:x≠y):decide (x < y)=ltP a b:=by
  induction k generalizing a b with
  | zero=>
    cases a with
    | nil=>cases ha
    | cons p a=>
      cases b with
      | nil=>cases hb
      | cons q b=>
        cases ha; cases hb
        unfold ltP
        by_cases h1:x < y
        · simp[h1]
        · rw[if_neg h1,if_pos (by omega),aP h1]
  | succ k ih=>
    cases a with
    | nil=>cases ha
    | cons p a=>
      cases b with
      | nil=>cases hb
      | cons q b=>
        have h0:=hE 0 (Nat.succ_pos _)
        cases h0
        unfold ltP
        rw[if_neg (by omega),if_neg (by omega)]
        exact ih (fun j hj=>hE (j+1) (by omega)) ha hb
theorem QlY {a b:List Int}{k:Nat}(hE:∀j,j < k→a[j]? =b[j]?)(h:a.length≤k∨b.length≤k)(hk:k≤a.length∧k≤b.length):decide ((a.length:Int) < (b.length:Int))=ltP a b:=by
  induction k generalizing a b with
  | zero=>
    rcases h with h | h
    · cases a with
      | nil=>cases b <;> simp[ltP]
      | cons p a=>simp at h
    · cases b with
      | nil=>cases a <;> simp[ltP]; omega
      | cons p a=>simp at h
  | succ k ih=>
    cases a with
    | nil=>simp at hk
    | cons p a=>
      cases b with
      | nil=>simp at hk
      | cons q b=>
        have h0:=hE 0 (Nat.succ_pos _)
        cases h0
        unfold ltP
        rw[if_neg (by omega),if_neg (by omega),← ih (a:=a) (b:=b) (fun j hj=>hE (j+1) (by omega)) (by simp at h; omega) (by simp at hk; omega)]
        simp
theorem QcH (a:List Int)(b:List Int):FC Tryz.prog 310 [(false,[.dat Qs a]),(false,[.dat Qs b])] [] 0 (Yj (lB (ltP a b))):=by
 refine QO Tryz.func310 rfl rfl Tryz.ntmps310 fun O_ hO w0_ N0_ X_ h0_ f0_=> ?_
 iterate 8 refine w_ ?_
 refine Qu (fun m_ s_=>∃(m:Int),m_=((a.length:Int) - m).toNat∧(0≤m∧m≤(a.length:Int)∧m≤(b.length:Int))∧(∀j,j < m.toNat→a[j]? =b[j]?)∧s_=⟨[(0,lf (.dat Qs a)),(1,lf (.dat Qs b)),(5,lI m)],[]⟩) ⟨0,rfl,(by omega),(fun j hj=>by omega),rfl⟩ ?_ ?_
 exact wo []
 rintro m_ s_ ⟨m,hm2,hm,hE,rfl⟩
 iterate 4 refine w_ ?_
 refine AL.fact (Qo (x:= .tmp 7) (Qa rfl)) fun hl3=> ?_
 iterate 3 refine w_ ?_
 cases hb4:(decide (m < (a.length:Int)))
 have hb4':=a7 hb4
 iterate 11 refine w_ ?_
 refine AL.fact (Qo (x:= .tmp 36) (Qa rfl)) fun hl5=> ?_
 iterate 2 refine w_ ?_
 refine AL.fact (Qo (x:= .tmp 38) (Qa rfl)) fun hl6=> ?_
 iterate 5 refine w_ ?_
 subst hO
 have e7:(decide ((a.length:Int) < (b.length:Int)):Bool)=(ltP a b):=by
  exact QlY hE (by omega) (by omega)
 exact Qi (Qg rfl (Qd rfl)) (by rw[e7] <;> rfl) rfl
 have hb4':=a8 hb4
 iterate 2 refine w_ ?_
 refine AL.fact (Qo (x:= .tmp 12) (Qa rfl)) fun hl8=> ?_
 iterate 4 refine w_ ?_
 cases hb9:(decide (m < (b.length:Int)))
 have hb9':=a7 hb9
 iterate 5 refine w_ ?_
 refine AL.fact (Qo (x:= .tmp 36) (Qa rfl)) fun hl10=> ?_
 iterate 2 refine w_ ?_
 refine AL.fact (Qo (x:= .tmp 38) (Qa rfl)) fun hl11=> ?_
 iterate 5 refine w_ ?_
 subst hO
 have e12:(decide ((a.length:Int) < (b.length:Int)):Bool)=(ltP a b):=by
  exact QlY hE (by omega) (by omega)
 exact Qi (Qg rfl (Qd rfl)) (by rw[e12] <;> rfl) rfl
 have hb9':=a8 hb9
 iterate 4 refine w_ ?_
 obtain ⟨x,hx14⟩:=gx a ((m).toNat)
 have xh:=hx14
 obtain ⟨y,hx16⟩:=gx b ((m).toNat)
 have yh:=hx16
 refine dw [io 18 (lf (.dat Qs a)),io 19 (lI m),io 20 (lf (.elt .int x 0)),io 21 (lI x),io 22 (lf (.dat Qs b)),io 23 (lI m),io 24 (lf (.elt .int y 0)),io 25 (lI y),io 26 (lB (!decide (x=y)))] [0,0,3,7,0,0,48,112,255] mixed rfl (by kernel_rfl) ⟨dxm rfl rfl,dxm rfl rfl,fun _ h_=>ac (Qh (h_.v rfl) (h_.v rfl) QN QL rfl (by omega) hx14) rfl,fun _ h_=>ac (Q3 (h_.v rfl) QL rfl rfl) rfl,dxm rfl rfl,dxm rfl rfl,fun _ h_=>ac (Qh (h_.v rfl) (h_.v rfl) QN QL rfl (by omega) hx16) rfl,fun _ h_=>ac (Q3 (h_.v rfl) QL rfl rfl) rfl,fun _ h_=>ac (Qbq (h_.v rfl) (h_.v rfl) rfl) rfl,⟨⟩⟩ ?_
 cases hb17:(!decide (x=y))
 have hb17':(x=y):=Zm hb17
 iterate 7 refine w_ ?_
 refine Qm<|QV ⟨(m+1),rfl,(by omega),(fun j hj=>by by_cases e:j=m.toNat <;> first | (subst e; rw[xh,yh]; simp_all; done) | exact hE j (by omega)),rfl⟩ (by omega) ?_
 exact wo []
 have hb17':¬(x=y):=Zx hb17
 refine w_ ?_
 refine dw [io 27 (lf (.dat Qs a)),io 28 (lI m),io 29 (lf (.elt .int x 0)),io 30 (lI x),io 31 (lf (.dat Qs b)),io 32 (lI m),io 33 (lf (.elt .int y 0)),io 34 (lI y),io 35 (lB (decide (x < y))),io 4 (lB (decide (x < y)))] [0,0,3,7,0,0,48,112,255,511] mixed rfl (by kernel_rfl) ⟨dxm rfl rfl,dxm rfl rfl,fun _ h_=>ac (Qh (h_.v rfl) (h_.v rfl) QN QL rfl (by omega) hx14) rfl,fun _ h_=>ac (Q3 (h_.v rfl) QL rfl rfl) rfl,dxm rfl rfl,dxm rfl rfl,fun _ h_=>ac (Qh (h_.v rfl) (h_.v rfl) QN QL rfl (by omega) hx16) rfl,fun _ h_=>ac (Q3 (h_.v rfl) QL rfl rfl) rfl,fun _ h_=>ac (JK (h_.v rfl) (h_.v rfl) rfl) rfl,dxt rfl rfl,⟨⟩⟩<|Q4 ?_
 subst hO
 have e18:(decide (x < y):Bool)=(ltP a b):=by
  exact QrE hE xh yh (by simp_all)
 exact Qi (Qg rfl (Qd rfl)) (by rw[e18] <;> rfl) rfl
theorem Qfn (l:List (List Int))(a:Int)(b:Int)(hl:l.length≤1000000):FC Tryz.prog 233 [(false,[.ref 0]),(false,[dI a]),(false,[dI b])] [(0,some (.arr 95 Qs l))] 0 (Uz 95 Qs (Y1 ltP [min a b,max a b] l)):=by
 refine QO Tryz.func233 rfl rfl Tryz.ntmps233 fun O_ hO w0_ N0_ X_ h0_ f0_=> ?_
 refine AC.fact (QC (x:= .tmp 1) (Qa rfl)) fun hi1=>AC.fact (QC (x:= .tmp 2) (Qa rfl)) fun hi2=>YY<|AC.poolO (q:=0) (e:= .int) 1 rfl (Fresh.of rfl) (nlr rfl) fun vs gf hvf=> ?_
 have hvl:vs.length=l.length:=by rw[← hvf,av]
 iterate 6 refine w_ ?_
 refine lc (Ql (Jl a b) QdS ⟨_,_,rfl,(Qb rfl),⟨_,_,rfl,(Qb rfl),rfl⟩⟩ rfl rfl) ?_
 iterate 2 refine w_ ?_
 refine lc (Ql (Uc a b) Qal ⟨_,_,rfl,(Qb rfl),⟨_,_,rfl,(Qb rfl),rfl⟩⟩ rfl rfl)<|lc (Qf 2 (e:= .int) QN QL Yu rfl ⟨_,_,rfl,(Qb rfl),⟨_,_,rfl,(Qb rfl),rfl⟩⟩ (ae.1 rfl) ⟨_,_,_,_,rfl,⟨rfl,rfl⟩,⟨_,_,_,_,rfl,⟨rfl,rfl⟩,⟨rfl,rfl⟩,rfl⟩,rfl⟩ (by decide) rfl rfl (Fresh.of rfl) (nlr rfl)) ?_
 iterate 7 refine w_ ?_
 refine Qu (fun m_ s_=>∃(m:Int),m_=((vs.length:Int) - m).toNat∧(0≤m∧m≤(vs.length:Int))∧(∀j:Nat,(j:Int) < m→∀y,vs[j]? =some y→ltP (gf y) [min a b,max a b]=true)∧s_=⟨[(0,lR 0),(6,lf (.val (.slice none 0 0))),(7,lR 2),(8,lI m)],[(0,some (.arr 95 .vl vs)),(1,some (.pl true Qs vs gf)),(2,some (.arr 3 .int ([min a b,max a b])))]⟩) ⟨0,rfl,(by omega),(fun j hj=>by omega),rfl⟩ ?_ ?_
 exact wo [(0,0),(1,1),(2,2)]
 rintro m_ s_ ⟨m,hm4,hm,hP,rfl⟩
 iterate 7 refine w_ ?_
 cases hb5:(decide (m < (vs.length:Int)))
 have hb5':=a7 hb5
 iterate 18 refine w_ ?_
 have hb6:(decide (m < (vs.length:Int)))=false:=hb5
 try rw[hb6]
 iterate 11 refine w_ ?_
 refine lc (Qf 3 (e:= .vl) Zi QU XX rfl rfl (ae.1 rfl) ⟨rfl,rfl⟩ (by decide) rfl rfl (Fresh.of rfl) (nlr rfl)) ?_
 iterate 2 refine w_ ?_
 refine lc (Z8 (e:= .vl) (a:=(m).toNat) (b:=vs.length - (m).toNat) (l:=(some m)) (h:=none) (Qa rfl) rfl (by exact (Qa rfl)) (by exact trivial) Zi QU rfl (by first | (simp only[ao,ak]; omega) | omega | (simp only[ao,ak,aa,ab,az]; omega)) (by first | (simp only[ao,ak]; omega) | omega | (simp only[ao,ak,aa,ab,az]; omega)) (by first | (simp only[ao,ak]; omega) | omega | (simp only[ao,ak,aa,ab,az]; omega)) (by first | rfl | simp) (by first | rfl | simp))<|lc (Zp 4 (Qa rfl) rfl (XM (e:= .vl) (Qa rfl) rfl (by omega)) rfl Zi Va (by first | omega | (simp only[aa,av,ab,ah,aj]; omega) | (simp only[aa,ay,ab,ah,aj]; omega)) rfl (Fresh.of rfl) (nlr rfl)) ?_
 iterate 3 refine w_ ?_
 refine lc (Qf 5 (e:= .vl) Zi QU XX rfl rfl (ae.1 rfl) ⟨rfl,rfl⟩ (by decide) rfl rfl (Fresh.of rfl) (nlr rfl)) ?_
 iterate 2 refine w_ ?_
 refine lc (Z8 (e:= .vl) (a:=0) (b:=(m).toNat) (l:=none) (h:=(some m)) (Qa rfl) rfl (by exact trivial) (by exact (Qa rfl)) Zi QU rfl (by first | (simp only[ao,ak]; omega) | omega | (simp only[ao,ak,aa,ab,az]; omega)) (by first | (simp only[ao,ak]; omega) | omega | (simp only[ao,ak,aa,ab,az]; omega)) (by first | (simp only[ao,ak]; omega) | omega | (simp only[ao,ak,aa,ab,az]; omega)) (by first | rfl | simp) (by first | rfl | simp))<|lc (Zp 6 (Qa rfl) rfl (XM (e:= .vl) (Qa rfl) rfl (by omega)) rfl Zi Va (by first | omega | (simp only[aa,av,ab,ah,aj]; omega) | (simp only[aa,ay,ab,ah,aj]; omega)) rfl (Fresh.of rfl) (nlr rfl)) ?_
 refine w_ ?_
 refine lc (Qf 7 (e:=Qs) Zi QU XX rfl ⟨_,_,rfl,(Qb rfl),rfl⟩ (ae.1 rfl) ⟨_,_,_,_,rfl,(.inl ⟨_,rfl,rfl,rfl⟩),⟨rfl,rfl⟩,rfl⟩ (by decide) rfl rfl (Fresh.of rfl) (nlr rfl))<|AL.poolO (q:=7) (e:= .int) 9 rfl (Fresh.of rfl) (nlr rfl) fun vs2 gf2 hvf2=> ?_
 have hvl2:vs2.length=([[min a b,max a b]]).length:=by rw[← hvf2,av]
 simp only[ah,aj] at hvl2
 refine AL.poolJ (p:=1) (p2:=9) rfl rfl rfl fun gj hj1 hj2=>lc (QH 8 (Qa rfl) rfl (Qa rfl) rfl rfl Zi Va (by first | omega | (simp only[aa,av,ab,ah,aj]; omega) | (simp only[aa,ay,ab,ah,aj]; omega)) rfl (Fresh.of rfl) (nlr rfl)) ?_
 refine w_ ?_
 refine lc (Zp 10 (Qa rfl) rfl (Uq (Qa rfl) rfl) rfl Zi Va (by first | omega | (simp only[aa,av,ab,ah,aj]; omega) | (simp only[aa,ay,ab,ah,aj]; omega)) rfl (Fresh.of rfl) (nlr rfl)) ?_
 iterate 2 refine w_ ?_
 refine AC.wk (V3 (q:=10) (p:=1) (zs:=((([])++((vs.take (0+((m).toNat))).drop 0))++vs2)++(([])++((vs.take (((m).toNat)+(vs.length - (m).toNat))).drop ((m).toNat)))) rfl rfl (by (rw[Qqp (by omega) (by omega)]; exact Qgz)))<|Q4 ?_
 subst hO
 refine Z3 (e:=Qs) (xs:=((((([])++((vs.take (0+((m).toNat))).drop 0))++vs2)++(([])++((vs.take (((m).toNat)+(vs.length - (m).toNat))).drop ((m).toNat)))).map gj)) (Qg rfl (Qd rfl)) rfl ?_
 (rw[Qqp (by omega) (by omega)]; exact Qlc hvf hvf2 hj1 hj2 (by omega) (by omega) hP (fun z hz=>by simp_all))
 have hb5':=a8 hb5
 iterate 2 refine w_ ?_
 refine lgy rfl rfl (Qw (e:= .vl) (Qa rfl) rfl (Qa rfl) Zi QU rfl (by omega) (by first | omega | (simp only[aq]; omega))) ?_
 obtain ⟨y,hx8⟩:=gx vs ((m).toNat)
 have yh:=hx8
 refine lgy rfl rfl (QP (e:= .vl) (Qa rfl) rfl hx8 rfl QU rfl rfl) ?_
 refine w_ ?_
 refine lgy rfl rfl (Yv (QcH (gf y) ([min a b,max a b])) QjB ⟨_,_,rfl,(Hf (p:=1) (Qa rfl) rfl (ai hx8)),⟨_,_,rfl,(U3 (Qa rfl) rfl),rfl⟩⟩ rfl rfl rfl) ?_
 iterate 2 refine w_ ?_
 cases hb9:(ltP (gf y) ([min a b,max a b]))
 iterate 10 refine w_ ?_
 have hb10:(decide (m < (vs.length:Int)))=true:=hb5
 try rw[hb10]
 iterate 2 refine w_ ?_
 refine lgy rfl rfl (Qw (e:= .vl) (Qa rfl) rfl (Qa rfl) Zi QU rfl (by omega) (by first | omega | (simp only[aq]; omega)))<|lgy rfl rfl (QP (e:= .vl) (Qa rfl) rfl hx8 rfl QU rfl rfl) ?_
 refine w_ ?_
 refine lgy rfl rfl (Yv (Xa (gf y) ([min a b,max a b])) W6 ⟨_,_,rfl,(Hf (p:=1) (Qa rfl) rfl (ai hx8)),⟨_,_,rfl,(U3 (Qa rfl) rfl),rfl⟩⟩ rfl rfl rfl) ?_
 iterate 2 refine w_ ?_
 cases hb11:(decide ((gf y)=([min a b,max a b])))
 have hb11':=a7 hb11
 iterate 3 refine w_ ?_
 refine lc (Qf 11 (e:= .vl) Zi QU XX rfl rfl (ae.1 rfl) ⟨rfl,rfl⟩ (by decide) rfl rfl (Fresh.of rfl) (nlr rfl)) ?_
 iterate 2 refine w_ ?_
 refine lc (Z8 (e:= .vl) (a:=(m).toNat) (b:=vs.length - (m).toNat) (l:=(some m)) (h:=none) (Qa rfl) rfl (by exact (Qa rfl)) (by exact trivial) Zi QU rfl (by first | (simp only[ao,ak]; omega) | omega | (simp only[ao,ak,aa,ab,az]; omega)) (by first | (simp only[ao,ak]; omega) | omega | (simp only[ao,ak,aa,ab,az]; omega)) (by first | (simp only[ao,ak]; omega) | omega | (simp only[ao,ak,aa,ab,az]; omega)) (by first | rfl | simp) (by first | rfl | simp))<|lc (Zp 12 (Qa rfl) rfl (XM (e:= .vl) (Qa rfl) rfl (by omega)) rfl Zi Va (by first | omega | (simp only[aa,av,ab,ah,aj]; omega) | (simp only[aa,ay,ab,ah,aj]; omega)) rfl (Fresh.of rfl) (nlr rfl)) ?_
 iterate 3 refine w_ ?_
 refine lc (Qf 13 (e:= .vl) Zi QU XX rfl rfl (ae.1 rfl) ⟨rfl,rfl⟩ (by decide) rfl rfl (Fresh.of rfl) (nlr rfl)) ?_
 iterate 2 refine w_ ?_
 refine lc (Z8 (e:= .vl) (a:=0) (b:=(m).toNat) (l:=none) (h:=(some m)) (Qa rfl) rfl (by exact trivial) (by exact (Qa rfl)) Zi QU rfl (by first | (simp only[ao,ak]; omega) | omega | (simp only[ao,ak,aa,ab,az]; omega)) (by first | (simp only[ao,ak]; omega) | omega | (simp only[ao,ak,aa,ab,az]; omega)) (by first | (simp only[ao,ak]; omega) | omega | (simp only[ao,ak,aa,ab,az]; omega)) (by first | rfl | simp) (by first | rfl | simp))<|lc (Zp 14 (Qa rfl) rfl (XM (e:= .vl) (Qa rfl) rfl (by omega)) rfl Zi Va (by first | omega | (simp only[aa,av,ab,ah,aj]; omega) | (simp only[aa,ay,ab,ah,aj]; omega)) rfl (Fresh.of rfl) (nlr rfl)) ?_
 refine w_ ?_
 refine lc (Qf 15 (e:=Qs) Zi QU XX rfl ⟨_,_,rfl,(Qb rfl),rfl⟩ (ae.1 rfl) ⟨_,_,_,_,rfl,(.inl ⟨_,rfl,rfl,rfl⟩),⟨rfl,rfl⟩,rfl⟩ (by decide) rfl rfl (Fresh.of rfl) (nlr rfl))<|AL.poolO (q:=15) (e:= .int) 17 rfl (Fresh.of rfl) (nlr rfl) fun vs2 gf2 hvf2=> ?_
 have hvl2:vs2.length=([[min a b,max a b]]).length:=by rw[← hvf2,av]
 simp only[ah,aj] at hvl2
 refine AL.poolJ (p:=1) (p2:=17) rfl rfl rfl fun gj hj1 hj2=>lc (QH 16 (Qa rfl) rfl (Qa rfl) rfl rfl Zi Va (by first | omega | (simp only[aa,av,ab,ah,aj]; omega) | (simp only[aa,ay,ab,ah,aj]; omega)) rfl (Fresh.of rfl) (nlr rfl)) ?_
 refine w_ ?_
 refine lc (Zp 18 (Qa rfl) rfl (Uq (Qa rfl) rfl) rfl Zi Va (by first | omega | (simp only[aa,av,ab,ah,aj]; omega) | (simp only[aa,ay,ab,ah,aj]; omega)) rfl (Fresh.of rfl) (nlr rfl)) ?_
 iterate 2 refine w_ ?_
 refine AC.wk (V3 (q:=18) (p:=1) (zs:=((([])++((vs.take (0+((m).toNat))).drop 0))++vs2)++(([])++((vs.take (((m).toNat)+(vs.length - (m).toNat))).drop ((m).toNat)))) rfl rfl (by (rw[Qqp (by omega) (by omega)]; exact Qgz)))<|Q4 ?_
 subst hO
 refine Z3 (e:=Qs) (xs:=((((([])++((vs.take (0+((m).toNat))).drop 0))++vs2)++(([])++((vs.take (((m).toNat)+(vs.length - (m).toNat))).drop ((m).toNat)))).map gj)) (Qg rfl (Qd rfl)) rfl ?_
 (rw[Qqp (by omega) (by omega)]; exact Qlc hvf hvf2 hj1 hj2 (by omega) (by omega) hP (fun z hz=>by simp_all))
 have hb11':=a8 hb11
 iterate 5 refine w_ ?_
 refine AC.wk (V3 (q:=0) (p:=1) (zs:=vs) rfl rfl (by exact ⟨_,dd _,cJ _⟩))<|Q4 ?_
 subst hO
 refine Z3 (e:=Qs) (xs:=(vs.map gf)) (Qg rfl (Qd rfl)) rfl ?_
 exact QqK hvf (by omega) hP yh (by simp_all)
 iterate 7 refine w_ ?_
 refine Qm<|QV ⟨(m+1),rfl,(by omega),(fun j hj z hz=>by by_cases e:j=m.toNat <;> first | (subst e; simp_all; done) | exact hP j (by omega) z hz),rfl⟩ (by omega) ?_
 exact wo [(0,0),(1,1),(2,2)]
end Go.Proofs.YtjaadeknhofhpaaGreat
namespace Go.Proofs.YtjaadeknhofhpaaGreat
open Go.RowKit
set_option maxRecDepth 100000
set_option maxHeartbeats 4000000
theorem Qfz {α:Type}(f:α→Bool)(l:List α):∀k,(Xs f l k).Pairwise (· < ·)
  | 0=>cu
  | k+1=>by
    unfold Xs
    have h:∀x∈Xs f l k,x < (k:Int):=fun x hx=>by obtain ⟨_,_,_,h,_⟩:=QbT hx; exact h
    refine List.pairwise_append.2 ⟨Qfz f l k, ?_,fun x hx y hy=> ?_⟩
    · split
      · split <;> simp
      · simp
    · split at hy
      · split at hy
        · rw[aM.1 hy]; exact h x hx
        · cases hy
      · cases hy
section
variable {n:Xj}{k i j m:Nat}{mk:ByteArray}{t u:Int}{on l:List Int}{s:QX}{xt xu:QW}{ms:List ByteArray}{as_:List (List Int)}
theorem Qoa:(Zl n mk).Pairwise (· < ·):=Qfz ..
theorem Qn4 {P:Int→Bool}(h:on.Pairwise (· < ·))(hx:on[i]? =some t):(on.filter fun u=>decide (t < u)&&P u)=(on.drop (i+1)).filter P:=by
  induction on generalizing i with
  | nil=>cases hx
  | cons y on ih=>
    obtain ⟨h1,h2⟩:=bg.1 h
    cases i with
    | zero=>
      cases hx
      rw[d8,if_neg (by simp),List.drop_succ_cons,dc]
      exact cI fun u hu=>by simp[h1 u hu]
    | succ i=>
      have h3:on[i]? =some t:=hx
      rw[d8,if_neg (by have:=h1 t (ai h3); simp; omega),List.drop_succ_cons]
      exact ih h2 h3
theorem Qql (h:on.Pairwise (· < ·))(hx:on[i]? =some t):Kd n t (on.drop (i+1))=UE n t on:=by unfold Kd UE; rw[Qn4 h hx]
theorem QfY (h:on.Pairwise (· < ·)):∀k,k≤on.length→Qcb n on k=Js n on (on.take k)
  | 0,_=>rfl
  | k+1,hk=>by
    have hx:=ap (l:=on) (i:=k) (by omega)
    rw[← QfS hx,← QfY h k (by omega)]
    unfold Qcb
    rw[cd,c8]
    simp only[c7,List.flatMap_nil,bt]
    rw[hx,ak,Qql h hx]
theorem QqM (h:on.Pairwise (· < ·))(hk:k=on.length):Qcb n on k=Js n on on:=by rw[QfY h k (by omega),hk,br]
theorem Qpy (hx:l[k]? =some u)(h1:n.2[t.toNat]? =some xt)(h2:n.2[u.toNat]? =some xu)(h:(!(xt.1.any fun z=>xu.1.any fun y=>decide (z=y)))=true):Kd n t (l.take k)++[[t,u]]=Kd n t (l.take (k+1)):=by
  unfold Kd
  rw[Q0 hx,bc,bA]
  have:shV n t u=false:=by
    rw[QgM h1 h2]
    simp only[bS,cr,aN] at h ⊢
    intro z hz hu
    exact h z hz (bm.2 ⟨z,hu,by simp⟩)
  simp[this]
theorem QpP (hx:l[k]? =some u)(h1:n.2[t.toNat]? =some xt)(h2:n.2[u.toNat]? =some xu)(h:(!(xt.1.any fun z=>xu.1.any fun y=>decide (z=y)))=false):Kd n t (l.take k)=Kd n t (l.take (k+1)):=by
  unfold Kd
  rw[Q0 hx,bc,bA]
  have:shV n t u=true:=by
    rw[QgM h1 h2]
    simp only[Bool.not_eq_false',bm,aN] at h ⊢
    obtain ⟨z,hz,y,hy,rfl⟩:=h
    exact ⟨z,hz,hy⟩
  simp[this]
def Zq [∀s,Decidable (StgOk s)](s:QX):List (List Int):=ofG ltP (Yl s.1 (Qe s).1.1)
theorem Qil [∀s,Decidable (StgOk s)](h:(Qe s).2=false):[]=Zq s:=by unfold Zq; rw[Qg2 h]; rfl
theorem Qg7 (h:t < u):[min t u,max t u]=[t,u]:=by rw[show min t u=t by omega,show max t u=u by omega]
theorem Qm9 (hn:n.2.length≤24)(hk:k≤ms.length)(hm:ms.length≤300)(he:on.length≤24)(hi:i≤on.length)(hj:l.length≤24):(Yl n (ms.take k)++Js n on (on.take i)++UE n t l).length≤200000:=by
  have h1:=QdW (n:=n) (ms:=ms.take k) hn
  have h2:=QhX (n:=n) (on:=on) (l:=on.take i) he
  have h3:=Qiw (n:=n) (t:=t) (l:=l)
  simp only[aa,ab] at*
  omega
end
theorem Qb1 (s:(Int×(List (List Int×List Int)))×(List (ByteArray×Int))×(List (Int×Bool))×ByteArray)(r:List ByteArray×(List (Int×Int×Int)))(hB:∀m∈r.1,∀t∈s.1.2,U4 m t.1∧U4 m t.2)(hn:s.1.2.length≤24)(hr:r.1.length≤300):FC Tryz.prog 125 [(true,[dI s.1.1, .dat QZ s.1.2, .dat QJ s.2.1, .dat QR s.2.2.1,dS s.2.2.2]),(true,[.dat Zr r.1, .dat Xu r.2])] [] 0 (Uz 95 Qs (ofG ltP (Yl s.1 r.1))):=by
 refine QO Tryz.func125 rfl rfl Tryz.ntmps125 fun O_ hO w0_ N0_ X_ h0_ f0_=> ?_
 refine AC.fact (QI (x:= .tmp 0) (i:=0) (Qb rfl) rfl) fun hi1=> ?_
 refine w_ ?_
 refine lc (Qy 0 (Qb rfl) rfl rfl (Fresh.of rfl) (nlr rfl))<|lc (Qy 1 (Qb rfl) rfl rfl (Fresh.of rfl) (nlr rfl)) ?_
 iterate 9 refine w_ ?_
 refine AL.fact (Qo (x:= .tmp 14) (Qa rfl)) fun hl2=> ?_
 iterate 4 refine w_ ?_
 refine AC.wk (Wk.nilS 2 5 95 Qs rfl (Fresh.of rfl) (nlr rfl)) ?_
 refine Qu (fun m_ s_=>∃(k:Nat),k≤r.1.length∧m_=r.1.length - k∧s_=⟨[(2,lP 0 0),(4,lf (.val (.slice none 0 0))),(5,lR 3),(14,lf (.dat Zr r.1)),(15,lI (r.1.length:Int)),(16,lI (k:Int))],[(0,some (.box 29 [dI s.1.1, .dat QZ s.1.2, .dat QJ s.2.1, .dat QR s.2.2.1,dS s.2.2.2])),(3,some (.arr 95 Qs (ofG ltP (Yl s.1 (r.1.take k)))))]⟩) ⟨0,aw _,rfl,rfl⟩ ?_ ?_
 exact wp [(0,0),(3,2)] ⟨rfl,(Qp (by first | rfl | simp)),trivial⟩
 rintro m_ s_ ⟨k,hk3,hm4,rfl⟩
 iterate 4 refine w_ ?_
 cases hb5:(decide ((k:Int) < (r.1.length:Int)))
 have hb5':=a7 hb5
 iterate 8 refine w_ ?_
 subst hO
 refine Z3 (e:=Qs) (xs:=(ofG ltP (Yl s.1 (r.1.take k)))) (Qg rfl (Qd rfl)) rfl ?_
 (rw[aH (by omega)])
 have hb5':=a8 hb5
 iterate 5 refine w_ ?_
 obtain ⟨mk,hx7⟩:=gx r.1 k
 have mkh:=hx7
 refine lc (Qh (Qa rfl) (Qa rfl) Zo Zg rfl (by omega) hx7) ?_
 iterate 7 refine w_ ?_
 refine lc (Ql (UJ s.1 mk (hB _ (ai hx7)) (by omega)).frozen Qe7 ⟨_,_,rfl,(Qb rfl),⟨_,_,rfl,(Qb rfl),rfl⟩⟩ rfl rfl) ?_
 iterate 4 refine w_ ?_
 refine AL.fact (Qo (x:= .tmp 24) (Qa rfl)) fun hl8=> ?_
 iterate 4 refine w_ ?_
 refine Qu (fun m_ s_=>∃(i:Nat),i≤(Zl s.1 mk).length∧m_=(Zl s.1 mk).length - i∧s_=⟨[(2,lP 0 0),(4,lf (.val (.slice none 0 0))),(5,lR 4),(7,lf (dS mk)),(8,lf (.dat Qs (Zl s.1 mk))),(14,lf (.dat Zr r.1)),(15,lI (r.1.length:Int)),(16,lI (k:Int)),(17,lB true),(18,lf (.elt .str mk 0)),(19,lf (dS mk)),(20,lP 0 0),(21,ag [dI s.1.1, .dat QZ s.1.2]),(22,lf (dS mk)),(23,lf (.dat Qs (Zl s.1 mk))),(24,lf (.dat Qs (Zl s.1 mk))),(25,lI ((Zl s.1 mk).length:Int)),(26,lI (i:Int))],[(0,some (.box 29 [dI s.1.1, .dat QZ s.1.2, .dat QJ s.2.1, .dat QR s.2.2.1,dS s.2.2.2])),(4,some (.arr 95 Qs (ofG ltP (Yl s.1 (r.1.take k)++Js s.1 (Zl s.1 mk) ((Zl s.1 mk).take i)))))]⟩) ⟨0,aw _,rfl,rfl⟩ ?_ ?_
 exact wp [(0,0),(4,3)] ⟨rfl,(Qp (by simp[Js])),trivial⟩
 rintro m_ s_ ⟨i,hk9,hm10,rfl⟩
 iterate 4 refine w_ ?_
 cases hb11:(decide ((i:Int) < ((Zl s.1 mk).length:Int)))
 have hb11':=a7 hb11
 iterate 6 refine w_ ?_
 refine Qm<|QV ⟨k+1,by omega,rfl,rfl⟩ (by omega) ?_
 exact wp [(0,0),(3,4)] ⟨rfl,(Qp (QnH mkh (by omega))),trivial⟩
 have hb11':=a8 hb11
 iterate 5 refine w_ ?_
 obtain ⟨t,hx13⟩:=gx (Zl s.1 mk) i
 have tq:=YW hx13
 have th:=hx13
 have hon:=Uv s.1 mk
 refine lc (Qh (Qa rfl) (Qa rfl) QN QL rfl (by omega) hx13) ?_
 refine w_ ?_
 refine AL.fact (QC (x:= .tmp 29) (Qa rfl)) fun hi14=> ?_
 iterate 4 refine w_ ?_
 refine AL.fact (Qo (x:= .tmp 30) (Qa rfl)) fun hl15=> ?_
 iterate 4 refine w_ ?_
 refine Qu (fun m_ s_=>∃(j:Nat),j≤(Zl s.1 mk).length∧m_=(Zl s.1 mk).length - j∧s_=⟨[(2,lP 0 0),(4,lf (.val (.slice none 0 0))),(5,lR 5),(7,lf (dS mk)),(8,lf (.dat Qs (Zl s.1 mk))),(10,lI t),(14,lf (.dat Zr r.1)),(15,lI (r.1.length:Int)),(16,lI (k:Int)),(17,lB true),(18,lf (.elt .str mk 0)),(19,lf (dS mk)),(20,lP 0 0),(21,ag [dI s.1.1, .dat QZ s.1.2]),(22,lf (dS mk)),(23,lf (.dat Qs (Zl s.1 mk))),(24,lf (.dat Qs (Zl s.1 mk))),(25,lI ((Zl s.1 mk).length:Int)),(26,lI (i:Int)),(27,lB true),(28,lf (.elt .int t 0)),(29,lI t),(30,lf (.dat Qs (Zl s.1 mk))),(31,lI ((Zl s.1 mk).length:Int)),(32,lI (j:Int))],[(0,some (.box 29 [dI s.1.1, .dat QZ s.1.2, .dat QJ s.2.1, .dat QR s.2.2.1,dS s.2.2.2])),(5,some (.arr 95 Qs (ofG ltP (Yl s.1 (r.1.take k)++Js s.1 (Zl s.1 mk) ((Zl s.1 mk).take i)++UE s.1 t ((Zl s.1 mk).take j)))))]⟩) ⟨0,aw _,rfl,rfl⟩ ?_ ?_
 exact wp [(0,0),(5,4)] ⟨rfl,(Qp (by simp[UE])),trivial⟩
 rintro m_ s_ ⟨j,hk16,hm17,rfl⟩
 iterate 4 refine w_ ?_
 cases hb18:(decide ((j:Int) < ((Zl s.1 mk).length:Int)))
 have hb18':=a7 hb18
 iterate 6 refine w_ ?_
 refine Qm<|QV ⟨i+1,by omega,rfl,rfl⟩ (by omega) ?_
 exact wp [(0,0),(4,5)] ⟨rfl,(Qp (Qnu th (by omega))),trivial⟩
 have hb18':=a8 hb18
 iterate 5 refine w_ ?_
 obtain ⟨u,hx20⟩:=gx (Zl s.1 mk) j
 have uq:=YW hx20
 have uh:=hx20
 have hon:=Uv s.1 mk
 refine lc (Qh (Qa rfl) (Qa rfl) QN QL rfl (by omega) hx20) ?_
 refine w_ ?_
 refine AL.fact (QC (x:= .tmp 35) (Qa rfl)) fun hi21=> ?_
 iterate 2 refine w_ ?_
 cases hb22:(decide (t < u))
 have hb22':=a7 hb22
 refine dw [io 36 (lI t),io 37 (lI u),io 38 (lB false),io 39 (lB false),iu 40,iu 41,iu 42,iu 43,iu 44,iu 45,iu 46,iu 47,iu 48,iu 49,iu 50,iu 51,iu 52,iu 53,iu 54,iu 55,io 56 (lB false)] [0,0,3,7,15,31,63,15,255,511,1023,15,2063,6159,15,30735,63503,129039,262143,524287,1048575] mixed rfl (by kernel_rfl) ⟨dxm rfl rfl,dxm rfl rfl,fun _ h_=>ac (KK (hb22) (JK (h_.v rfl) (h_.v rfl) rfl)) rfl,dxm rfl rfl,dxo rfl rfl rfl,dxo rfl rfl rfl,dxo rfl rfl rfl,dxo rfl rfl rfl,dxo rfl rfl rfl,dxo rfl rfl rfl,dxo rfl rfl rfl,dxo rfl rfl rfl,dxo rfl rfl rfl,dxo rfl rfl rfl,dxo rfl rfl rfl,dxo rfl rfl rfl,dxo rfl rfl rfl,dxo rfl rfl rfl,dxo rfl rfl rfl,dxo rfl rfl rfl,fun _ h_=>ac (K9 (h_.v rfl) (Evl.ev Xh) rfl) rfl,⟨⟩⟩ ?_
 iterate 6 refine w_ ?_
 refine Qm<|QV ⟨j+1,by omega,rfl,rfl⟩ (by omega) ?_
 exact wp [(0,0),(5,5)] ⟨rfl,(Qp (by first | exact (by rw[Qg7 (a8 ‹_›),QdN,aI,Qe9 uh xth xuh (a8 ‹_›) ‹_›]) | exact (by rw[Qg1 uh (a7 ‹_›)]) | exact (by rw[Qhq uh xth xuh ‹_›]))),trivial⟩
 have hb22':=a8 hb22
 obtain ⟨xt,hx24⟩:=gx s.1.2 ((t).toNat)
 have xth:=hx24
 obtain ⟨xu,hx26⟩:=gx s.1.2 ((u).toNat)
 have xuh:=hx26
 refine dw [io 36 (lI t),io 37 (lI u),io 38 (lB true),io 39 (lB true),io 40 (lP 0 0),io 41 (lP 0 1),io 42 (lf (.dat QZ s.1.2)),io 43 (lI t),io 44 (lf (.elt QS xt 0)),io 45 (lf (.elt QS xt 0)),io 46 (lf (.dat Qs xt.1)),io 47 (lP 0 0),io 48 (lP 0 1),io 49 (lf (.dat QZ s.1.2)),io 50 (lI u),io 51 (lf (.elt QS xu 0)),io 52 (lf (.elt QS xu 0)),io 53 (lf (.dat Qs xu.1)),io 54 (lB (xt.1.any fun z=>decide (z∈xu.1))),io 55 (lB (!(xt.1.any fun z=>decide (z∈xu.1)))),io 56 (lB (!(xt.1.any fun z=>decide (z∈xu.1))))] [0,0,3,7,15,31,63,15,255,511,1023,15,2063,6159,15,30735,63503,129039,262143,524287,1048575] mixed rfl (by kernel_rfl) ⟨dxm rfl rfl,dxm rfl rfl,fun _ h_=>ac (KK (hb22) (JK (h_.v rfl) (h_.v rfl) rfl)) rfl,dxm rfl rfl,fun _ h_=>day rfl (h_.k rfl) (Xl (h_.v rfl) Z1 (by rw[(h_.en 0 rfl)]; rfl) rfl) rfl,fun _ h_=>day rfl (h_.k rfl) (Xl (h_.v rfl) Zz (by rw[(h_.en 0 rfl)]; rfl) rfl) rfl,fun _ h_=>day rfl (h_.k rfl) (Vi (h_.v rfl) (h_.n 0 rfl) Yf rfl rfl) rfl,fun _ h_=>day rfl (h_.k rfl) (X4 (h_.k rfl) rfl) rfl,fun _ h_=>day rfl (h_.k rfl) (Qh (h_.v rfl) (h_.v rfl) Zw Zn rfl (by omega) hx24) rfl,fun _ h_=>day rfl (h_.k rfl) (Yp (h_.v rfl) Z0 rfl) rfl,fun _ h_=>day rfl (h_.k rfl) (Q3 (h_.v rfl) QU rfl rfl) rfl,fun _ h_=>day rfl (h_.k rfl) (Xl (h_.v rfl) Z1 (by rw[(h_.en 0 rfl)]; rfl) rfl) rfl,fun _ h_=>day rfl (h_.k rfl) (Xl (h_.v rfl) Zz (by rw[(h_.en 0 rfl)]; rfl) rfl) rfl,fun _ h_=>day rfl (h_.k rfl) (Vi (h_.v rfl) (h_.n 0 rfl) Yf rfl rfl) rfl,fun _ h_=>day rfl (h_.k rfl) (X4 (h_.k rfl) rfl) rfl,fun _ h_=>day rfl (h_.k rfl) (Qh (h_.v rfl) (h_.v rfl) Zw Zn rfl (by omega) hx26) rfl,fun _ h_=>day rfl (h_.k rfl) (Yp (h_.v rfl) Z0 rfl) rfl,fun _ h_=>day rfl (h_.k rfl) (Q3 (h_.v rfl) QU rfl rfl) rfl,fun _ h_=>day rfl (h_.k rfl) (Ql (QdK xt.1 xu.1) QjL ⟨_,_,rfl,(h_.w rfl),⟨_,_,rfl,(h_.w rfl),rfl⟩⟩ rfl rfl) rfl,fun _ h_=>day rfl (h_.k rfl) (WD (h_.v rfl) rfl) rfl,fun _ h_=>ac (KR (h_.v rfl) (h_.w rfl) rfl) rfl,⟨⟩⟩ ?_
 cases hb27:(xt.1.any fun z=>decide (z∈xu.1))
 iterate 5 refine w_ ?_
 refine lc (QK 6 [(0,5)] (Qfn (ofG ltP (Yl s.1 (r.1.take k)++Js s.1 (Zl s.1 mk) ((Zl s.1 mk).take i)++UE s.1 t ((Zl s.1 mk).take j))) t u (by have:=Qm9 (n:=s.1) (ms:=r.1) (k:=k) (on:=Zl s.1 mk) (i:=i) (l:=(Zl s.1 mk).take j) (t:=t) hn (by omega) hr (by omega) (by omega) (by simp only[ab]; omega); have:=QlM (lt:=ltP) (Yl s.1 (r.1.take k)++Js s.1 (Zl s.1 mk) ((Zl s.1 mk).take i)++UE s.1 t ((Zl s.1 mk).take j)); omega)) QkR ⟨_,_,rfl,(Qb rfl),⟨_,_,rfl,(Qb rfl),⟨_,_,rfl,(Qb rfl),rfl⟩⟩⟩ ⟨rfl,trivial⟩ rfl ⟨(Fresh.of rfl),trivial⟩ (nlr rfl)) ?_
 refine w_ ?_
 refine Qm ?_
 iterate 4 refine w_ ?_
 refine Qm<|QV ⟨j+1,by omega,rfl,rfl⟩ (by omega) ?_
 exact wp [(0,0),(5,6)] ⟨rfl,(Qp (by first | exact (by rw[Qg7 (a8 ‹_›),QdN,aI,Qe9 uh xth xuh (a8 ‹_›) ‹_›]) | exact (by rw[Qg1 uh (a7 ‹_›)]) | exact (by rw[Qhq uh xth xuh ‹_›]))),trivial⟩
 iterate 6 refine w_ ?_
 refine Qm<|QV ⟨j+1,by omega,rfl,rfl⟩ (by omega) ?_
 exact wp [(0,0),(5,5)] ⟨rfl,(Qp (by first | exact (by rw[Qg7 (a8 ‹_›),QdN,aI,Qe9 uh xth xuh (a8 ‹_›) ‹_›]) | exact (by rw[Qg1 uh (a7 ‹_›)]) | exact (by rw[Qhq uh xth xuh ‹_›]))),trivial⟩
theorem QcS (p:Int)(b:List Int):FC Tryz.prog 295 [(false,[dI p]),(false,[.ptr 0 0])] [(0,some (.box 95 [.dat Qs b]))] 1 (Is (lB (b.any (fun y=>decide (p=y)))) [(0,some (.box 95 [.dat Qs b]))]):=by
 refine QO Tryz.func295 rfl rfl Tryz.ntmps295 fun O_ hO w0_ N0_ X_ h0_ f0_=> ?_
 refine AC.fact (QC (x:= .tmp 0) (Qa rfl)) fun hi1=> ?_
 iterate 6 refine w_ ?_
 refine lc (Ql (Ui b p) Qkn ⟨_,_,rfl,(Qb rfl),⟨_,_,rfl,(Qb rfl),rfl⟩⟩ rfl rfl) ?_
 iterate 3 refine w_ ?_
 subst hO
 exact QD _ _ [(0,0)] (Qg rfl (Qd rfl)) (rfl) ⟨rfl,trivial⟩ rfl rfl
theorem KQ (s:List Int)(b:List Int):FC Tryz.prog 248 [(false,[.dat Qs s]),(false,[.clo 295 [0]])] [(0,some (.box 95 [.dat Qs b]))] 1 (Is (lI (ZN (fun p=>b.any (fun y=>decide (p=y))) s)) [(0,some (.box 95 [.dat Qs b]))]):=by
 refine QO Tryz.func248 rfl rfl Tryz.ntmps248 fun O_ hO w0_ N0_ X_ h0_ f0_=> ?_
 iterate 6 refine w_ ?_
 refine AL.fact (Qo (x:= .tmp 6) (Qa rfl)) fun hl1=> ?_
 iterate 4 refine w_ ?_
 refine Qu (fun m_ s_=>∃(k:Nat),k≤s.length∧m_=s.length - k∧(NoneTo (fun p=>b.any (fun y=>decide (p=y))) s k)∧s_=⟨[(0,lf (.dat Qs s)),(1,lf (.clo 295 [0])),(7,lI (s.length:Int)),(8,lI (k:Int))],[(0,some (.box 95 [.dat Qs b]))]⟩) ⟨0,aw _,rfl,NoneTo.zero,rfl⟩ ?_ ?_
 exact wo [(0,0)]
 rintro m_ s_ ⟨k,hk2,hm3,hno,rfl⟩
 iterate 4 refine w_ ?_
 cases hb4:(decide ((k:Int) < (s.length:Int)))
 have hb4':=a7 hb4
 iterate 7 refine w_ ?_
 subst hO
 have e5:((-1):Int)=(ZN (fun p=>b.any (fun y=>decide (p=y))) s):=by
  first | exact (hno.no (by omega)).symm
 exact QD _ _ [(0,0)] (Qg rfl (Qd rfl)) (by rw[← e5] <;> rfl) ⟨rfl,trivial⟩ rfl rfl
 have hb4':=a8 hb4
 iterate 12 refine w_ ?_
 obtain ⟨x6,hx7⟩:=gx s k
 refine lc (Qh (Qa rfl) (Qa rfl) QN QL rfl (by omega) hx7) ?_
 refine w_ ?_
 refine AL.fact (QC (x:= .tmp 15) (Qa rfl)) fun hi8=>lc (Wh (args0:=[(false,[dI x6])]) (caps:=[0]) 1 [(0,0)] (QcS x6 b) QjZ rfl (Qa rfl) rfl rfl ⟨_,_,rfl,(Qb rfl),rfl⟩ ⟨rfl,trivial⟩ rfl ⟨trivial,trivial⟩ (nlr rfl)) ?_
 refine w_ ?_
 cases hb9:(b.any (fun y=>decide (x6=y)))
 iterate 6 refine w_ ?_
 refine Qm<|QV ⟨k+1,by omega,rfl,hno.step hx7 ‹_›,rfl⟩ (by omega) ?_
 exact wo [(0,0)]
 iterate 6 refine w_ ?_
 subst hO
 have e10:((k:Int):Int)=(ZN (fun p=>b.any (fun y=>decide (p=y))) s):=by
  exact (hno.at hx7 ‹_›).symm
 exact QD _ _ [(0,0)] (Qg rfl (Qd rfl)) (by rw[e10] <;> rfl) ⟨rfl,trivial⟩ rfl rfl
theorem Ux (s:List Int)(b:List Int):FC Tryz.prog 142 [(false,[.dat Qs s]),(false,[.clo 295 [0]])] [(0,some (.box 95 [.dat Qs b]))] 1 (Is (lB (s.any (fun p=>b.any (fun y=>decide (p=y))))) [(0,some (.box 95 [.dat Qs b]))]):=by
 refine QO Tryz.func142 rfl rfl Tryz.ntmps142 fun O_ hO w0_ N0_ X_ h0_ f0_=> ?_
 iterate 6 refine w_ ?_
 refine lc (QK 1 [(0,0)] (KQ s b) QaG ⟨_,_,rfl,(Qb rfl),⟨_,_,rfl,(Qb rfl),rfl⟩⟩ ⟨rfl,trivial⟩ rfl ⟨trivial,trivial⟩ (nlr rfl)) ?_
 iterate 4 refine w_ ?_
 subst hO
 have e1:(decide (0≤(ZN (fun p=>b.any (fun y=>decide (p=y))) s)):Bool)=(s.any (fun p=>b.any (fun y=>decide (p=y)))):=by
  exact Vx _ _
 exact QD _ _ [(0,0)] (Qg rfl (Qd rfl)) (by rw[e1] <;> rfl) ⟨rfl,trivial⟩ rfl rfl
theorem Qfr (a:List Int)(b:List Int):FC Tryz.prog 225 [(false,[.dat Qs a]),(false,[.dat Qs b])] [] 0 (Yj (lB (a.any (fun p=>b.any (fun y=>decide (p=y)))))):=by
 refine QO Tryz.func225 rfl rfl Tryz.ntmps225 fun O_ hO w0_ N0_ X_ h0_ f0_=> ?_
 refine w_ ?_
 refine lc (Qy 0 (Qb rfl) rfl rfl (Fresh.of rfl) (nlr rfl)) ?_
 iterate 4 refine w_ ?_
 refine lc (Xz ⟨_,_,rfl,(Qa rfl),rfl,rfl⟩ rfl)<|lc (QK 1 [(0,0)] (Ux a b) QaB ⟨_,_,rfl,(Qb rfl),⟨_,_,rfl,(Qb rfl),rfl⟩⟩ ⟨rfl,trivial⟩ rfl ⟨trivial,trivial⟩ (nlr rfl)) ?_
 iterate 3 refine w_ ?_
 subst hO
 exact Qi (Qg rfl (Qd rfl)) rfl rfl
end Go.Proofs.YtjaadeknhofhpaaGreat
