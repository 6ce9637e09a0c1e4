/- Walks over abstract states: tidied lists of numbers; labels; which signals are no inputs; the name of the next state signal. -/
import Derived.Test.YtnakmhfjafecpaaGreatBp
set_option linter.unusedSimpArgs false
set_option linter.unusedVariables false
set_option linter.unusedSectionVars false
namespace Go.Proofs.YtnakmhfjafecpaaGreat
open Go.RowKit
set_option maxRecDepth 100000
set_option maxHeartbeats 4000000
def swL (as_:List DAr)(l:Int×Bool):List Int:=(as_.filter fun a=>decide (a.2.1=l.1∧a.2.2.1=l.2)).map fun a=>a.2.2.2
def Qqm (c:DSg)(sig:Int):Bool:=decide (0≤sig)&&decide (((c.1[sig.toNat]?).getD (ByteArray.empty,0)).2=1)
def Yk (l:List Zc)(k:Nat):List Int:=((List.range k).filter fun i=> !decide (((l[i]?).getD (ByteArray.empty,0)).2=1)).map fun i=>((i:Nat):Int)
def QpX (c:DSg):ByteArray:=if ZH (fun x:Zc=>decide (x.1=(⟨#[122,48]⟩:ByteArray))) c.1 < 0 then ⟨#[122,48]⟩ else if ZH (fun x:Zc=>decide (x.1=(⟨#[122,49]⟩:ByteArray))) c.1 < 0 then ⟨#[122,49]⟩ else ⟨#[122,50]⟩
section
variable {c:DSg}{l:List Int}{as_:List DAr}{a:DAr}{p:Int×Bool}{k:Nat}{n m y sig:Int}{x:Zc}{ss:List Zc}
theorem KQ (hx:ss[k]? =some x)(h:¬x.2=1):Yk ss k++[(k:Int)]=Yk ss (k+1):=by
  unfold Yk
  rw[List.range_succ,List.filter_append,List.map_append]; simp[hx,h]
theorem Qck (hx:ss[k]? =some x)(h:x.2=1):Yk ss k=Yk ss (k+1):=by
  unfold Yk
  rw[List.range_succ,List.filter_append,List.map_append]; simp[hx,h]
theorem QeD:(Yk ss k).length≤k:=by unfold Yk; rw[List.length_map]; exact Nat.le_trans (List.length_filter_le ..) (by simp)
theorem K6:y∈Yk ss k↔∃i:Nat,y=(i:Int)∧i < k∧¬((ss[i]?).getD (ByteArray.empty,0)).2=1:=by
  unfold Yk
  simp only[List.mem_map,List.mem_filter,List.mem_range,Bool.not_eq_true',decide_eq_false_iff_not]
  constructor
  · rintro ⟨i,⟨h1,h2⟩,rfl⟩; exact ⟨i,rfl,h1,h2⟩
  · rintro ⟨i,rfl,h1,h2⟩; exact ⟨i,⟨h1,h2⟩,rfl⟩
abbrev Qp9:List ByteArray:=[(⟨#[122,48]⟩:ByteArray),(⟨#[122,49]⟩:ByteArray)]
end
theorem Qdn (l:List Int)(n:Int):FC Tryz.prog 187 [(false,[.dat (.sl 3 .int) l]),(false,[dI n])] [] 0 (Zq (lB (decide (n∈l)))):=by
 refine QN Tryz.func187 rfl rfl Tryz.ntmps187 fun O_ hO w0_ N0_ X_ h0_ f0_=> ?_
 refine AC.fact (QA (x:= .tmp 1) (Qa rfl)) fun hi1=> ?_
 iterate 6 refine w_ ?_
 refine AL.fact (Qq (x:= .tmp 7) (Qa rfl)) fun hl2=> ?_
 iterate 4 refine w_ ?_
 refine Qx (fun m_ s_=>∃(k:Nat),k≤l.length∧m_=l.length - k∧(∀j,j < k→∀y,l[j]? =some y→¬y=n)∧s_=⟨[(1,lI n),(7,lf (.dat (.sl 3 .int) l)),(8,lI (l.length:Int)),(9,lI (k:Int))],[]⟩) ⟨0,Nat.zero_le _,rfl,(fun j hj=>absurd hj (Nat.not_lt_zero j)),rfl⟩ ?_ ?_
 · exact Wk.of [] rfl ⟨rfl,rfl,rfl,rfl,trivial⟩ trivial rfl rfl
 rintro m_ s_ ⟨k,hk3,hm4,hno,rfl⟩
 iterate 4 refine w_ ?_
 cases hb5:(decide ((k:Int) < (l.length:Int)))
 ·have hb5':=of_decide_eq_false hb5
  refine w_ ?_
  refine QB ?_
  refine (?_:AC _ _ _ _ _)
  iterate 3 refine w_ ?_
  refine Qf ?_
  subst hO
  have e6:(false:Bool)=(decide (n∈l)):=by
   first | exact (decide_eq_false fun hm=>by obtain ⟨j,hj⟩:=List.mem_iff_getElem?.1 hm; exact hno j (by have:=(List.getElem?_eq_some_iff.1 hj).1; omega) n hj rfl).symm
  exact Ql (Qm rfl (Qd rfl)) ((congrArg (fun z_=>lB z_) e6)) rfl
 ·have hb5':=of_decide_eq_true hb5
  iterate 5 refine w_ ?_
  obtain ⟨x7,hx8⟩:∃z,l[k]? =some z:=⟨_,List.getElem?_eq_getElem (by omega)⟩
  refine lc (Qh (Qa rfl) (Qa rfl) QE QO rfl (by omega) hx8) ?_
  refine w_ ?_
  refine AL.fact (QA (x:= .tmp 12) (Qa rfl)) fun hi9=> ?_
  iterate 7 refine w_ ?_
  cases hb10:(decide (x7=n))
  ·have hb10':=of_decide_eq_false hb10
   refine w_ ?_
   refine AC.skip ?_
   refine (?_:AC _ _ _ _ _)
   iterate 3 refine w_ ?_
   refine Qk<|QU ⟨k+1,by omega,rfl,(K8 hno hx8 (by assumption)),rfl⟩ (by omega) ?_
   exact Wk.of [] rfl ⟨rfl,rfl,rfl,rfl,trivial⟩ trivial rfl rfl
  ·have hb10':=of_decide_eq_true hb10
   iterate 4 refine w_ ?_
   refine Qf ?_
   subst hO
   have e11:(true:Bool)=(decide (n∈l)):=by
    exact (decide_eq_true (by have:=List.mem_of_getElem? hx8; simp_all)).symm
   exact Ql (Qm rfl (Qd rfl)) ((congrArg (fun z_=>lB z_) e11)) rfl
theorem Qa2 (c:(List (ByteArray×Int))×List ByteArray×(List (Int×Int×Bool×Int)))(hl:c.1.length≤100000):FC Tryz.prog 141 [(true,[.dat (.sl 145 (.pr .str .int)) c.1, .dat (.sl 9 .str) c.2.1, .dat (.sl 179 (.pr .int (.pr .int (.pr .bool .int)))) c.2.2])] [] 0 (UC 3 .int (Yk c.1 c.1.length)):=by
 refine QN Tryz.func141 rfl rfl Tryz.ntmps141 fun O_ hO w0_ N0_ X_ h0_ f0_=> ?_
 refine w_ ?_
 refine lc (Qw 0 (Qb rfl) rfl rfl (Fresh.of rfl) (nlr rfl)) ?_
 iterate 3 refine w_ ?_
 refine lc (Qg 1 (e:= .int) QE QO Yf rfl rfl (List.all_eq_true.1 rfl) ⟨rfl,rfl⟩ (by decide) rfl rfl (Fresh.of rfl) (nlr rfl)) ?_
 iterate 6 refine w_ ?_
 refine AL.fact (Qq (x:= .tmp 8) (Qa rfl)) fun hl1=> ?_
 iterate 4 refine w_ ?_
 refine Qx (fun m_ s_=>∃(k:Nat),k≤c.1.length∧m_=c.1.length - k∧s_=⟨[(2,lf (.val (.slice none 0 0))),(3,lR 2),(8,lf (.dat (.sl 145 (.pr .str .int)) c.1)),(9,lI (c.1.length:Int)),(10,lI (k:Int))],[(2,some (.arr 3 .int (Yk c.1 k)))]⟩) ⟨0,Nat.zero_le _,rfl,rfl⟩ ?_ ?_
 · exact Wk.of [(2,1)] rfl ⟨rfl,rfl,rfl,rfl,rfl,trivial⟩ ⟨(Qy (rfl)),trivial⟩ rfl rfl
 rintro m_ s_ ⟨k,hk2,hm3,rfl⟩
 have hfl:=QeD (ss:=c.1) (k:=k)
 iterate 4 refine w_ ?_
 cases hb4:(decide ((k:Int) < (c.1.length:Int)))
 ·have hb4':=of_decide_eq_false hb4
  refine w_ ?_
  refine QB ?_
  refine (?_:AC _ _ _ _ _)
  iterate 4 refine w_ ?_
  refine Qf ?_
  subst hO
  refine ZU (e:= .int) (xs:=(Yk c.1 k)) (Qm rfl (Qd rfl)) rfl ?_
  (congr 1; omega)
 ·have hb4':=of_decide_eq_true hb4
  iterate 6 refine w_ ?_
  obtain ⟨x5,hx6⟩:∃z,c.1[k]? =some z:=⟨_,List.getElem?_eq_getElem (by omega)⟩
  refine lc (Qh (Qa rfl) (Qa rfl) YQ Z4 rfl (by omega) hx6) ?_
  refine w_ ?_
  refine lc (Qp 3 (.pr .str .int) K1 rfl rfl (Fresh.of rfl) (nlr rfl)) ?_
  refine w_ ?_
  refine lc (Qe (Qa rfl) rfl (Qb rfl) rfl Z4 rfl) ?_
  iterate 4 refine w_ ?_
  refine AL.fact (QA (x:= .tmp 16) (Qa rfl)) fun hi7=> ?_
  iterate 2 refine w_ ?_
  cases hb8:(!decide (x5.2=1))
  ·have hb8':(x5.2=1):=Zb hb8
   refine w_ ?_
   refine AC.skip ?_
   refine (?_:AC _ _ _ _ _)
   iterate 3 refine w_ ?_
   refine Qk<|QU ⟨k+1,by omega,rfl,rfl⟩ (by omega) ?_
   exact Wk.of [(2,2)] rfl ⟨rfl,rfl,rfl,rfl,rfl,trivial⟩ ⟨(Qy (by first | exact KQ hx6 (by assumption) | exact Qck hx6 (by assumption))),trivial⟩ rfl rfl
  ·have hb8':¬(x5.2=1):=Zk hb8
   iterate 4 refine w_ ?_
   refine lc (Qg 4 (e:= .int) QE QO Yf rfl ⟨_,_,rfl,(Qb rfl),rfl⟩ (List.all_eq_true.1 rfl) ⟨_,_,_,_,rfl,⟨rfl,rfl⟩,⟨rfl,rfl⟩,rfl⟩ (by decide) rfl rfl (Fresh.of rfl) (nlr rfl))<|lc (QQ 5 (Qa rfl) rfl (Qa rfl) rfl rfl QE VB (by first | omega | (simp only[List.length_append,List.length_map,List.length_take,List.length_cons,List.length_nil]; omega) | (simp only[List.length_append,List.length_drop,List.length_take,List.length_cons,List.length_nil]; omega)) rfl (Fresh.of rfl) (nlr rfl)) ?_
   refine w_ ?_
   refine Qk ?_
   refine (?_:AC _ _ _ _ _)
   iterate 3 refine w_ ?_
   refine Qk<|QU ⟨k+1,by omega,rfl,rfl⟩ (by omega) ?_
   exact Wk.of [(2,5)] rfl ⟨rfl,rfl,rfl,rfl,rfl,trivial⟩ ⟨(Qy (by first | exact KQ hx6 (by assumption) | exact Qck hx6 (by assumption))),trivial⟩ rfl rfl
end Go.Proofs.YtnakmhfjafecpaaGreat
namespace Go.Proofs.YtnakmhfjafecpaaGreat
open Go.RowKit
set_option maxRecDepth 100000
set_option maxHeartbeats 4000000
abbrev V4 (a:DAr)(l:Int×Bool):Prop:=a.2.1=l.1∧a.2.2.1=l.2
def ixE (as_:List DAr):List (Int×Int):=as_.zipIdx.map fun x=>(x.1.1,(x.2:Int))
inductive ClS (as_:List DAr) (p r:Int×Bool):Int→Prop
  | base {a:DAr}:a∈as_→V4 a p→ClS as_ p r a.2.2.2
  | step {a:DAr}:a∈as_→ClS as_ p r a.1→¬V4 a r→ClS as_ p r a.2.2.2
def QeL (p:Int×Bool)(l:List Int)(a:DAr):List Int:=if V4 a p then Xa ltI a.2.2.2 l else l
def Wf (r:Int×Bool)(l:List Int)(a:DAr):List Int:=if a.1∈l∧¬V4 a r then Xa ltI a.2.2.2 l else l
def WC {α:Type}(f:α→α):Nat→α→α
  | 0,x=>x
  | n+1,x=>f (WC f n x)
def KG (c:DSg)(p r:Int×Bool):List Int:=WC (fun l=>c.2.2.foldl (Wf r) l) c.2.1.length (c.2.2.foldl (QeL p) [])
theorem Qmi {α:Type}{f:α→α}{I:α→Prop}{m:α→Nat}{n:Nat}(hI:∀x,I x→I (f x))(hm:∀x,I x→m x≤n)(hs:∀x,I x→f x=x∨m x < m (f x)){x:α}(hx:I x):f (WC f n x)=WC f n x:=by
  have h1:∀k,I (WC f k x):=fun k=>by
    induction k with
    | zero=>exact hx
    | succ k ih=>exact hI _ ih
  have h2:∀k,f (WC f k x)=WC f k x∨k≤m (WC f k x):=fun k=>by
    induction k with
    | zero=>exact .inr (Nat.zero_le _)
    | succ k ih=>
      rcases ih with h | h
      · exact .inl (by show f (f (WC f k x))=f (WC f k x); rw[h,h])
      · rcases hs _ (h1 k) with h3 | h3
        · exact .inl (by show f (f (WC f k x))=f (WC f k x); rw[h3,h3])
        · exact .inr (by show k+1≤m (f (WC f k x)); omega)
  rcases h2 n with h | h
  · exact h
  · rcases hs _ (h1 n) with h3 | h3
    · exact h3
    · have:=hm _ (hI _ (h1 n)); omega
section
variable {c:DSg}{as_:List DAr}{a:DAr}{p r:Int×Bool}{k i j n:Nat}{l out ts ys L:List Int}{seen:List Bool}{x y o q at_:Int}
theorem QfC:∀{l:List Int} {lo hi:Int},l.Pairwise (fun x y=>ltI x y=true)→(∀x∈l,lo≤x∧x < hi)→lo≤hi→(l.length:Int)≤hi - lo
  | [],_,_,_,_,h=>by simp; omega
  | x :: l,lo,hi,h1,h2,h3=>by
    obtain ⟨h4,h5⟩:=List.pairwise_cons.1 h1
    have h6:=h2 x (List.mem_cons_self ..)
    have:=QfC (l:=l) (lo:=x+1) (hi:=hi) h5 (fun y hy=>by have k1:=h4 y hy; have k2:=h2 y (List.mem_cons_of_mem _ hy); simp only[ltI,decide_eq_true_eq] at k1; omega) (by omega)
    simp only[List.length_cons]; omega
theorem Qj3 (h:l.Nodup)(hr:∀x∈l,0≤x∧x < (n:Int)):l.length≤n:=by
  have h1:(Qb3 l).Nodup:=(JH l).nodup_iff.2 h
  have h2:(Qb3 l).Pairwise fun x y=>ltI x y=true:=by
    have:=(Qfq l).and h1
    exact this.imp fun ⟨k1,k2⟩=>by simp only[ltI,decide_eq_true_eq]; omega
  have:=QfC h2 (lo:=0) (hi:=n) (fun x hx=>hr x (Qko.1 hx)) (by omega)
  rw[Qks] at this
  omega
abbrev Qpq (l:List Int):Prop:=l.Pairwise fun x y=>ltI x y=true
theorem QbJ:∀(x:Int) (l:List Int),Xa ltI x l=l∨(Xa ltI x l).length=l.length+1
  | x,[]=> .inr rfl
  | x,y :: l=>by
    unfold Xa
    split
    · rcases QbJ x l with h | h
      · exact .inl (by rw[h])
      · exact .inr (by simp[h])
    · split
      · exact .inl rfl
      · exact .inr rfl
theorem QgU:Wf r l a=l∨(Wf r l a).length=l.length+1:=by
  unfold Wf
  split
  · exact QbJ _ _
  · exact .inl rfl
theorem Hx:∀(as_:List DAr) (l:List Int),as_.foldl (Wf r) l=l∨l.length < (as_.foldl (Wf r) l).length
  | [],l=> .inl rfl
  | a :: as_,l=>by
    rw[List.foldl_cons]
    rcases Hx as_ (Wf r l a) with h | h <;> rcases QgU (r:=r) (l:=l) (a:=a) with h2 | h2
    · exact .inl (by rw[h,h2])
    · exact .inr (by rw[h]; omega)
    · rw[h2] at h ⊢; exact .inr h
    · exact .inr (by omega)
structure BlS (c:DSg) (p r:Int×Bool) (l:List Int):Prop where
  str:Qpq l
  cl:∀x∈l,ClS c.2.2 p r x
theorem BlS.put (h:BlS c p r l)(hx:ClS c.2.2 p r x):BlS c p r (Xa ltI x l):=⟨Qgu Ka h.str,fun y hy=>by
  rcases Vh.1 hy with rfl | hy
  · exact hx
  · exact h.cl y hy⟩
theorem H7:∀{as_:List DAr} {l:List Int},(∀a∈as_,a∈c.2.2)→BlS c p r l→BlS c p r (as_.foldl (QeL p) l)∧(∀x∈l,x∈as_.foldl (QeL p) l)∧∀a∈as_,V4 a p→a.2.2.2∈as_.foldl (QeL p) l
  | [],l,_,h=>⟨h,fun x hx=>hx,fun a ha=>by cases ha⟩
  | a :: as_,l,hs,h=>by
    have h1:BlS c p r (QeL p l a)∧(∀x∈l,x∈QeL p l a)∧(V4 a p→a.2.2.2∈QeL p l a):=by
      unfold QeL
      split
      · rename_i hl
        exact ⟨h.put (.base (hs a (List.mem_cons_self ..)) hl),fun x hx=>Vh.2 (.inr hx),fun _=>Vh.2 (.inl rfl)⟩
      · rename_i hl
        exact ⟨h,fun x hx=>hx,fun hp=>absurd hp hl⟩
    obtain ⟨i1,i2,i3⟩:=H7 (l:=QeL p l a) (fun b hb=>hs b (List.mem_cons_of_mem _ hb)) h1.1
    refine ⟨i1,fun x hx=>i2 x (h1.2.1 x hx),fun b hb hp=> ?_⟩
    rcases List.mem_cons.1 hb with rfl | hb
    · exact i2 _ (h1.2.2 hp)
    · exact i3 b hb hp
theorem X1:∀{as_:List DAr} {l:List Int},(∀a∈as_,a∈c.2.2)→BlS c p r l→BlS c p r (as_.foldl (Wf r) l)∧(∀x∈l,x∈as_.foldl (Wf r) l)∧∀a∈as_,a.1∈l→¬V4 a r→a.2.2.2∈as_.foldl (Wf r) l
  | [],l,_,h=>⟨h,fun x hx=>hx,fun a ha=>by cases ha⟩
  | a :: as_,l,hs,h=>by
    have h1:BlS c p r (Wf r l a)∧(∀x∈l,x∈Wf r l a)∧(a.1∈l→¬V4 a r→a.2.2.2∈Wf r l a):=by
      unfold Wf
      split
      · rename_i hl
        exact ⟨h.put (.step (hs a (List.mem_cons_self ..)) (h.cl _ hl.1) hl.2),fun x hx=>Vh.2 (.inr hx),fun _ _=>Vh.2 (.inl rfl)⟩
      · rename_i hl
        exact ⟨h,fun x hx=>hx,fun h1 h2=>absurd ⟨h1,h2⟩ hl⟩
    obtain ⟨i1,i2,i3⟩:=X1 (l:=Wf r l a) (fun b hb=>hs b (List.mem_cons_of_mem _ hb)) h1.1
    refine ⟨i1,fun x hx=>i2 x (h1.2.1 x hx),fun b hb hp hn=> ?_⟩
    rcases List.mem_cons.1 hb with rfl | hb
    · exact i2 _ (h1.2.2 hp hn)
    · exact i3 b hb (h1.2.1 _ hp) hn
theorem Qng (hr:∀a∈as_,0≤a.2.2.2∧a.2.2.2 < (n:Int))(h:ClS as_ p r x):0≤x∧x < (n:Int):=by
  cases h with
  | base h1 _=>exact hr _ h1
  | step h1 _ _=>exact hr _ h1
theorem Qdc {f:List Int→List Int}(hf:∀l,BlS c p r l→BlS c p r (f l)∧∀x∈l,x∈f l)(h:BlS c p r l):∀k,BlS c p r (WC f k l)∧∀x∈l,x∈WC f k l
  | 0=>⟨h,fun x hx=>hx⟩
  | k+1=>by
    obtain ⟨h1,h2⟩:=Qdc hf h k
    obtain ⟨h3,h4⟩:=hf _ h1
    exact ⟨h3,fun x hx=>h4 x (h2 x hx)⟩
theorem QbO (c:DSg)(p r:Int×Bool):BlS c p r (KG c p r):=
  (Qdc (fun l hl=>⟨(X1 (fun _ h=>h) hl).1,(X1 (fun _ h=>h) hl).2.1⟩) (H7 (fun _ h=>h) ⟨List.Pairwise.nil,fun x hx=>by cases hx⟩).1 _).1
theorem Qhs (hr:∀a∈c.2.2,InR c.2.1.length a):x∈KG c p r↔ClS c.2.2 p r x:=by
  have h0:BlS c p r ([]:List Int):=⟨List.Pairwise.nil,fun x hx=>by cases hx⟩
  obtain ⟨a1,a2,a3⟩:=H7 (as_:=c.2.2) (fun _ h=>h) h0
  have hrt:∀a∈c.2.2,0≤a.2.2.2∧a.2.2.2 < (c.2.1.length:Int):=fun a ha=>(hr a ha).2
  have hfx:=Qmi (f:=fun l=>c.2.2.foldl (Wf r) l) (I:=BlS c p r) (m:=List.length) (n:=c.2.1.length) (fun l hl=>(X1 (fun _ h=>h) hl).1)
    (fun l hl=>by have:=QfC hl.str (lo:=0) (hi:=c.2.1.length) (fun x hx=>Qng hrt (hl.cl x hx)) (by omega); omega) (fun l _=>Hx _ _) a1
  have hsub:=(Qdc (f:=fun l=>c.2.2.foldl (Wf r) l) (fun l hl=>⟨(X1 (fun _ h=>h) hl).1,(X1 (fun _ h=>h) hl).2.1⟩) a1 c.2.1.length)
  refine ⟨(QbO c p r).cl x,fun h=> ?_⟩
  induction h with
  | base h1 h2=>exact hsub.2 _ (a3 _ h1 h2)
  | step h1 _ h2 ih=>
    have:=(X1 (r:=r) (fun _ h=>h) hsub.1).2.2 _ h1 ih h2
    rw[hfx] at this
    exact this
def mkS (n:Nat)(l:List Int):List Bool:=l.foldl (fun s x=>s.set x.toNat true) (List.replicate n false)
theorem Qm1:(mkS n l).length=n:=by
  unfold mkS
  have:∀(l:List Int) (s:List Bool),(l.foldl (fun s x=>s.set x.toNat true) s).length=s.length:=fun l=>by
    induction l with
    | nil=>intro s; rfl
    | cons x l ih=>intro s; rw[List.foldl_cons,ih,List.length_set]
  rw[this]; simp
theorem QoG (hr:∀x∈l,0≤x∧x < (n:Int))(h0:0≤x)(h1:x < (n:Int)):(mkS n l)[x.toNat]? =some true↔x∈l:=by
  unfold mkS
  have:∀(l:List Int) (s:List Bool),s.length=n→(∀x∈l,0≤x∧x < (n:Int))→((l.foldl (fun s x=>s.set x.toNat true) s)[x.toNat]? =some true↔s[x.toNat]? =some true∨x∈l):=fun l=>by
    induction l with
    | nil=>intro s _ _; simp
    | cons y l ih=>
      intro s hs hr
      have hy:=hr y (List.mem_cons_self ..)
      rw[List.foldl_cons,ih _ (by rw[List.length_set]; exact hs) fun z hz=>hr z (List.mem_cons_of_mem _ hz),List.mem_cons]
      by_cases e:x=y
      · subst e
        rw[List.getElem?_set_self (by omega)]; simp
      · rw[List.getElem?_set_ne (by omega)]; simp[e]
  rw[this l _ (by simp) hr]
  simp[List.getElem?_replicate]
structure BlI (c:DSg) (p r:Int×Bool) (at_:Int) (out:List Int) (seen:List Bool):Prop where
  rng:0≤at_∧at_≤(out.length:Int)
  nd:out.Nodup
  q:∀x∈out,(0≤x∧x < (c.2.1.length:Int))∧ClS c.2.2 p r x
  sn:seen.length=c.2.1.length
  se:∀x,0≤x→x < (c.2.1.length:Int)→(seen[x.toNat]? =some true↔x∈out)
  base:∀a∈c.2.2,V4 a p→a.2.2.2∈out
  cl:∀(j:Nat) (o:Int),(j:Int) < at_→out[j]? =some o→∀a∈c.2.2,a.1=o→¬V4 a r→a.2.2.2∈out
theorem QeO:x∈swL as_ p↔∃a∈as_,V4 a p∧a.2.2.2=x:=by
  unfold swL
  simp only[List.mem_map,List.mem_filter,decide_eq_true_eq]
  constructor
  · rintro ⟨a,⟨h1,h2⟩,h3⟩; exact ⟨a,h1,h2,h3⟩
  · rintro ⟨a,h1,h2,h3⟩; exact ⟨a,⟨h1,h2⟩,h3⟩
theorem Qmy (hr:∀a∈c.2.2,InR c.2.1.length a)(h:out=ofG ltI (swL c.2.2 p))(hx:x∈out):0≤x∧x < (c.2.1.length:Int):=by
  subst h
  obtain ⟨a,h1,_,rfl⟩:=QeO.1 ((UL Ka _).1 hx)
  exact (hr a h1).2
theorem Qj5 (h:Qpq l):l.Nodup:=h.imp fun h=>by simp only[ltI,decide_eq_true_eq] at h; omega
theorem BlI.start (hr:∀a∈c.2.2,InR c.2.1.length a)(h:out=ofG ltI (swL c.2.2 p))(hs:seen=mkS c.2.1.length out):BlI c p r 0 out seen where
  rng:=by omega
  nd:=by rw[h]; exact Qj5 (Qbw Ka _)
  q x hx:=⟨Qmy hr h hx,by
    rw[h] at hx
    obtain ⟨a,h1,h2,rfl⟩:=QeO.1 ((UL Ka _).1 hx)
    exact .base h1 h2⟩
  sn:=by rw[hs,Qm1]
  se x h0 h1:=by rw[hs]; exact QoG (fun y hy=>Qmy hr h hy) h0 h1
  base a h1 h2:=by rw[h]; exact (UL Ka _).2 (QeO.2 ⟨a,h1,h2,rfl⟩)
  cl j o hj:=by omega
theorem BlI.few (h:BlI c p r at_ out seen):out.length≤c.2.1.length:=Qj3 h.nd fun x hx=>(h.q x hx).1
theorem BlI.inr (h:BlI c p r at_ out seen)(hx:out[k]? =some x):0≤x∧x < (c.2.1.length:Int):=(h.q x (List.mem_of_getElem? hx)).1
theorem BlI.push (h:BlI c p r at_ out seen)(hr:∀a∈c.2.2,InR c.2.1.length a)(ho:o∈out)(ha:a∈c.2.2)(h1:a.1=o)(h2:¬V4 a r)(hs:seen[a.2.2.2.toNat]? =some false):BlI c p r at_ (out++[a.2.2.2]) (seen.set a.2.2.2.toNat true):=by
  have hra:=(hr a ha).2
  have hno:a.2.2.2∉out:=fun hm=>by have:=(h.se _ hra.1 hra.2).2 hm; rw[hs] at this; cases this
  have hk:=h.sn
  refine ⟨by have:=h.rng; simp; omega, ?_,fun x hx=> ?_,by rw[List.length_set]; exact hk,fun x h0 h3=> ?_,fun b hb hl=>List.mem_append_left _ (h.base b hb hl),fun j o' hj hx b hb e1 e2=> ?_⟩
  · rw [List.nodup_append]
    exact ⟨h.nd,by simp,fun x hx y hy e=>by rw[List.mem_singleton] at hy; rw[e,hy] at hx; exact hno hx⟩
  · rcases List.mem_append.1 hx with hx | hx
    · exact h.q x hx
    · rw [List.mem_singleton] at hx; subst hx
      exact ⟨hra, .step ha (by rw[h1]; exact (h.q o ho).2) h2⟩
  · rw [List.mem_append, List.mem_singleton]
    by_cases e:x=a.2.2.2
    · subst e; rw[List.getElem?_set_self (by omega)]; simp
    · rw[List.getElem?_set_ne (by omega),h.se x h0 h3]; simp[e]
  · have hjl := h.rng
    rw[List.getElem?_append_left (by omega)] at hx
    exact List.mem_append_left _ (h.cl j o' hj hx b hb e1 e2)
theorem Qpv (h:BlI c p r at_ out seen)(h0:at_ < (out.length:Int))(ho:out[at_.toNat]? =some o)(hc:∀a∈c.2.2,a.1=o→¬V4 a r→a.2.2.2∈out):BlI c p r (at_+1) out seen:=by
  refine ⟨by have:=h.rng; omega,h.nd,h.q,h.sn,h.se,h.base,fun j o' hj hx=> ?_⟩
  by_cases e:(j:Int)=at_
  · have : j = at_.toNat := by omega
    subst this
    rw[ho] at hx; cases hx
    exact hc
  · exact h.cl j o' (by omega) hx
theorem QpO (h:BlI c p r at_ out seen)(hr:∀a∈c.2.2,InR c.2.1.length a)(h0:¬at_ < (out.length:Int)):ofG ltI out=KG c p r:=by
  refine TO.ext Ka (Qbw Ka _) (QbO c p r).str fun x=> ?_
  rw[UL Ka,Qhs hr]
  refine ⟨fun hx=>(h.q x hx).2,fun hx=> ?_⟩
  induction hx with
  | base h1 h2=>exact h.base _ h1 h2
  | step h1 _ h2 ih=>
    obtain ⟨j,hj⟩:=List.mem_iff_getElem?.1 ih
    have:=(List.getElem?_eq_some_iff.1 hj).1
    exact h.cl j _ (by omega) hj _ h1 rfl h2
end
section
variable {c:DSg}{as_:List DAr}{a:DAr}{p r:Int×Bool}{k i j n:Nat}{l:List Int}
end
end Go.Proofs.YtnakmhfjafecpaaGreat
namespace Go.Proofs.YtnakmhfjafecpaaGreat
open Go.RowKit
set_option maxRecDepth 100000
set_option maxHeartbeats 4000000
def sg0 (n:Nat)(block:List Int):List UInt8:=(List.range n).map fun k:Nat=>if (k:Int)∈block then (49:UInt8) else 48
def Qk9 (block:List Int)(s:List UInt8)(a:DAr):List UInt8:=if¬a.1∈block∧a.2.2.2∈block then s.set a.2.2.2.toNat 43 else if a.1∈block∧¬a.2.2.2∈block then s.set a.2.2.2.toNat 45 else s
def inA (c:DSg)(a:DAr):Bool:=decide (a.2.1 < 0)||decide (((c.1[a.2.1.toNat]?).getD (ByteArray.empty,0)).2=1)
def sAt (s:List UInt8)(x:Int):UInt8:=(s[x.toNat]?).getD 0
def Jj (c:DSg)(block:List Int)(s:List UInt8)(a:DAr):List UInt8:=if (sAt s a.1=43∨sAt s a.1=45)∧inA c a=true∧(a.1∈block↔a.2.2.2∈block) then s.set a.2.2.2.toNat (sAt s a.1) else s
def Qlf (c:DSg)(block:List Int)(s:List UInt8):List UInt8:=c.2.2.foldl (Jj c block) s
def Qph (c:DSg)(block:List Int):List UInt8:=c.2.2.foldl (Qk9 block) (sg0 c.2.1.length block)
def Qp1 (c:DSg)(block:List Int):List UInt8:=WC (Qlf c block) c.2.1.length (Qph c block)
def QoA (c:DSg)(block:List Int):ByteArray:=⟨(Qp1 c block).toArray⟩
structure SI (n:Nat) (block:List Int) (s:List UInt8):Prop where
  len:s.length=n
  at_:∀x:Int,0≤x→x < (n:Int)→(x∈block∧(sAt s x=49∨sAt s x=43))∨(¬x∈block∧(sAt s x=48∨sAt s x=45))
def nMk (s:List UInt8):Nat:=(s.filter fun x=>decide (x=43∨x=45)).length
def cMk (s:List UInt8):Nat:=(s.filter fun x=> !decide (x=43∨x=45)).length
section
variable {c:DSg}{as_:List DAr}{a:DAr}{block:List Int}{k i n m:Nat}{s s2 sg:List UInt8}{x y:Int}{z zf zt u v:UInt8}{ch:Bool}
theorem QkE {α:Type}{l:List α}{j:Nat}{w:α}(h:l[j]? =some w):l.set j w=l:=by
  apply List.ext_getElem?
  intro i
  by_cases e:j=i
  · subst e; rw[List.getElem?_set_self (List.getElem?_eq_some_iff.1 h).1,h]
  · rw[List.getElem?_set_ne e]
theorem QnH (h:s[x.toNat]? =some z):sAt s x=z:=by unfold sAt; rw[h]; rfl
theorem QnJ (hl:s.length=n)(h0:0≤y)(h1:y < (n:Int))(h2:0≤x):sAt (s.set y.toNat z) x=if x=y then z else sAt s x:=by
  unfold sAt
  by_cases e:x=y
  · subst e; rw[List.getElem?_set_self (by omega),if_pos rfl]; rfl
  · rw[List.getElem?_set_ne (by omega),if_neg e]
theorem SI.set (h:SI n block s)(h0:0≤y)(h1:y < (n:Int))(hz:(y∈block∧z=43)∨(¬y∈block∧z=45)):SI n block (s.set y.toNat z):=by
  refine ⟨by rw[List.length_set]; exact h.len,fun x k0 k1=> ?_⟩
  rw[QnJ h.len h0 h1 k0]
  by_cases e:x=y
  · subst e
    rw[if_pos rfl]
    rcases hz with ⟨g1,g2⟩ | ⟨g1,g2⟩
    · exact .inl ⟨g1, .inr g2⟩
    · exact .inr ⟨g1, .inr g2⟩
  · rw[if_neg e]; exact h.at_ x k0 k1
theorem QpN (h:SI n block s)(ha:InR n a):SI n block (Qk9 block s a):=by
  unfold Qk9
  split
  · rename_i g; exact h.set ha.2.1 ha.2.2 (.inl ⟨g.2,rfl⟩)
  · split
    · rename_i g; exact h.set ha.2.1 ha.2.2 (.inr ⟨g.2,rfl⟩)
    · exact h
theorem SI.val (h:SI n block s)(ha:InR n a)(h1:sAt s a.1=43∨sAt s a.1=45)(h2:a.1∈block↔a.2.2.2∈block):(a.2.2.2∈block∧sAt s a.1=43)∨(¬a.2.2.2∈block∧sAt s a.1=45):=by
  rcases h.at_ a.1 ha.1.1 ha.1.2 with ⟨g1,g2⟩ | ⟨g1,g2⟩
  · refine .inl ⟨h2.1 g1, ?_⟩
    rcases g2 with g2 | g2
    · rw[g2] at h1; rcases h1 with h1 | h1 <;> exact absurd h1 (by decide)
    · exact g2
  · refine .inr ⟨fun g => g1 (h2.2 g), ?_⟩
    rcases g2 with g2 | g2
    · rw[g2] at h1; rcases h1 with h1 | h1 <;> exact absurd h1 (by decide)
    · exact g2
theorem QfN (q:UInt8→Bool):∀{s:List UInt8} {j:Nat} {u v:UInt8},s[j]? =some u→q u=false→q v=true→((s.set j v).filter q).length=(s.filter q).length+1
  | [],j,u,v,h,_,_=>by simp at h
  | w :: s,0,u,v,h,h1,h2=>by
    simp at h; subst h
    simp[h1,h2]
  | w :: s,j+1,u,v,h,h1,h2=>by
    have ih:=QfN q (s:=s) (j:=j) (by simpa using h) h1 h2
    rw[List.set_cons_succ]
    by_cases e:q w=true
    · rw[List.filter_cons_of_pos e,List.filter_cons_of_pos e,List.length_cons,List.length_cons,ih]
    · rw[List.filter_cons_of_neg e,List.filter_cons_of_neg e,ih]
theorem QdH (q:UInt8→Bool):∀{s:List UInt8} {j:Nat} {u v:UInt8},s[j]? =some u→q u=true→q v=false→((s.set j v).filter q).length+1=(s.filter q).length
  | [],j,u,v,h,_,_=>by simp at h
  | w :: s,0,u,v,h,h1,h2=>by
    simp at h; subst h
    simp[h1,h2]
  | w :: s,j+1,u,v,h,h1,h2=>by
    have ih:=QdH q (s:=s) (j:=j) (by simpa using h) h1 h2
    rw[List.set_cons_succ]
    by_cases e:q w=true
    · rw[List.filter_cons_of_pos e,List.filter_cons_of_pos e,List.length_cons,List.length_cons,ih]
    · rw[List.filter_cons_of_neg e,List.filter_cons_of_neg e,ih]
theorem Qip (h:SI n block s)(ha:InR n a):SI n block (Jj c block s a)∧(Jj c block s a=s∨(nMk s < nMk (Jj c block s a)∧cMk (Jj c block s a) < cMk s)):=by
  unfold Jj
  split
  · rename_i g
    have hv:=h.val ha g.1 g.2.2
    refine ⟨h.set ha.2.1 ha.2.2 hv, ?_⟩
    have hl:=h.len
    have hg:s[a.2.2.2.toNat]? =some (sAt s a.2.2.2):=by
      unfold sAt
      rw[List.getElem?_eq_getElem (by have:=ha.2; omega)]; rfl
    by_cases e:sAt s a.2.2.2=sAt s a.1
    · exact .inl (by rw[← e]; exact QkE hg)
    · right
      have hu:¬(sAt s a.2.2.2=43∨sAt s a.2.2.2=45):=fun hu=>by
        rcases h.at_ a.2.2.2 ha.2.1 ha.2.2 with ⟨g1,g2⟩ | ⟨g1,g2⟩ <;> rcases hv with ⟨v1,v2⟩ | ⟨v1,v2⟩
        · rcases g2 with g2 | g2
          · rw[g2] at hu; rcases hu with hu | hu <;> exact absurd hu (by decide)
          · exact e (g2.trans v2.symm)
        · exact v1 g1
        · exact g1 v1
        · rcases g2 with g2 | g2
          · rw[g2] at hu; rcases hu with hu | hu <;> exact absurd hu (by decide)
          · exact e (g2.trans v2.symm)
      constructor
      · unfold nMk
        rw[QfN _ hg (decide_eq_false hu) (decide_eq_true g.1)]; omega
      · unfold cMk
        have:=QdH (fun x=> !decide (x=43∨x=45)) hg (by simp only[decide_eq_false hu]; rfl) (v:=sAt s a.1) (by simp only[decide_eq_true g.1]; rfl)
        omega
  · exact ⟨h, .inl rfl⟩
structure PI (c:DSg) (block:List Int) (sg:List UInt8) (i:Nat) (s:List UInt8) (ch:Bool):Prop where
  si:SI c.2.1.length block s
  eq:Qlf c block sg=(c.2.2.drop i).foldl (Jj c block) s
  no:ch=false→s=sg
  yes:ch=true→cMk s < cMk sg
  le:cMk s≤cMk sg
theorem PI.start (h:SI c.2.1.length block sg):PI c block sg 0 sg false:=⟨h,rfl,fun _=>rfl,(fun h=>by cases h),Nat.le_refl _⟩
theorem QiW (hx:as_[i]? =some a):as_.drop i=a :: as_.drop (i+1):=by
  obtain ⟨h1,h2⟩:=List.getElem?_eq_some_iff.1 hx
  rw[List.drop_eq_getElem_cons h1,h2]
theorem PI.skip (h:PI c block sg i s ch)(hx:c.2.2[i]? =some a)(hn:Jj c block s a=s):PI c block sg (i+1) s ch:=⟨h.si,by rw[h.eq,QiW hx,List.foldl_cons,hn],h.no,h.yes,h.le⟩
theorem Qqa (h:PI c block sg i s ch)(hr:∀a∈c.2.2,InR c.2.1.length a)(hx:c.2.2[i]? =some a)(h1:s[a.1.toNat]? =some u)(h2:s[a.2.2.2.toNat]? =some v)(hm:u=43∨u=45)(hi:inA c a=true)(hb:a.1∈block↔a.2.2.2∈block)(hne:¬v=u):PI c block sg (i+1) (s.set a.2.2.2.toNat u) true:=by
  have ha:=hr a (List.mem_of_getElem? hx)
  have hmv:Jj c block s a=s.set a.2.2.2.toNat u:=by
    unfold Jj
    rw[QnH h1,if_pos ⟨hm,hi,hb⟩]
  obtain ⟨k1,k2⟩:=Qip (c:=c) h.si ha
  rw[hmv] at k1 k2
  have k3:¬s.set a.2.2.2.toNat u=s:=fun e=>by
    have h3:(s.set a.2.2.2.toNat u)[a.2.2.2.toNat]? =some u:=List.getElem?_set_self (List.getElem?_eq_some_iff.1 h2).1
    rw[e,h2] at h3
    cases h3; exact hne rfl
  have k4:=(k2.resolve_left k3).2
  have:=h.le
  exact ⟨k1,by rw[h.eq,QiW hx,List.foldl_cons,hmv],(fun h=>by cases h),fun _=>by omega,by omega⟩
theorem PI.end_ (h:PI c block sg i s ch)(hi:c.2.2.length≤i):s=Qlf c block sg:=by rw[h.eq,List.drop_eq_nil_of_le hi]; rfl
theorem QnK {c:DSg}{a:DAr}(h:Qkn (c.1.length:Int) (a.2.1,a.2.2.1)):a.2.1 < (c.1.length:Int):=by
  rcases h with h | h
  · have:=h.2; simp only at this; omega
  · have:=h.1; simp only at this; omega
end
end Go.Proofs.YtnakmhfjafecpaaGreat
namespace Go.Proofs.YtnakmhfjafecpaaGreat
open Go.RowKit
set_option maxRecDepth 100000
set_option maxHeartbeats 4000000
def sgF (n:Nat)(block:List Int)(k:Nat):List UInt8:=sg0 k block++List.replicate (n - k) 0
def okB (c:DSg)(p r:Int×Bool):Bool:=Qob c (QoA c (KG c p r))&&(decide (0 < ((KG c p r).length:Int))&&decide (((KG c p r).length:Int) < (c.2.1.length:Int)))
def Qqv (c:DSg)(p r:Int×Bool):ByteArray:=if okB c p r=true then QoA c (KG c p r) else ⟨#[]⟩
section
variable {c:DSg}{as_:List DAr}{a:DAr}{block:List Int}{k i j n:Nat}{s:List UInt8}{u:UInt8}{p r:Int×Bool}{x:Zc}
end
end Go.Proofs.YtnakmhfjafecpaaGreat
