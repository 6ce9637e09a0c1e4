/- Walks over abstract states: the block of states in which a state signal is set, both sides. -/
import Derived.Test.YtnakmhfjafecpaaGreatUa
set_option linter.unusedSimpArgs false
set_option linter.unusedVariables false
set_option linter.unusedSectionVars false
namespace Go.Proofs.YtnakmhfjafecpaaGreat
open Go.RowKit
set_option maxRecDepth 100000
set_option maxHeartbeats 4000000
abbrev X6 (a:DAr)(l:Int×Bool):Prop:=a.2.1=l.1∧a.2.2.1=l.2
def ixE (as_:List DAr):List (Int×Int):=as_.zipIdx.map fun x=>(x.1.1,(x.2:Int))
inductive ClS (as_:List DAr) (p r:Int×Bool):Int→Prop
  | base {a:DAr}:a∈as_→X6 a p→ClS as_ p r a.2.2.2
  | step {a:DAr}:a∈as_→ClS as_ p r a.1→¬X6 a r→ClS as_ p r a.2.2.2
def Wp (p:Int×Bool)(l:List Int)(a:DAr):List Int:=if X6 a p then XB ltI a.2.2.2 l else l
def Ye (r:Int×Bool)(l:List Int)(a:DAr):List Int:=if a.1∈l∧¬X6 a r then XB ltI a.2.2.2 l else l
def Zb {α:Type}(f:α→α):Nat→α→α
  | 0,x=>x
  | n+1,x=>f (Zb f n x)
def Ql (c:DSg)(p r:Int×Bool):List Int:=Zb (fun l=>c.2.2.foldl (Ye r) l) c.2.1.length (c.2.2.foldl (Wp p) [])
theorem Qf5 {α:Type}{f:α→α}{I:α→Prop}{m:α→Nat}{n:Nat}(hI:∀x,I x→I (f x))(hm:∀x,I x→m x≤n)(hs:∀x,I x→f x=x∨m x < m (f x)){x:α}(hx:I x):f (Zb f n x)=Zb f n x:=by
  have h1:∀k,I (Zb f k x):=fun k=>by
    induction k with
    | zero=>exact hx
    | succ k ih=>exact hI _ ih
  have h2:∀k,f (Zb f k x)=Zb f k x∨k≤m (Zb f k x):=fun k=>by
    induction k with
    | zero=>exact .inr (Nat.zero_le _)
    | succ k ih=>
      rcases ih with h | h
      · exact .inl (by show f (f (Zb f k x))=f (Zb f k x); rw[h,h])
      · rcases hs _ (h1 k) with h3 | h3
        · exact .inl (by show f (f (Zb f k x))=f (Zb f k x); rw[h3,h3])
        · exact .inr (by show k+1≤m (f (Zb f k x)); omega)
  rcases h2 n with h | h
  · exact h
  · rcases hs _ (h1 n) with h3 | h3
    · exact h3
    · have:=hm _ (hI _ (h1 n)); omega
section
variable {c:DSg}{as_:List DAr}{a:DAr}{p r:Int×Bool}{k i j n:Nat}{l out ts ys L:List Int}{seen:List Bool}{x y o q at_:Int}
theorem QeG:(ixE as_).length=as_.length:=by simp[ixE]
theorem Qh3 (hx:as_[k]? =some a):(ixE as_)[k]? =some (a.1,(k:Int)):=by simp[ixE,List.getElem?_zipIdx,hx]
theorem Qj2 {e:Int×Int}:e∈ixE as_↔∃(j:Nat) (a:DAr),as_[j]? =some a∧e=(a.1,(j:Int)):=by
  rw[List.mem_iff_getElem?]
  constructor
  · rintro ⟨j, hj⟩
    have hl:=(List.getElem?_eq_some_iff.1 hj).1
    rw[QeG] at hl
    have ha:as_[j]? =some as_[j]:=List.getElem?_eq_getElem hl
    rw[Qh3 ha] at hj
    exact ⟨j,_,ha,by simpa using hj.symm⟩
  · rintro ⟨j,a,ha,rfl⟩; exact ⟨j,Qh3 ha⟩
theorem Qec (hr:∀a∈as_,0≤a.1)(hy:(ZG n (ixE as_))[i]? =some ys):x∈ys↔∃(j:Nat) (a:DAr),as_[j]? =some a∧a.1=(i:Int)∧x=(j:Int):=by
  have hi:i < n:=by have:=(List.getElem?_eq_some_iff.1 hy).1; rw[WH] at this; exact this
  have h:=Qes (es:=ixE as_) (l:=List.replicate n []) (i:=i) (t:=x) (fun e he=>by obtain ⟨j,a,ha,rfl⟩:=Qj2.1 he; exact hr a (List.mem_of_getElem? ha))
  have hy':((ixE as_).foldl Qag (List.replicate n []))[i]? =some ys:=hy
  rw[hy'] at h
  simp only[Option.getD_some,List.getElem?_replicate,hi,if_true,List.not_mem_nil,List.length_replicate,true_and,false_or] at h
  rw[h,Qj2]
  constructor
  · rintro ⟨j,a,ha,e⟩; exact ⟨j,a,ha,by have:=congrArg Prod.fst e; exact this.symm,congrArg Prod.snd e⟩
  · rintro ⟨j,a,ha,e1,e2⟩; exact ⟨j,a,ha,by rw[e1,e2]⟩
theorem U7:∀{l:List Int} {lo hi:Int},l.Pairwise (fun x y=>ltI x y=true)→(∀x∈l,lo≤x∧x < hi)→lo≤hi→(l.length:Int)≤hi - lo
  | [],_,_,_,_,h=>by simp; omega
  | x :: l,lo,hi,h1,h2,h3=>by
    obtain ⟨h4,h5⟩:=List.pairwise_cons.1 h1
    have h6:=h2 x (List.mem_cons_self ..)
    have:=U7 (l:=l) (lo:=x+1) (hi:=hi) h5 (fun y hy=>by have k1:=h4 y hy; have k2:=h2 y (List.mem_cons_of_mem _ hy); simp only[ltI,decide_eq_true_eq] at k1; omega) (by omega)
    simp only[List.length_cons]; omega
theorem QkG (h:l.Nodup)(hr:∀x∈l,0≤x∧x < (n:Int)):l.length≤n:=by
  have h1:(WW l).Nodup:=(JD l).nodup_iff.2 h
  have h2:(WW l).Pairwise fun x y=>ltI x y=true:=by
    have:=(HT l).and h1
    exact this.imp fun ⟨k1,k2⟩=>by simp only[ltI,decide_eq_true_eq]; omega
  have:=U7 h2 (lo:=0) (hi:=n) (fun x hx=>hr x (QaS.1 hx)) (by omega)
  rw[QaG] at this
  omega
abbrev Qkm (l:List Int):Prop:=l.Pairwise fun x y=>ltI x y=true
theorem UN:∀(x:Int) (l:List Int),XB ltI x l=l∨(XB ltI x l).length=l.length+1
  | x,[]=> .inr rfl
  | x,y :: l=>by
    unfold XB
    split
    · rcases UN x l with h | h
      · exact .inl (by rw[h])
      · exact .inr (by simp[h])
    · split
      · exact .inl rfl
      · exact .inr rfl
theorem Qgg:Ye r l a=l∨(Ye r l a).length=l.length+1:=by
  unfold Ye
  split
  · exact UN _ _
  · exact .inl rfl
theorem Hg:∀(as_:List DAr) (l:List Int),as_.foldl (Ye r) l=l∨l.length < (as_.foldl (Ye r) l).length
  | [],l=> .inl rfl
  | a :: as_,l=>by
    rw[List.foldl_cons]
    rcases Hg as_ (Ye r l a) with h | h <;> rcases Qgg (r:=r) (l:=l) (a:=a) with h2 | h2
    · exact .inl (by rw[h,h2])
    · exact .inr (by rw[h]; omega)
    · rw[h2] at h ⊢; exact .inr h
    · exact .inr (by omega)
structure BlS (c:DSg) (p r:Int×Bool) (l:List Int):Prop where
  str:Qkm l
  cl:∀x∈l,ClS c.2.2 p r x
theorem BlS.put (h:BlS c p r l)(hx:ClS c.2.2 p r x):BlS c p r (XB ltI x l):=⟨Qdg W4 h.str,fun y hy=>by
  rcases Wm.1 hy with rfl | hy
  · exact hx
  · exact h.cl y hy⟩
theorem KX:∀{as_:List DAr} {l:List Int},(∀a∈as_,a∈c.2.2)→BlS c p r l→BlS c p r (as_.foldl (Wp p) l)∧(∀x∈l,x∈as_.foldl (Wp p) l)∧∀a∈as_,X6 a p→a.2.2.2∈as_.foldl (Wp p) l
  | [],l,_,h=>⟨h,fun x hx=>hx,fun a ha=>by cases ha⟩
  | a :: as_,l,hs,h=>by
    have h1:BlS c p r (Wp p l a)∧(∀x∈l,x∈Wp p l a)∧(X6 a p→a.2.2.2∈Wp p l a):=by
      unfold Wp
      split
      · rename_i hl
        exact ⟨h.put (.base (hs a (List.mem_cons_self ..)) hl),fun x hx=>Wm.2 (.inr hx),fun _=>Wm.2 (.inl rfl)⟩
      · rename_i hl
        exact ⟨h,fun x hx=>hx,fun hp=>absurd hp hl⟩
    obtain ⟨i1,i2,i3⟩:=KX (l:=Wp p l a) (fun b hb=>hs b (List.mem_cons_of_mem _ hb)) h1.1
    refine ⟨i1,fun x hx=>i2 x (h1.2.1 x hx),fun b hb hp=> ?_⟩
    rcases List.mem_cons.1 hb with rfl | hb
    · exact i2 _ (h1.2.2 hp)
    · exact i3 b hb hp
theorem Xf:∀{as_:List DAr} {l:List Int},(∀a∈as_,a∈c.2.2)→BlS c p r l→BlS c p r (as_.foldl (Ye r) l)∧(∀x∈l,x∈as_.foldl (Ye r) l)∧∀a∈as_,a.1∈l→¬X6 a r→a.2.2.2∈as_.foldl (Ye r) l
  | [],l,_,h=>⟨h,fun x hx=>hx,fun a ha=>by cases ha⟩
  | a :: as_,l,hs,h=>by
    have h1:BlS c p r (Ye r l a)∧(∀x∈l,x∈Ye r l a)∧(a.1∈l→¬X6 a r→a.2.2.2∈Ye r l a):=by
      unfold Ye
      split
      · rename_i hl
        exact ⟨h.put (.step (hs a (List.mem_cons_self ..)) (h.cl _ hl.1) hl.2),fun x hx=>Wm.2 (.inr hx),fun _ _=>Wm.2 (.inl rfl)⟩
      · rename_i hl
        exact ⟨h,fun x hx=>hx,fun h1 h2=>absurd ⟨h1,h2⟩ hl⟩
    obtain ⟨i1,i2,i3⟩:=Xf (l:=Ye r l a) (fun b hb=>hs b (List.mem_cons_of_mem _ hb)) h1.1
    refine ⟨i1,fun x hx=>i2 x (h1.2.1 x hx),fun b hb hp hn=> ?_⟩
    rcases List.mem_cons.1 hb with rfl | hb
    · exact i2 _ (h1.2.2 hp hn)
    · exact i3 b hb (h1.2.1 _ hp) hn
theorem QeW (hr:∀a∈as_,0≤a.2.2.2∧a.2.2.2 < (n:Int))(h:ClS as_ p r x):0≤x∧x < (n:Int):=by
  cases h with
  | base h1 _=>exact hr _ h1
  | step h1 _ _=>exact hr _ h1
theorem H0 {f:List Int→List Int}(hf:∀l,BlS c p r l→BlS c p r (f l)∧∀x∈l,x∈f l)(h:BlS c p r l):∀k,BlS c p r (Zb f k l)∧∀x∈l,x∈Zb f k l
  | 0=>⟨h,fun x hx=>hx⟩
  | k+1=>by
    obtain ⟨h1,h2⟩:=H0 hf h k
    obtain ⟨h3,h4⟩:=hf _ h1
    exact ⟨h3,fun x hx=>h4 x (h2 x hx)⟩
theorem UF (c:DSg)(p r:Int×Bool):BlS c p r (Ql c p r):=
  (H0 (fun l hl=>⟨(Xf (fun _ h=>h) hl).1,(Xf (fun _ h=>h) hl).2.1⟩) (KX (fun _ h=>h) ⟨List.Pairwise.nil,fun x hx=>by cases hx⟩).1 _).1
theorem Qhf (hr:∀a∈c.2.2,InR c.2.1.length a):x∈Ql c p r↔ClS c.2.2 p r x:=by
  have h0:BlS c p r ([]:List Int):=⟨List.Pairwise.nil,fun x hx=>by cases hx⟩
  obtain ⟨a1,a2,a3⟩:=KX (as_:=c.2.2) (fun _ h=>h) h0
  have hrt:∀a∈c.2.2,0≤a.2.2.2∧a.2.2.2 < (c.2.1.length:Int):=fun a ha=>(hr a ha).2
  have hfx:=Qf5 (f:=fun l=>c.2.2.foldl (Ye r) l) (I:=BlS c p r) (m:=List.length) (n:=c.2.1.length) (fun l hl=>(Xf (fun _ h=>h) hl).1)
    (fun l hl=>by have:=U7 hl.str (lo:=0) (hi:=c.2.1.length) (fun x hx=>QeW hrt (hl.cl x hx)) (by omega); omega) (fun l _=>Hg _ _) a1
  have hsub:=(H0 (f:=fun l=>c.2.2.foldl (Ye r) l) (fun l hl=>⟨(Xf (fun _ h=>h) hl).1,(Xf (fun _ h=>h) hl).2.1⟩) a1 c.2.1.length)
  refine ⟨(UF c p r).cl x,fun h=> ?_⟩
  induction h with
  | base h1 h2=>exact hsub.2 _ (a3 _ h1 h2)
  | step h1 _ h2 ih=>
    have:=(Xf (r:=r) (fun _ h=>h) hsub.1).2.2 _ h1 ih h2
    rw[hfx] at this
    exact this
def mkS (n:Nat)(l:List Int):List Bool:=l.foldl (fun s x=>s.set x.toNat true) (List.replicate n false)
theorem Qjq:(mkS n l).length=n:=by
  unfold mkS
  have:∀(l:List Int) (s:List Bool),(l.foldl (fun s x=>s.set x.toNat true) s).length=s.length:=fun l=>by
    induction l with
    | nil=>intro s; rfl
    | cons x l ih=>intro s; rw[List.foldl_cons,ih,List.length_set]
  rw[this]; simp
theorem Qll (hx:l[k]? =some x):(mkS n (l.take k)).set x.toNat true=mkS n (l.take (k+1)):=by
  unfold mkS
  rw[Za hx,List.foldl_append]; rfl
theorem Qpy (hr:∀x∈l,0≤x∧x < (n:Int))(h0:0≤x)(h1:x < (n:Int)):(mkS n l)[x.toNat]? =some true↔x∈l:=by
  unfold mkS
  have:∀(l:List Int) (s:List Bool),s.length=n→(∀x∈l,0≤x∧x < (n:Int))→((l.foldl (fun s x=>s.set x.toNat true) s)[x.toNat]? =some true↔s[x.toNat]? =some true∨x∈l):=fun l=>by
    induction l with
    | nil=>intro s _ _; simp
    | cons y l ih=>
      intro s hs hr
      have hy:=hr y (List.mem_cons_self ..)
      rw[List.foldl_cons,ih _ (by rw[List.length_set]; exact hs) fun z hz=>hr z (List.mem_cons_of_mem _ hz),List.mem_cons]
      by_cases e:x=y
      · subst e
        rw[List.getElem?_set_self (by omega)]; simp
      · rw[List.getElem?_set_ne (by omega)]; simp[e]
  rw[this l _ (by simp) hr]
  simp[List.getElem?_replicate]
structure BlI (c:DSg) (p r:Int×Bool) (at_:Int) (out:List Int) (seen:List Bool):Prop where
  rng:0≤at_∧at_≤(out.length:Int)
  nd:out.Nodup
  q:∀x∈out,(0≤x∧x < (c.2.1.length:Int))∧ClS c.2.2 p r x
  sn:seen.length=c.2.1.length
  se:∀x,0≤x→x < (c.2.1.length:Int)→(seen[x.toNat]? =some true↔x∈out)
  base:∀a∈c.2.2,X6 a p→a.2.2.2∈out
  cl:∀(j:Nat) (o:Int),(j:Int) < at_→out[j]? =some o→∀a∈c.2.2,a.1=o→¬X6 a r→a.2.2.2∈out
theorem Qft:x∈swL as_ p↔∃a∈as_,X6 a p∧a.2.2.2=x:=by
  unfold swL
  simp only[List.mem_map,List.mem_filter,decide_eq_true_eq]
  constructor
  · rintro ⟨a,⟨h1,h2⟩,h3⟩; exact ⟨a,h1,h2,h3⟩
  · rintro ⟨a,h1,h2,h3⟩; exact ⟨a,⟨h1,h2⟩,h3⟩
theorem QeJ (hr:∀a∈c.2.2,InR c.2.1.length a)(h:out=ofG ltI (swL c.2.2 p))(hx:x∈out):0≤x∧x < (c.2.1.length:Int):=by
  subst h
  obtain ⟨a,h1,_,rfl⟩:=Qft.1 ((HU W4 _).1 hx)
  exact (hr a h1).2
theorem QoT (hr:∀a∈c.2.2,InR c.2.1.length a)(h:out=ofG ltI (swL c.2.2 p)):out.length≤c.2.1.length:=by
  have:=U7 (l:=out) (lo:=0) (hi:=c.2.1.length) (by rw[h]; exact QbI W4 _) (fun x hx=>QeJ hr h hx) (by omega)
  omega
theorem QkK (h:Qkm l):l.Nodup:=h.imp fun h=>by simp only[ltI,decide_eq_true_eq] at h; omega
theorem BlI.start (hr:∀a∈c.2.2,InR c.2.1.length a)(h:out=ofG ltI (swL c.2.2 p))(hs:seen=mkS c.2.1.length out):BlI c p r 0 out seen where
  rng:=by omega
  nd:=by rw[h]; exact QkK (QbI W4 _)
  q x hx:=⟨QeJ hr h hx,by
    rw[h] at hx
    obtain ⟨a,h1,h2,rfl⟩:=Qft.1 ((HU W4 _).1 hx)
    exact .base h1 h2⟩
  sn:=by rw[hs,Qjq]
  se x h0 h1:=by rw[hs]; exact Qpy (fun y hy=>QeJ hr h hy) h0 h1
  base a h1 h2:=by rw[h]; exact (HU W4 _).2 (Qft.2 ⟨a,h1,h2,rfl⟩)
  cl j o hj:=by omega
theorem BlI.few (h:BlI c p r at_ out seen):out.length≤c.2.1.length:=QkG h.nd fun x hx=>(h.q x hx).1
theorem BlI.inr (h:BlI c p r at_ out seen)(hx:out[k]? =some x):0≤x∧x < (c.2.1.length:Int):=(h.q x (List.mem_of_getElem? hx)).1
theorem BlI.push (h:BlI c p r at_ out seen)(hr:∀a∈c.2.2,InR c.2.1.length a)(ho:o∈out)(ha:a∈c.2.2)(h1:a.1=o)(h2:¬X6 a r)(hs:seen[a.2.2.2.toNat]? =some false):BlI c p r at_ (out++[a.2.2.2]) (seen.set a.2.2.2.toNat true):=by
  have hra:=(hr a ha).2
  have hno:a.2.2.2∉out:=fun hm=>by have:=(h.se _ hra.1 hra.2).2 hm; rw[hs] at this; cases this
  have hk:=h.sn
  refine ⟨by have:=h.rng; simp; omega, ?_,fun x hx=> ?_,by rw[List.length_set]; exact hk,fun x h0 h3=> ?_,fun b hb hl=>List.mem_append_left _ (h.base b hb hl),fun j o' hj hx b hb e1 e2=> ?_⟩
  · rw [List.nodup_append]
    exact ⟨h.nd,by simp,fun x hx y hy e=>by rw[List.mem_singleton] at hy; rw[e,hy] at hx; exact hno hx⟩
  · rcases List.mem_append.1 hx with hx | hx
    · exact h.q x hx
    · rw [List.mem_singleton] at hx; subst hx
      exact ⟨hra, .step ha (by rw[h1]; exact (h.q o ho).2) h2⟩
  · rw [List.mem_append, List.mem_singleton]
    by_cases e:x=a.2.2.2
    · subst e; rw[List.getElem?_set_self (by omega)]; simp
    · rw[List.getElem?_set_ne (by omega),h.se x h0 h3]; simp[e]
  · have hjl := h.rng
    rw[List.getElem?_append_left (by omega)] at hx
    exact List.mem_append_left _ (h.cl j o' hj hx b hb e1 e2)
theorem BlI.next (h:BlI c p r at_ out seen)(h0:at_ < (out.length:Int))(ho:out[at_.toNat]? =some o)(hc:∀a∈c.2.2,a.1=o→¬X6 a r→a.2.2.2∈out):BlI c p r (at_+1) out seen:=by
  refine ⟨by have:=h.rng; omega,h.nd,h.q,h.sn,h.se,h.base,fun j o' hj hx=> ?_⟩
  by_cases e:(j:Int)=at_
  · have : j = at_.toNat := by omega
    subst this
    rw[ho] at hx; cases hx
    exact hc
  · exact h.cl j o' (by omega) hx
theorem BlI.fin (h:BlI c p r at_ out seen)(hr:∀a∈c.2.2,InR c.2.1.length a)(h0:¬at_ < (out.length:Int)):ofG ltI out=Ql c p r:=by
  refine TO.ext W4 (QbI W4 _) (UF c p r).str fun x=> ?_
  rw[HU W4,Qhf hr]
  refine ⟨fun hx=>(h.q x hx).2,fun hx=> ?_⟩
  induction hx with
  | base h1 h2=>exact h.base _ h1 h2
  | step h1 _ h2 ih=>
    obtain ⟨j,hj⟩:=List.mem_iff_getElem?.1 ih
    have:=(List.getElem?_eq_some_iff.1 hj).1
    exact h.cl j _ (by omega) hj _ h1 rfl h2
theorem Qqd {jq:Nat}{aq ar:DAr}(h1:as_[jq]? =some aq)(h2:aq.1=((o.toNat:Nat):Int))(h3:q=(jq:Int))(h4:as_[q.toNat]? =some ar)(h0:0≤o):ar.1=o:=by
  rw[h3] at h4
  have h5:as_[jq]? =some ar:=by simpa using h4
  rw[h1] at h5; cases h5; omega
theorem Qnx (hr:∀a∈c.2.2,InR c.2.1.length a)(hy:(ZG n (ixE c.2.2))[o.toNat]? =some ts)(h0:0≤o)(hT:∀(j:Nat) (q:Int),j < i→ts[j]? =some q→∀a,c.2.2[q.toNat]? =some a→¬X6 a r→a.2.2.2∈out)(hi:ts.length≤i):
    ∀a∈c.2.2,a.1=o→¬X6 a r→a.2.2.2∈out:=fun a ha h1 h2=>by
  obtain ⟨j,hj⟩:=List.mem_iff_getElem?.1 ha
  have hm:(j:Int)∈ts:=(Qec (fun a ha=>(hr a ha).1.1) hy).2 ⟨j,a,hj,by omega,rfl⟩
  obtain ⟨m,hm⟩:=List.mem_iff_getElem?.1 hm
  have:=(List.getElem?_eq_some_iff.1 hm).1
  exact hT m _ (by omega) hm a (by simpa using hj) h2
end
section
variable {c:DSg}{as_:List DAr}{a:DAr}{p r:Int×Bool}{k i j n:Nat}{l:List Int}
theorem QfJ (hx:as_[k]? =some a)(h:X6 a p):XB ltI a.2.2.2 ((as_.take k).foldl (Wp p) [])=(as_.take (k+1)).foldl (Wp p) []:=by
  rw[Za hx,List.foldl_append]; simp[Wp,h]
theorem Qi9 (hx:as_[k]? =some a)(h:¬X6 a p):(as_.take k).foldl (Wp p) []=(as_.take (k+1)).foldl (Wp p) []:=by
  rw[Za hx,List.foldl_append]; simp[Wp,h]
theorem Qa0 (hx:as_[k]? =some a)(h1:a.1∈(as_.take k).foldl (Ye r) l)(h:¬X6 a r):XB ltI a.2.2.2 ((as_.take k).foldl (Ye r) l)=(as_.take (k+1)).foldl (Ye r) l:=by
  rw[Za hx,List.foldl_append]; simp only[List.foldl_cons,List.foldl_nil]; rw[Ye,if_pos ⟨h1,h⟩]
theorem Uz (hx:as_[k]? =some a)(h:¬(a.1∈(as_.take k).foldl (Ye r) l∧¬X6 a r)):(as_.take k).foldl (Ye r) l=(as_.take (k+1)).foldl (Ye r) l:=by
  rw[Za hx,List.foldl_append]; simp only[List.foldl_cons,List.foldl_nil]; rw[Ye,if_neg h]
theorem Qm0:((as_).foldl (Wp p) []).length≤as_.length:=by
  have:∀(as_:List DAr) (l:List Int),(as_.foldl (Wp p) l).length≤l.length+as_.length:=fun as_=>by
    induction as_ with
    | nil=>intro l; simp
    | cons a as_ ih=>
      intro l
      have h1:=ih (Wp p l a)
      have h2:(Wp p l a).length≤l.length+1:=by
        unfold Wp
        split
        · rcases UN a.2.2.2 l with h | h
          · rw[h]; omega
          · omega
        · omega
      rw[List.foldl_cons,List.length_cons]; omega
  simpa using this as_ []
theorem QnT (hr:∀a∈c.2.2,InR c.2.1.length a)(j i:Nat):((c.2.2.take i).foldl (Ye r) (Zb (fun l=>c.2.2.foldl (Ye r) l) j (c.2.2.foldl (Wp p) []))).length≤c.2.1.length:=by
  have h0:BlS c p r ([]:List Int):=⟨List.Pairwise.nil,fun x hx=>by cases hx⟩
  have h1:=(H0 (f:=fun l=>c.2.2.foldl (Ye r) l) (fun l hl=>⟨(Xf (fun _ h=>h) hl).1,(Xf (fun _ h=>h) hl).2.1⟩) (KX (as_:=c.2.2) (fun _ h=>h) h0).1 j).1
  have h2:=(Xf (r:=r) (as_:=c.2.2.take i) (fun a ha=>List.mem_of_mem_take ha) h1).1
  have:=U7 h2.str (lo:=0) (hi:=c.2.1.length) (fun x hx=>QeW (fun a ha=>(hr a ha).2) (h2.cl x hx)) (by omega)
  omega
end
theorem Qaj (c:(List (ByteArray×Int))×List ByteArray×(List (Int×Int×Bool×Int)))(hr:∀a∈c.2.2,InR c.2.1.length a)(hl:c.2.2.length≤4000∧c.2.1.length≤300):FC Tryz.prog 207 [(true,[.dat (.sl 145 (.pr .str .int)) c.1, .dat (.sl 9 .str) c.2.1, .dat (.sl 179 (.pr .int (.pr .int (.pr .bool .int)))) c.2.2])] [] 0 (XZ 106 (.sl 3 .int) (ZG c.2.1.length (ixE c.2.2))):=by
 refine QQ Tryz.func207 rfl rfl Tryz.ntmps207 fun O_ hO w0_ N0_ X_ h0_ f0_=> ?_
 refine w_ ?_
 refine lc (Qr 0 (Qb rfl) rfl rfl (Fresh.of rfl) (nlr rfl)) ?_
 iterate 5 refine w_ ?_
 refine AL.fact (QB (x:= .tmp 7) (Qa rfl)) fun hl1=> ?_
 refine w_ ?_
 refine lc (Vo 1 (e:=(.sl 3 .int)) (n:=c.2.1.length) (Qa rfl) (Qa rfl) YK Qke rfl (by omega) (by omega) rfl (Fresh.of rfl) (nlr rfl)) ?_
 iterate 6 refine w_ ?_
 refine AL.fact (QB (x:= .tmp 11) (Qa rfl)) fun hl2=> ?_
 iterate 4 refine w_ ?_
 refine Qy (fun m_ s_=>∃(k:Nat),k≤c.2.2.length∧m_=c.2.2.length - k∧s_=⟨[(2,lf (.val (.slice none 0 0))),(3,lR 2),(11,lf (.dat (.sl 179 (.pr .int (.pr .int (.pr .bool .int)))) c.2.2)),(12,lI (c.2.2.length:Int)),(13,lI (k:Int))],[(2,some (.arr 106 (.sl 3 .int) (ZG c.2.1.length ((ixE c.2.2).take k))))]⟩) ⟨0,Nat.zero_le _,rfl,rfl⟩ ?_ ?_
 · exact Wk.of [(2,1)] rfl ⟨rfl,rfl,rfl,rfl,rfl,trivial⟩ ⟨(Qv (by simp only[List.take_zero]; rfl)),trivial⟩ rfl rfl
 rintro m_ s_ ⟨k,hk3,hm4,rfl⟩
 iterate 4 refine w_ ?_
 cases hb5:(decide ((k:Int) < (c.2.2.length:Int)))
 ·have hb5':=of_decide_eq_false hb5
  refine w_ ?_
  refine QA ?_
  refine (?_:AC _ _ _ _ _)
  iterate 4 refine w_ ?_
  refine Qe ?_
  subst hO
  refine ZC (e:=(.sl 3 .int)) (xs:=(ZG c.2.1.length ((ixE c.2.2).take k))) (Qd rfl (Qc rfl)) rfl ?_
  (rw[Zh (by rw[QeG]; omega)]; done)
 ·have hb5':=of_decide_eq_true hb5
  iterate 6 refine w_ ?_
  obtain ⟨ar,hx7⟩:∃z,c.2.2[k]? =some z:=⟨_,List.getElem?_eq_getElem (by omega)⟩
  refine lc (Qm (Qa rfl) (Qa rfl) Q9 QJ rfl (by omega) hx7) ?_
  refine w_ ?_
  refine lc (Qw 3 (.pr .int (.pr .int (.pr .bool .int))) Zq rfl rfl (Fresh.of rfl) (nlr rfl)) ?_
  refine w_ ?_
  refine lc (Qf (Qa rfl) rfl (Qb rfl) rfl QJ rfl) ?_
  refine w_ ?_
  obtain ⟨⟨he1,he2⟩,_⟩:=hr _ (List.mem_of_getElem? hx7)
  have hn1:=WH (n:=c.2.1.length) (es:=(ixE c.2.2).take k)
  obtain ⟨ys,hys⟩:∃z,(ZG c.2.1.length ((ixE c.2.2).take k))[ar.1.toNat]? =some z:=⟨_,List.getElem?_eq_getElem (by omega)⟩
  have hyf:=QaT hys
  have hltk:((ixE c.2.2).take k).length≤c.2.2.length:=by simp only[List.length_take,QeG]; omega
  have hcA:=Qmv hys
  have hpA:ar.1.toNat*1+0 < (Yk (.sl 3 .int) (ZG c.2.1.length ((ixE c.2.2).take k))).length:=by rw[JS]; show ar.1.toNat*1+0 < (ZG c.2.1.length ((ixE c.2.2).take k)).length*1; omega
  refine AC.wk (QjU (q:=2) rfl (by omega))<|AC.wk (Qeb 4 (q:=2) (p:=ar.1.toNat*1+0) (E':=3) (e':= .int) (ys:=ys) rfl (hcA) (Fresh.of rfl) (Nat.le_of_ble_eq_true rfl)) ?_
  refine dv [io 18 (lR 2),io 19 (lP 3 0),io 20 (lI ar.1),io 21 (lR 2),io 22 (lP 3 0),io 23 (lI ar.1),io 24 (lf (.ept 2 1 ((ar.1).toNat) 0)),io 25 (lR 4),io 26 (lI (k:Int)),⟨some 27,lR 5,[(5,some (.arr 3 .int ([(k:Int)])))]⟩,⟨some 28,lR 6,[(6,some (.arr 3 .int (ys++([(k:Int)])))),(4,none),(5,none)]⟩,io 29 (lf (.ept 2 1 ((ar.1).toNat) 0)),⟨none,lf (.val undef),[(2,some (.obx 106 1 ((ZG c.2.1.length ((ixE c.2.2).take k)).length) (Yk (.sl 3 .int) (ZG c.2.1.length ((ixE c.2.2).take k))) [((ar.1).toNat*1+0, .ref 6),(ar.1.toNat*1+0, .ref 4)]))]⟩] [0,0,2,0,0,16,56,120,0,256,1016,2047,4095] mixed rfl (by kernel_rfl) ⟨dxm rfl rfl,dxf Zr rfl rfl rfl,dxl QD rfl rfl rfl rfl rfl,dxm rfl rfl,dxf Zr rfl rfl rfl,dxl QD rfl rfl rfl rfl rfl,fun _ h_=>ac (VP (h_.v rfl) (h_.en 2 rfl) (h_.v rfl) YK ZB rfl (by omega) (by omega)) rfl,fun _ h_=>ac (QcH (h_.v rfl) (h_.n 2 rfl) (show (ovr _ _)[ar.1.toNat*1+0]? =some (.ref 4) from by simp only[ovr,List.getElem?_set,List.length_set,hpA,hcA,eq_self,if_true,if_false,↓reduceIte]) (h_.n 4 rfl) ZB rfl) rfl,dxm rfl rfl,fun _ h_=>ac (Qk 5 (e:= .int) QO QD Xl rfl ⟨_,_,rfl,(h_.w rfl),rfl⟩ (List.all_eq_true.1 rfl) ⟨_,_,_,_,rfl,⟨rfl,rfl⟩,⟨rfl,rfl⟩,rfl⟩ (by decide) rfl rfl (h_.fr 5 rfl) (nlr rfl)) rfl,fun _ h_=>ac (Q0 6 (h_.v rfl) (h_.en 4 rfl) (h_.v rfl) (h_.en 5 rfl) rfl QO WX (by first | omega | (simp only[List.length_append,List.length_map,List.length_take,List.length_cons,List.length_nil]; omega) | (simp only[List.length_append,List.length_drop,List.length_take,List.length_cons,List.length_nil]; omega)) rfl (h_.fr 6 rfl) (nlr rfl)) rfl,fun _ h_=>ac (VP (h_.v rfl) (h_.en 2 rfl) (h_.v rfl) YK ZB rfl (by omega) (by omega)) rfl,fun _ h_=>ac (Qa9 (t:=4) (h_.v rfl) (h_.n 2 rfl) (show (ovr _ _)[ar.1.toNat*1+0]? =some (.ref 4) from by simp only[ovr,List.getElem?_set,List.length_set,hpA,hcA,eq_self,if_true,if_false,↓reduceIte]) (h_.v rfl) (h_.n 6 rfl) ZB) rfl,⟨⟩⟩ ?_
  refine (?_:AC _ _ _ _ _)
  refine AC.wk (QgL (q:=2) (t:=6) (p:=ar.1.toNat*1+0) rfl (by simp only[ovr,List.getElem?_set,List.length_set,hpA,hcA,eq_self,if_true,if_false,↓reduceIte]) rfl) ?_
  refine AC.wk (QfP (q:=2) (e:=(.sl 3 .int)) ((ZG c.2.1.length ((ixE c.2.2).take k)).set ar.1.toNat (ys++[(k:Int)])) rfl (by simp only[List.length_set]) (by simp only[ovr,List.set_set]; exact Qc6 hys)) ?_
  iterate 3 refine w_ ?_
  refine Qj<|QS ⟨k+1,by omega,rfl,rfl⟩ (by omega) ?_
  exact Wk.of [(2,2)] rfl ⟨rfl,rfl,rfl,rfl,rfl,trivial⟩ ⟨(Qv (QcQ (e:=(ar.1,(k:Int))) (Qh3 hx7) hys)),trivial⟩ rfl rfl
theorem QaE (c:(List (ByteArray×Int))×List ByteArray×(List (Int×Int×Bool×Int)))(p:Int×Bool)(r:Int×Bool)(hr:∀a∈c.2.2,InR c.2.1.length a)(hl:c.2.2.length≤4000∧c.2.1.length≤300):FC Tryz.prog 131 [(true,[.dat (.sl 145 (.pr .str .int)) c.1, .dat (.sl 9 .str) c.2.1, .dat (.sl 179 (.pr .int (.pr .int (.pr .bool .int)))) c.2.2]),(true,[dI p.1,dB p.2]),(true,[dI r.1,dB r.2])] [] 0 (XZ 3 .int (Ql c p r)):=by
 have hnl:=WH (n:=c.2.1.length) (es:=ixE c.2.2)
 refine QQ Tryz.func131 rfl rfl Tryz.ntmps131 fun O_ hO w0_ N0_ X_ h0_ f0_=> ?_
 refine AC.fact (Q3 (x:= .tmp 1) (i:=0) (Qb rfl) rfl) fun hi1=>AC.fact (Q3 (x:= .tmp 2) (i:=0) (Qb rfl) rfl) fun hi2=> ?_
 refine w_ ?_
 refine lc (Qr 0 (Qb rfl) rfl rfl (Fresh.of rfl) (nlr rfl))<|lc (Qr 1 (Qb rfl) rfl rfl (Fresh.of rfl) (nlr rfl))<|lc (Qr 2 (Qb rfl) rfl rfl (Fresh.of rfl) (nlr rfl)) ?_
 iterate 2 refine w_ ?_
 refine dw [io 16 (ag [.dat (.sl 145 (.pr .str .int)) c.1, .dat (.sl 9 .str) c.2.1, .dat (.sl 179 (.pr .int (.pr .int (.pr .bool .int)))) c.2.2]),io 17 (ag [dI p.1,dB p.2]),⟨some 18,lR 3,[(3,some (.arr 3 .int (ofG ltI (swL c.2.2 p))))]⟩,io 19 (lP 0 1),io 20 (lf (.dat (.sl 9 .str) c.2.1)),io 21 (lI (c.2.1.length:Int)),⟨some 22,lR 4,[(4,some (.arr 4 .bool (List.replicate c.2.1.length (Ty.zero .bool))))]⟩,io 23 (ag [.dat (.sl 145 (.pr .str .int)) c.1, .dat (.sl 9 .str) c.2.1, .dat (.sl 179 (.pr .int (.pr .int (.pr .bool .int)))) c.2.2]),io 24 (lf (.dat (.sl 106 (.sl 3 .int)) (ZG c.2.1.length (ixE c.2.2)))),io 7 (lR 3),io 8 (lR 4),io 9 (lf (.dat (.sl 106 (.sl 3 .int)) (ZG c.2.1.length (ixE c.2.2))))] [0,0,3,0,8,24,56,0,135,391,1023,2047] mixed rfl (by kernel_rfl) ⟨dxa QK rfl rfl rfl rfl,dxa Xt rfl rfl rfl rfl,fun _ h_=>ac (Y7 3 (QaO c p (by omega)) QhQ ⟨_,_,rfl,(h_.w rfl),⟨_,_,rfl,(h_.w rfl),rfl⟩⟩ rfl (h_.fr 3 rfl) (nlr rfl)) rfl,dxf Z9 rfl rfl rfl,dxl Xc rfl rfl rfl rfl rfl,fun _ h_=>ac (VA (h_.v rfl) rfl ZL) rfl,fun _ h_=>ac (Vo 4 (e:= .bool) (n:=c.2.1.length) (h_.v rfl) (h_.v rfl) Wr Qom rfl (by omega) (by omega) rfl (h_.fr 4 rfl) (nlr rfl)) rfl,dxa QK rfl rfl rfl rfl,fun _ h_=>ac (Qh (Qaj c hr hl).frozen QhK ⟨_,_,rfl,(h_.w rfl),rfl⟩ rfl rfl) rfl,dxt rfl rfl,dxt rfl rfl,dxt rfl rfl,⟨⟩⟩ ?_
 iterate 7 refine w_ ?_
 refine Qy (fun m_ s_=>∃(k:Nat) (out0:List Int) (seen0:List Bool),k≤out0.length∧m_=out0.length - k∧(out0=ofG ltI (swL c.2.2 p))∧(seen0=mkS c.2.1.length (out0.take k))∧s_=⟨[(3,lP 0 0),(5,lP 2 0),(6,lf (.val (.slice none 0 0))),(7,lR 5),(8,lR 6),(9,lf (.dat (.sl 106 (.sl 3 .int)) (ZG c.2.1.length (ixE c.2.2)))),(25,lR 5),(26,lI ((ofG ltI (swL c.2.2 p)).length:Int)),(27,lI (k:Int))],[(0,some (.box 59 [.dat (.sl 145 (.pr .str .int)) c.1, .dat (.sl 9 .str) c.2.1, .dat (.sl 179 (.pr .int (.pr .int (.pr .bool .int)))) c.2.2])),(2,some (.box 61 [dI r.1,dB r.2])),(5,some (.arr 3 .int out0)),(6,some (.arr 4 .bool seen0))]⟩) ⟨0,ofG ltI (swL c.2.2 p),List.replicate c.2.1.length (Ty.zero .bool),Nat.zero_le _,rfl,rfl,rfl,rfl⟩ ?_ ?_
 · exact Wk.of [(0,0),(2,2),(5,3),(6,4)] rfl ⟨rfl,rfl,rfl,rfl,rfl,rfl,rfl,rfl,rfl,trivial⟩ ⟨rfl,rfl,(Qv (by first | rfl | simp)),(Qv (by first | rfl | simp)),trivial⟩ rfl rfl
 rintro m_ s_ ⟨k,out0,seen0,hk3,hm4,hO0,hS,rfl⟩
 have hsl0:seen0.length=c.2.1.length:=by rw[hS,Qjq]
 have hol:out0.length=(ofG ltI (swL c.2.2 p)).length:=by rw[hO0]
 have hob:=QoT hr hO0
 iterate 4 refine w_ ?_
 cases hb5:(decide ((k:Int) < ((ofG ltI (swL c.2.2 p)).length:Int)))
 ·have hb5':=of_decide_eq_false hb5
  refine w_ ?_
  refine QA ?_
  refine (?_:AC _ _ _ _ _)
  iterate 5 refine w_ ?_
  refine Qy (fun m_ s_=>∃(at_:Int) (out:List Int) (seen:List Bool),m_=((c.2.1.length:Int) - at_).toNat∧(BlI c p r at_ out seen)∧s_=⟨[(3,lP 0 0),(5,lP 2 0),(6,lf (.val (.slice none 0 0))),(7,lR 7),(8,lR 8),(9,lf (.dat (.sl 106 (.sl 3 .int)) (ZG c.2.1.length (ixE c.2.2)))),(12,lI at_)],[(0,some (.box 59 [.dat (.sl 145 (.pr .str .int)) c.1, .dat (.sl 9 .str) c.2.1, .dat (.sl 179 (.pr .int (.pr .int (.pr .bool .int)))) c.2.2])),(2,some (.box 61 [dI r.1,dB r.2])),(7,some (.arr 3 .int out)),(8,some (.arr 4 .bool seen))]⟩) ⟨0,out0,seen0,rfl,(BlI.start hr hO0 (by rw[hS,Zh (by rw[hO0]; omega)])),rfl⟩ ?_ ?_
  · exact Wk.of [(0,0),(2,2),(7,5),(8,6)] rfl ⟨rfl,rfl,rfl,rfl,rfl,rfl,rfl,trivial⟩ ⟨rfl,rfl,rfl,rfl,trivial⟩ rfl rfl
  rintro m_ s_ ⟨at_,out,seen,hm7,hB,rfl⟩
  have hBr:=hB.rng
  have hBf:=hB.few
  have hBs:=hB.sn
  iterate 7 refine w_ ?_
  cases hb8:(decide (at_ < (out.length:Int)))
  ·have hb8':=of_decide_eq_false hb8
   refine w_ ?_
   refine QA ?_
   refine (?_:AC _ _ _ _ _)
   iterate 2 refine w_ ?_
   refine lc (QP 9 [(0,7)] (Qab out (by have:=hB.few; omega)) Qb0 ⟨_,_,rfl,(Qb rfl),rfl⟩ ⟨rfl,trivial⟩ rfl ⟨(Fresh.of rfl),trivial⟩ (nlr rfl)) ?_
   iterate 2 refine w_ ?_
   refine Qe ?_
   subst hO
   refine ZC (e:= .int) (xs:=(ofG ltI out)) (Qd rfl (Qc rfl)) rfl ?_
   exact hB.fin hr (by omega)
  ·have hb8':=of_decide_eq_true hb8
   iterate 8 refine w_ ?_
   refine lc (Qq (e:= .int) (Qa rfl) rfl (Qa rfl) QO QD rfl (by omega) (by first | omega | (simp only[List.length_set]; omega))) ?_
   obtain ⟨o,hx10⟩:∃z,out[(at_).toNat]? =some z:=⟨_,List.getElem?_eq_getElem (by omega)⟩
   have hok:=hB.inr hx10
   refine lc (Q7 (e:= .int) (Qa rfl) rfl hx10 rfl QD rfl rfl)<|AL.fact (Qs (x:= .tmp 45) (Qa rfl)) fun hi11=> ?_
   obtain ⟨ts,hx13⟩:∃z,(ZG c.2.1.length (ixE c.2.2))[(o).toNat]? =some z:=⟨_,List.getElem?_eq_getElem (by omega)⟩
   have htm:∀x,x∈ts↔_:=fun x=>Qec (x:=x) (fun a ha=>(hr a ha).1.1) hx13
   refine lc (Qm (Qa rfl) (Qa rfl) YK ZB rfl (by omega) hx13) ?_
   refine w_ ?_
   refine AL.fact (QB (x:= .tmp 47) (Qa rfl)) fun hl14=> ?_
   iterate 4 refine w_ ?_
   refine Qy (fun m_ s_=>∃(i:Nat) (out2:List Int) (seen2:List Bool),i≤ts.length∧m_=ts.length - i∧(BlI c p r at_ out2 seen2)∧(out2[at_.toNat]? =some o)∧(∀(j:Nat) (q:Int),j < i→ts[j]? =some q→∀a,c.2.2[q.toNat]? =some a→¬X6 a r→a.2.2.2∈out2)∧s_=⟨[(3,lP 0 0),(5,lP 2 0),(6,lf (.val (.slice none 0 0))),(7,lR 10),(8,lR 11),(9,lf (.dat (.sl 106 (.sl 3 .int)) (ZG c.2.1.length (ixE c.2.2)))),(12,lI at_),(35,lI at_),(37,lI (out.length:Int)),(38,lB true),(41,lf (.dat (.sl 106 (.sl 3 .int)) (ZG c.2.1.length (ixE c.2.2)))),(43,lI at_),(45,lI o),(46,lf (.elt (.sl 3 .int) ts 0)),(47,lf (.dat (.sl 3 .int) ts)),(48,lI (ts.length:Int)),(49,lI (i:Int))],[(0,some (.box 59 [.dat (.sl 145 (.pr .str .int)) c.1, .dat (.sl 9 .str) c.2.1, .dat (.sl 179 (.pr .int (.pr .int (.pr .bool .int)))) c.2.2])),(2,some (.box 61 [dI r.1,dB r.2])),(10,some (.arr 3 .int out2)),(11,some (.arr 4 .bool seen2))]⟩) ⟨0,out,seen,Nat.zero_le _,rfl,hB,hx10,(fun j q hj=>absurd hj (Nat.not_lt_zero j)),rfl⟩ ?_ ?_
   · exact Wk.of [(0,0),(2,2),(10,7),(11,8)] rfl ⟨rfl,rfl,rfl,rfl,rfl,rfl,rfl,rfl,rfl,rfl,rfl,rfl,rfl,rfl,rfl,rfl,rfl,trivial⟩ ⟨rfl,rfl,rfl,rfl,trivial⟩ rfl rfl
   rintro m_ s_ ⟨i,out2,seen2,hk15,hm16,hB2,hQ2,hT,rfl⟩
   have hBf2:=hB2.few
   have hBs2:=hB2.sn
   have hQl:=(List.getElem?_eq_some_iff.1 hQ2).1
   iterate 4 refine w_ ?_
   cases hb17:(decide ((i:Int) < (ts.length:Int)))
   ·have hb17':=of_decide_eq_false hb17
    refine w_ ?_
    refine QA ?_
    refine (?_:AC _ _ _ _ _)
    iterate 4 refine w_ ?_
    refine Qj<|QS ⟨(at_+1),out2,seen2,rfl,(hB2.next (by omega) hQ2 (Qnx hr hx13 (by omega) hT (by omega))),rfl⟩ (by omega) ?_
    exact Wk.of [(0,0),(2,2),(7,10),(8,11)] rfl ⟨rfl,rfl,rfl,rfl,rfl,rfl,rfl,trivial⟩ ⟨rfl,rfl,rfl,rfl,trivial⟩ rfl rfl
   ·have hb17':=of_decide_eq_true hb17
    iterate 5 refine w_ ?_
    obtain ⟨q,hx19⟩:∃z,ts[i]? =some z:=⟨_,List.getElem?_eq_getElem (by omega)⟩
    obtain ⟨jq,aq,hjq,haq,hq⟩:=(htm _).1 (List.mem_of_getElem? hx19)
    have hjl:=(List.getElem?_eq_some_iff.1 hjq).1
    refine lc (Qm (Qa rfl) (Qa rfl) QO QD rfl (by omega) hx19) ?_
    refine w_ ?_
    refine AL.fact (Qs (x:= .tmp 52) (Qa rfl)) fun hi20=> ?_
    iterate 6 refine w_ ?_
    obtain ⟨ar,hx22⟩:∃z,c.2.2[(q).toNat]? =some z:=⟨_,List.getElem?_eq_getElem (by omega)⟩
    have hain:=hr _ (List.mem_of_getElem? hx22)
    obtain ⟨⟨ha1,ha2⟩,ha3,ha4⟩:=hain
    have hao:ar.1=o:=Qqd hjq haq hq hx22 (by omega)
    refine lc (Qm (Qa rfl) (Qa rfl) Q9 QJ rfl (by omega) hx22) ?_
    refine w_ ?_
    refine lc (Qw 12 (.pr .int (.pr .int (.pr .bool .int))) Zq rfl rfl (Fresh.of rfl) (nlr rfl))<|lc (Qf (Qa rfl) rfl (Qb rfl) rfl QJ rfl) ?_
    refine w_ ?_
    cases hb23:(Ty.beq (.pr .int .bool) (ar.2.1,ar.2.2.1) r)
    ·obtain ⟨sb,hx25⟩:∃z,seen2[(ar.2.2.2).toNat]? =some z:=⟨_,List.getElem?_eq_getElem (by omega)⟩
     have hsb:=hx25
     refine dw [io 58 (ag [dI ar.1,dI ar.2.1,dB ar.2.2.1,dI ar.2.2.2]),io 59 (ag [dI ar.2.1,dB ar.2.2.1]),io 60 (ag [dI r.1,dB r.2]),io 61 (lB true),io 62 (lB true),io 63 (lR 11),io 64 (lP 12 3),io 65 (lI ar.2.2.2),io 66 (lf (.ept 11 1 ((ar.2.2.2).toNat) 0)),io 67 (lB sb),io 68 (lB (!sb)),io 69 (lB (!sb))] [0,1,0,7,15,31,31,95,255,511,1023,2047] mixed rfl (by kernel_rfl) ⟨dxa QJ rfl rfl rfl rfl,fun _ h_=>ac (Qh (Zw ar) Y8 ⟨_,_,rfl,(h_.w rfl),rfl⟩ rfl rfl) rfl,dxa Xt rfl rfl rfl rfl,fun _ h_=>ac (QZ (QfI (hb23)) (Qau JL Jy (h_.w rfl) (h_.w rfl) (p:=(ar.2.1,ar.2.2.1)) (q:=r) rfl rfl rfl)) rfl,dxm rfl rfl,fun _ h_=>day rfl (h_.k rfl) (QF (h_.k rfl) rfl) rfl,fun _ h_=>day rfl (h_.k rfl) (Qz (h_.v rfl) Zg (by rw[(h_.en 12 rfl)]; rfl) rfl) rfl,fun _ h_=>day rfl (h_.k rfl) (QI (h_.v rfl) (h_.n 12 rfl) QD rfl rfl) rfl,fun _ h_=>day rfl (h_.k rfl) (Qq (e:= .bool) (h_.v rfl) (h_.en 11 rfl) (h_.v rfl) Wr ZH rfl (by omega) (by first | omega | (simp only[List.length_set]; omega))) rfl,fun _ h_=>day rfl (h_.k rfl) (Q7 (e:= .bool) (h_.v rfl) (h_.n 11 rfl) hx25 rfl ZH rfl rfl) rfl,fun _ h_=>day rfl (h_.k rfl) (ZK (h_.v rfl) rfl) rfl,fun _ h_=>ac (QV (h_.v rfl) (h_.w rfl) rfl) rfl,⟨⟩⟩ ?_
     cases hb26:(sb)
     ·iterate 5 refine w_ ?_
      refine AL.fact (Qs (x:= .tmp 72) (Qa rfl)) fun hi27=>lc (Qq (e:= .bool) (Qa rfl) rfl (Qa rfl) Wr ZH rfl (by omega) (by first | omega | (simp only[List.length_set]; omega)))<|lc (Q5 (e:= .bool) (z':=true) (Qa rfl) rfl hx25 rfl (Evl.ev QU) rfl ZH rfl rfl) ?_
      iterate 5 refine w_ ?_
      refine lc (Qk 13 (e:= .int) QO QD Xl rfl ⟨_,_,rfl,(Qb rfl),rfl⟩ (List.all_eq_true.1 rfl) ⟨_,_,_,_,rfl,⟨rfl,rfl⟩,⟨rfl,rfl⟩,rfl⟩ (by decide) rfl rfl (Fresh.of rfl) (nlr rfl))<|lc (Q0 14 (Qa rfl) rfl (Qa rfl) rfl rfl QO WX (by first | omega | (simp only[List.length_append,List.length_map,List.length_take,List.length_cons,List.length_nil]; omega) | (simp only[List.length_append,List.length_drop,List.length_take,List.length_cons,List.length_nil]; omega)) rfl (Fresh.of rfl) (nlr rfl)) ?_
      refine w_ ?_
      refine Qj ?_
      refine (?_:AC _ _ _ _ _)
      iterate 3 refine w_ ?_
      refine Qj ?_
      refine QS ⟨i+1,(out2++([ar.2.2.2])),(seen2.set ((ar.2.2.2).toNat) true),by omega,rfl,(by exact hB2.push hr (List.mem_of_getElem? hQ2) (List.mem_of_getElem? hx22) hao (Qhi (by assumption)) (hsb.trans (congrArg some (by assumption)))),(by (rw[List.getElem?_append_left hQl]; exact hQ2)),(fun j q0 hj hx0 a ha hn=>if e:j=i then (by subst e; cases (hx19).symm.trans hx0; cases (hx22).symm.trans ha; first | exact List.mem_append_right _ (List.mem_singleton.2 rfl) | exact (hB2.se _ ha3 ha4).1 (hsb.trans (congrArg some (by assumption))) | exact absurd (JK (by assumption)) hn) else (by first | exact hT j q0 (by omega) hx0 a ha hn | exact List.mem_append_left _ (hT j q0 (by omega) hx0 a ha hn))),rfl⟩ (by omega) ?_
      exact Wk.of [(0,0),(2,2),(10,14),(11,11)] rfl ⟨rfl,rfl,rfl,rfl,rfl,rfl,rfl,rfl,rfl,rfl,rfl,rfl,rfl,rfl,rfl,rfl,rfl,trivial⟩ ⟨rfl,rfl,(Qv (by first | rfl | simp)),(Qv (by first | rfl | simp)),trivial⟩ rfl rfl
     ·refine w_ ?_
      refine AC.skip ?_
      refine (?_:AC _ _ _ _ _)
      iterate 3 refine w_ ?_
      refine Qj<|QS ⟨i+1,out2,seen2,by omega,rfl,(by exact hB2),(by exact hQ2),(fun j q0 hj hx0 a ha hn=>if e:j=i then (by subst e; cases (hx19).symm.trans hx0; cases (hx22).symm.trans ha; first | exact List.mem_append_right _ (List.mem_singleton.2 rfl) | exact (hB2.se _ ha3 ha4).1 (hsb.trans (congrArg some (by assumption))) | exact absurd (JK (by assumption)) hn) else (by first | exact hT j q0 (by omega) hx0 a ha hn | exact List.mem_append_left _ (hT j q0 (by omega) hx0 a ha hn))),rfl⟩ (by omega) ?_
      exact Wk.of [(0,0),(2,2),(10,10),(11,11)] rfl ⟨rfl,rfl,rfl,rfl,rfl,rfl,rfl,rfl,rfl,rfl,rfl,rfl,rfl,rfl,rfl,rfl,rfl,trivial⟩ ⟨rfl,rfl,rfl,rfl,trivial⟩ rfl rfl
    ·refine dw [io 58 (ag [dI ar.1,dI ar.2.1,dB ar.2.2.1,dI ar.2.2.2]),io 59 (ag [dI ar.2.1,dB ar.2.2.1]),io 60 (ag [dI r.1,dB r.2]),io 61 (lB false),io 62 (lB false),io 63 (lf (.val undef)),io 64 (lf (.val undef)),io 65 (lf (.val undef)),io 66 (lf (.val undef)),io 67 (lf (.val undef)),io 68 (lf (.val undef)),io 69 (lB false)] [0,1,0,7,15,31,31,95,255,511,1023,2047] mixed rfl (by kernel_rfl) ⟨dxa QJ rfl rfl rfl rfl,fun _ h_=>ac (Qh (Zw ar) Y8 ⟨_,_,rfl,(h_.w rfl),rfl⟩ rfl rfl) rfl,dxa Xt rfl rfl rfl rfl,fun _ h_=>ac (QZ (QfI (hb23)) (Qau JL Jy (h_.w rfl) (h_.w rfl) (p:=(ar.2.1,ar.2.2.1)) (q:=r) rfl rfl rfl)) rfl,dxm rfl rfl,dxo rfl rfl rfl,dxo rfl rfl rfl,dxo rfl rfl rfl,dxo rfl rfl rfl,dxo rfl rfl rfl,dxo rfl rfl rfl,fun _ h_=>ac (QM (h_.v rfl) (Evl.ev QU) rfl) rfl,⟨⟩⟩ ?_
     refine w_ ?_
     refine AC.skip ?_
     refine (?_:AC _ _ _ _ _)
     iterate 3 refine w_ ?_
     refine Qj<|QS ⟨i+1,out2,seen2,by omega,rfl,(by exact hB2),(by exact hQ2),(fun j q0 hj hx0 a ha hn=>if e:j=i then (by subst e; cases (hx19).symm.trans hx0; cases (hx22).symm.trans ha; first | exact List.mem_append_right _ (List.mem_singleton.2 rfl) | exact (hB2.se _ ha3 ha4).1 (hsb.trans (congrArg some (by assumption))) | exact absurd (JK (by assumption)) hn) else (by first | exact hT j q0 (by omega) hx0 a ha hn | exact List.mem_append_left _ (hT j q0 (by omega) hx0 a ha hn))),rfl⟩ (by omega) ?_
     exact Wk.of [(0,0),(2,2),(10,10),(11,11)] rfl ⟨rfl,rfl,rfl,rfl,rfl,rfl,rfl,rfl,rfl,rfl,rfl,rfl,rfl,rfl,rfl,rfl,rfl,trivial⟩ ⟨rfl,rfl,rfl,rfl,trivial⟩ rfl rfl
 ·have hb5':=of_decide_eq_true hb5
  iterate 5 refine w_ ?_
  refine lc (Qq (e:= .int) (Qa rfl) rfl (Qa rfl) QO QD rfl (by omega) (by first | omega | (simp only[List.length_set]; omega))) ?_
  obtain ⟨x0,hx29⟩:∃z,out0[k]? =some z:=⟨_,List.getElem?_eq_getElem (by omega)⟩
  have hr0:=QeJ hr hO0 (List.mem_of_getElem? hx29)
  refine lc (Q7 (e:= .int) (Qa rfl) rfl hx29 rfl QD rfl rfl)<|AL.fact (Qs (x:= .tmp 30) (Qa rfl)) fun hi30=> ?_
  iterate 5 refine w_ ?_
  refine lc (Qq (e:= .bool) (Qa rfl) rfl (Qa rfl) Wr ZH rfl (by omega) (by first | omega | (simp only[List.length_set]; omega))) ?_
  obtain ⟨x31,hx32⟩:∃z,seen0[(x0).toNat]? =some z:=⟨_,List.getElem?_eq_getElem (by omega)⟩
  refine lc (Q5 (e:= .bool) (z':=true) (Qa rfl) rfl hx32 rfl (Evl.ev QU) rfl ZH rfl rfl)<|Qj ?_
  refine (?_:AC _ _ _ _ _)
  iterate 3 refine w_ ?_
  refine Qj<|QS ⟨k+1,out0,(seen0.set ((x0).toNat) true),by omega,rfl,hO0,(by rw[hS]; exact Qll hx29),rfl⟩ (by omega) ?_
  exact Wk.of [(0,0),(2,2),(5,5),(6,6)] rfl ⟨rfl,rfl,rfl,rfl,rfl,rfl,rfl,rfl,rfl,trivial⟩ ⟨rfl,rfl,rfl,(Qv (by first | rfl | simp)),trivial⟩ rfl rfl
theorem QaW (c:(List (ByteArray×Int))×List ByteArray×(List (Int×Int×Bool×Int)))(p:Int×Bool)(r:Int×Bool)(hr:∀a∈c.2.2,InR c.2.1.length a)(hl:c.2.2.length≤4000∧c.2.1.length≤300):FC Tryz.prog 195 [(true,[.dat (.sl 145 (.pr .str .int)) c.1, .dat (.sl 9 .str) c.2.1, .dat (.sl 179 (.pr .int (.pr .int (.pr .bool .int)))) c.2.2]),(true,[dI p.1,dB p.2]),(true,[dI r.1,dB r.2])] [] 0 (XZ 3 .int (Ql c p r)):=by
 refine QQ Tryz.func195 rfl rfl Tryz.ntmps195 fun O_ hO w0_ N0_ X_ h0_ f0_=> ?_
 refine AC.fact (Q3 (x:= .tmp 1) (i:=0) (Qb rfl) rfl) fun hi1=>AC.fact (Q3 (x:= .tmp 2) (i:=0) (Qb rfl) rfl) fun hi2=> ?_
 refine w_ ?_
 refine lc (Qr 0 (Qb rfl) rfl rfl (Fresh.of rfl) (nlr rfl))<|lc (Qr 1 (Qb rfl) rfl rfl (Fresh.of rfl) (nlr rfl))<|lc (Qr 2 (Qb rfl) rfl rfl (Fresh.of rfl) (nlr rfl)) ?_
 iterate 9 refine w_ ?_
 refine AL.fact (QB (x:= .tmp 13) (Qa rfl)) fun hl3=> ?_
 iterate 4 refine w_ ?_
 refine AC.wk (Wk.nilS 3 7 3 .int rfl (Fresh.of rfl) (nlr rfl)) ?_
 refine Qy (fun m_ s_=>∃(k:Nat),k≤c.2.2.length∧m_=c.2.2.length - k∧s_=⟨[(3,lP 0 0),(4,lP 1 0),(5,lP 2 0),(6,lf (.val (.slice none 0 0))),(7,lR 4),(13,lf (.dat (.sl 179 (.pr .int (.pr .int (.pr .bool .int)))) c.2.2)),(14,lI (c.2.2.length:Int)),(15,lI (k:Int))],[(0,some (.box 59 [.dat (.sl 145 (.pr .str .int)) c.1, .dat (.sl 9 .str) c.2.1, .dat (.sl 179 (.pr .int (.pr .int (.pr .bool .int)))) c.2.2])),(1,some (.box 61 [dI p.1,dB p.2])),(2,some (.box 61 [dI r.1,dB r.2])),(4,some (.arr 3 .int ((c.2.2.take k).foldl (Wp p) [])))]⟩) ⟨0,Nat.zero_le _,rfl,rfl⟩ ?_ ?_
 · exact Wk.of [(0,0),(1,1),(2,2),(4,3)] rfl ⟨rfl,rfl,rfl,rfl,rfl,rfl,rfl,rfl,trivial⟩ ⟨rfl,rfl,rfl,(Qv (by simp only[List.take_zero,List.foldl_nil])),trivial⟩ rfl rfl
 rintro m_ s_ ⟨k,hk4,hm5,rfl⟩
 have hbl:=Qm0 (p:=p) (as_:=c.2.2.take k)
 have hft:(c.2.2.take k).length≤c.2.2.length:=by simp only[List.length_take]; omega
 iterate 4 refine w_ ?_
 cases hb6:(decide ((k:Int) < (c.2.2.length:Int)))
 ·have hb6':=of_decide_eq_false hb6
  refine w_ ?_
  refine QA ?_
  refine (?_:AC _ _ _ _ _)
  iterate 4 refine w_ ?_
  refine AL.fact (QB (x:= .tmp 31) (Qa rfl)) fun hl7=> ?_
  iterate 4 refine w_ ?_
  refine Qy (fun m_ s_=>∃(j:Nat),j≤c.2.1.length∧m_=c.2.1.length - j∧s_=⟨[(3,lP 0 0),(5,lP 2 0),(6,lf (.val (.slice none 0 0))),(7,lR 5),(32,lI (c.2.1.length:Int)),(33,lI (j:Int))],[(0,some (.box 59 [.dat (.sl 145 (.pr .str .int)) c.1, .dat (.sl 9 .str) c.2.1, .dat (.sl 179 (.pr .int (.pr .int (.pr .bool .int)))) c.2.2])),(2,some (.box 61 [dI r.1,dB r.2])),(5,some (.arr 3 .int (Zb (fun l=>c.2.2.foldl (Ye r) l) j (c.2.2.foldl (Wp p) []))))]⟩) ⟨0,Nat.zero_le _,rfl,rfl⟩ ?_ ?_
  · exact Wk.of [(0,0),(2,2),(5,4)] rfl ⟨rfl,rfl,rfl,rfl,rfl,rfl,trivial⟩ ⟨rfl,rfl,(Qv (by rw[Zh (by omega)]; rfl)),trivial⟩ rfl rfl
  rintro m_ s_ ⟨j,hk8,hm9,rfl⟩
  iterate 4 refine w_ ?_
  cases hb10:(decide ((j:Int) < (c.2.1.length:Int)))
  ·have hb10':=of_decide_eq_false hb10
   refine w_ ?_
   refine QA ?_
   refine (?_:AC _ _ _ _ _)
   iterate 4 refine w_ ?_
   refine Qe ?_
   subst hO
   refine ZC (e:= .int) (xs:=(Zb (fun l=>c.2.2.foldl (Ye r) l) j (c.2.2.foldl (Wp p) []))) (Qd rfl (Qc rfl)) rfl ?_
   (unfold Ql; congr 1; omega)
  ·have hb10':=of_decide_eq_true hb10
   iterate 7 refine w_ ?_
   refine AL.fact (QB (x:= .tmp 36) (Qa rfl)) fun hl11=> ?_
   iterate 4 refine w_ ?_
   refine Qy (fun m_ s_=>∃(i:Nat),i≤c.2.2.length∧m_=c.2.2.length - i∧s_=⟨[(3,lP 0 0),(5,lP 2 0),(6,lf (.val (.slice none 0 0))),(7,lR 6),(32,lI (c.2.1.length:Int)),(33,lI (j:Int)),(34,lB true),(35,lP 0 2),(36,lf (.dat (.sl 179 (.pr .int (.pr .int (.pr .bool .int)))) c.2.2)),(37,lI (c.2.2.length:Int)),(38,lI (i:Int))],[(0,some (.box 59 [.dat (.sl 145 (.pr .str .int)) c.1, .dat (.sl 9 .str) c.2.1, .dat (.sl 179 (.pr .int (.pr .int (.pr .bool .int)))) c.2.2])),(2,some (.box 61 [dI r.1,dB r.2])),(6,some (.arr 3 .int ((c.2.2.take i).foldl (Ye r) (Zb (fun l=>c.2.2.foldl (Ye r) l) j (c.2.2.foldl (Wp p) [])))))]⟩) ⟨0,Nat.zero_le _,rfl,rfl⟩ ?_ ?_
   · exact Wk.of [(0,0),(2,2),(6,5)] rfl ⟨rfl,rfl,rfl,rfl,rfl,rfl,rfl,rfl,rfl,rfl,rfl,trivial⟩ ⟨rfl,rfl,(Qv (by simp only[List.take_zero,List.foldl_nil])),trivial⟩ rfl rfl
   rintro m_ s_ ⟨i,hk12,hm13,rfl⟩
   have hbl:=QnT (c:=c) (p:=p) (r:=r) hr j i
   iterate 4 refine w_ ?_
   cases hb14:(decide ((i:Int) < (c.2.2.length:Int)))
   ·have hb14':=of_decide_eq_false hb14
    refine w_ ?_
    refine QA ?_
    refine (?_:AC _ _ _ _ _)
    iterate 3 refine w_ ?_
    refine Qj<|QS ⟨j+1,by omega,rfl,rfl⟩ (by omega) ?_
    exact Wk.of [(0,0),(2,2),(5,6)] rfl ⟨rfl,rfl,rfl,rfl,rfl,rfl,trivial⟩ ⟨rfl,rfl,(Qv (by rw[Zh (by omega)]; rfl)),trivial⟩ rfl rfl
   ·have hb14':=of_decide_eq_true hb14
    iterate 5 refine w_ ?_
    obtain ⟨x15,hx16⟩:∃z,c.2.2[i]? =some z:=⟨_,List.getElem?_eq_getElem (by omega)⟩
    refine lc (Qm (Qa rfl) (Qa rfl) Q9 QJ rfl (by omega) hx16) ?_
    refine w_ ?_
    refine lc (Qw 7 (.pr .int (.pr .int (.pr .bool .int))) Zq rfl rfl (Fresh.of rfl) (nlr rfl))<|lc (Qf (Qa rfl) rfl (Qb rfl) rfl QJ rfl) ?_
    iterate 5 refine w_ ?_
    refine AL.fact (Qs (x:= .tmp 44) (Qa rfl)) fun hi17=>lc (Zl (Yn ((c.2.2.take i).foldl (Ye r) (Zb (fun l=>c.2.2.foldl (Ye r) l) j (c.2.2.foldl (Wp p) []))) x15.1) Y9 ⟨_,_,rfl,(X2 (Qa rfl) rfl),⟨_,_,rfl,(Ev.b (Qb rfl)),rfl⟩⟩ rfl rfl rfl) ?_
    refine w_ ?_
    cases hb18:(decide (x15.1∈((c.2.2.take i).foldl (Ye r) (Zb (fun l=>c.2.2.foldl (Ye r) l) j (c.2.2.foldl (Wp p) [])))))
    ·have hb18':=of_decide_eq_false hb18
     iterate 10 refine w_ ?_
     refine AC.skip ?_
     refine (?_:AC _ _ _ _ _)
     iterate 3 refine w_ ?_
     refine Qj<|QS ⟨i+1,by omega,rfl,rfl⟩ (by omega) ?_
     exact Wk.of [(0,0),(2,2),(6,6)] rfl ⟨rfl,rfl,rfl,rfl,rfl,rfl,rfl,rfl,rfl,rfl,rfl,trivial⟩ ⟨rfl,rfl,(Qv (by first | exact Qa0 hx16 (by assumption) (by assumption) | exact Uz hx16 (fun g=>absurd g.1 (by assumption)) | exact Uz hx16 (fun g=>absurd (by assumption) g.2))),trivial⟩ rfl rfl
    ·have hb18':=of_decide_eq_true hb18
     iterate 5 refine w_ ?_
     refine lgy rfl rfl (Qh (V2 x15 r.1 r.2) JT ⟨_,_,rfl,(Qb rfl),⟨_,_,rfl,(Qb rfl),⟨_,_,rfl,(Qb rfl),rfl⟩⟩⟩ rfl rfl) ?_
     iterate 3 refine w_ ?_
     cases hb19:(decide (x15.2.1=r.1∧x15.2.2.1=r.2))
     ·have hb19':=of_decide_eq_false hb19
      iterate 5 refine w_ ?_
      refine AL.fact (Qs (x:= .tmp 57) (Qa rfl)) fun hi20=>lc (QP 8 [(0,6)] (WJ ((c.2.2.take i).foldl (Ye r) (Zb (fun l=>c.2.2.foldl (Ye r) l) j (c.2.2.foldl (Wp p) []))) x15.2.2.2 (by omega)) UO ⟨_,_,rfl,(Qb rfl),⟨_,_,rfl,(Qb rfl),rfl⟩⟩ ⟨rfl,trivial⟩ rfl ⟨(Fresh.of rfl),trivial⟩ (nlr rfl)) ?_
      refine w_ ?_
      refine Qj ?_
      refine (?_:AC _ _ _ _ _)
      iterate 3 refine w_ ?_
      refine Qj<|QS ⟨i+1,by omega,rfl,rfl⟩ (by omega) ?_
      exact Wk.of [(0,0),(2,2),(6,8)] rfl ⟨rfl,rfl,rfl,rfl,rfl,rfl,rfl,rfl,rfl,rfl,rfl,trivial⟩ ⟨rfl,rfl,(Qv (by first | exact Qa0 hx16 (by assumption) (by assumption) | exact Uz hx16 (fun g=>absurd g.1 (by assumption)) | exact Uz hx16 (fun g=>absurd (by assumption) g.2))),trivial⟩ rfl rfl
     ·have hb19':=of_decide_eq_true hb19
      refine w_ ?_
      refine AC.skip ?_
      refine (?_:AC _ _ _ _ _)
      iterate 3 refine w_ ?_
      refine Qj<|QS ⟨i+1,by omega,rfl,rfl⟩ (by omega) ?_
      exact Wk.of [(0,0),(2,2),(6,6)] rfl ⟨rfl,rfl,rfl,rfl,rfl,rfl,rfl,rfl,rfl,rfl,rfl,trivial⟩ ⟨rfl,rfl,(Qv (by first | exact Qa0 hx16 (by assumption) (by assumption) | exact Uz hx16 (fun g=>absurd g.1 (by assumption)) | exact Uz hx16 (fun g=>absurd (by assumption) g.2))),trivial⟩ rfl rfl
 ·have hb6':=of_decide_eq_true hb6
  iterate 5 refine w_ ?_
  obtain ⟨x21,hx22⟩:∃z,c.2.2[k]? =some z:=⟨_,List.getElem?_eq_getElem (by omega)⟩
  refine lc (Qm (Qa rfl) (Qa rfl) Q9 QJ rfl (by omega) hx22) ?_
  refine w_ ?_
  refine lc (Qw 9 (.pr .int (.pr .int (.pr .bool .int))) Zq rfl rfl (Fresh.of rfl) (nlr rfl))<|lc (Qf (Qa rfl) rfl (Qb rfl) rfl QJ rfl) ?_
  iterate 7 refine w_ ?_
  refine lc (Qh (V2 x21 p.1 p.2) JT ⟨_,_,rfl,(Qb rfl),⟨_,_,rfl,(Qb rfl),⟨_,_,rfl,(Qb rfl),rfl⟩⟩⟩ rfl rfl) ?_
  refine w_ ?_
  cases hb23:(decide (x21.2.1=p.1∧x21.2.2.1=p.2))
  ·have hb23':=of_decide_eq_false hb23
   refine w_ ?_
   refine AC.skip ?_
   refine (?_:AC _ _ _ _ _)
   iterate 3 refine w_ ?_
   refine Qj<|QS ⟨k+1,by omega,rfl,rfl⟩ (by omega) ?_
   exact Wk.of [(0,0),(1,1),(2,2),(4,4)] rfl ⟨rfl,rfl,rfl,rfl,rfl,rfl,rfl,rfl,trivial⟩ ⟨rfl,rfl,rfl,(Qv (by first | exact QfJ hx22 (by assumption) | exact Qi9 hx22 (by assumption))),trivial⟩ rfl rfl
  ·have hb23':=of_decide_eq_true hb23
   iterate 5 refine w_ ?_
   refine AL.fact (Qs (x:= .tmp 27) (Qa rfl)) fun hi24=>lc (QP 10 [(0,4)] (WJ ((c.2.2.take k).foldl (Wp p) []) x21.2.2.2 (by omega)) UO ⟨_,_,rfl,(Qb rfl),⟨_,_,rfl,(Qb rfl),rfl⟩⟩ ⟨rfl,trivial⟩ rfl ⟨(Fresh.of rfl),trivial⟩ (nlr rfl)) ?_
   refine w_ ?_
   refine Qj ?_
   refine (?_:AC _ _ _ _ _)
   iterate 3 refine w_ ?_
   refine Qj<|QS ⟨k+1,by omega,rfl,rfl⟩ (by omega) ?_
   exact Wk.of [(0,0),(1,1),(2,2),(4,10)] rfl ⟨rfl,rfl,rfl,rfl,rfl,rfl,rfl,rfl,trivial⟩ ⟨rfl,rfl,rfl,(Qv (by first | exact QfJ hx22 (by assumption) | exact Qi9 hx22 (by assumption))),trivial⟩ rfl rfl
end Go.Proofs.YtnakmhfjafecpaaGreat
