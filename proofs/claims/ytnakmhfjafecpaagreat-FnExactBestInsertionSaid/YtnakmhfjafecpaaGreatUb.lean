/- Walks over abstract states: the block of states in which a state signal is set, both sides. -/
import Derived.Test.YtnakmhfjafecpaaGreatUa
set_option linter.unusedSimpArgs false
set_option linter.unusedVariables false
namespace Go.Proofs.YtnakmhfjafecpaaGreat
open Go.RowKit
set_option maxRecDepth 100000
set_option maxHeartbeats 4000000
abbrev XW (a:DAr)(l:Int×Bool):Prop:=a.2.1=l.1∧a.2.2.1=l.2
def ixE (as_:List DAr):List (Int×Int):=as_.zipIdx.map fun x=>(x.1.1,(x.2:Int))
inductive ClS (as_:List DAr) (p r:Int×Bool):Int→Prop
  | base {a:DAr}:a∈as_→XW a p→ClS as_ p r a.2.2.2
  | step {a:DAr}:a∈as_→ClS as_ p r a.1→¬XW a r→ClS as_ p r a.2.2.2
def Wc (p:Int×Bool)(l:List Int)(a:DAr):List Int:=if XW a p then XB ltI a.2.2.2 l else l
def Z9 (r:Int×Bool)(l:List Int)(a:DAr):List Int:=if a.1∈l∧¬XW a r then XB ltI a.2.2.2 l else l
def Q9 {α:Type}(f:α→α):Nat→α→α
  | 0,x=>x
  | n+1,x=>f (Q9 f n x)
def Qk (c:DSg)(p r:Int×Bool):List Int:=Q9 (fun l=>c.2.2.foldl (Z9 r) l) c.2.1.length (c.2.2.foldl (Wc p) [])
theorem QfO {α:Type}{f:α→α}{I:α→Prop}{m:α→Nat}{n:Nat}(hI:∀x,I x→I (f x))(hm:∀x,I x→m x≤n)(hs:∀x,I x→f x=x∨m x < m (f x)){x:α}(hx:I x):f (Q9 f n x)=Q9 f n x:=by
  have h1:∀k,I (Q9 f k x):=fun k=>by
    induction k with
    | zero=>exact hx
    | succ k ih=>exact hI _ ih
  have h2:∀k,f (Q9 f k x)=Q9 f k x∨k≤m (Q9 f k x):=fun k=>by
    induction k with
    | zero=>exact .inr (Nat.zero_le _)
    | succ k ih=>
      rcases ih with h | h
      · exact .inl (by show f (f (Q9 f k x))=f (Q9 f k x); rw[h,h])
      · rcases hs _ (h1 k) with h3 | h3
        · exact .inl (by show f (f (Q9 f k x))=f (Q9 f k x); rw[h3,h3])
        · exact .inr (by show k+1≤m (f (Q9 f k x)); omega)
  rcases h2 n with h | h
  · exact h
  · rcases hs _ (h1 n) with h3 | h3
    · exact h3
    · have:=hm _ (hI _ (h1 n)); omega
section
variable {c:DSg}{as_:List DAr}{a:DAr}{p r:Int×Bool}{k i j n:Nat}{l out ts ys L:List Int}{seen:List Bool}{x y o q at_:Int}
theorem QeU:(ixE as_).length=as_.length:=by simp[ixE]
theorem QhO (hx:as_[k]? =some a):(ixE as_)[k]? =some (a.1,(k:Int)):=by simp[ixE,List.getElem?_zipIdx,hx]
theorem Qi9 {e:Int×Int}:e∈ixE as_↔∃(j:Nat) (a:DAr),as_[j]? =some a∧e=(a.1,(j:Int)):=by
  rw[List.mem_iff_getElem?]
  constructor
  · rintro ⟨j, hj⟩
    have hl:=(List.getElem?_eq_some_iff.1 hj).1
    rw[QeU] at hl
    have ha:as_[j]? =some as_[j]:=List.getElem?_eq_getElem hl
    rw[QhO ha] at hj
    exact ⟨j,_,ha,by simpa using hj.symm⟩
  · rintro ⟨j,a,ha,rfl⟩; exact ⟨j,QhO ha⟩
theorem Qee (hr:∀a∈as_,0≤a.1)(hy:(ZI n (ixE as_))[i]? =some ys):x∈ys↔∃(j:Nat) (a:DAr),as_[j]? =some a∧a.1=(i:Int)∧x=(j:Int):=by
  have hi:i < n:=by have:=(List.getElem?_eq_some_iff.1 hy).1; rw[Ws] at this; exact this
  have h:=Qd9 (es:=ixE as_) (l:=List.replicate n []) (i:=i) (t:=x) (fun e he=>by obtain ⟨j,a,ha,rfl⟩:=Qi9.1 he; exact hr a (List.mem_of_getElem? ha))
  have hy':((ixE as_).foldl QaN (List.replicate n []))[i]? =some ys:=hy
  rw[hy'] at h
  simp only[Option.getD_some,List.getElem?_replicate,hi,if_true,List.not_mem_nil,List.length_replicate,true_and,false_or] at h
  rw[h,Qi9]
  constructor
  · rintro ⟨j,a,ha,e⟩; exact ⟨j,a,ha,by have:=congrArg Prod.fst e; exact this.symm,congrArg Prod.snd e⟩
  · rintro ⟨j,a,ha,e1,e2⟩; exact ⟨j,a,ha,by rw[e1,e2]⟩
theorem UK:∀{l:List Int} {lo hi:Int},l.Pairwise (fun x y=>ltI x y=true)→(∀x∈l,lo≤x∧x < hi)→lo≤hi→(l.length:Int)≤hi - lo
  | [],_,_,_,_,h=>by simp; omega
  | x :: l,lo,hi,h1,h2,h3=>by
    obtain ⟨h4,h5⟩:=List.pairwise_cons.1 h1
    have h6:=h2 x (List.mem_cons_self ..)
    have:=UK (l:=l) (lo:=x+1) (hi:=hi) h5 (fun y hy=>by have k1:=h4 y hy; have k2:=h2 y (List.mem_cons_of_mem _ hy); simp only[ltI,decide_eq_true_eq] at k1; omega) (by omega)
    simp only[List.length_cons]; omega
theorem Qky (h:l.Nodup)(hr:∀x∈l,0≤x∧x < (n:Int)):l.length≤n:=by
  have h1:(WM l).Nodup:=(Jw l).nodup_iff.2 h
  have h2:(WM l).Pairwise fun x y=>ltI x y=true:=by
    have:=(Ha l).and h1
    exact this.imp fun ⟨k1,k2⟩=>by simp only[ltI,decide_eq_true_eq]; omega
  have:=UK h2 (lo:=0) (hi:=n) (fun x hx=>hr x (Qah.1 hx)) (by omega)
  rw[Qal] at this
  omega
abbrev Qkw (l:List Int):Prop:=l.Pairwise fun x y=>ltI x y=true
theorem U2:∀(x:Int) (l:List Int),XB ltI x l=l∨(XB ltI x l).length=l.length+1
  | x,[]=> .inr rfl
  | x,y :: l=>by
    unfold XB
    split
    · rcases U2 x l with h | h
      · exact .inl (by rw[h])
      · exact .inr (by simp[h])
    · split
      · exact .inl rfl
      · exact .inr rfl
theorem QgV:Z9 r l a=l∨(Z9 r l a).length=l.length+1:=by
  unfold Z9
  split
  · exact U2 _ _
  · exact .inl rfl
theorem Ht:∀(as_:List DAr) (l:List Int),as_.foldl (Z9 r) l=l∨l.length < (as_.foldl (Z9 r) l).length
  | [],l=> .inl rfl
  | a :: as_,l=>by
    rw[List.foldl_cons]
    rcases Ht as_ (Z9 r l a) with h | h <;> rcases QgV (r:=r) (l:=l) (a:=a) with h2 | h2
    · exact .inl (by rw[h,h2])
    · exact .inr (by rw[h]; omega)
    · rw[h2] at h ⊢; exact .inr h
    · exact .inr (by omega)
structure BlS (c:DSg) (p r:Int×Bool) (l:List Int):Prop where
  str:Qkw l
  cl:∀x∈l,ClS c.2.2 p r x
theorem BlS.put (h:BlS c p r l)(hx:ClS c.2.2 p r x):BlS c p r (XB ltI x l):=⟨Qcd WU h.str,fun y hy=>by
  rcases Wh.1 hy with rfl | hy
  · exact hx
  · exact h.cl y hy⟩
theorem K0:∀{as_:List DAr} {l:List Int},(∀a∈as_,a∈c.2.2)→BlS c p r l→BlS c p r (as_.foldl (Wc p) l)∧(∀x∈l,x∈as_.foldl (Wc p) l)∧∀a∈as_,XW a p→a.2.2.2∈as_.foldl (Wc p) l
  | [],l,_,h=>⟨h,fun x hx=>hx,fun a ha=>by cases ha⟩
  | a :: as_,l,hs,h=>by
    have h1:BlS c p r (Wc p l a)∧(∀x∈l,x∈Wc p l a)∧(XW a p→a.2.2.2∈Wc p l a):=by
      unfold Wc
      split
      · rename_i hl
        exact ⟨h.put (.base (hs a (List.mem_cons_self ..)) hl),fun x hx=>Wh.2 (.inr hx),fun _=>Wh.2 (.inl rfl)⟩
      · rename_i hl
        exact ⟨h,fun x hx=>hx,fun hp=>absurd hp hl⟩
    obtain ⟨i1,i2,i3⟩:=K0 (l:=Wc p l a) (fun b hb=>hs b (List.mem_cons_of_mem _ hb)) h1.1
    refine ⟨i1,fun x hx=>i2 x (h1.2.1 x hx),fun b hb hp=> ?_⟩
    rcases List.mem_cons.1 hb with rfl | hb
    · exact i2 _ (h1.2.2 hp)
    · exact i3 b hb hp
theorem Y8:∀{as_:List DAr} {l:List Int},(∀a∈as_,a∈c.2.2)→BlS c p r l→BlS c p r (as_.foldl (Z9 r) l)∧(∀x∈l,x∈as_.foldl (Z9 r) l)∧∀a∈as_,a.1∈l→¬XW a r→a.2.2.2∈as_.foldl (Z9 r) l
  | [],l,_,h=>⟨h,fun x hx=>hx,fun a ha=>by cases ha⟩
  | a :: as_,l,hs,h=>by
    have h1:BlS c p r (Z9 r l a)∧(∀x∈l,x∈Z9 r l a)∧(a.1∈l→¬XW a r→a.2.2.2∈Z9 r l a):=by
      unfold Z9
      split
      · rename_i hl
        exact ⟨h.put (.step (hs a (List.mem_cons_self ..)) (h.cl _ hl.1) hl.2),fun x hx=>Wh.2 (.inr hx),fun _ _=>Wh.2 (.inl rfl)⟩
      · rename_i hl
        exact ⟨h,fun x hx=>hx,fun h1 h2=>absurd ⟨h1,h2⟩ hl⟩
    obtain ⟨i1,i2,i3⟩:=Y8 (l:=Z9 r l a) (fun b hb=>hs b (List.mem_cons_of_mem _ hb)) h1.1
    refine ⟨i1,fun x hx=>i2 x (h1.2.1 x hx),fun b hb hp hn=> ?_⟩
    rcases List.mem_cons.1 hb with rfl | hb
    · exact i2 _ (h1.2.2 hp hn)
    · exact i3 b hb (h1.2.1 _ hp) hn
theorem QeC (hr:∀a∈as_,0≤a.2.2.2∧a.2.2.2 < (n:Int))(h:ClS as_ p r x):0≤x∧x < (n:Int):=by
  cases h with
  | base h1 _=>exact hr _ h1
  | step h1 _ _=>exact hr _ h1
theorem JW {f:List Int→List Int}(hf:∀l,BlS c p r l→BlS c p r (f l)∧∀x∈l,x∈f l)(h:BlS c p r l):∀k,BlS c p r (Q9 f k l)∧∀x∈l,x∈Q9 f k l
  | 0=>⟨h,fun x hx=>hx⟩
  | k+1=>by
    obtain ⟨h1,h2⟩:=JW hf h k
    obtain ⟨h3,h4⟩:=hf _ h1
    exact ⟨h3,fun x hx=>h4 x (h2 x hx)⟩
theorem UC (c:DSg)(p r:Int×Bool):BlS c p r (Qk c p r):=
  (JW (fun l hl=>⟨(Y8 (fun _ h=>h) hl).1,(Y8 (fun _ h=>h) hl).2.1⟩) (K0 (fun _ h=>h) ⟨List.Pairwise.nil,fun x hx=>by cases hx⟩).1 _).1
theorem QiN (hr:∀a∈c.2.2,InR c.2.1.length a):x∈Qk c p r↔ClS c.2.2 p r x:=by
  have h0:BlS c p r ([]:List Int):=⟨List.Pairwise.nil,fun x hx=>by cases hx⟩
  obtain ⟨a1,a2,a3⟩:=K0 (as_:=c.2.2) (fun _ h=>h) h0
  have hrt:∀a∈c.2.2,0≤a.2.2.2∧a.2.2.2 < (c.2.1.length:Int):=fun a ha=>(hr a ha).2
  have hfx:=QfO (f:=fun l=>c.2.2.foldl (Z9 r) l) (I:=BlS c p r) (m:=List.length) (n:=c.2.1.length) (fun l hl=>(Y8 (fun _ h=>h) hl).1)
    (fun l hl=>by have:=UK hl.str (lo:=0) (hi:=c.2.1.length) (fun x hx=>QeC hrt (hl.cl x hx)) (by omega); omega) (fun l _=>Ht _ _) a1
  have hsub:=(JW (f:=fun l=>c.2.2.foldl (Z9 r) l) (fun l hl=>⟨(Y8 (fun _ h=>h) hl).1,(Y8 (fun _ h=>h) hl).2.1⟩) a1 c.2.1.length)
  refine ⟨(UC c p r).cl x,fun h=> ?_⟩
  induction h with
  | base h1 h2=>exact hsub.2 _ (a3 _ h1 h2)
  | step h1 _ h2 ih=>
    have:=(Y8 (r:=r) (fun _ h=>h) hsub.1).2.2 _ h1 ih h2
    rw[hfx] at this
    exact this
def mkS (n:Nat)(l:List Int):List Bool:=l.foldl (fun s x=>s.set x.toNat true) (List.replicate n false)
theorem QjT:(mkS n l).length=n:=by
  unfold mkS
  have:∀(l:List Int) (s:List Bool),(l.foldl (fun s x=>s.set x.toNat true) s).length=s.length:=fun l=>by
    induction l with
    | nil=>intro s; rfl
    | cons x l ih=>intro s; rw[List.foldl_cons,ih,List.length_set]
  rw[this]; simp
theorem QmP (hx:l[k]? =some x):(mkS n (l.take k)).set x.toNat true=mkS n (l.take (k+1)):=by
  unfold mkS
  rw[Q8 hx,List.foldl_append]; rfl
theorem Qo7 (hr:∀x∈l,0≤x∧x < (n:Int))(h0:0≤x)(h1:x < (n:Int)):(mkS n l)[x.toNat]? =some true↔x∈l:=by
  unfold mkS
  have:∀(l:List Int) (s:List Bool),s.length=n→(∀x∈l,0≤x∧x < (n:Int))→((l.foldl (fun s x=>s.set x.toNat true) s)[x.toNat]? =some true↔s[x.toNat]? =some true∨x∈l):=fun l=>by
    induction l with
    | nil=>intro s _ _; simp
    | cons y l ih=>
      intro s hs hr
      have hy:=hr y (List.mem_cons_self ..)
      rw[List.foldl_cons,ih _ (by rw[List.length_set]; exact hs) fun z hz=>hr z (List.mem_cons_of_mem _ hz),List.mem_cons]
      by_cases e:x=y
      · subst e
        rw[List.getElem?_set_self (by omega)]; simp
      · rw[List.getElem?_set_ne (by omega)]; simp[e]
  rw[this l _ (by simp) hr]
  simp[List.getElem?_replicate]
structure BlI (c:DSg) (p r:Int×Bool) (at_:Int) (out:List Int) (seen:List Bool):Prop where
  rng:0≤at_∧at_≤(out.length:Int)
  nd:out.Nodup
  q:∀x∈out,(0≤x∧x < (c.2.1.length:Int))∧ClS c.2.2 p r x
  sn:seen.length=c.2.1.length
  se:∀x,0≤x→x < (c.2.1.length:Int)→(seen[x.toNat]? =some true↔x∈out)
  base:∀a∈c.2.2,XW a p→a.2.2.2∈out
  cl:∀(j:Nat) (o:Int),(j:Int) < at_→out[j]? =some o→∀a∈c.2.2,a.1=o→¬XW a r→a.2.2.2∈out
theorem Qfq:x∈swL as_ p↔∃a∈as_,XW a p∧a.2.2.2=x:=by
  unfold swL
  simp only[List.mem_map,List.mem_filter,decide_eq_true_eq]
  constructor
  · rintro ⟨a,⟨h1,h2⟩,h3⟩; exact ⟨a,h1,h2,h3⟩
  · rintro ⟨a,h1,h2,h3⟩; exact ⟨a,⟨h1,h2⟩,h3⟩
theorem QeH (hr:∀a∈c.2.2,InR c.2.1.length a)(h:out=ofG ltI (swL c.2.2 p))(hx:x∈out):0≤x∧x < (c.2.1.length:Int):=by
  subst h
  obtain ⟨a,h1,_,rfl⟩:=Qfq.1 ((J0 WU _).1 hx)
  exact (hr a h1).2
theorem QoF (hr:∀a∈c.2.2,InR c.2.1.length a)(h:out=ofG ltI (swL c.2.2 p)):out.length≤c.2.1.length:=by
  have:=UK (l:=out) (lo:=0) (hi:=c.2.1.length) (by rw[h]; exact QbE WU _) (fun x hx=>QeH hr h hx) (by omega)
  omega
theorem Qkh (h:Qkw l):l.Nodup:=h.imp fun h=>by simp only[ltI,decide_eq_true_eq] at h; omega
theorem BlI.start (hr:∀a∈c.2.2,InR c.2.1.length a)(h:out=ofG ltI (swL c.2.2 p))(hs:seen=mkS c.2.1.length out):BlI c p r 0 out seen where
  rng:=by omega
  nd:=by rw[h]; exact Qkh (QbE WU _)
  q x hx:=⟨QeH hr h hx,by
    rw[h] at hx
    obtain ⟨a,h1,h2,rfl⟩:=Qfq.1 ((J0 WU _).1 hx)
    exact .base h1 h2⟩
  sn:=by rw[hs,QjT]
  se x h0 h1:=by rw[hs]; exact Qo7 (fun y hy=>QeH hr h hy) h0 h1
  base a h1 h2:=by rw[h]; exact (J0 WU _).2 (Qfq.2 ⟨a,h1,h2,rfl⟩)
  cl j o hj:=by omega
theorem BlI.few (h:BlI c p r at_ out seen):out.length≤c.2.1.length:=Qky h.nd fun x hx=>(h.q x hx).1
theorem BlI.inr (h:BlI c p r at_ out seen)(hx:out[k]? =some x):0≤x∧x < (c.2.1.length:Int):=(h.q x (List.mem_of_getElem? hx)).1
theorem BlI.push (h:BlI c p r at_ out seen)(hr:∀a∈c.2.2,InR c.2.1.length a)(ho:o∈out)(ha:a∈c.2.2)(h1:a.1=o)(h2:¬XW a r)(hs:seen[a.2.2.2.toNat]? =some false):BlI c p r at_ (out++[a.2.2.2]) (seen.set a.2.2.2.toNat true):=by
  have hra:=(hr a ha).2
  have hno:a.2.2.2∉out:=fun hm=>by have:=(h.se _ hra.1 hra.2).2 hm; rw[hs] at this; cases this
  have hk:=h.sn
  refine ⟨by have:=h.rng; simp; omega, ?_,fun x hx=> ?_,by rw[List.length_set]; exact hk,fun x h0 h3=> ?_,fun b hb hl=>List.mem_append_left _ (h.base b hb hl),fun j o' hj hx b hb e1 e2=> ?_⟩
  · rw [List.nodup_append]
    exact ⟨h.nd,by simp,fun x hx y hy e=>by rw[List.mem_singleton] at hy; rw[e,hy] at hx; exact hno hx⟩
  · rcases List.mem_append.1 hx with hx | hx
    · exact h.q x hx
    · rw [List.mem_singleton] at hx; subst hx
      exact ⟨hra, .step ha (by rw[h1]; exact (h.q o ho).2) h2⟩
  · rw [List.mem_append, List.mem_singleton]
    by_cases e:x=a.2.2.2
    · subst e; rw[List.getElem?_set_self (by omega)]; simp
    · rw[List.getElem?_set_ne (by omega),h.se x h0 h3]; simp[e]
  · have hjl := h.rng
    rw[List.getElem?_append_left (by omega)] at hx
    exact List.mem_append_left _ (h.cl j o' hj hx b hb e1 e2)
theorem BlI.next (h:BlI c p r at_ out seen)(h0:at_ < (out.length:Int))(ho:out[at_.toNat]? =some o)(hc:∀a∈c.2.2,a.1=o→¬XW a r→a.2.2.2∈out):BlI c p r (at_+1) out seen:=by
  refine ⟨by have:=h.rng; omega,h.nd,h.q,h.sn,h.se,h.base,fun j o' hj hx=> ?_⟩
  by_cases e:(j:Int)=at_
  · have : j = at_.toNat := by omega
    subst this
    rw[ho] at hx; cases hx
    exact hc
  · exact h.cl j o' (by omega) hx
theorem BlI.fin (h:BlI c p r at_ out seen)(hr:∀a∈c.2.2,InR c.2.1.length a)(h0:¬at_ < (out.length:Int)):ofG ltI out=Qk c p r:=by
  refine TO.ext WU (QbE WU _) (UC c p r).str fun x=> ?_
  rw[J0 WU,QiN hr]
  refine ⟨fun hx=>(h.q x hx).2,fun hx=> ?_⟩
  induction hx with
  | base h1 h2=>exact h.base _ h1 h2
  | step h1 _ h2 ih=>
    obtain ⟨j,hj⟩:=List.mem_iff_getElem?.1 ih
    have:=(List.getElem?_eq_some_iff.1 hj).1
    exact h.cl j _ (by omega) hj _ h1 rfl h2
theorem QpQ {jq:Nat}{aq ar:DAr}(h1:as_[jq]? =some aq)(h2:aq.1=((o.toNat:Nat):Int))(h3:q=(jq:Int))(h4:as_[q.toNat]? =some ar)(h0:0≤o):ar.1=o:=by
  rw[h3] at h4
  have h5:as_[jq]? =some ar:=by simpa using h4
  rw[h1] at h5; cases h5; omega
theorem Qm3 (hr:∀a∈c.2.2,InR c.2.1.length a)(hy:(ZI n (ixE c.2.2))[o.toNat]? =some ts)(h0:0≤o)(hT:∀(j:Nat) (q:Int),j < i→ts[j]? =some q→∀a,c.2.2[q.toNat]? =some a→¬XW a r→a.2.2.2∈out)(hi:ts.length≤i):
    ∀a∈c.2.2,a.1=o→¬XW a r→a.2.2.2∈out:=fun a ha h1 h2=>by
  obtain ⟨j,hj⟩:=List.mem_iff_getElem?.1 ha
  have hm:(j:Int)∈ts:=(Qee (fun a ha=>(hr a ha).1.1) hy).2 ⟨j,a,hj,by omega,rfl⟩
  obtain ⟨m,hm⟩:=List.mem_iff_getElem?.1 hm
  have:=(List.getElem?_eq_some_iff.1 hm).1
  exact hT m _ (by omega) hm a (by simpa using hj) h2
end
section
variable {c:DSg}{as_:List DAr}{a:DAr}{p r:Int×Bool}{k i j n:Nat}{l:List Int}
theorem QgF (hx:as_[k]? =some a)(h:XW a p):XB ltI a.2.2.2 ((as_.take k).foldl (Wc p) [])=(as_.take (k+1)).foldl (Wc p) []:=by
  rw[Q8 hx,List.foldl_append]; simp[Wc,h]
theorem Qi0 (hx:as_[k]? =some a)(h:¬XW a p):(as_.take k).foldl (Wc p) []=(as_.take (k+1)).foldl (Wc p) []:=by
  rw[Q8 hx,List.foldl_append]; simp[Wc,h]
theorem QaF (hx:as_[k]? =some a)(h1:a.1∈(as_.take k).foldl (Z9 r) l)(h:¬XW a r):XB ltI a.2.2.2 ((as_.take k).foldl (Z9 r) l)=(as_.take (k+1)).foldl (Z9 r) l:=by
  rw[Q8 hx,List.foldl_append]; simp only[List.foldl_cons,List.foldl_nil]; rw[Z9,if_pos ⟨h1,h⟩]
theorem Uk (hx:as_[k]? =some a)(h:¬(a.1∈(as_.take k).foldl (Z9 r) l∧¬XW a r)):(as_.take k).foldl (Z9 r) l=(as_.take (k+1)).foldl (Z9 r) l:=by
  rw[Q8 hx,List.foldl_append]; simp only[List.foldl_cons,List.foldl_nil]; rw[Z9,if_neg h]
theorem QmX:((as_).foldl (Wc p) []).length≤as_.length:=by
  have:∀(as_:List DAr) (l:List Int),(as_.foldl (Wc p) l).length≤l.length+as_.length:=fun as_=>by
    induction as_ with
    | nil=>intro l; simp
    | cons a as_ ih=>
      intro l
      have h1:=ih (Wc p l a)
      have h2:(Wc p l a).length≤l.length+1:=by
        unfold Wc
        split
        · rcases U2 a.2.2.2 l with h | h
          · rw[h]; omega
          · omega
        · omega
      rw[List.foldl_cons,List.length_cons]; omega
  simpa using this as_ []
theorem Qnl (hr:∀a∈c.2.2,InR c.2.1.length a)(j i:Nat):((c.2.2.take i).foldl (Z9 r) (Q9 (fun l=>c.2.2.foldl (Z9 r) l) j (c.2.2.foldl (Wc p) []))).length≤c.2.1.length:=by
  have h0:BlS c p r ([]:List Int):=⟨List.Pairwise.nil,fun x hx=>by cases hx⟩
  have h1:=(JW (f:=fun l=>c.2.2.foldl (Z9 r) l) (fun l hl=>⟨(Y8 (fun _ h=>h) hl).1,(Y8 (fun _ h=>h) hl).2.1⟩) (K0 (as_:=c.2.2) (fun _ h=>h) h0).1 j).1
  have h2:=(Y8 (r:=r) (as_:=c.2.2.take i) (fun a ha=>List.mem_of_mem_take ha) h1).1
  have:=UK h2.str (lo:=0) (hi:=c.2.1.length) (fun x hx=>QeC (fun a ha=>(hr a ha).2) (h2.cl x hx)) (by omega)
  omega
end
theorem QaW (c:(List (ByteArray×Int))×List ByteArray×(List (Int×Int×Bool×Int)))(hr:∀a∈c.2.2,InR c.2.1.length a)(hl:c.2.2.length≤4000∧c.2.1.length≤300):FC Tryz.prog 207 [(true,[.dat (.sl 145 (.pr .str .int)) c.1, .dat (.sl 9 .str) c.2.1, .dat (.sl 179 (.pr .int (.pr .int (.pr .bool .int)))) c.2.2])] [] 0 (X8 106 (.sl 3 .int) (ZI c.2.1.length (ixE c.2.2))):=by
 refine QM Tryz.func207 rfl rfl Tryz.ntmps207 fun O_ hO w0_ N0_ X_ h0_ f0_=> ?_
 refine w_ ?_
 refine lc (Qo 0 (Qb rfl) rfl rfl (Fresh.of rfl) (nlr rfl)) ?_
 iterate 5 refine w_ ?_
 refine AL.fact (Qy (x:= .tmp 7) (Qa rfl)) fun hl1=> ?_
 refine w_ ?_
 refine lc (Vg 1 (e:=(.sl 3 .int)) (n:=c.2.1.length) (Qa rfl) (Qa rfl) YH QjM rfl (by omega) (by omega) rfl (Fresh.of rfl) (nlr rfl)) ?_
 iterate 6 refine w_ ?_
 refine AL.fact (Qy (x:= .tmp 11) (Qa rfl)) fun hl2=> ?_
 iterate 4 refine w_ ?_
 refine Qx (fun m_ s_=>∃(k:Nat),k≤c.2.2.length∧m_=c.2.2.length - k∧s_=⟨[(2,lf (.val (.slice none 0 0))),(3,lR 2),(11,lf (.dat (.sl 179 (.pr .int (.pr .int (.pr .bool .int)))) c.2.2)),(12,lI (c.2.2.length:Int)),(13,lI (k:Int))],[(2,some (.arr 106 (.sl 3 .int) (ZI c.2.1.length ((ixE c.2.2).take k))))]⟩) ⟨0,Nat.zero_le _,rfl,rfl⟩ ?_ ?_
 · exact Wk.of [(2,1)] rfl ⟨rfl,rfl,rfl,rfl,rfl,trivial⟩ ⟨(QA (by simp only[List.take_zero]; rfl)),trivial⟩ rfl rfl
 rintro m_ s_ ⟨k,hk3,hm4,rfl⟩
 iterate 4 refine w_ ?_
 cases hb5:(decide ((k:Int) < (c.2.2.length:Int)))
 ·have hb5':=of_decide_eq_false hb5
  refine w_ ?_
  refine QC ?_
  refine (?_:AC _ _ _ _ _)
  iterate 4 refine w_ ?_
  refine Qd ?_
  subst hO
  refine ZC (e:=(.sl 3 .int)) (xs:=(ZI c.2.1.length ((ixE c.2.2).take k))) (Qe rfl (Qc rfl)) rfl ?_
  (rw[Zd (by rw[QeU]; omega)]; done)
 ·have hb5':=of_decide_eq_true hb5
  iterate 6 refine w_ ?_
  obtain ⟨ar,hx7⟩:∃z,c.2.2[k]? =some z:=⟨_,List.getElem?_eq_getElem (by omega)⟩
  refine lc (Qn (Qa rfl) (Qa rfl) Zg QJ rfl (by omega) hx7) ?_
  refine w_ ?_
  refine lc (Qt 3 (.pr .int (.pr .int (.pr .bool .int))) Zn rfl rfl (Fresh.of rfl) (nlr rfl)) ?_
  refine w_ ?_
  refine lc (Qh (Qa rfl) rfl (Qb rfl) rfl QJ rfl) ?_
  refine w_ ?_
  obtain ⟨⟨he1,he2⟩,_⟩:=hr _ (List.mem_of_getElem? hx7)
  have hn1:=Ws (n:=c.2.1.length) (es:=(ixE c.2.2).take k)
  obtain ⟨ys,hys⟩:∃z,(ZI c.2.1.length ((ixE c.2.2).take k))[ar.1.toNat]? =some z:=⟨_,List.getElem?_eq_getElem (by omega)⟩
  have hyf:=Qay hys
  have hltk:((ixE c.2.2).take k).length≤c.2.2.length:=by simp only[List.length_take,QeU]; omega
  have hcA:=QlS hys
  have hpA:ar.1.toNat*1+0 < (Yf (.sl 3 .int) (ZI c.2.1.length ((ixE c.2.2).take k))).length:=by rw[JL]; show ar.1.toNat*1+0 < (ZI c.2.1.length ((ixE c.2.2).take k)).length*1; omega
  refine AC.wk (Qjv (q:=2) rfl (by omega))<|AC.wk (Qd8 4 (q:=2) (p:=ar.1.toNat*1+0) (E':=3) (e':= .int) (ys:=ys) rfl (hcA) (Fresh.of rfl) (Nat.le_of_ble_eq_true rfl)) ?_
  refine dv [io 18 (lR 2),io 19 (lP 3 0),io 20 (lI ar.1),io 21 (lR 2),io 22 (lP 3 0),io 23 (lI ar.1),io 24 (lf (.ept 2 1 ((ar.1).toNat) 0)),io 25 (lR 4),io 26 (lI (k:Int)),⟨some 27,lR 5,[(5,some (.arr 3 .int ([(k:Int)])))]⟩,⟨some 28,lR 6,[(6,some (.arr 3 .int (ys++([(k:Int)])))),(4,none),(5,none)]⟩,io 29 (lf (.ept 2 1 ((ar.1).toNat) 0)),⟨none,lf (.val undef),[(2,some (.obx 106 1 ((ZI c.2.1.length ((ixE c.2.2).take k)).length) (Yf (.sl 3 .int) (ZI c.2.1.length ((ixE c.2.2).take k))) [((ar.1).toNat*1+0, .ref 6),(ar.1.toNat*1+0, .ref 4)]))]⟩] [0,0,2,0,0,16,56,120,0,256,1016,2047,4095] mixed rfl (by kernel_rfl) ⟨dxm rfl rfl,dxf Zl rfl rfl rfl,dxl Qz rfl rfl rfl rfl rfl,dxm rfl rfl,dxf Zl rfl rfl rfl,dxl Qz rfl rfl rfl rfl rfl,fun _ h_=>ac (VF (h_.v rfl) (h_.en 2 rfl) (h_.v rfl) YH Zx rfl (by omega) (by omega)) rfl,fun _ h_=>ac (Qci (h_.v rfl) (h_.n 2 rfl) (show (ovr _ _)[ar.1.toNat*1+0]? =some (.ref 4) from by simp only[ovr,List.getElem?_set,List.length_set,hpA,hcA,eq_self,if_true,if_false,↓reduceIte]) (h_.n 4 rfl) Zx rfl) rfl,dxm rfl rfl,fun _ h_=>ac (Ql 5 (e:= .int) QL Qz Xg rfl ⟨_,_,rfl,(h_.w rfl),rfl⟩ (List.all_eq_true.1 rfl) ⟨_,_,_,_,rfl,⟨rfl,rfl⟩,⟨rfl,rfl⟩,rfl⟩ (by decide) rfl rfl (h_.fr 5 rfl) (nlr rfl)) rfl,fun _ h_=>ac (QY 6 (h_.v rfl) (h_.en 4 rfl) (h_.v rfl) (h_.en 5 rfl) rfl QL WP (by first | omega | (simp only[List.length_append,List.length_map,List.length_take,List.length_cons,List.length_nil]; omega) | (simp only[List.length_append,List.length_drop,List.length_take,List.length_cons,List.length_nil]; omega)) rfl (h_.fr 6 rfl) (nlr rfl)) rfl,fun _ h_=>ac (VF (h_.v rfl) (h_.en 2 rfl) (h_.v rfl) YH Zx rfl (by omega) (by omega)) rfl,fun _ h_=>ac (Qa9 (t:=4) (h_.v rfl) (h_.n 2 rfl) (show (ovr _ _)[ar.1.toNat*1+0]? =some (.ref 4) from by simp only[ovr,List.getElem?_set,List.length_set,hpA,hcA,eq_self,if_true,if_false,↓reduceIte]) (h_.v rfl) (h_.n 6 rfl) Zx) rfl,⟨⟩⟩ ?_
  refine (?_:AC _ _ _ _ _)
  refine AC.wk (QfS (q:=2) (t:=6) (p:=ar.1.toNat*1+0) rfl (by simp only[ovr,List.getElem?_set,List.length_set,hpA,hcA,eq_self,if_true,if_false,↓reduceIte]) rfl) ?_
  refine AC.wk (Qgl (q:=2) (e:=(.sl 3 .int)) ((ZI c.2.1.length ((ixE c.2.2).take k)).set ar.1.toNat (ys++[(k:Int)])) rfl (by simp only[List.length_set]) (by simp only[ovr,List.set_set]; exact QbT hys)) ?_
  iterate 3 refine w_ ?_
  refine Qj<|QR ⟨k+1,by omega,rfl,rfl⟩ (by omega) ?_
  exact Wk.of [(2,2)] rfl ⟨rfl,rfl,rfl,rfl,rfl,trivial⟩ ⟨(QA (QcD (e:=(ar.1,(k:Int))) (QhO hx7) hys)),trivial⟩ rfl rfl
theorem Uc (c:(List (ByteArray×Int))×List ByteArray×(List (Int×Int×Bool×Int)))(p:Int×Bool)(r:Int×Bool)(hr:∀a∈c.2.2,InR c.2.1.length a)(hl:c.2.2.length≤4000∧c.2.1.length≤300):FC Tryz.prog 131 [(true,[.dat (.sl 145 (.pr .str .int)) c.1, .dat (.sl 9 .str) c.2.1, .dat (.sl 179 (.pr .int (.pr .int (.pr .bool .int)))) c.2.2]),(true,[dI p.1,dB p.2]),(true,[dI r.1,dB r.2])] [] 0 (X8 3 .int (Qk c p r)):=by
 have hnl:=Ws (n:=c.2.1.length) (es:=ixE c.2.2)
 refine QM Tryz.func131 rfl rfl Tryz.ntmps131 fun O_ hO w0_ N0_ X_ h0_ f0_=> ?_
 refine AC.fact (QO (x:= .tmp 1) (i:=0) (Qb rfl) rfl) fun hi1=>AC.fact (QO (x:= .tmp 2) (i:=0) (Qb rfl) rfl) fun hi2=> ?_
 refine w_ ?_
 refine lc (Qo 0 (Qb rfl) rfl rfl (Fresh.of rfl) (nlr rfl))<|lc (Qo 1 (Qb rfl) rfl rfl (Fresh.of rfl) (nlr rfl))<|lc (Qo 2 (Qb rfl) rfl rfl (Fresh.of rfl) (nlr rfl)) ?_
 iterate 2 refine w_ ?_
 refine dw [io 16 (ag [.dat (.sl 145 (.pr .str .int)) c.1, .dat (.sl 9 .str) c.2.1, .dat (.sl 179 (.pr .int (.pr .int (.pr .bool .int)))) c.2.2]),io 17 (ag [dI p.1,dB p.2]),⟨some 18,lR 3,[(3,some (.arr 3 .int (ofG ltI (swL c.2.2 p))))]⟩,io 19 (lP 0 1),io 20 (lf (.dat (.sl 9 .str) c.2.1)),io 21 (lI (c.2.1.length:Int)),⟨some 22,lR 4,[(4,some (.arr 4 .bool (List.replicate c.2.1.length (Ty.zero .bool))))]⟩,io 23 (ag [.dat (.sl 145 (.pr .str .int)) c.1, .dat (.sl 9 .str) c.2.1, .dat (.sl 179 (.pr .int (.pr .int (.pr .bool .int)))) c.2.2]),io 24 (lf (.dat (.sl 106 (.sl 3 .int)) (ZI c.2.1.length (ixE c.2.2)))),io 7 (lR 3),io 8 (lR 4),io 9 (lf (.dat (.sl 106 (.sl 3 .int)) (ZI c.2.1.length (ixE c.2.2))))] [0,0,3,0,8,24,56,0,135,391,1023,2047] mixed rfl (by kernel_rfl) ⟨dxa QU rfl rfl rfl rfl,dxa YI rfl rfl rfl rfl,fun _ h_=>ac (Y3 3 (QaR c p (by omega)) Qhf ⟨_,_,rfl,(h_.w rfl),⟨_,_,rfl,(h_.w rfl),rfl⟩⟩ rfl (h_.fr 3 rfl) (nlr rfl)) rfl,dxf Yd rfl rfl rfl,dxl Xe rfl rfl rfl rfl rfl,fun _ h_=>ac (Wf (h_.v rfl) rfl Yg) rfl,fun _ h_=>ac (Vg 4 (e:= .bool) (n:=c.2.1.length) (h_.v rfl) (h_.v rfl) Wi Qob rfl (by omega) (by omega) rfl (h_.fr 4 rfl) (nlr rfl)) rfl,dxa QU rfl rfl rfl rfl,fun _ h_=>ac (Qf (QaW c hr hl).frozen QiD ⟨_,_,rfl,(h_.w rfl),rfl⟩ rfl rfl) rfl,dxt rfl rfl,dxt rfl rfl,dxt rfl rfl,⟨⟩⟩ ?_
 iterate 7 refine w_ ?_
 refine Qx (fun m_ s_=>∃(k:Nat) (out0:List Int) (seen0:List Bool),k≤out0.length∧m_=out0.length - k∧(out0=ofG ltI (swL c.2.2 p))∧(seen0=mkS c.2.1.length (out0.take k))∧s_=⟨[(3,lP 0 0),(5,lP 2 0),(6,lf (.val (.slice none 0 0))),(7,lR 5),(8,lR 6),(9,lf (.dat (.sl 106 (.sl 3 .int)) (ZI c.2.1.length (ixE c.2.2)))),(25,lR 5),(26,lI ((ofG ltI (swL c.2.2 p)).length:Int)),(27,lI (k:Int))],[(0,some (.box 59 [.dat (.sl 145 (.pr .str .int)) c.1, .dat (.sl 9 .str) c.2.1, .dat (.sl 179 (.pr .int (.pr .int (.pr .bool .int)))) c.2.2])),(2,some (.box 61 [dI r.1,dB r.2])),(5,some (.arr 3 .int out0)),(6,some (.arr 4 .bool seen0))]⟩) ⟨0,ofG ltI (swL c.2.2 p),List.replicate c.2.1.length (Ty.zero .bool),Nat.zero_le _,rfl,rfl,rfl,rfl⟩ ?_ ?_
 · exact Wk.of [(0,0),(2,2),(5,3),(6,4)] rfl ⟨rfl,rfl,rfl,rfl,rfl,rfl,rfl,rfl,rfl,trivial⟩ ⟨rfl,rfl,(QA (by first | rfl | simp)),(QA (by first | rfl | simp)),trivial⟩ rfl rfl
 rintro m_ s_ ⟨k,out0,seen0,hk3,hm4,hO0,hS,rfl⟩
 have hsl0:seen0.length=c.2.1.length:=by rw[hS,QjT]
 have hol:out0.length=(ofG ltI (swL c.2.2 p)).length:=by rw[hO0]
 have hob:=QoF hr hO0
 iterate 4 refine w_ ?_
 cases hb5:(decide ((k:Int) < ((ofG ltI (swL c.2.2 p)).length:Int)))
 ·have hb5':=of_decide_eq_false hb5
  refine w_ ?_
  refine QC ?_
  refine (?_:AC _ _ _ _ _)
  iterate 5 refine w_ ?_
  refine Qx (fun m_ s_=>∃(at_:Int) (out:List Int) (seen:List Bool),m_=((c.2.1.length:Int) - at_).toNat∧(BlI c p r at_ out seen)∧s_=⟨[(3,lP 0 0),(5,lP 2 0),(6,lf (.val (.slice none 0 0))),(7,lR 7),(8,lR 8),(9,lf (.dat (.sl 106 (.sl 3 .int)) (ZI c.2.1.length (ixE c.2.2)))),(12,lI at_)],[(0,some (.box 59 [.dat (.sl 145 (.pr .str .int)) c.1, .dat (.sl 9 .str) c.2.1, .dat (.sl 179 (.pr .int (.pr .int (.pr .bool .int)))) c.2.2])),(2,some (.box 61 [dI r.1,dB r.2])),(7,some (.arr 3 .int out)),(8,some (.arr 4 .bool seen))]⟩) ⟨0,out0,seen0,rfl,(BlI.start hr hO0 (by rw[hS,Zd (by rw[hO0]; omega)])),rfl⟩ ?_ ?_
  · exact Wk.of [(0,0),(2,2),(7,5),(8,6)] rfl ⟨rfl,rfl,rfl,rfl,rfl,rfl,rfl,trivial⟩ ⟨rfl,rfl,rfl,rfl,trivial⟩ rfl rfl
  rintro m_ s_ ⟨at_,out,seen,hm7,hB,rfl⟩
  have hBr:=hB.rng
  have hBf:=hB.few
  have hBs:=hB.sn
  iterate 7 refine w_ ?_
  cases hb8:(decide (at_ < (out.length:Int)))
  ·have hb8':=of_decide_eq_false hb8
   refine w_ ?_
   refine QC ?_
   refine (?_:AC _ _ _ _ _)
   iterate 2 refine w_ ?_
   refine lc (QN 9 [(0,7)] (He out (by have:=hB.few; omega)) Qcy ⟨_,_,rfl,(Qb rfl),rfl⟩ ⟨rfl,trivial⟩ rfl ⟨(Fresh.of rfl),trivial⟩ (nlr rfl)) ?_
   iterate 2 refine w_ ?_
   refine Qd ?_
   subst hO
   refine ZC (e:= .int) (xs:=(ofG ltI out)) (Qe rfl (Qc rfl)) rfl ?_
   exact hB.fin hr (by omega)
  ·have hb8':=of_decide_eq_true hb8
   iterate 8 refine w_ ?_
   refine lc (Qq (e:= .int) (Qa rfl) rfl (Qa rfl) QL Qz rfl (by omega) (by first | omega | (simp only[List.length_set]; omega))) ?_
   obtain ⟨o,hx10⟩:∃z,out[(at_).toNat]? =some z:=⟨_,List.getElem?_eq_getElem (by omega)⟩
   have hok:=hB.inr hx10
   refine lc (Q4 (e:= .int) (Qa rfl) rfl hx10 rfl Qz rfl rfl)<|AL.fact (Qu (x:= .tmp 45) (Qa rfl)) fun hi11=> ?_
   obtain ⟨ts,hx13⟩:∃z,(ZI c.2.1.length (ixE c.2.2))[(o).toNat]? =some z:=⟨_,List.getElem?_eq_getElem (by omega)⟩
   have htm:∀x,x∈ts↔_:=fun x=>Qee (x:=x) (fun a ha=>(hr a ha).1.1) hx13
   refine lc (Qn (Qa rfl) (Qa rfl) YH Zx rfl (by omega) hx13) ?_
   refine w_ ?_
   refine AL.fact (Qy (x:= .tmp 47) (Qa rfl)) fun hl14=> ?_
   iterate 4 refine w_ ?_
   refine Qx (fun m_ s_=>∃(i:Nat) (out2:List Int) (seen2:List Bool),i≤ts.length∧m_=ts.length - i∧(BlI c p r at_ out2 seen2)∧(out2[at_.toNat]? =some o)∧(∀(j:Nat) (q:Int),j < i→ts[j]? =some q→∀a,c.2.2[q.toNat]? =some a→¬XW a r→a.2.2.2∈out2)∧s_=⟨[(3,lP 0 0),(5,lP 2 0),(6,lf (.val (.slice none 0 0))),(7,lR 10),(8,lR 11),(9,lf (.dat (.sl 106 (.sl 3 .int)) (ZI c.2.1.length (ixE c.2.2)))),(12,lI at_),(35,lI at_),(37,lI (out.length:Int)),(38,lB true),(41,lf (.dat (.sl 106 (.sl 3 .int)) (ZI c.2.1.length (ixE c.2.2)))),(43,lI at_),(45,lI o),(46,lf (.elt (.sl 3 .int) ts 0)),(47,lf (.dat (.sl 3 .int) ts)),(48,lI (ts.length:Int)),(49,lI (i:Int))],[(0,some (.box 59 [.dat (.sl 145 (.pr .str .int)) c.1, .dat (.sl 9 .str) c.2.1, .dat (.sl 179 (.pr .int (.pr .int (.pr .bool .int)))) c.2.2])),(2,some (.box 61 [dI r.1,dB r.2])),(10,some (.arr 3 .int out2)),(11,some (.arr 4 .bool seen2))]⟩) ⟨0,out,seen,Nat.zero_le _,rfl,hB,hx10,(fun j q hj=>absurd hj (Nat.not_lt_zero j)),rfl⟩ ?_ ?_
   · exact Wk.of [(0,0),(2,2),(10,7),(11,8)] rfl ⟨rfl,rfl,rfl,rfl,rfl,rfl,rfl,rfl,rfl,rfl,rfl,rfl,rfl,rfl,rfl,rfl,rfl,trivial⟩ ⟨rfl,rfl,rfl,rfl,trivial⟩ rfl rfl
   rintro m_ s_ ⟨i,out2,seen2,hk15,hm16,hB2,hQ2,hT,rfl⟩
   have hBf2:=hB2.few
   have hBs2:=hB2.sn
   have hQl:=(List.getElem?_eq_some_iff.1 hQ2).1
   iterate 4 refine w_ ?_
   cases hb17:(decide ((i:Int) < (ts.length:Int)))
   ·have hb17':=of_decide_eq_false hb17
    refine w_ ?_
    refine QC ?_
    refine (?_:AC _ _ _ _ _)
    iterate 4 refine w_ ?_
    refine Qj<|QR ⟨(at_+1),out2,seen2,rfl,(hB2.next (by omega) hQ2 (Qm3 hr hx13 (by omega) hT (by omega))),rfl⟩ (by omega) ?_
    exact Wk.of [(0,0),(2,2),(7,10),(8,11)] rfl ⟨rfl,rfl,rfl,rfl,rfl,rfl,rfl,trivial⟩ ⟨rfl,rfl,rfl,rfl,trivial⟩ rfl rfl
   ·have hb17':=of_decide_eq_true hb17
    iterate 5 refine w_ ?_
    obtain ⟨q,hx19⟩:∃z,ts[i]? =some z:=⟨_,List.getElem?_eq_getElem (by omega)⟩
    obtain ⟨jq,aq,hjq,haq,hq⟩:=(htm _).1 (List.mem_of_getElem? hx19)
    have hjl:=(List.getElem?_eq_some_iff.1 hjq).1
    refine lc (Qn (Qa rfl) (Qa rfl) QL Qz rfl (by omega) hx19) ?_
    refine w_ ?_
    refine AL.fact (Qu (x:= .tmp 52) (Qa rfl)) fun hi20=> ?_
    iterate 6 refine w_ ?_
    obtain ⟨ar,hx22⟩:∃z,c.2.2[(q).toNat]? =some z:=⟨_,List.getElem?_eq_getElem (by omega)⟩
    have hain:=hr _ (List.mem_of_getElem? hx22)
    obtain ⟨⟨ha1,ha2⟩,ha3,ha4⟩:=hain
    have hao:ar.1=o:=QpQ hjq haq hq hx22 (by omega)
    refine lc (Qn (Qa rfl) (Qa rfl) Zg QJ rfl (by omega) hx22) ?_
    refine w_ ?_
    refine lc (Qt 12 (.pr .int (.pr .int (.pr .bool .int))) Zn rfl rfl (Fresh.of rfl) (nlr rfl))<|lc (Qh (Qa rfl) rfl (Qb rfl) rfl QJ rfl) ?_
    refine w_ ?_
    cases hb23:(Ty.beq (.pr .int .bool) (ar.2.1,ar.2.2.1) r)
    ·obtain ⟨sb,hx25⟩:∃z,seen2[(ar.2.2.2).toNat]? =some z:=⟨_,List.getElem?_eq_getElem (by omega)⟩
     have hsb:=hx25
     refine dw [io 58 (ag [dI ar.1,dI ar.2.1,dB ar.2.2.1,dI ar.2.2.2]),io 59 (ag [dI ar.2.1,dB ar.2.2.1]),io 60 (ag [dI r.1,dB r.2]),io 61 (lB true),io 62 (lB true),io 63 (lR 11),io 64 (lP 12 3),io 65 (lI ar.2.2.2),io 66 (lf (.ept 11 1 ((ar.2.2.2).toNat) 0)),io 67 (lB sb),io 68 (lB (!sb)),io 69 (lB (!sb))] [0,1,0,7,15,31,31,95,255,511,1023,2047] mixed rfl (by kernel_rfl) ⟨dxa QJ rfl rfl rfl rfl,fun _ h_=>ac (Qf (Zt ar) YX ⟨_,_,rfl,(h_.w rfl),rfl⟩ rfl rfl) rfl,dxa YI rfl rfl rfl rfl,fun _ h_=>ac (QW (QgY (hb23)) (Qai KN KB (h_.w rfl) (h_.w rfl) (p:=(ar.2.1,ar.2.2.1)) (q:=r) rfl rfl rfl)) rfl,dxm rfl rfl,fun _ h_=>day rfl (h_.k rfl) (QD (h_.k rfl) rfl) rfl,fun _ h_=>day rfl (h_.k rfl) (Qv (h_.v rfl) Ze (by rw[(h_.en 12 rfl)]; rfl) rfl) rfl,fun _ h_=>day rfl (h_.k rfl) (QG (h_.v rfl) (h_.n 12 rfl) Qz rfl rfl) rfl,fun _ h_=>day rfl (h_.k rfl) (Qq (e:= .bool) (h_.v rfl) (h_.en 11 rfl) (h_.v rfl) Wi ZD rfl (by omega) (by first | omega | (simp only[List.length_set]; omega))) rfl,fun _ h_=>day rfl (h_.k rfl) (Q4 (e:= .bool) (h_.v rfl) (h_.n 11 rfl) hx25 rfl ZD rfl rfl) rfl,fun _ h_=>day rfl (h_.k rfl) (Zy (h_.v rfl) rfl) rfl,fun _ h_=>ac (QT (h_.v rfl) (h_.w rfl) rfl) rfl,⟨⟩⟩ ?_
     cases hb26:(sb)
     ·iterate 5 refine w_ ?_
      refine AL.fact (Qu (x:= .tmp 72) (Qa rfl)) fun hi27=>lc (Qq (e:= .bool) (Qa rfl) rfl (Qa rfl) Wi ZD rfl (by omega) (by first | omega | (simp only[List.length_set]; omega)))<|lc (Q2 (e:= .bool) (z':=true) (Qa rfl) rfl hx25 rfl (Evl.ev QP) rfl ZD rfl rfl) ?_
      iterate 5 refine w_ ?_
      refine lc (Ql 13 (e:= .int) QL Qz Xg rfl ⟨_,_,rfl,(Qb rfl),rfl⟩ (List.all_eq_true.1 rfl) ⟨_,_,_,_,rfl,⟨rfl,rfl⟩,⟨rfl,rfl⟩,rfl⟩ (by decide) rfl rfl (Fresh.of rfl) (nlr rfl))<|lc (QY 14 (Qa rfl) rfl (Qa rfl) rfl rfl QL WP (by first | omega | (simp only[List.length_append,List.length_map,List.length_take,List.length_cons,List.length_nil]; omega) | (simp only[List.length_append,List.length_drop,List.length_take,List.length_cons,List.length_nil]; omega)) rfl (Fresh.of rfl) (nlr rfl)) ?_
      refine w_ ?_
      refine Qj ?_
      refine (?_:AC _ _ _ _ _)
      iterate 3 refine w_ ?_
      refine Qj ?_
      refine QR ⟨i+1,(out2++([ar.2.2.2])),(seen2.set ((ar.2.2.2).toNat) true),by omega,rfl,(by exact hB2.push hr (List.mem_of_getElem? hQ2) (List.mem_of_getElem? hx22) hao (QiO (by assumption)) (hsb.trans (congrArg some (by assumption)))),(by (rw[List.getElem?_append_left hQl]; exact hQ2)),(fun j q0 hj hx0 a ha hn=>if e:j=i then (by subst e; cases (hx19).symm.trans hx0; cases (hx22).symm.trans ha; first | exact List.mem_append_right _ (List.mem_singleton.2 rfl) | exact (hB2.se _ ha3 ha4).1 (hsb.trans (congrArg some (by assumption))) | exact absurd (JN (by assumption)) hn) else (by first | exact hT j q0 (by omega) hx0 a ha hn | exact List.mem_append_left _ (hT j q0 (by omega) hx0 a ha hn))),rfl⟩ (by omega) ?_
      exact Wk.of [(0,0),(2,2),(10,14),(11,11)] rfl ⟨rfl,rfl,rfl,rfl,rfl,rfl,rfl,rfl,rfl,rfl,rfl,rfl,rfl,rfl,rfl,rfl,rfl,trivial⟩ ⟨rfl,rfl,(QA (by first | rfl | simp)),(QA (by first | rfl | simp)),trivial⟩ rfl rfl
     ·refine w_ ?_
      refine AC.skip ?_
      refine (?_:AC _ _ _ _ _)
      iterate 3 refine w_ ?_
      refine Qj<|QR ⟨i+1,out2,seen2,by omega,rfl,(by exact hB2),(by exact hQ2),(fun j q0 hj hx0 a ha hn=>if e:j=i then (by subst e; cases (hx19).symm.trans hx0; cases (hx22).symm.trans ha; first | exact List.mem_append_right _ (List.mem_singleton.2 rfl) | exact (hB2.se _ ha3 ha4).1 (hsb.trans (congrArg some (by assumption))) | exact absurd (JN (by assumption)) hn) else (by first | exact hT j q0 (by omega) hx0 a ha hn | exact List.mem_append_left _ (hT j q0 (by omega) hx0 a ha hn))),rfl⟩ (by omega) ?_
      exact Wk.of [(0,0),(2,2),(10,10),(11,11)] rfl ⟨rfl,rfl,rfl,rfl,rfl,rfl,rfl,rfl,rfl,rfl,rfl,rfl,rfl,rfl,rfl,rfl,rfl,trivial⟩ ⟨rfl,rfl,rfl,rfl,trivial⟩ rfl rfl
    ·refine dw [io 58 (ag [dI ar.1,dI ar.2.1,dB ar.2.2.1,dI ar.2.2.2]),io 59 (ag [dI ar.2.1,dB ar.2.2.1]),io 60 (ag [dI r.1,dB r.2]),io 61 (lB false),io 62 (lB false),io 63 (lf (.val undef)),io 64 (lf (.val undef)),io 65 (lf (.val undef)),io 66 (lf (.val undef)),io 67 (lf (.val undef)),io 68 (lf (.val undef)),io 69 (lB false)] [0,1,0,7,15,31,31,95,255,511,1023,2047] mixed rfl (by kernel_rfl) ⟨dxa QJ rfl rfl rfl rfl,fun _ h_=>ac (Qf (Zt ar) YX ⟨_,_,rfl,(h_.w rfl),rfl⟩ rfl rfl) rfl,dxa YI rfl rfl rfl rfl,fun _ h_=>ac (QW (QgY (hb23)) (Qai KN KB (h_.w rfl) (h_.w rfl) (p:=(ar.2.1,ar.2.2.1)) (q:=r) rfl rfl rfl)) rfl,dxm rfl rfl,dxo rfl rfl rfl,dxo rfl rfl rfl,dxo rfl rfl rfl,dxo rfl rfl rfl,dxo rfl rfl rfl,dxo rfl rfl rfl,fun _ h_=>ac (QK (h_.v rfl) (Evl.ev QP) rfl) rfl,⟨⟩⟩ ?_
     refine w_ ?_
     refine AC.skip ?_
     refine (?_:AC _ _ _ _ _)
     iterate 3 refine w_ ?_
     refine Qj<|QR ⟨i+1,out2,seen2,by omega,rfl,(by exact hB2),(by exact hQ2),(fun j q0 hj hx0 a ha hn=>if e:j=i then (by subst e; cases (hx19).symm.trans hx0; cases (hx22).symm.trans ha; first | exact List.mem_append_right _ (List.mem_singleton.2 rfl) | exact (hB2.se _ ha3 ha4).1 (hsb.trans (congrArg some (by assumption))) | exact absurd (JN (by assumption)) hn) else (by first | exact hT j q0 (by omega) hx0 a ha hn | exact List.mem_append_left _ (hT j q0 (by omega) hx0 a ha hn))),rfl⟩ (by omega) ?_
     exact Wk.of [(0,0),(2,2),(10,10),(11,11)] rfl ⟨rfl,rfl,rfl,rfl,rfl,rfl,rfl,rfl,rfl,rfl,rfl,rfl,rfl,rfl,rfl,rfl,rfl,trivial⟩ ⟨rfl,rfl,rfl,rfl,trivial⟩ rfl rfl
 ·have hb5':=of_decide_eq_true hb5
  iterate 5 refine w_ ?_
  refine lc (Qq (e:= .int) (Qa rfl) rfl (Qa rfl) QL Qz rfl (by omega) (by first | omega | (simp only[List.length_set]; omega))) ?_
  obtain ⟨x0,hx29⟩:∃z,out0[k]? =some z:=⟨_,List.getElem?_eq_getElem (by omega)⟩
  have hr0:=QeH hr hO0 (List.mem_of_getElem? hx29)
  refine lc (Q4 (e:= .int) (Qa rfl) rfl hx29 rfl Qz rfl rfl)<|AL.fact (Qu (x:= .tmp 30) (Qa rfl)) fun hi30=> ?_
  iterate 5 refine w_ ?_
  refine lc (Qq (e:= .bool) (Qa rfl) rfl (Qa rfl) Wi ZD rfl (by omega) (by first | omega | (simp only[List.length_set]; omega))) ?_
  obtain ⟨x31,hx32⟩:∃z,seen0[(x0).toNat]? =some z:=⟨_,List.getElem?_eq_getElem (by omega)⟩
  refine lc (Q2 (e:= .bool) (z':=true) (Qa rfl) rfl hx32 rfl (Evl.ev QP) rfl ZD rfl rfl)<|Qj ?_
  refine (?_:AC _ _ _ _ _)
  iterate 3 refine w_ ?_
  refine Qj<|QR ⟨k+1,out0,(seen0.set ((x0).toNat) true),by omega,rfl,hO0,(by rw[hS]; exact QmP hx29),rfl⟩ (by omega) ?_
  exact Wk.of [(0,0),(2,2),(5,5),(6,6)] rfl ⟨rfl,rfl,rfl,rfl,rfl,rfl,rfl,rfl,rfl,trivial⟩ ⟨rfl,rfl,rfl,(QA (by first | rfl | simp)),trivial⟩ rfl rfl
theorem QaE (c:(List (ByteArray×Int))×List ByteArray×(List (Int×Int×Bool×Int)))(p:Int×Bool)(r:Int×Bool)(hr:∀a∈c.2.2,InR c.2.1.length a)(hl:c.2.2.length≤4000∧c.2.1.length≤300):FC Tryz.prog 195 [(true,[.dat (.sl 145 (.pr .str .int)) c.1, .dat (.sl 9 .str) c.2.1, .dat (.sl 179 (.pr .int (.pr .int (.pr .bool .int)))) c.2.2]),(true,[dI p.1,dB p.2]),(true,[dI r.1,dB r.2])] [] 0 (X8 3 .int (Qk c p r)):=by
 refine QM Tryz.func195 rfl rfl Tryz.ntmps195 fun O_ hO w0_ N0_ X_ h0_ f0_=> ?_
 refine AC.fact (QO (x:= .tmp 1) (i:=0) (Qb rfl) rfl) fun hi1=>AC.fact (QO (x:= .tmp 2) (i:=0) (Qb rfl) rfl) fun hi2=> ?_
 refine w_ ?_
 refine lc (Qo 0 (Qb rfl) rfl rfl (Fresh.of rfl) (nlr rfl))<|lc (Qo 1 (Qb rfl) rfl rfl (Fresh.of rfl) (nlr rfl))<|lc (Qo 2 (Qb rfl) rfl rfl (Fresh.of rfl) (nlr rfl)) ?_
 iterate 9 refine w_ ?_
 refine AL.fact (Qy (x:= .tmp 13) (Qa rfl)) fun hl3=> ?_
 iterate 4 refine w_ ?_
 refine AC.wk (Wk.nilS 3 7 3 .int rfl (Fresh.of rfl) (nlr rfl)) ?_
 refine Qx (fun m_ s_=>∃(k:Nat),k≤c.2.2.length∧m_=c.2.2.length - k∧s_=⟨[(3,lP 0 0),(4,lP 1 0),(5,lP 2 0),(6,lf (.val (.slice none 0 0))),(7,lR 4),(13,lf (.dat (.sl 179 (.pr .int (.pr .int (.pr .bool .int)))) c.2.2)),(14,lI (c.2.2.length:Int)),(15,lI (k:Int))],[(0,some (.box 59 [.dat (.sl 145 (.pr .str .int)) c.1, .dat (.sl 9 .str) c.2.1, .dat (.sl 179 (.pr .int (.pr .int (.pr .bool .int)))) c.2.2])),(1,some (.box 61 [dI p.1,dB p.2])),(2,some (.box 61 [dI r.1,dB r.2])),(4,some (.arr 3 .int ((c.2.2.take k).foldl (Wc p) [])))]⟩) ⟨0,Nat.zero_le _,rfl,rfl⟩ ?_ ?_
 · exact Wk.of [(0,0),(1,1),(2,2),(4,3)] rfl ⟨rfl,rfl,rfl,rfl,rfl,rfl,rfl,rfl,trivial⟩ ⟨rfl,rfl,rfl,(QA (by simp only[List.take_zero,List.foldl_nil])),trivial⟩ rfl rfl
 rintro m_ s_ ⟨k,hk4,hm5,rfl⟩
 have hbl:=QmX (p:=p) (as_:=c.2.2.take k)
 have hft:(c.2.2.take k).length≤c.2.2.length:=by simp only[List.length_take]; omega
 iterate 4 refine w_ ?_
 cases hb6:(decide ((k:Int) < (c.2.2.length:Int)))
 ·have hb6':=of_decide_eq_false hb6
  refine w_ ?_
  refine QC ?_
  refine (?_:AC _ _ _ _ _)
  iterate 4 refine w_ ?_
  refine AL.fact (Qy (x:= .tmp 31) (Qa rfl)) fun hl7=> ?_
  iterate 4 refine w_ ?_
  refine Qx (fun m_ s_=>∃(j:Nat),j≤c.2.1.length∧m_=c.2.1.length - j∧s_=⟨[(3,lP 0 0),(5,lP 2 0),(6,lf (.val (.slice none 0 0))),(7,lR 5),(32,lI (c.2.1.length:Int)),(33,lI (j:Int))],[(0,some (.box 59 [.dat (.sl 145 (.pr .str .int)) c.1, .dat (.sl 9 .str) c.2.1, .dat (.sl 179 (.pr .int (.pr .int (.pr .bool .int)))) c.2.2])),(2,some (.box 61 [dI r.1,dB r.2])),(5,some (.arr 3 .int (Q9 (fun l=>c.2.2.foldl (Z9 r) l) j (c.2.2.foldl (Wc p) []))))]⟩) ⟨0,Nat.zero_le _,rfl,rfl⟩ ?_ ?_
  · exact Wk.of [(0,0),(2,2),(5,4)] rfl ⟨rfl,rfl,rfl,rfl,rfl,rfl,trivial⟩ ⟨rfl,rfl,(QA (by rw[Zd (by omega)]; rfl)),trivial⟩ rfl rfl
  rintro m_ s_ ⟨j,hk8,hm9,rfl⟩
  iterate 4 refine w_ ?_
  cases hb10:(decide ((j:Int) < (c.2.1.length:Int)))
  ·have hb10':=of_decide_eq_false hb10
   refine w_ ?_
   refine QC ?_
   refine (?_:AC _ _ _ _ _)
   iterate 4 refine w_ ?_
   refine Qd ?_
   subst hO
   refine ZC (e:= .int) (xs:=(Q9 (fun l=>c.2.2.foldl (Z9 r) l) j (c.2.2.foldl (Wc p) []))) (Qe rfl (Qc rfl)) rfl ?_
   (unfold Qk; congr 1; omega)
  ·have hb10':=of_decide_eq_true hb10
   iterate 7 refine w_ ?_
   refine AL.fact (Qy (x:= .tmp 36) (Qa rfl)) fun hl11=> ?_
   iterate 4 refine w_ ?_
   refine Qx (fun m_ s_=>∃(i:Nat),i≤c.2.2.length∧m_=c.2.2.length - i∧s_=⟨[(3,lP 0 0),(5,lP 2 0),(6,lf (.val (.slice none 0 0))),(7,lR 6),(32,lI (c.2.1.length:Int)),(33,lI (j:Int)),(34,lB true),(35,lP 0 2),(36,lf (.dat (.sl 179 (.pr .int (.pr .int (.pr .bool .int)))) c.2.2)),(37,lI (c.2.2.length:Int)),(38,lI (i:Int))],[(0,some (.box 59 [.dat (.sl 145 (.pr .str .int)) c.1, .dat (.sl 9 .str) c.2.1, .dat (.sl 179 (.pr .int (.pr .int (.pr .bool .int)))) c.2.2])),(2,some (.box 61 [dI r.1,dB r.2])),(6,some (.arr 3 .int ((c.2.2.take i).foldl (Z9 r) (Q9 (fun l=>c.2.2.foldl (Z9 r) l) j (c.2.2.foldl (Wc p) [])))))]⟩) ⟨0,Nat.zero_le _,rfl,rfl⟩ ?_ ?_
   · exact Wk.of [(0,0),(2,2),(6,5)] rfl ⟨rfl,rfl,rfl,rfl,rfl,rfl,rfl,rfl,rfl,rfl,rfl,trivial⟩ ⟨rfl,rfl,(QA (by simp only[List.take_zero,List.foldl_nil])),trivial⟩ rfl rfl
   rintro m_ s_ ⟨i,hk12,hm13,rfl⟩
   have hbl:=Qnl (c:=c) (p:=p) (r:=r) hr j i
   iterate 4 refine w_ ?_
   cases hb14:(decide ((i:Int) < (c.2.2.length:Int)))
   ·have hb14':=of_decide_eq_false hb14
    refine w_ ?_
    refine QC ?_
    refine (?_:AC _ _ _ _ _)
    iterate 3 refine w_ ?_
    refine Qj<|QR ⟨j+1,by omega,rfl,rfl⟩ (by omega) ?_
    exact Wk.of [(0,0),(2,2),(5,6)] rfl ⟨rfl,rfl,rfl,rfl,rfl,rfl,trivial⟩ ⟨rfl,rfl,(QA (by rw[Zd (by omega)]; rfl)),trivial⟩ rfl rfl
   ·have hb14':=of_decide_eq_true hb14
    iterate 5 refine w_ ?_
    obtain ⟨x15,hx16⟩:∃z,c.2.2[i]? =some z:=⟨_,List.getElem?_eq_getElem (by omega)⟩
    refine lc (Qn (Qa rfl) (Qa rfl) Zg QJ rfl (by omega) hx16) ?_
    refine w_ ?_
    refine lc (Qt 7 (.pr .int (.pr .int (.pr .bool .int))) Zn rfl rfl (Fresh.of rfl) (nlr rfl))<|lc (Qh (Qa rfl) rfl (Qb rfl) rfl QJ rfl) ?_
    iterate 5 refine w_ ?_
    refine AL.fact (Qu (x:= .tmp 44) (Qa rfl)) fun hi17=>lc (Zj (Yj ((c.2.2.take i).foldl (Z9 r) (Q9 (fun l=>c.2.2.foldl (Z9 r) l) j (c.2.2.foldl (Wc p) []))) x15.1) YZ ⟨_,_,rfl,(XU (Qa rfl) rfl),⟨_,_,rfl,(Ev.b (Qb rfl)),rfl⟩⟩ rfl rfl rfl) ?_
    refine w_ ?_
    cases hb18:(decide (x15.1∈((c.2.2.take i).foldl (Z9 r) (Q9 (fun l=>c.2.2.foldl (Z9 r) l) j (c.2.2.foldl (Wc p) [])))))
    ·have hb18':=of_decide_eq_false hb18
     iterate 10 refine w_ ?_
     refine AC.skip ?_
     refine (?_:AC _ _ _ _ _)
     iterate 3 refine w_ ?_
     refine Qj<|QR ⟨i+1,by omega,rfl,rfl⟩ (by omega) ?_
     exact Wk.of [(0,0),(2,2),(6,6)] rfl ⟨rfl,rfl,rfl,rfl,rfl,rfl,rfl,rfl,rfl,rfl,rfl,trivial⟩ ⟨rfl,rfl,(QA (by first | exact QaF hx16 (by assumption) (by assumption) | exact Uk hx16 (fun g=>absurd g.1 (by assumption)) | exact Uk hx16 (fun g=>absurd (by assumption) g.2))),trivial⟩ rfl rfl
    ·have hb18':=of_decide_eq_true hb18
     iterate 5 refine w_ ?_
     refine lgy rfl rfl (Qf (V1 x15 r.1 r.2) Jz ⟨_,_,rfl,(Qb rfl),⟨_,_,rfl,(Qb rfl),⟨_,_,rfl,(Qb rfl),rfl⟩⟩⟩ rfl rfl) ?_
     iterate 3 refine w_ ?_
     cases hb19:(decide (x15.2.1=r.1∧x15.2.2.1=r.2))
     ·have hb19':=of_decide_eq_false hb19
      iterate 5 refine w_ ?_
      refine AL.fact (Qu (x:= .tmp 57) (Qa rfl)) fun hi20=>lc (QN 8 [(0,6)] (WF ((c.2.2.take i).foldl (Z9 r) (Q9 (fun l=>c.2.2.foldl (Z9 r) l) j (c.2.2.foldl (Wc p) []))) x15.2.2.2 (by omega)) UU ⟨_,_,rfl,(Qb rfl),⟨_,_,rfl,(Qb rfl),rfl⟩⟩ ⟨rfl,trivial⟩ rfl ⟨(Fresh.of rfl),trivial⟩ (nlr rfl)) ?_
      refine w_ ?_
      refine Qj ?_
      refine (?_:AC _ _ _ _ _)
      iterate 3 refine w_ ?_
      refine Qj<|QR ⟨i+1,by omega,rfl,rfl⟩ (by omega) ?_
      exact Wk.of [(0,0),(2,2),(6,8)] rfl ⟨rfl,rfl,rfl,rfl,rfl,rfl,rfl,rfl,rfl,rfl,rfl,trivial⟩ ⟨rfl,rfl,(QA (by first | exact QaF hx16 (by assumption) (by assumption) | exact Uk hx16 (fun g=>absurd g.1 (by assumption)) | exact Uk hx16 (fun g=>absurd (by assumption) g.2))),trivial⟩ rfl rfl
     ·have hb19':=of_decide_eq_true hb19
      refine w_ ?_
      refine AC.skip ?_
      refine (?_:AC _ _ _ _ _)
      iterate 3 refine w_ ?_
      refine Qj<|QR ⟨i+1,by omega,rfl,rfl⟩ (by omega) ?_
      exact Wk.of [(0,0),(2,2),(6,6)] rfl ⟨rfl,rfl,rfl,rfl,rfl,rfl,rfl,rfl,rfl,rfl,rfl,trivial⟩ ⟨rfl,rfl,(QA (by first | exact QaF hx16 (by assumption) (by assumption) | exact Uk hx16 (fun g=>absurd g.1 (by assumption)) | exact Uk hx16 (fun g=>absurd (by assumption) g.2))),trivial⟩ rfl rfl
 ·have hb6':=of_decide_eq_true hb6
  iterate 5 refine w_ ?_
  obtain ⟨x21,hx22⟩:∃z,c.2.2[k]? =some z:=⟨_,List.getElem?_eq_getElem (by omega)⟩
  refine lc (Qn (Qa rfl) (Qa rfl) Zg QJ rfl (by omega) hx22) ?_
  refine w_ ?_
  refine lc (Qt 9 (.pr .int (.pr .int (.pr .bool .int))) Zn rfl rfl (Fresh.of rfl) (nlr rfl))<|lc (Qh (Qa rfl) rfl (Qb rfl) rfl QJ rfl) ?_
  iterate 7 refine w_ ?_
  refine lc (Qf (V1 x21 p.1 p.2) Jz ⟨_,_,rfl,(Qb rfl),⟨_,_,rfl,(Qb rfl),⟨_,_,rfl,(Qb rfl),rfl⟩⟩⟩ rfl rfl) ?_
  refine w_ ?_
  cases hb23:(decide (x21.2.1=p.1∧x21.2.2.1=p.2))
  ·have hb23':=of_decide_eq_false hb23
   refine w_ ?_
   refine AC.skip ?_
   refine (?_:AC _ _ _ _ _)
   iterate 3 refine w_ ?_
   refine Qj<|QR ⟨k+1,by omega,rfl,rfl⟩ (by omega) ?_
   exact Wk.of [(0,0),(1,1),(2,2),(4,4)] rfl ⟨rfl,rfl,rfl,rfl,rfl,rfl,rfl,rfl,trivial⟩ ⟨rfl,rfl,rfl,(QA (by first | exact QgF hx22 (by assumption) | exact Qi0 hx22 (by assumption))),trivial⟩ rfl rfl
  ·have hb23':=of_decide_eq_true hb23
   iterate 5 refine w_ ?_
   refine AL.fact (Qu (x:= .tmp 27) (Qa rfl)) fun hi24=>lc (QN 10 [(0,4)] (WF ((c.2.2.take k).foldl (Wc p) []) x21.2.2.2 (by omega)) UU ⟨_,_,rfl,(Qb rfl),⟨_,_,rfl,(Qb rfl),rfl⟩⟩ ⟨rfl,trivial⟩ rfl ⟨(Fresh.of rfl),trivial⟩ (nlr rfl)) ?_
   refine w_ ?_
   refine Qj ?_
   refine (?_:AC _ _ _ _ _)
   iterate 3 refine w_ ?_
   refine Qj<|QR ⟨k+1,by omega,rfl,rfl⟩ (by omega) ?_
   exact Wk.of [(0,0),(1,1),(2,2),(4,10)] rfl ⟨rfl,rfl,rfl,rfl,rfl,rfl,rfl,rfl,trivial⟩ ⟨rfl,rfl,rfl,(QA (by first | exact QgF hx22 (by assumption) | exact Qi0 hx22 (by assumption))),trivial⟩ rfl rfl
end Go.Proofs.YtnakmhfjafecpaaGreat
