/- Walks over abstract states: the block of states in which a state signal is set, both sides. -/
import Derived.Test.YtjaadeknhofhpaaGreatUa
set_option linter.unusedSimpArgs false
set_option linter.unusedVariables false
set_option linter.unusedSectionVars false
namespace Go.Proofs.YtjaadeknhofhpaaGreat
open Go.RowKit
set_option maxRecDepth 100000
set_option maxHeartbeats 4000000
abbrev Wa (a:DAr)(l:Int×Bool):Prop:=a.2.1=l.1∧a.2.2.1=l.2
def ixE (as_:List DAr):List (Int×Int):=as_.zipIdx.map fun x=>(x.1.1,(x.2:Int))
inductive ClS (as_:List DAr) (p r:Int×Bool):Int→Prop
  | base {a:DAr}:a∈as_→Wa a p→ClS as_ p r a.2.2.2
  | step {a:DAr}:a∈as_→ClS as_ p r a.1→¬Wa a r→ClS as_ p r a.2.2.2
def Wr (p:Int×Bool)(l:List Int)(a:DAr):List Int:=if Wa a p then YF ltI a.2.2.2 l else l
def Z1 (r:Int×Bool)(l:List Int)(a:DAr):List Int:=if a.1∈l∧¬Wa a r then YF ltI a.2.2.2 l else l
def Q1 {α:Type}(f:α→α):Nat→α→α
  | 0,x=>x
  | n+1,x=>f (Q1 f n x)
def Qj (c:DSg)(p r:Int×Bool):List Int:=Q1 (fun l=>c.2.2.foldl (Z1 r) l) c.2.1.length (c.2.2.foldl (Wr p) [])
theorem Qh6 {α:Type}{f:α→α}{I:α→Prop}{m:α→Nat}{n:Nat}(hI:∀x,I x→I (f x))(hm:∀x,I x→m x≤n)(hs:∀x,I x→f x=x∨m x < m (f x)){x:α}(hx:I x):f (Q1 f n x)=Q1 f n x:=by
  have h1:∀k,I (Q1 f k x):=fun k=>by
    induction k with
    | zero=>exact hx
    | succ k ih=>exact hI _ ih
  have h2:∀k,f (Q1 f k x)=Q1 f k x∨k≤m (Q1 f k x):=fun k=>by
    induction k with
    | zero=>exact .inr (ap _)
    | succ k ih=>
      rcases ih with h | h
      · exact .inl (by show f (f (Q1 f k x))=f (Q1 f k x); rw[h,h])
      · rcases hs _ (h1 k) with h3 | h3
        · exact .inl (by show f (f (Q1 f k x))=f (Q1 f k x); rw[h3,h3])
        · exact .inr (by show k+1≤m (f (Q1 f k x)); omega)
  rcases h2 n with h | h
  · exact h
  · rcases hs _ (h1 n) with h3 | h3
    · exact h3
    · have:=hm _ (hI _ (h1 n)); omega
section
variable {c:DSg}{as_:List DAr}{a:DAr}{p r:Int×Bool}{k i j n:Nat}{l out ts ys L:List Int}{seen:List Bool}{x y o q at_:Int}
theorem Qg5:(ixE as_).length=as_.length:=by simp[ixE]
theorem Qj6 (hx:as_[k]? =some a):(ixE as_)[k]? =some (a.1,(k:Int)):=by simp[ixE,List.getElem?_zipIdx,hx]
theorem QmE {e:Int×Int}:e∈ixE as_↔∃(j:Nat) (a:DAr),as_[j]? =some a∧e=(a.1,(j:Int)):=by
  rw[aJ]
  constructor
  · rintro ⟨j, hj⟩
    have hl:=(ab.1 hj).1
    rw[Qg5] at hl
    have ha:as_[j]? =some as_[j]:=ai hl
    rw[Qj6 ha] at hj
    exact ⟨j,_,ha,by simpa using hj.symm⟩
  · rintro ⟨j,a,ha,rfl⟩; exact ⟨j,Qj6 ha⟩
theorem Qfy (hr:∀a∈as_,0≤a.1)(hy:(ZC n (ixE as_))[i]? =some ys):x∈ys↔∃(j:Nat) (a:DAr),as_[j]? =some a∧a.1=(i:Int)∧x=(j:Int):=by
  have hi:i < n:=by have:=(ab.1 hy).1; rw[WO] at this; exact this
  have h:=Qf9 (es:=ixE as_) (l:=List.replicate n []) (i:=i) (t:=x) (fun e he=>by obtain ⟨j,a,ha,rfl⟩:=QmE.1 he; exact hr a (a8 ha))
  have hy':((ixE as_).foldl QbV (List.replicate n []))[i]? =some ys:=hy
  rw[hy'] at h
  simp only[ae,bI,hi,if_true,cp,ay,true_and,false_or] at h
  rw[h,QmE]
  constructor
  · rintro ⟨j,a,ha,e⟩; exact ⟨j,a,ha,by have:=congrArg Prod.fst e; exact this.symm,congrArg Prod.snd e⟩
  · rintro ⟨j,a,ha,e1,e2⟩; exact ⟨j,a,ha,by rw[e1,e2]⟩
theorem KB:∀{l:List Int} {lo hi:Int},l.Pairwise (fun x y=>ltI x y=true)→(∀x∈l,lo≤x∧x < hi)→lo≤hi→(l.length:Int)≤hi - lo
  | [],_,_,_,_,h=>by simp; omega
  | x :: l,lo,hi,h1,h2,h3=>by
    obtain ⟨h4,h5⟩:=bq.1 h1
    have h6:=h2 x (aA ..)
    have:=KB (l:=l) (lo:=x+1) (hi:=hi) h5 (fun y hy=>by have k1:=h4 y hy; have k2:=h2 y (ax _ hy); simp only[ltI,aN] at k1; omega) (by omega)
    simp only[ao]; omega
theorem Qox (h:l.Nodup)(hr:∀x∈l,0≤x∧x < (n:Int)):l.length≤n:=by
  have h1:(Vf l).Nodup:=(Qaf l).nodup_iff.2 h
  have h2:(Vf l).Pairwise fun x y=>ltI x y=true:=by
    have:=(Qbg l).and h1
    exact this.imp fun ⟨k1,k2⟩=>by simp only[ltI,aN]; omega
  have:=KB h2 (lo:=0) (hi:=n) (fun x hx=>hr x (Qca.1 hx)) (by omega)
  rw[Qb5] at this
  omega
abbrev Qoc (l:List Int):Prop:=l.Pairwise fun x y=>ltI x y=true
theorem Kf:∀(x:Int) (l:List Int),YF ltI x l=l∨(YF ltI x l).length=l.length+1
  | x,[]=> .inr rfl
  | x,y :: l=>by
    unfold YF
    split
    · rcases Kf x l with h | h
      · exact .inl (by rw[h])
      · exact .inr (by simp[h])
    · split
      · exact .inl rfl
      · exact .inr rfl
theorem QhM:Z1 r l a=l∨(Z1 r l a).length=l.length+1:=by
  unfold Z1
  split
  · exact Kf _ _
  · exact .inl rfl
theorem Qa1:∀(as_:List DAr) (l:List Int),as_.foldl (Z1 r) l=l∨l.length < (as_.foldl (Z1 r) l).length
  | [],l=> .inl rfl
  | a :: as_,l=>by
    rw[aS]
    rcases Qa1 as_ (Z1 r l a) with h | h <;> rcases QhM (r:=r) (l:=l) (a:=a) with h2 | h2
    · exact .inl (by rw[h,h2])
    · exact .inr (by rw[h]; omega)
    · rw[h2] at h ⊢; exact .inr h
    · exact .inr (by omega)
structure BlS (c:DSg) (p r:Int×Bool) (l:List Int):Prop where
  str:Qoc l
  cl:∀x∈l,ClS c.2.2 p r x
theorem BlS.put (h:BlS c p r l)(hx:ClS c.2.2 p r x):BlS c p r (YF ltI x l):=⟨QeY Vm h.str,fun y hy=>by
  rcases Ww.1 hy with rfl | hy
  · exact hx
  · exact h.cl y hy⟩
theorem JY:∀{as_:List DAr} {l:List Int},(∀a∈as_,a∈c.2.2)→BlS c p r l→BlS c p r (as_.foldl (Wr p) l)∧(∀x∈l,x∈as_.foldl (Wr p) l)∧∀a∈as_,Wa a p→a.2.2.2∈as_.foldl (Wr p) l
  | [],l,_,h=>⟨h,fun x hx=>hx,fun a ha=>by cases ha⟩
  | a :: as_,l,hs,h=>by
    have h1:BlS c p r (Wr p l a)∧(∀x∈l,x∈Wr p l a)∧(Wa a p→a.2.2.2∈Wr p l a):=by
      unfold Wr
      split
      · rename_i hl
        exact ⟨h.put (.base (hs a (aA ..)) hl),fun x hx=>Ww.2 (.inr hx),fun _=>Ww.2 (.inl rfl)⟩
      · rename_i hl
        exact ⟨h,fun x hx=>hx,fun hp=>absurd hp hl⟩
    obtain ⟨i1,i2,i3⟩:=JY (l:=Wr p l a) (fun b hb=>hs b (ax _ hb)) h1.1
    refine ⟨i1,fun x hx=>i2 x (h1.2.1 x hx),fun b hb hp=> ?_⟩
    rcases aH.1 hb with rfl | hb
    · exact i2 _ (h1.2.2 hp)
    · exact i3 b hb hp
theorem Xc:∀{as_:List DAr} {l:List Int},(∀a∈as_,a∈c.2.2)→BlS c p r l→BlS c p r (as_.foldl (Z1 r) l)∧(∀x∈l,x∈as_.foldl (Z1 r) l)∧∀a∈as_,a.1∈l→¬Wa a r→a.2.2.2∈as_.foldl (Z1 r) l
  | [],l,_,h=>⟨h,fun x hx=>hx,fun a ha=>by cases ha⟩
  | a :: as_,l,hs,h=>by
    have h1:BlS c p r (Z1 r l a)∧(∀x∈l,x∈Z1 r l a)∧(a.1∈l→¬Wa a r→a.2.2.2∈Z1 r l a):=by
      unfold Z1
      split
      · rename_i hl
        exact ⟨h.put (.step (hs a (aA ..)) (h.cl _ hl.1) hl.2),fun x hx=>Ww.2 (.inr hx),fun _ _=>Ww.2 (.inl rfl)⟩
      · rename_i hl
        exact ⟨h,fun x hx=>hx,fun h1 h2=>absurd ⟨h1,h2⟩ hl⟩
    obtain ⟨i1,i2,i3⟩:=Xc (l:=Z1 r l a) (fun b hb=>hs b (ax _ hb)) h1.1
    refine ⟨i1,fun x hx=>i2 x (h1.2.1 x hx),fun b hb hp hn=> ?_⟩
    rcases aH.1 hb with rfl | hb
    · exact i2 _ (h1.2.2 hp hn)
    · exact i3 b hb (h1.2.1 _ hp) hn
theorem QhB (hr:∀a∈as_,0≤a.2.2.2∧a.2.2.2 < (n:Int))(h:ClS as_ p r x):0≤x∧x < (n:Int):=by
  cases h with
  | base h1 _=>exact hr _ h1
  | step h1 _ _=>exact hr _ h1
theorem Qa0 {f:List Int→List Int}(hf:∀l,BlS c p r l→BlS c p r (f l)∧∀x∈l,x∈f l)(h:BlS c p r l):∀k,BlS c p r (Q1 f k l)∧∀x∈l,x∈Q1 f k l
  | 0=>⟨h,fun x hx=>hx⟩
  | k+1=>by
    obtain ⟨h1,h2⟩:=Qa0 hf h k
    obtain ⟨h3,h4⟩:=hf _ h1
    exact ⟨h3,fun x hx=>h4 x (h2 x hx)⟩
theorem Kh (c:DSg)(p r:Int×Bool):BlS c p r (Qj c p r):=
  (Qa0 (fun l hl=>⟨(Xc (fun _ h=>h) hl).1,(Xc (fun _ h=>h) hl).2.1⟩) (JY (fun _ h=>h) ⟨bT,fun x hx=>by cases hx⟩).1 _).1
theorem Qjg (hr:∀a∈c.2.2,InR c.2.1.length a):x∈Qj c p r↔ClS c.2.2 p r x:=by
  have h0:BlS c p r ([]:List Int):=⟨bT,fun x hx=>by cases hx⟩
  obtain ⟨a1,a2,a3⟩:=JY (as_:=c.2.2) (fun _ h=>h) h0
  have hrt:∀a∈c.2.2,0≤a.2.2.2∧a.2.2.2 < (c.2.1.length:Int):=fun a ha=>(hr a ha).2
  have hfx:=Qh6 (f:=fun l=>c.2.2.foldl (Z1 r) l) (I:=BlS c p r) (m:=List.length) (n:=c.2.1.length) (fun l hl=>(Xc (fun _ h=>h) hl).1)
    (fun l hl=>by have:=KB hl.str (lo:=0) (hi:=c.2.1.length) (fun x hx=>QhB hrt (hl.cl x hx)) (by omega); omega) (fun l _=>Qa1 _ _) a1
  have hsub:=(Qa0 (f:=fun l=>c.2.2.foldl (Z1 r) l) (fun l hl=>⟨(Xc (fun _ h=>h) hl).1,(Xc (fun _ h=>h) hl).2.1⟩) a1 c.2.1.length)
  refine ⟨(Kh c p r).cl x,fun h=> ?_⟩
  induction h with
  | base h1 h2=>exact hsub.2 _ (a3 _ h1 h2)
  | step h1 _ h2 ih=>
    have:=(Xc (r:=r) (fun _ h=>h) hsub.1).2.2 _ h1 ih h2
    rw[hfx] at this
    exact this
def mkS (n:Nat)(l:List Int):List Bool:=l.foldl (fun s x=>s.set x.toNat true) (List.replicate n false)
theorem QlI:(mkS n l).length=n:=by
  unfold mkS
  have:∀(l:List Int) (s:List Bool),(l.foldl (fun s x=>s.set x.toNat true) s).length=s.length:=fun l=>by
    induction l with
    | nil=>intro s; rfl
    | cons x l ih=>intro s; rw[aS,ih,au]
  rw[this]; simp
theorem Qq3 (hx:l[k]? =some x):(mkS n (l.take k)).set x.toNat true=mkS n (l.take (k+1)):=by
  unfold mkS
  rw[QO hx,b9]; rfl
theorem QtL (hr:∀x∈l,0≤x∧x < (n:Int))(h0:0≤x)(h1:x < (n:Int)):(mkS n l)[x.toNat]? =some true↔x∈l:=by
  unfold mkS
  have:∀(l:List Int) (s:List Bool),s.length=n→(∀x∈l,0≤x∧x < (n:Int))→((l.foldl (fun s x=>s.set x.toNat true) s)[x.toNat]? =some true↔s[x.toNat]? =some true∨x∈l):=fun l=>by
    induction l with
    | nil=>intro s _ _; simp
    | cons y l ih=>
      intro s hs hr
      have hy:=hr y (aA ..)
      rw[aS,ih _ (by rw[au]; exact hs) fun z hz=>hr z (ax _ hz),aH]
      by_cases e:x=y
      · subst e
        rw[aR (by omega)]; simp
      · rw[aZ (by omega)]; simp[e]
  rw[this l _ (by simp) hr]
  simp[bI]
structure BlI (c:DSg) (p r:Int×Bool) (at_:Int) (out:List Int) (seen:List Bool):Prop where
  rng:0≤at_∧at_≤(out.length:Int)
  nd:out.Nodup
  q:∀x∈out,(0≤x∧x < (c.2.1.length:Int))∧ClS c.2.2 p r x
  sn:seen.length=c.2.1.length
  se:∀x,0≤x→x < (c.2.1.length:Int)→(seen[x.toNat]? =some true↔x∈out)
  base:∀a∈c.2.2,Wa a p→a.2.2.2∈out
  cl:∀(j:Nat) (o:Int),(j:Int) < at_→out[j]? =some o→∀a∈c.2.2,a.1=o→¬Wa a r→a.2.2.2∈out
theorem QgK:x∈swL as_ p↔∃a∈as_,Wa a p∧a.2.2.2=x:=by
  unfold swL
  simp only[bQ,bY,aN]
  constructor
  · rintro ⟨a,⟨h1,h2⟩,h3⟩; exact ⟨a,h1,h2,h3⟩
  · rintro ⟨a,h1,h2,h3⟩; exact ⟨a,⟨h1,h2⟩,h3⟩
theorem Qha (hr:∀a∈c.2.2,InR c.2.1.length a)(h:out=ofG ltI (swL c.2.2 p))(hx:x∈out):0≤x∧x < (c.2.1.length:Int):=by
  subst h
  obtain ⟨a,h1,_,rfl⟩:=QgK.1 ((Qbb Vm _).1 hx)
  exact (hr a h1).2
theorem QtN (hr:∀a∈c.2.2,InR c.2.1.length a)(h:out=ofG ltI (swL c.2.2 p)):out.length≤c.2.1.length:=by
  have:=KB (l:=out) (lo:=0) (hi:=c.2.1.length) (by rw[h]; exact Qc6 Vm _) (fun x hx=>Qha hr h hx) (by omega)
  omega
theorem Qnd (h:Qoc l):l.Nodup:=h.imp fun h=>by simp only[ltI,aN] at h; omega
theorem BlI.start (hr:∀a∈c.2.2,InR c.2.1.length a)(h:out=ofG ltI (swL c.2.2 p))(hs:seen=mkS c.2.1.length out):BlI c p r 0 out seen where
  rng:=by omega
  nd:=by rw[h]; exact Qnd (Qc6 Vm _)
  q x hx:=⟨Qha hr h hx,by
    rw[h] at hx
    obtain ⟨a,h1,h2,rfl⟩:=QgK.1 ((Qbb Vm _).1 hx)
    exact .base h1 h2⟩
  sn:=by rw[hs,QlI]
  se x h0 h1:=by rw[hs]; exact QtL (fun y hy=>Qha hr h hy) h0 h1
  base a h1 h2:=by rw[h]; exact (Qbb Vm _).2 (QgK.2 ⟨a,h1,h2,rfl⟩)
  cl j o hj:=by omega
theorem BlI.few (h:BlI c p r at_ out seen):out.length≤c.2.1.length:=Qox h.nd fun x hx=>(h.q x hx).1
theorem BlI.inr (h:BlI c p r at_ out seen)(hx:out[k]? =some x):0≤x∧x < (c.2.1.length:Int):=(h.q x (a8 hx)).1
theorem BlI.push (h:BlI c p r at_ out seen)(hr:∀a∈c.2.2,InR c.2.1.length a)(ho:o∈out)(ha:a∈c.2.2)(h1:a.1=o)(h2:¬Wa a r)(hs:seen[a.2.2.2.toNat]? =some false):BlI c p r at_ (out++[a.2.2.2]) (seen.set a.2.2.2.toNat true):=by
  have hra:=(hr a ha).2
  have hno:a.2.2.2∉out:=fun hm=>by have:=(h.se _ hra.1 hra.2).2 hm; rw[hs] at this; cases this
  have hk:=h.sn
  refine ⟨by have:=h.rng; simp; omega, ?_,fun x hx=> ?_,by rw[au]; exact hk,fun x h0 h3=> ?_,fun b hb hl=>aV _ (h.base b hb hl),fun j o' hj hx b hb e1 e2=> ?_⟩
  · rw [bl]
    exact ⟨h.nd,by simp,fun x hx y hy e=>by rw[aK] at hy; rw[e,hy] at hx; exact hno hx⟩
  · rcases aL.1 hx with hx | hx
    · exact h.q x hx
    · rw [aK] at hx; subst hx
      exact ⟨hra, .step ha (by rw[h1]; exact (h.q o ho).2) h2⟩
  · rw [aL, aK]
    by_cases e:x=a.2.2.2
    · subst e; rw[aR (by omega)]; simp
    · rw[aZ (by omega),h.se x h0 h3]; simp[e]
  · have hjl := h.rng
    rw[bd (by omega)] at hx
    exact aV _ (h.cl j o' hj hx b hb e1 e2)
theorem BlI.next (h:BlI c p r at_ out seen)(h0:at_ < (out.length:Int))(ho:out[at_.toNat]? =some o)(hc:∀a∈c.2.2,a.1=o→¬Wa a r→a.2.2.2∈out):BlI c p r (at_+1) out seen:=by
  refine ⟨by have:=h.rng; omega,h.nd,h.q,h.sn,h.se,h.base,fun j o' hj hx=> ?_⟩
  by_cases e:(j:Int)=at_
  · have : j = at_.toNat := by omega
    subst this
    rw[ho] at hx; cases hx
    exact hc
  · exact h.cl j o' (by omega) hx
theorem BlI.fin (h:BlI c p r at_ out seen)(hr:∀a∈c.2.2,InR c.2.1.length a)(h0:¬at_ < (out.length:Int)):ofG ltI out=Qj c p r:=by
  refine TO.ext Vm (Qc6 Vm _) (Kh c p r).str fun x=> ?_
  rw[Qbb Vm,Qjg hr]
  refine ⟨fun hx=>(h.q x hx).2,fun hx=> ?_⟩
  induction hx with
  | base h1 h2=>exact h.base _ h1 h2
  | step h1 _ h2 ih=>
    obtain ⟨j,hj⟩:=aJ.1 ih
    have:=(ab.1 hj).1
    exact h.cl j _ (by omega) hj _ h1 rfl h2
theorem QuR {jq:Nat}{aq ar:DAr}(h1:as_[jq]? =some aq)(h2:aq.1=((o.toNat:Nat):Int))(h3:q=(jq:Int))(h4:as_[q.toNat]? =some ar)(h0:0≤o):ar.1=o:=by
  rw[h3] at h4
  have h5:as_[jq]? =some ar:=by simpa using h4
  rw[h1] at h5; cases h5; omega
theorem Qre (hr:∀a∈c.2.2,InR c.2.1.length a)(hy:(ZC n (ixE c.2.2))[o.toNat]? =some ts)(h0:0≤o)(hT:∀(j:Nat) (q:Int),j < i→ts[j]? =some q→∀a,c.2.2[q.toNat]? =some a→¬Wa a r→a.2.2.2∈out)(hi:ts.length≤i):
    ∀a∈c.2.2,a.1=o→¬Wa a r→a.2.2.2∈out:=fun a ha h1 h2=>by
  obtain ⟨j,hj⟩:=aJ.1 ha
  have hm:(j:Int)∈ts:=(Qfy (fun a ha=>(hr a ha).1.1) hy).2 ⟨j,a,hj,by omega,rfl⟩
  obtain ⟨m,hm⟩:=aJ.1 hm
  have:=(ab.1 hm).1
  exact hT m _ (by omega) hm a (by simpa using hj) h2
end
section
variable {c:DSg}{as_:List DAr}{a:DAr}{p r:Int×Bool}{k i j n:Nat}{l:List Int}
theorem QhN (hx:as_[k]? =some a)(h:Wa a p):YF ltI a.2.2.2 ((as_.take k).foldl (Wr p) [])=(as_.take (k+1)).foldl (Wr p) []:=by
  rw[QO hx,b9]; simp[Wr,h]
theorem Qmi (hx:as_[k]? =some a)(h:¬Wa a p):(as_.take k).foldl (Wr p) []=(as_.take (k+1)).foldl (Wr p) []:=by
  rw[QO hx,b9]; simp[Wr,h]
theorem QbL (hx:as_[k]? =some a)(h1:a.1∈(as_.take k).foldl (Z1 r) l)(h:¬Wa a r):YF ltI a.2.2.2 ((as_.take k).foldl (Z1 r) l)=(as_.take (k+1)).foldl (Z1 r) l:=by
  rw[QO hx,b9]; simp only[aS,bX]; rw[Z1,if_pos ⟨h1,h⟩]
theorem U6 (hx:as_[k]? =some a)(h:¬(a.1∈(as_.take k).foldl (Z1 r) l∧¬Wa a r)):(as_.take k).foldl (Z1 r) l=(as_.take (k+1)).foldl (Z1 r) l:=by
  rw[QO hx,b9]; simp only[aS,bX]; rw[Z1,if_neg h]
theorem QpM:((as_).foldl (Wr p) []).length≤as_.length:=by
  have:∀(as_:List DAr) (l:List Int),(as_.foldl (Wr p) l).length≤l.length+as_.length:=fun as_=>by
    induction as_ with
    | nil=>intro l; simp
    | cons a as_ ih=>
      intro l
      have h1:=ih (Wr p l a)
      have h2:(Wr p l a).length≤l.length+1:=by
        unfold Wr
        split
        · rcases Kf a.2.2.2 l with h | h
          · rw[h]; omega
          · omega
        · omega
      rw[aS,ao]; omega
  simpa using this as_ []
theorem Qrc (hr:∀a∈c.2.2,InR c.2.1.length a)(j i:Nat):((c.2.2.take i).foldl (Z1 r) (Q1 (fun l=>c.2.2.foldl (Z1 r) l) j (c.2.2.foldl (Wr p) []))).length≤c.2.1.length:=by
  have h0:BlS c p r ([]:List Int):=⟨bT,fun x hx=>by cases hx⟩
  have h1:=(Qa0 (f:=fun l=>c.2.2.foldl (Z1 r) l) (fun l hl=>⟨(Xc (fun _ h=>h) hl).1,(Xc (fun _ h=>h) hl).2.1⟩) (JY (as_:=c.2.2) (fun _ h=>h) h0).1 j).1
  have h2:=(Xc (r:=r) (as_:=c.2.2.take i) (fun a ha=>List.mem_of_mem_take ha) h1).1
  have:=KB h2.str (lo:=0) (hi:=c.2.1.length) (fun x hx=>QhB (fun a ha=>(hr a ha).2) (h2.cl x hx)) (by omega)
  omega
end
theorem QbX (c:(List (ByteArray×Int))×List ByteArray×(List (Int×Int×Bool×Int)))(hr:∀a∈c.2.2,InR c.2.1.length a)(hl:c.2.2.length≤4000∧c.2.1.length≤300):FC Tryz.prog 274 [(true,[.dat Qo c.1, .dat Qr c.2.1, .dat QD c.2.2])] [] 0 (Xe 95 QI (ZC c.2.1.length (ixE c.2.2))):=by
 refine Qy Tryz.func274 rfl rfl Tryz.ntmps274 fun O_ hO w0_ N0_ X_ h0_ f0_=> ?_
 refine w_ ?_
 refine xbx 0 ?_
 iterate 5 refine w_ ?_
 refine AL.fact (Qp (x:= .tmp 7) (Qa rfl)) fun hl1=> ?_
 refine w_ ?_
 refine lc (Wd 1 (e:=QI) (n:=c.2.1.length) (Qa rfl) (Qa rfl) Kx Qo8 rfl (by omega) (by omega) rfl (Fresh.of rfl) (nlr rfl)) ?_
 iterate 6 refine w_ ?_
 refine AL.fact (Qp (x:= .tmp 11) (Qa rfl)) fun hl2=> ?_
 iterate 4 refine w_ ?_
 refine Qm (fun m_ s_=>∃(k:Nat),k≤c.2.2.length∧m_=c.2.2.length - k∧s_=⟨[(2,lf (.val (.slice none 0 0))),(3,lR 2),(11,lf (.dat QD c.2.2)),(12,lI (c.2.2.length:Int)),(13,lI (k:Int))],[(2,some (.arr 95 QI (ZC c.2.1.length ((ixE c.2.2).take k))))]⟩) ⟨0,ap _,rfl,rfl⟩ ?_ ?_
 exact wp [(2,1)] ⟨(Qh (by simp only[cD]; rfl)),trivial⟩
 rintro m_ s_ ⟨k,hk3,hm4,rfl⟩
 iterate 4 refine w_ ?_
 cases hb5:(decide ((k:Int) < (c.2.2.length:Int)))
 have hb5':=a6 hb5
 iterate 8 refine w_ ?_
 subst hO
 refine Zc (e:=QI) (xs:=(ZC c.2.1.length ((ixE c.2.2).take k))) (Res.one rfl (Qb rfl)) rfl ?_
 ·(rw[QN (by rw[Qg5]; omega)]; done)
 have hb5':=a7 hb5
 iterate 6 refine w_ ?_
 obtain ⟨ar,hx7⟩:=gx c.2.2 k
 iterate 2 refine w_ ?_
 refine lc (xal 3 QA Za) ?_
 iterate 3 refine w_ ?_
 obtain ⟨⟨he1,he2⟩,_⟩:=hr _ (a8 hx7)
 have hn1:=WO (n:=c.2.1.length) (es:=(ixE c.2.2).take k)
 obtain ⟨ys,hys⟩:=gx (ZC c.2.1.length ((ixE c.2.2).take k)) ar.1.toNat
 have hyf:=Qbz hys
 have hltk:((ixE c.2.2).take k).length≤c.2.2.length:=by simp only[ak,Qg5]; omega
 have hcA:=Qq2 hys
 have hpA:ar.1.toNat*1+0 < (Zr QI (ZC c.2.1.length ((ixE c.2.2).take k))).length:=by rw[V4]; show ar.1.toNat*1+0 < (ZC c.2.1.length ((ixE c.2.2).take k)).length*1; omega
 refine AC.wk (QcW (q:=2) rfl (by omega))<|AC.wk (Hb 4 (q:=2) (p:=ar.1.toNat*1+0) (E':=3) (e':= .int) (ys:=ys) rfl (hcA) (Fresh.of rfl) (aE rfl)) ?_
 apply dV [io 18 _,io 19 _,io 20 _,io 21 _,io 22 _,io 23 _,io 24 (lf (.ept 2 1 ((ar.1).toNat) 0)),io 25 (lR 4),io 26 _,⟨some 27,lR 5,[(5,some (.arr 3 .int ([(k:Int)])))]⟩,⟨some 28,lR 6,[(6,some (.arr 3 .int (ys++([(k:Int)])))),(4,none),(5,none)]⟩,io 29 (lf (.ept 2 1 ((ar.1).toNat) 0)),⟨none,lf (.val undef),[(2,some (.obx 95 1 ((ZC c.2.1.length ((ixE c.2.2).take k)).length) (Zr QI (ZC c.2.1.length ((ixE c.2.2).take k))) [((ar.1).toNat*1+0, .ref 6),(ar.1.toNat*1+0, .ref 4)]))]⟩] [0,1,1,7,15,15,7,7,255,255,7,0,0]
 iterate 6 refine z_ ?_
 refine zz (fun _ h_=>ac (YU (h_.v rfl) (h_.en 2 rfl) (h_.v rfl) Kx X4 rfl (by omega) (by omega)) rfl) ?_
 refine zz (fun _ h_=>ac (KD (h_.v rfl) (h_.n 2 rfl) (show (ovr _ _)[ar.1.toNat*1+0]? =some (.ref 4) from by simp only[ovr,bm,au,hpA,hcA,da,if_true,if_false,↓reduceIte]) (h_.n 4 rfl) X4 rfl) rfl) ?_
 refine z_ ?_
 refine zz (fun _ h_=>ac (dBs 5 (e:= .int) YD) rfl) ?_
 refine zz (fun _ h_=>ac (dA 6 XR) rfl) ?_
 refine zz (fun _ h_=>ac (YU (h_.v rfl) (h_.en 2 rfl) (h_.v rfl) Kx X4 rfl (by omega) (by omega)) rfl) ?_
 refine zz (fun _ h_=>ac (Ue (t:=4) (h_.v rfl) (h_.n 2 rfl) (show (ovr _ _)[ar.1.toNat*1+0]? =some (.ref 4) from by simp only[ovr,bm,au,hpA,hcA,da,if_true,if_false,↓reduceIte]) (h_.v rfl) (h_.n 6 rfl) X4) rfl) ?_
 exact zN
 refine w_ ?_
 refine AC.wk (QaZ (q:=2) (t:=6) (p:=ar.1.toNat*1+0) rfl (by simp only[ovr,bm,au,hpA,hcA,da,if_true,if_false,↓reduceIte]) rfl) ?_
 refine AC.wk (QaV (q:=2) (e:=QI) ((ZC c.2.1.length ((ixE c.2.2).take k)).set ar.1.toNat (ys++[(k:Int)])) rfl (by simp only[au]) (by simp only[ovr,cR]; exact Qek hys)) ?_
 iterate 3 refine w_ ?_
 refine Qc<|QE ⟨k+1,by omega,rfl,rfl⟩ (by omega) ?_
 exact wp [] ⟨(Qh (Qd7 (e:=(ar.1,(k:Int))) (Qj6 hx7) hys)),trivial⟩
theorem UL (c:(List (ByteArray×Int))×List ByteArray×(List (Int×Int×Bool×Int)))(p:Int×Bool)(r:Int×Bool)(hr:∀a∈c.2.2,InR c.2.1.length a)(hl:c.2.2.length≤4000∧c.2.1.length≤300):FC Tryz.prog 188 [(true,[.dat Qo c.1, .dat Qr c.2.1, .dat QD c.2.2]),(true,[dI p.1,dB p.2]),(true,[dI r.1,dB r.2])] [] 0 (Xe 3 .int (Qj c p r)):=by
 have hnl:=WO (n:=c.2.1.length) (es:=ixE c.2.2)
 refine Qy Tryz.func188 rfl rfl Tryz.ntmps188 fun O_ hO w0_ N0_ X_ h0_ f0_=> ?_
 refine AC.fact (QH (x:= .tmp 1) (i:=0) (Qf rfl) rfl) fun hi1=>AC.fact (QH (x:= .tmp 2) (i:=0) (Qf rfl) rfl) fun hi2=> ?_
 refine w_ ?_
 refine xbx 0 ?_
 refine xbx 1 ?_
 refine xbx 2 ?_
 iterate 2 refine w_ ?_
 apply dW [io 16 _,io 17 _,⟨some 18,lR 3,[(3,some (.arr 3 .int (ofG ltI (swL c.2.2 p))))]⟩,io 19 (lP 0 1),io 20 (lf (.dat Qr c.2.1)),io 21 (lI (c.2.1.length:Int)),⟨some 22,lR 4,[(4,some (.arr 4 .bool (List.replicate c.2.1.length (Ty.zero .bool))))]⟩,io 23 (ag [.dat Qo c.1, .dat Qr c.2.1, .dat QD c.2.2]),io 24 (lf (.dat Jl (ZC c.2.1.length (ixE c.2.2)))),io 7 (lR 3),io 8 _,io 9 _] [0,1,0,7,7,7,7,127,120,120,0,0]
 iterate 2 refine z_ ?_
 refine zz (fun _ h_=>ac (dO 3 (QbW c p (by omega)) Qlr) rfl) ?_
 iterate 3 refine z_ ?_
 refine zz (fun _ h_=>ac (Wd 4 (e:= .bool) (n:=c.2.1.length) (h_.v rfl) (h_.v rfl) Qhi QsE rfl (by omega) (by omega) rfl (h_.fr 4 rfl) (nlr rfl)) rfl) ?_
 refine z_ ?_
 refine zz (fun _ h_=>ac (dK (QbX c hr hl).frozen QjV) rfl) ?_
 iterate 3 refine z_ ?_
 exact zN
 iterate 7 refine w_ ?_
 refine Qm (fun m_ s_=>∃(k:Nat) (out0:List Int) (seen0:List Bool),k≤out0.length∧m_=out0.length - k∧(out0=ofG ltI (swL c.2.2 p))∧(seen0=mkS c.2.1.length (out0.take k))∧s_=⟨[(3,lP 0 0),(5,lP 2 0),(6,lf (.val (.slice none 0 0))),(7,lR 5),(8,lR 6),(9,lf (.dat Jl (ZC c.2.1.length (ixE c.2.2)))),(25,lR 5),(26,lI ((ofG ltI (swL c.2.2 p)).length:Int)),(27,lI (k:Int))],[(0,some (.box 52 [.dat Qo c.1, .dat Qr c.2.1, .dat QD c.2.2])),(2,some (.box 55 [dI r.1,dB r.2])),(5,some (.arr 3 .int out0)),(6,some (.arr 4 .bool seen0))]⟩) ⟨0,ofG ltI (swL c.2.2 p),List.replicate c.2.1.length (Ty.zero .bool),ap _,rfl,rfl,rfl,rfl⟩ ?_ ?_
 exact wp [(5,3),(6,4)] ⟨rfl,rfl,(Qh (by first | rfl | simp)),(Qh (by first | rfl | simp)),trivial⟩
 rintro m_ s_ ⟨k,out0,seen0,hk3,hm4,hO0,hS,rfl⟩
 have hsl0:seen0.length=c.2.1.length:=by rw[hS,QlI]
 have hol:out0.length=(ofG ltI (swL c.2.2 p)).length:=by rw[hO0]
 have hob:=QtN hr hO0
 iterate 4 refine w_ ?_
 cases hb5:(decide ((k:Int) < ((ofG ltI (swL c.2.2 p)).length:Int)))
 have hb5':=a6 hb5
 iterate 8 refine w_ ?_
 refine Qm (fun m_ s_=>∃(at_:Int) (out:List Int) (seen:List Bool),m_=((c.2.1.length:Int) - at_).toNat∧(BlI c p r at_ out seen)∧s_=⟨[(3,lP 0 0),(5,lP 2 0),(6,lf (.val (.slice none 0 0))),(7,lR 7),(8,lR 8),(9,lf (.dat Jl (ZC c.2.1.length (ixE c.2.2)))),(12,lI at_)],[(0,some (.box 52 [.dat Qo c.1, .dat Qr c.2.1, .dat QD c.2.2])),(2,some (.box 55 [dI r.1,dB r.2])),(7,some (.arr 3 .int out)),(8,some (.arr 4 .bool seen))]⟩) ⟨0,out0,seen0,rfl,(BlI.start hr hO0 (by rw[hS,QN (by rw[hO0]; omega)])),rfl⟩ ?_ ?_
 exact wo [(7,5),(8,6)]
 rintro m_ s_ ⟨at_,out,seen,hm7,hB,rfl⟩
 have hBr:=hB.rng
 have hBf:=hB.few
 have hBs:=hB.sn
 iterate 7 refine w_ ?_
 cases hb8:(decide (at_ < (out.length:Int)))
 have hb8':=a6 hb8
 iterate 5 refine w_ ?_
 refine lc (dP 9 [(0,7)] (Qbc out (by have:=hB.few; omega)) QdL) ?_
 iterate 3 refine w_ ?_
 subst hO
 refine Zc (e:= .int) (xs:=(ofG ltI out)) (Res.one rfl (Qb rfl)) rfl ?_
 exact hB.fin hr (by omega)
 have hb8':=a7 hb8
 iterate 9 refine w_ ?_
 obtain ⟨o,hx10⟩:=gx out ((at_).toNat)
 have hok:=hB.inr hx10
 refine w_ ?_
 refine AL.fact (Ql (x:= .tmp 45) (Qa rfl)) fun hi11=> ?_
 obtain ⟨ts,hx13⟩:=gx (ZC c.2.1.length (ixE c.2.2)) ((o).toNat)
 have htm:∀x,x∈ts↔_:=fun x=>Qfy (x:=x) (fun a ha=>(hr a ha).1.1) hx13
 iterate 2 refine w_ ?_
 refine AL.fact (Qp (x:= .tmp 47) (Qa rfl)) fun hl14=> ?_
 iterate 4 refine w_ ?_
 refine Qm (fun m_ s_=>∃(i:Nat) (out2:List Int) (seen2:List Bool),i≤ts.length∧m_=ts.length - i∧(BlI c p r at_ out2 seen2)∧(out2[at_.toNat]? =some o)∧(∀(j:Nat) (q:Int),j < i→ts[j]? =some q→∀a,c.2.2[q.toNat]? =some a→¬Wa a r→a.2.2.2∈out2)∧s_=⟨[(3,lP 0 0),(5,lP 2 0),(6,lf (.val (.slice none 0 0))),(7,lR 10),(8,lR 11),(9,lf (.dat Jl (ZC c.2.1.length (ixE c.2.2)))),(12,lI at_),(35,lI at_),(37,lI (out.length:Int)),(38,lB true),(41,lf (.dat Jl (ZC c.2.1.length (ixE c.2.2)))),(43,lI at_),(45,lI o),(46,lf (.elt QI ts 0)),(47,lf (.dat QI ts)),(48,lI (ts.length:Int)),(49,lI (i:Int))],[(0,some (.box 52 [.dat Qo c.1, .dat Qr c.2.1, .dat QD c.2.2])),(2,some (.box 55 [dI r.1,dB r.2])),(10,some (.arr 3 .int out2)),(11,some (.arr 4 .bool seen2))]⟩) ⟨0,out,seen,ap _,rfl,hB,hx10,(fun j q hj=>absurd hj (b7 j)),rfl⟩ ?_ ?_
 exact wo [(10,7),(11,8)]
 rintro m_ s_ ⟨i,out2,seen2,hk15,hm16,hB2,hQ2,hT,rfl⟩
 have hBf2:=hB2.few
 have hBs2:=hB2.sn
 have hQl:=(ab.1 hQ2).1
 iterate 4 refine w_ ?_
 cases hb17:(decide ((i:Int) < (ts.length:Int)))
 have hb17':=a6 hb17
 iterate 7 refine w_ ?_
 refine Qc<|QE ⟨(at_+1),out2,seen2,rfl,(hB2.next (by omega) hQ2 (Qre hr hx13 (by omega) hT (by omega))),rfl⟩ (by omega) ?_
 exact wo [(7,10),(8,11)]
 have hb17':=a7 hb17
 iterate 5 refine w_ ?_
 obtain ⟨q,hx19⟩:=gx ts i
 obtain ⟨jq,aq,hjq,haq,hq⟩:=(htm _).1 (a8 hx19)
 have hjl:=(ab.1 hjq).1
 iterate 2 refine w_ ?_
 refine AL.fact (Ql (x:= .tmp 52) (Qa rfl)) fun hi20=> ?_
 iterate 6 refine w_ ?_
 obtain ⟨ar,hx22⟩:=gx c.2.2 ((q).toNat)
 have hain:=hr _ (a8 hx22)
 obtain ⟨⟨ha1,ha2⟩,ha3,ha4⟩:=hain
 have hao:ar.1=o:=QuR hjq haq hq hx22 (by omega)
 iterate 2 refine w_ ?_
 refine lc (xal 12 QA Za) ?_
 iterate 2 refine w_ ?_
 cases hb23:(Ty.beq Qw (ar.2.1,ar.2.2.1) r)
 obtain ⟨sb,hx25⟩:=gx seen2 ((ar.2.2.2).toNat)
 have hsb:=hx25
 apply dW [io 58 _,io 59 (ag [dI ar.2.1,dB ar.2.2.1]),io 60 _,io 61 (lB true),io 62 _,io 63 _,io 64 _,io 65 _,io 66 (lf (.ept 11 1 ((ar.2.2.2).toNat) 0)),io 67 (lB sb),io 68 _,io 69 _] [0,0,3,0,0,0,32,32,0,0,0,0]
 refine z_ ?_
 refine zz (fun _ h_=>ac (dK (Zj ar) Y3) rfl) ?_
 refine z_ ?_
 refine zz (fun _ h_=>ac (QL (QdV (hb23)) (UJ Ux Jw (h_.w rfl) (h_.w rfl) (p:=(ar.2.1,ar.2.2.1)) (q:=r) rfl rfl rfl)) rfl) ?_
 iterate 4 refine z_ ?_
 refine zz (fun _ h_=>day rfl (h_.k rfl) (QS (e:= .bool) (h_.v rfl) (h_.en 11 rfl) (h_.v rfl) Qhi Qa8 rfl (by omega) (by first | omega | (simp only[au]; omega))) rfl)<|zz (fun _ h_=>day rfl (h_.k rfl) (Zp (e:= .bool) (h_.v rfl) (h_.n 11 rfl) hx25 rfl Qa8 rfl rfl) rfl) ?_
 iterate 2 refine z_ ?_
 exact zN
 cases hb26:(sb)
 iterate 5 refine w_ ?_
 refine AL.fact (Ql (x:= .tmp 72) (Qa rfl)) fun hi27=> ?_
 refine w_ ?_
 refine lc (QG (e:= .bool) (z':=true) (Qa rfl) rfl hx25 rfl (Evl.ev Zg) rfl Qa8 rfl rfl) ?_
 iterate 5 refine w_ ?_
 refine lc (dBs 13 (e:= .int) YD) ?_
 refine lc (dA 14 XR) ?_
 refine w_ ?_
 refine Qc ?_
 iterate 4 refine w_ ?_
 refine Qc ?_
 refine QE ⟨i+1,(out2++([ar.2.2.2])),(seen2.set ((ar.2.2.2).toNat) true),by omega,rfl,(by exact hB2.push hr (a8 hQ2) (a8 hx22) hao (QjZ ‹_›) (hsb.trans (congrArg some ‹_›))),(by (rw[bd hQl]; exact hQ2)),(fun j q0 hj hx0 a ha hn=>if e:j=i then (by subst e; cases (hx19).symm.trans hx0; cases (hx22).symm.trans ha; first | exact aQ _ (aK.2 rfl) | exact (hB2.se _ ha3 ha4).1 (hsb.trans (congrArg some ‹_›)) | exact absurd (HJ ‹_›) hn) else (by first | exact hT j q0 (by omega) hx0 a ha hn | exact aV _ (hT j q0 (by omega) hx0 a ha hn))),rfl⟩ (by omega) ?_
 exact wp [(10,14)] ⟨rfl,rfl,(Qh (by first | rfl | simp)),(Qh (by first | rfl | simp)),trivial⟩
 iterate 6 refine w_ ?_
 refine Qc<|QE ⟨i+1,out2,seen2,by omega,rfl,(by exact hB2),(by exact hQ2),(fun j q0 hj hx0 a ha hn=>if e:j=i then (by subst e; cases (hx19).symm.trans hx0; cases (hx22).symm.trans ha; first | exact aQ _ (aK.2 rfl) | exact (hB2.se _ ha3 ha4).1 (hsb.trans (congrArg some ‹_›)) | exact absurd (HJ ‹_›) hn) else (by first | exact hT j q0 (by omega) hx0 a ha hn | exact aV _ (hT j q0 (by omega) hx0 a ha hn))),rfl⟩ (by omega) ?_
 exact wo []
 apply dW [io 58 _,io 59 (ag [dI ar.2.1,dB ar.2.2.1]),io 60 _,io 61 (lB false),io 62 _,io 63 _,io 64 _,io 65 _,io 66 _,io 67 _,io 68 _,io 69 _] [0,0,3,0,0,0,32,32,0,0,0,0]
 refine z_ ?_
 refine zz (fun _ h_=>ac (dK (Zj ar) Y3) rfl) ?_
 refine z_ ?_
 refine zz (fun _ h_=>ac (QL (QdV (hb23)) (UJ Ux Jw (h_.w rfl) (h_.w rfl) (p:=(ar.2.1,ar.2.2.1)) (q:=r) rfl rfl rfl)) rfl) ?_
 iterate 8 refine z_ ?_
 exact zN
 iterate 6 refine w_ ?_
 refine Qc<|QE ⟨i+1,out2,seen2,by omega,rfl,(by exact hB2),(by exact hQ2),(fun j q0 hj hx0 a ha hn=>if e:j=i then (by subst e; cases (hx19).symm.trans hx0; cases (hx22).symm.trans ha; first | exact aQ _ (aK.2 rfl) | exact (hB2.se _ ha3 ha4).1 (hsb.trans (congrArg some ‹_›)) | exact absurd (HJ ‹_›) hn) else (by first | exact hT j q0 (by omega) hx0 a ha hn | exact aV _ (hT j q0 (by omega) hx0 a ha hn))),rfl⟩ (by omega) ?_
 exact wo []
 have hb5':=a7 hb5
 iterate 6 refine w_ ?_
 obtain ⟨x0,hx29⟩:=gx out0 k
 have hr0:=Qha hr hO0 (a8 hx29)
 refine w_ ?_
 refine AL.fact (Ql (x:= .tmp 30) (Qa rfl)) fun hi30=> ?_
 iterate 6 refine w_ ?_
 obtain ⟨x31,hx32⟩:=gx seen0 ((x0).toNat)
 refine lc (QG (e:= .bool) (z':=true) (Qa rfl) rfl hx32 rfl (Evl.ev Zg) rfl Qa8 rfl rfl)<|Qc ?_
 iterate 4 refine w_ ?_
 refine Qc<|QE ⟨k+1,out0,(seen0.set ((x0).toNat) true),by omega,rfl,hO0,(by rw[hS]; exact Qq3 hx29),rfl⟩ (by omega) ?_
 exact wp [] ⟨rfl,rfl,rfl,(Qh (by first | rfl | simp)),trivial⟩
theorem Qb3 (c:(List (ByteArray×Int))×List ByteArray×(List (Int×Int×Bool×Int)))(p:Int×Bool)(r:Int×Bool)(hr:∀a∈c.2.2,InR c.2.1.length a)(hl:c.2.2.length≤4000∧c.2.1.length≤300):FC Tryz.prog 280 [(true,[.dat Qo c.1, .dat Qr c.2.1, .dat QD c.2.2]),(true,[dI p.1,dB p.2]),(true,[dI r.1,dB r.2])] [] 0 (Xe 3 .int (Qj c p r)):=by
 refine Qy Tryz.func280 rfl rfl Tryz.ntmps280 fun O_ hO w0_ N0_ X_ h0_ f0_=> ?_
 refine AC.fact (QH (x:= .tmp 1) (i:=0) (Qf rfl) rfl) fun hi1=>AC.fact (QH (x:= .tmp 2) (i:=0) (Qf rfl) rfl) fun hi2=> ?_
 refine w_ ?_
 refine xbx 0 ?_
 refine xbx 1 ?_
 refine xbx 2 ?_
 iterate 9 refine w_ ?_
 refine AL.fact (Qp (x:= .tmp 13) (Qa rfl)) fun hl3=> ?_
 iterate 4 refine w_ ?_
 refine AC.wk (Wk.nilS 3 7 3 .int rfl (Fresh.of rfl) (nlr rfl)) ?_
 refine Qm (fun m_ s_=>∃(k:Nat),k≤c.2.2.length∧m_=c.2.2.length - k∧s_=⟨[(3,lP 0 0),(4,lP 1 0),(5,lP 2 0),(6,lf (.val (.slice none 0 0))),(7,lR 4),(13,lf (.dat QD c.2.2)),(14,lI (c.2.2.length:Int)),(15,lI (k:Int))],[(0,some (.box 52 [.dat Qo c.1, .dat Qr c.2.1, .dat QD c.2.2])),(1,some (.box 55 [dI p.1,dB p.2])),(2,some (.box 55 [dI r.1,dB r.2])),(4,some (.arr 3 .int ((c.2.2.take k).foldl (Wr p) [])))]⟩) ⟨0,ap _,rfl,rfl⟩ ?_ ?_
 exact wp [(4,3)] ⟨rfl,rfl,rfl,(Qh (by simp only[cD,bX])),trivial⟩
 rintro m_ s_ ⟨k,hk4,hm5,rfl⟩
 have hbl:=QpM (p:=p) (as_:=c.2.2.take k)
 have hft:(c.2.2.take k).length≤c.2.2.length:=by simp only[ak]; omega
 iterate 4 refine w_ ?_
 cases hb6:(decide ((k:Int) < (c.2.2.length:Int)))
 have hb6':=a6 hb6
 iterate 7 refine w_ ?_
 refine AL.fact (Qp (x:= .tmp 31) (Qa rfl)) fun hl7=> ?_
 iterate 4 refine w_ ?_
 refine Qm (fun m_ s_=>∃(j:Nat),j≤c.2.1.length∧m_=c.2.1.length - j∧s_=⟨[(3,lP 0 0),(5,lP 2 0),(6,lf (.val (.slice none 0 0))),(7,lR 5),(32,lI (c.2.1.length:Int)),(33,lI (j:Int))],[(0,some (.box 52 [.dat Qo c.1, .dat Qr c.2.1, .dat QD c.2.2])),(2,some (.box 55 [dI r.1,dB r.2])),(5,some (.arr 3 .int (Q1 (fun l=>c.2.2.foldl (Z1 r) l) j (c.2.2.foldl (Wr p) []))))]⟩) ⟨0,ap _,rfl,rfl⟩ ?_ ?_
 exact wp [(5,4)] ⟨rfl,rfl,(Qh (by rw[QN (by omega)]; rfl)),trivial⟩
 rintro m_ s_ ⟨j,hk8,hm9,rfl⟩
 iterate 4 refine w_ ?_
 cases hb10:(decide ((j:Int) < (c.2.1.length:Int)))
 have hb10':=a6 hb10
 iterate 8 refine w_ ?_
 subst hO
 refine Zc (e:= .int) (xs:=(Q1 (fun l=>c.2.2.foldl (Z1 r) l) j (c.2.2.foldl (Wr p) []))) (Res.one rfl (Qb rfl)) rfl ?_
 (unfold Qj; congr 1; omega)
 have hb10':=a7 hb10
 iterate 7 refine w_ ?_
 refine AL.fact (Qp (x:= .tmp 36) (Qa rfl)) fun hl11=> ?_
 iterate 4 refine w_ ?_
 refine Qm (fun m_ s_=>∃(i:Nat),i≤c.2.2.length∧m_=c.2.2.length - i∧s_=⟨[(3,lP 0 0),(5,lP 2 0),(6,lf (.val (.slice none 0 0))),(7,lR 6),(32,lI (c.2.1.length:Int)),(33,lI (j:Int)),(34,lB true),(35,lP 0 2),(36,lf (.dat QD c.2.2)),(37,lI (c.2.2.length:Int)),(38,lI (i:Int))],[(0,some (.box 52 [.dat Qo c.1, .dat Qr c.2.1, .dat QD c.2.2])),(2,some (.box 55 [dI r.1,dB r.2])),(6,some (.arr 3 .int ((c.2.2.take i).foldl (Z1 r) (Q1 (fun l=>c.2.2.foldl (Z1 r) l) j (c.2.2.foldl (Wr p) [])))))]⟩) ⟨0,ap _,rfl,rfl⟩ ?_ ?_
 exact wp [(6,5)] ⟨rfl,rfl,(Qh (by simp only[cD,bX])),trivial⟩
 rintro m_ s_ ⟨i,hk12,hm13,rfl⟩
 have hbl:=Qrc (c:=c) (p:=p) (r:=r) hr j i
 iterate 4 refine w_ ?_
 cases hb14:(decide ((i:Int) < (c.2.2.length:Int)))
 have hb14':=a6 hb14
 iterate 6 refine w_ ?_
 refine Qc<|QE ⟨j+1,by omega,rfl,rfl⟩ (by omega) ?_
 exact wp [(5,6)] ⟨rfl,rfl,(Qh (by rw[QN (by omega)]; rfl)),trivial⟩
 have hb14':=a7 hb14
 iterate 5 refine w_ ?_
 obtain ⟨x15,hx16⟩:=gx c.2.2 i
 iterate 2 refine w_ ?_
 refine lc (xal 7 QA Za) ?_
 iterate 6 refine w_ ?_
 refine AL.fact (Ql (x:= .tmp 44) (Qa rfl)) fun hi17=> ?_
 refine lc (dB_ (Z6 ((c.2.2.take i).foldl (Z1 r) (Q1 (fun l=>c.2.2.foldl (Z1 r) l) j (c.2.2.foldl (Wr p) []))) x15.1) Y5) ?_
 refine w_ ?_
 cases hb18:(decide (x15.1∈((c.2.2.take i).foldl (Z1 r) (Q1 (fun l=>c.2.2.foldl (Z1 r) l) j (c.2.2.foldl (Wr p) [])))))
 have hb18':=a6 hb18
 iterate 15 refine w_ ?_
 refine Qc<|QE ⟨i+1,by omega,rfl,rfl⟩ (by omega) ?_
 exact wp [] ⟨rfl,rfl,(Qh (by first | exact QbL hx16 ‹_› ‹_› | exact U6 hx16 (fun g=>absurd g.1 ‹_›) | exact U6 hx16 (fun g=>absurd ‹_› g.2))),trivial⟩
 have hb18':=a7 hb18
 iterate 5 refine w_ ?_
 refine lgy rfl rfl (dK (Uw x15 r.1 r.2) HE) ?_
 iterate 3 refine w_ ?_
 cases hb19:(decide (x15.2.1=r.1∧x15.2.2.1=r.2))
 have hb19':=a6 hb19
 iterate 5 refine w_ ?_
 refine AL.fact (Ql (x:= .tmp 57) (Qa rfl)) fun hi20=> ?_
 refine lc (dP 8 [(0,6)] (Xd ((c.2.2.take i).foldl (Z1 r) (Q1 (fun l=>c.2.2.foldl (Z1 r) l) j (c.2.2.foldl (Wr p) []))) x15.2.2.2 (by omega)) WU) ?_
 refine w_ ?_
 refine Qc ?_
 iterate 4 refine w_ ?_
 refine Qc<|QE ⟨i+1,by omega,rfl,rfl⟩ (by omega) ?_
 exact wp [(6,8)] ⟨rfl,rfl,(Qh (by first | exact QbL hx16 ‹_› ‹_› | exact U6 hx16 (fun g=>absurd g.1 ‹_›) | exact U6 hx16 (fun g=>absurd ‹_› g.2))),trivial⟩
 have hb19':=a7 hb19
 iterate 6 refine w_ ?_
 refine Qc<|QE ⟨i+1,by omega,rfl,rfl⟩ (by omega) ?_
 exact wp [] ⟨rfl,rfl,(Qh (by first | exact QbL hx16 ‹_› ‹_› | exact U6 hx16 (fun g=>absurd g.1 ‹_›) | exact U6 hx16 (fun g=>absurd ‹_› g.2))),trivial⟩
 have hb6':=a7 hb6
 iterate 5 refine w_ ?_
 obtain ⟨x21,hx22⟩:=gx c.2.2 k
 iterate 2 refine w_ ?_
 refine lc (xal 9 QA Za) ?_
 iterate 8 refine w_ ?_
 refine lc (dK (Uw x21 p.1 p.2) HE) ?_
 refine w_ ?_
 cases hb23:(decide (x21.2.1=p.1∧x21.2.2.1=p.2))
 have hb23':=a6 hb23
 iterate 6 refine w_ ?_
 refine Qc<|QE ⟨k+1,by omega,rfl,rfl⟩ (by omega) ?_
 exact wp [] ⟨rfl,rfl,rfl,(Qh (by first | exact QhN hx22 ‹_› | exact Qmi hx22 ‹_›)),trivial⟩
 have hb23':=a7 hb23
 iterate 5 refine w_ ?_
 refine AL.fact (Ql (x:= .tmp 27) (Qa rfl)) fun hi24=> ?_
 refine lc (dP 10 [(0,4)] (Xd ((c.2.2.take k).foldl (Wr p) []) x21.2.2.2 (by omega)) WU) ?_
 refine w_ ?_
 refine Qc ?_
 iterate 4 refine w_ ?_
 refine Qc<|QE ⟨k+1,by omega,rfl,rfl⟩ (by omega) ?_
 exact wp [(4,10)] ⟨rfl,rfl,rfl,(Qh (by first | exact QhN hx22 ‹_› | exact Qmi hx22 ‹_›)),trivial⟩
end Go.Proofs.YtjaadeknhofhpaaGreat
