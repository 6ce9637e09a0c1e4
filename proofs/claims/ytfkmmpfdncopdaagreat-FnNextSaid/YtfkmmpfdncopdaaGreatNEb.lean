/- Walks over abstract states: the block of states in which a state signal is set, both sides. -/
import Derived.Test.YtfkmmpfdncopdaaGreatNUa
import Derived.Test.YtfkmmpfdncopdaaGreatNStr
import Derived.Test.YtfkmmpfdncopdaaGreatProg
import Derived.KernelRfl
import Derived.Test.YtfkmmpfdncopdaaGreatNVa
import Derived.Test.YtfkmmpfdncopdaaGreatNWj
import Derived.Test.YtfkmmpfdncopdaaGreatNAl
set_option linter.unusedSimpArgs false
set_option linter.unusedVariables false
set_option linter.unusedSectionVars false
namespace Go.Proofs.YtfkmmpfdncopdaaGreat
open Go.RowKit
set_option maxRecDepth 100000
set_option maxHeartbeats 4000000
abbrev VC (a:DAr)(l:Int×Bool):Prop:=a.2.1=l.1∧a.2.2.1=l.2
def ixE (as_:List DAr):List (Int×Int):=as_.zipIdx.map fun x=>(x.1.1,(x.2:Int))
inductive ClS (as_:List DAr) (p r:Int×Bool):Int→Prop
  | base {a:DAr}:a∈as_→VC a p→ClS as_ p r a.2.2.2
  | step {a:DAr}:a∈as_→ClS as_ p r a.1→¬VC a r→ClS as_ p r a.2.2.2
def QeF (p:Int×Bool)(l:List Int)(a:DAr):List Int:=if VC a p then QN ltI a.2.2.2 l else l
def XN (r:Int×Bool)(l:List Int)(a:DAr):List Int:=if a.1∈l∧¬VC a r then QN ltI a.2.2.2 l else l
def Wb {α:Type}(f:α→α):Nat→α→α
  | 0,x=>x
  | n+1,x=>f (Wb f n x)
def K7 (c:DSg)(p r:Int×Bool):List Int:=Wb (fun l=>c.2.2.foldl (XN r) l) c.2.1.length (c.2.2.foldl (QeF p) [])
theorem QmX {α:Type}{f:α→α}{I:α→Prop}{m:α→Nat}{n:Nat}(hI:∀x,I x→I (f x))(hm:∀x,I x→m x≤n)(hs:∀x,I x→f x=x∨m x < m (f x)){x:α}(hx:I x):f (Wb f n x)=Wb f n x:=by
  have h1:∀k,I (Wb f k x):=fun k=>by
    induction k with
    | zero=>exact hx
    | succ k ih=>exact hI _ ih
  have h2:∀k,f (Wb f k x)=Wb f k x∨k≤m (Wb f k x):=fun k=>by
    induction k with
    | zero=>exact .inr (aR _)
    | succ k ih=>
      rcases ih with h | h
      · exact .inl (by show f (f (Wb f k x))=f (Wb f k x); rw[h,h])
      · rcases hs _ (h1 k) with h3 | h3
        · exact .inl (by show f (f (Wb f k x))=f (Wb f k x); rw[h3,h3])
        · exact .inr (by show k+1≤m (f (Wb f k x)); omega)
  rcases h2 n with h | h
  · exact h
  · rcases hs _ (h1 n) with h3 | h3
    · exact h3
    · have:=hm _ (hI _ (h1 n)); omega
section
variable {c:DSg}{as_:List DAr}{a:DAr}{p r:Int×Bool}{k i j n:Nat}{l out ts ys L:List Int}{seen:List Bool}{x y o q at_:Int}
theorem Qew:∀{l:List Int} {lo hi:Int},l.Pairwise (fun x y=>ltI x y=true)→(∀x∈l,lo≤x∧x < hi)→lo≤hi→(l.length:Int)≤hi - lo
  | [],_,_,_,_,h=>by simp; omega
  | x :: l,lo,hi,h1,h2,h3=>by
    obtain ⟨h4,h5⟩:=bi.1 h1
    have h6:=h2 x (az ..)
    have:=Qew (l:=l) (lo:=x+1) (hi:=hi) h5 (fun y hy=>by have k1:=h4 y hy; have k2:=h2 y (ax _ hy); simp only[ltI,aV] at k1; omega) (by omega)
    simp only[au]; omega
theorem Qj7 (h:l.Nodup)(hr:∀x∈l,0≤x∧x < (n:Int)):l.length≤n:=by
  have h1:(QcD l).Nodup:=(KW l).nodup_iff.2 h
  have h2:(QcD l).Pairwise fun x y=>ltI x y=true:=by
    have:=(Qeq l).and h1
    exact this.imp fun ⟨k1,k2⟩=>by simp only[ltI,aV]; omega
  have:=Qew h2 (lo:=0) (hi:=n) (fun x hx=>hr x (QkE.1 hx)) (by omega)
  rw[QjJ] at this
  omega
abbrev QsP (l:List Int):Prop:=l.Pairwise fun x y=>ltI x y=true
theorem Qbq:∀(x:Int) (l:List Int),QN ltI x l=l∨(QN ltI x l).length=l.length+1
  | x,[]=> .inr rfl
  | x,y :: l=>by
    unfold QN
    split
    · rcases Qbq x l with h | h
      · exact .inl (by rw[h])
      · exact .inr (by simp[h])
    · split
      · exact .inl rfl
      · exact .inr rfl
theorem QfT:XN r l a=l∨(XN r l a).length=l.length+1:=by
  unfold XN
  split
  · exact Qbq _ _
  · exact .inl rfl
theorem Je:∀(as_:List DAr) (l:List Int),as_.foldl (XN r) l=l∨l.length < (as_.foldl (XN r) l).length
  | [],l=> .inl rfl
  | a :: as_,l=>by
    rw[bu]
    rcases Je as_ (XN r l a) with h | h <;> rcases QfT (r:=r) (l:=l) (a:=a) with h2 | h2
    · exact .inl (by rw[h,h2])
    · exact .inr (by rw[h]; omega)
    · rw[h2] at h ⊢; exact .inr h
    · exact .inr (by omega)
structure BlS (c:DSg) (p r:Int×Bool) (l:List Int):Prop where
  str:QsP l
  cl:∀x∈l,ClS c.2.2 p r x
theorem BlS.put (h:BlS c p r l)(hx:ClS c.2.2 p r x):BlS c p r (QN ltI x l):=⟨UM WD h.str,fun y hy=>by
  rcases ZO.1 hy with rfl | hy
  · exact hx
  · exact h.cl y hy⟩
theorem H1:∀{as_:List DAr} {l:List Int},(∀a∈as_,a∈c.2.2)→BlS c p r l→BlS c p r (as_.foldl (QeF p) l)∧(∀x∈l,x∈as_.foldl (QeF p) l)∧∀a∈as_,VC a p→a.2.2.2∈as_.foldl (QeF p) l
  | [],l,_,h=>⟨h,fun x hx=>hx,fun a ha=>by cases ha⟩
  | a :: as_,l,hs,h=>by
    have h1:BlS c p r (QeF p l a)∧(∀x∈l,x∈QeF p l a)∧(VC a p→a.2.2.2∈QeF p l a):=by
      unfold QeF
      split
      · rename_i hl
        exact ⟨h.put (.base (hs a (az ..)) hl),fun x hx=>ZO.2 (.inr hx),fun _=>ZO.2 (.inl rfl)⟩
      · rename_i hl
        exact ⟨h,fun x hx=>hx,fun hp=>absurd hp hl⟩
    obtain ⟨i1,i2,i3⟩:=H1 (l:=QeF p l a) (fun b hb=>hs b (ax _ hb)) h1.1
    refine ⟨i1,fun x hx=>i2 x (h1.2.1 x hx),fun b hb hp=> ?_⟩
    rcases aE.1 hb with rfl | hb
    · exact i2 _ (h1.2.2 hp)
    · exact i3 b hb hp
theorem XC:∀{as_:List DAr} {l:List Int},(∀a∈as_,a∈c.2.2)→BlS c p r l→BlS c p r (as_.foldl (XN r) l)∧(∀x∈l,x∈as_.foldl (XN r) l)∧∀a∈as_,a.1∈l→¬VC a r→a.2.2.2∈as_.foldl (XN r) l
  | [],l,_,h=>⟨h,fun x hx=>hx,fun a ha=>by cases ha⟩
  | a :: as_,l,hs,h=>by
    have h1:BlS c p r (XN r l a)∧(∀x∈l,x∈XN r l a)∧(a.1∈l→¬VC a r→a.2.2.2∈XN r l a):=by
      unfold XN
      split
      · rename_i hl
        exact ⟨h.put (.step (hs a (az ..)) (h.cl _ hl.1) hl.2),fun x hx=>ZO.2 (.inr hx),fun _ _=>ZO.2 (.inl rfl)⟩
      · rename_i hl
        exact ⟨h,fun x hx=>hx,fun h1 h2=>absurd ⟨h1,h2⟩ hl⟩
    obtain ⟨i1,i2,i3⟩:=XC (l:=XN r l a) (fun b hb=>hs b (ax _ hb)) h1.1
    refine ⟨i1,fun x hx=>i2 x (h1.2.1 x hx),fun b hb hp hn=> ?_⟩
    rcases aE.1 hb with rfl | hb
    · exact i2 _ (h1.2.2 hp hn)
    · exact i3 b hb (h1.2.1 _ hp) hn
theorem Qnx (hr:∀a∈as_,0≤a.2.2.2∧a.2.2.2 < (n:Int))(h:ClS as_ p r x):0≤x∧x < (n:Int):=by
  cases h with
  | base h1 _=>exact hr _ h1
  | step h1 _ _=>exact hr _ h1
theorem Qbf {f:List Int→List Int}(hf:∀l,BlS c p r l→BlS c p r (f l)∧∀x∈l,x∈f l)(h:BlS c p r l):∀k,BlS c p r (Wb f k l)∧∀x∈l,x∈Wb f k l
  | 0=>⟨h,fun x hx=>hx⟩
  | k+1=>by
    obtain ⟨h1,h2⟩:=Qbf hf h k
    obtain ⟨h3,h4⟩:=hf _ h1
    exact ⟨h3,fun x hx=>h4 x (h2 x hx)⟩
theorem QbR (c:DSg)(p r:Int×Bool):BlS c p r (K7 c p r):=
  (Qbf (fun l hl=>⟨(XC (fun _ h=>h) hl).1,(XC (fun _ h=>h) hl).2.1⟩) (H1 (fun _ h=>h) ⟨bX,fun x hx=>by cases hx⟩).1 _).1
theorem QhI (hr:∀a∈c.2.2,InR c.2.1.length a):x∈K7 c p r↔ClS c.2.2 p r x:=by
  have h0:BlS c p r ([]:List Int):=⟨bX,fun x hx=>by cases hx⟩
  obtain ⟨a1,a2,a3⟩:=H1 (as_:=c.2.2) (fun _ h=>h) h0
  have hrt:∀a∈c.2.2,0≤a.2.2.2∧a.2.2.2 < (c.2.1.length:Int):=fun a ha=>(hr a ha).2
  have hfx:=QmX (f:=fun l=>c.2.2.foldl (XN r) l) (I:=BlS c p r) (m:=List.length) (n:=c.2.1.length) (fun l hl=>(XC (fun _ h=>h) hl).1)
    (fun l hl=>by have:=Qew hl.str (lo:=0) (hi:=c.2.1.length) (fun x hx=>Qnx hrt (hl.cl x hx)) (by omega); omega) (fun l _=>Je _ _) a1
  have hsub:=(Qbf (f:=fun l=>c.2.2.foldl (XN r) l) (fun l hl=>⟨(XC (fun _ h=>h) hl).1,(XC (fun _ h=>h) hl).2.1⟩) a1 c.2.1.length)
  refine ⟨(QbR c p r).cl x,fun h=> ?_⟩
  induction h with
  | base h1 h2=>exact hsub.2 _ (a3 _ h1 h2)
  | step h1 _ h2 ih=>
    have:=(XC (r:=r) (fun _ h=>h) hsub.1).2.2 _ h1 ih h2
    rw[hfx] at this
    exact this
def mkS (n:Nat)(l:List Int):List Bool:=l.foldl (fun s x=>s.set x.toNat true) (List.replicate n false)
theorem Qor:(mkS n l).length=n:=by
  unfold mkS
  have:∀(l:List Int) (s:List Bool),(l.foldl (fun s x=>s.set x.toNat true) s).length=s.length:=fun l=>by
    induction l with
    | nil=>intro s; rfl
    | cons x l ih=>intro s; rw[bu,ih,aD]
  rw[this]; simp
theorem QpK (hr:∀x∈l,0≤x∧x < (n:Int))(h0:0≤x)(h1:x < (n:Int)):(mkS n l)[x.toNat]? =some true↔x∈l:=by
  unfold mkS
  have:∀(l:List Int) (s:List Bool),s.length=n→(∀x∈l,0≤x∧x < (n:Int))→((l.foldl (fun s x=>s.set x.toNat true) s)[x.toNat]? =some true↔s[x.toNat]? =some true∨x∈l):=fun l=>by
    induction l with
    | nil=>intro s _ _; simp
    | cons y l ih=>
      intro s hs hr
      have hy:=hr y (az ..)
      rw[bu,ih _ (by rw[aD]; exact hs) fun z hz=>hr z (ax _ hz),aE]
      by_cases e:x=y
      · subst e
        rw[aW (by omega)]; simp
      · rw[b6 (by omega)]; simp[e]
  rw[this l _ (by simp) hr]
  simp[ck]
structure BlI (c:DSg) (p r:Int×Bool) (at_:Int) (out:List Int) (seen:List Bool):Prop where
  rng:0≤at_∧at_≤(out.length:Int)
  nd:out.Nodup
  q:∀x∈out,(0≤x∧x < (c.2.1.length:Int))∧ClS c.2.2 p r x
  sn:seen.length=c.2.1.length
  se:∀x,0≤x→x < (c.2.1.length:Int)→(seen[x.toNat]? =some true↔x∈out)
  base:∀a∈c.2.2,VC a p→a.2.2.2∈out
  cl:∀(j:Nat) (o:Int),(j:Int) < at_→out[j]? =some o→∀a∈c.2.2,a.1=o→¬VC a r→a.2.2.2∈out
theorem Qe2:x∈swL as_ p↔∃a∈as_,VC a p∧a.2.2.2=x:=by
  unfold swL
  simp only[ba,bR,aV]
  constructor
  · rintro ⟨a,⟨h1,h2⟩,h3⟩; exact ⟨a,h1,h2,h3⟩
  · rintro ⟨a,h1,h2,h3⟩; exact ⟨a,⟨h1,h2⟩,h3⟩
theorem QmY (hr:∀a∈c.2.2,InR c.2.1.length a)(h:out=ofG ltI (swL c.2.2 p))(hx:x∈out):0≤x∧x < (c.2.1.length:Int):=by
  subst h
  obtain ⟨a,h1,_,rfl⟩:=Qe2.1 ((XI WD _).1 hx)
  exact (hr a h1).2
theorem Qkd (h:QsP l):l.Nodup:=h.imp fun h=>by simp only[ltI,aV] at h; omega
theorem BlI.start (hr:∀a∈c.2.2,InR c.2.1.length a)(h:out=ofG ltI (swL c.2.2 p))(hs:seen=mkS c.2.1.length out):BlI c p r 0 out seen where
  rng:=by omega
  nd:=by rw[h]; exact Qkd (Q1 WD _)
  q x hx:=⟨QmY hr h hx,by
    rw[h] at hx
    obtain ⟨a,h1,h2,rfl⟩:=Qe2.1 ((XI WD _).1 hx)
    exact .base h1 h2⟩
  sn:=by rw[hs,Qor]
  se x h0 h1:=by rw[hs]; exact QpK (fun y hy=>QmY hr h hy) h0 h1
  base a h1 h2:=by rw[h]; exact (XI WD _).2 (Qe2.2 ⟨a,h1,h2,rfl⟩)
  cl j o hj:=by omega
theorem BlI.few (h:BlI c p r at_ out seen):out.length≤c.2.1.length:=Qj7 h.nd fun x hx=>(h.q x hx).1
theorem BlI.inr (h:BlI c p r at_ out seen)(hx:out[k]? =some x):0≤x∧x < (c.2.1.length:Int):=(h.q x (ap hx)).1
theorem BlI.push (h:BlI c p r at_ out seen)(hr:∀a∈c.2.2,InR c.2.1.length a)(ho:o∈out)(ha:a∈c.2.2)(h1:a.1=o)(h2:¬VC a r)(hs:seen[a.2.2.2.toNat]? =some false):BlI c p r at_ (out++[a.2.2.2]) (seen.set a.2.2.2.toNat true):=by
  have hra:=(hr a ha).2
  have hno:a.2.2.2∉out:=fun hm=>by have:=(h.se _ hra.1 hra.2).2 hm; rw[hs] at this; cases this
  have hk:=h.sn
  refine ⟨by have:=h.rng; simp; omega, ?_,fun x hx=> ?_,by rw[aD]; exact hk,fun x h0 h3=> ?_,fun b hb hl=>aQ _ (h.base b hb hl),fun j o' hj hx b hb e1 e2=> ?_⟩
  · rw [b9]
    exact ⟨h.nd,by simp,fun x hx y hy e=>by rw[aC] at hy; rw[e,hy] at hx; exact hno hx⟩
  · rcases aK.1 hx with hx | hx
    · exact h.q x hx
    · rw [aC] at hx; subst hx
      exact ⟨hra, .step ha (by rw[h1]; exact (h.q o ho).2) h2⟩
  · rw [aK, aC]
    by_cases e:x=a.2.2.2
    · subst e; rw[aW (by omega)]; simp
    · rw[b6 (by omega),h.se x h0 h3]; simp[e]
  · have hjl := h.rng
    rw[bf (by omega)] at hx
    exact aQ _ (h.cl j o' hj hx b hb e1 e2)
theorem BlI.next (h:BlI c p r at_ out seen)(h0:at_ < (out.length:Int))(ho:out[at_.toNat]? =some o)(hc:∀a∈c.2.2,a.1=o→¬VC a r→a.2.2.2∈out):BlI c p r (at_+1) out seen:=by
  refine ⟨by have:=h.rng; omega,h.nd,h.q,h.sn,h.se,h.base,fun j o' hj hx=> ?_⟩
  by_cases e:(j:Int)=at_
  · have : j = at_.toNat := by omega
    subst this
    rw[ho] at hx; cases hx
    exact hc
  · exact h.cl j o' (by omega) hx
theorem QsR (h:BlI c p r at_ out seen)(hr:∀a∈c.2.2,InR c.2.1.length a)(h0:¬at_ < (out.length:Int)):ofG ltI out=K7 c p r:=by
  refine TO.ext WD (Q1 WD _) (QbR c p r).str fun x=> ?_
  rw[XI WD,QhI hr]
  refine ⟨fun hx=>(h.q x hx).2,fun hx=> ?_⟩
  induction hx with
  | base h1 h2=>exact h.base _ h1 h2
  | step h1 _ h2 ih=>
    obtain ⟨j,hj⟩:=aM.1 ih
    have:=(ah.1 hj).1
    exact h.cl j _ (by omega) hj _ h1 rfl h2
end
section
variable {c:DSg}{as_:List DAr}{a:DAr}{p r:Int×Bool}{k i j n:Nat}{l:List Int}
end
end Go.Proofs.YtfkmmpfdncopdaaGreat
namespace Go.Proofs.YtfkmmpfdncopdaaGreat
open Go.RowKit
set_option maxRecDepth 100000
set_option maxHeartbeats 4000000
def sg0 (n:Nat)(block:List Int):List UInt8:=(List.range n).map fun k:Nat=>if (k:Int)∈block then (49:UInt8) else 48
def Qm5 (block:List Int)(s:List UInt8)(a:DAr):List UInt8:=if¬a.1∈block∧a.2.2.2∈block then s.set a.2.2.2.toNat 43 else if a.1∈block∧¬a.2.2.2∈block then s.set a.2.2.2.toNat 45 else s
def inA (c:DSg)(a:DAr):Bool:=decide (a.2.1 < 0)||decide (((c.1[a.2.1.toNat]?).getD (ByteArray.empty,0)).2=1)
def sAt (s:List UInt8)(x:Int):UInt8:=(s[x.toNat]?).getD 0
def KA (c:DSg)(block:List Int)(s:List UInt8)(a:DAr):List UInt8:=if (sAt s a.1=43∨sAt s a.1=45)∧inA c a=true∧(a.1∈block↔a.2.2.2∈block) then s.set a.2.2.2.toNat (sAt s a.1) else s
def Qna (c:DSg)(block:List Int)(s:List UInt8):List UInt8:=c.2.2.foldl (KA c block) s
def Qsm (c:DSg)(block:List Int):List UInt8:=c.2.2.foldl (Qm5 block) (sg0 c.2.1.length block)
def Qti (c:DSg)(block:List Int):List UInt8:=Wb (Qna c block) c.2.1.length (Qsm c block)
def Qrm (c:DSg)(block:List Int):ByteArray:=⟨(Qti c block).toArray⟩
structure SI (n:Nat) (block:List Int) (s:List UInt8):Prop where
  len:s.length=n
  at_:∀x:Int,0≤x→x < (n:Int)→(x∈block∧(sAt s x=49∨sAt s x=43))∨(¬x∈block∧(sAt s x=48∨sAt s x=45))
def nMk (s:List UInt8):Nat:=(s.filter fun x=>decide (x=43∨x=45)).length
def cMk (s:List UInt8):Nat:=(s.filter fun x=> !decide (x=43∨x=45)).length
section
variable {c:DSg}{as_:List DAr}{a:DAr}{block:List Int}{k i n m:Nat}{s s2 sg:List UInt8}{x y:Int}{z zf zt u v:UInt8}{ch:Bool}
theorem QkT {α:Type}{l:List α}{j:Nat}{w:α}(h:l[j]? =some w):l.set j w=l:=by
  apply bA
  intro i
  by_cases e:j=i
  · subst e; rw[aW (ah.1 h).1,h]
  · rw[b6 e]
theorem Qn5 (h:s[x.toNat]? =some z):sAt s x=z:=by unfold sAt; rw[h]; rfl
theorem Qow (hl:s.length=n)(h0:0≤y)(h1:y < (n:Int))(h2:0≤x):sAt (s.set y.toNat z) x=if x=y then z else sAt s x:=by
  unfold sAt
  by_cases e:x=y
  · subst e; rw[aW (by omega),if_pos rfl]; rfl
  · rw[b6 (by omega),if_neg e]
theorem SI.set (h:SI n block s)(h0:0≤y)(h1:y < (n:Int))(hz:(y∈block∧z=43)∨(¬y∈block∧z=45)):SI n block (s.set y.toNat z):=by
  refine ⟨by rw[aD]; exact h.len,fun x k0 k1=> ?_⟩
  rw[Qow h.len h0 h1 k0]
  by_cases e:x=y
  · subst e
    rw[if_pos rfl]
    rcases hz with ⟨g1,g2⟩ | ⟨g1,g2⟩
    · exact .inl ⟨g1, .inr g2⟩
    · exact .inr ⟨g1, .inr g2⟩
  · rw[if_neg e]; exact h.at_ x k0 k1
theorem Qs2 (h:SI n block s)(ha:InR n a):SI n block (Qm5 block s a):=by
  unfold Qm5
  split
  · rename_i g; exact h.set ha.2.1 ha.2.2 (.inl ⟨g.2,rfl⟩)
  · split
    · rename_i g; exact h.set ha.2.1 ha.2.2 (.inr ⟨g.2,rfl⟩)
    · exact h
theorem SI.val (h:SI n block s)(ha:InR n a)(h1:sAt s a.1=43∨sAt s a.1=45)(h2:a.1∈block↔a.2.2.2∈block):(a.2.2.2∈block∧sAt s a.1=43)∨(¬a.2.2.2∈block∧sAt s a.1=45):=by
  rcases h.at_ a.1 ha.1.1 ha.1.2 with ⟨g1,g2⟩ | ⟨g1,g2⟩
  · refine .inl ⟨h2.1 g1, ?_⟩
    rcases g2 with g2 | g2
    · rw[g2] at h1; rcases h1 with h1 | h1 <;> exact absurd h1 (by decide)
    · exact g2
  · refine .inr ⟨fun g => g1 (h2.2 g), ?_⟩
    rcases g2 with g2 | g2
    · rw[g2] at h1; rcases h1 with h1 | h1 <;> exact absurd h1 (by decide)
    · exact g2
theorem QfD (q:UInt8→Bool):∀{s:List UInt8} {j:Nat} {u v:UInt8},s[j]? =some u→q u=false→q v=true→((s.set j v).filter q).length=(s.filter q).length+1
  | [],j,u,v,h,_,_=>by simp at h
  | w :: s,0,u,v,h,h1,h2=>by
    simp at h; subst h
    simp[h1,h2]
  | w :: s,j+1,u,v,h,h1,h2=>by
    have ih:=QfD q (s:=s) (j:=j) (by simpa using h) h1 h2
    rw[cK]
    by_cases e:q w=true
    · rw[List.filter_cons_of_pos e,List.filter_cons_of_pos e,au,au,ih]
    · rw[cH e,cH e,ih]
theorem Qdu (q:UInt8→Bool):∀{s:List UInt8} {j:Nat} {u v:UInt8},s[j]? =some u→q u=true→q v=false→((s.set j v).filter q).length+1=(s.filter q).length
  | [],j,u,v,h,_,_=>by simp at h
  | w :: s,0,u,v,h,h1,h2=>by
    simp at h; subst h
    simp[h1,h2]
  | w :: s,j+1,u,v,h,h1,h2=>by
    have ih:=Qdu q (s:=s) (j:=j) (by simpa using h) h1 h2
    rw[cK]
    by_cases e:q w=true
    · rw[List.filter_cons_of_pos e,List.filter_cons_of_pos e,au,au,ih]
    · rw[cH e,cH e,ih]
theorem Qg9 (h:SI n block s)(ha:InR n a):SI n block (KA c block s a)∧(KA c block s a=s∨(nMk s < nMk (KA c block s a)∧cMk (KA c block s a) < cMk s)):=by
  unfold KA
  split
  · rename_i g
    have hv:=h.val ha g.1 g.2.2
    refine ⟨h.set ha.2.1 ha.2.2 hv, ?_⟩
    have hl:=h.len
    have hg:s[a.2.2.2.toNat]? =some (sAt s a.2.2.2):=by
      unfold sAt
      rw[aa (by have:=ha.2; omega)]; rfl
    by_cases e:sAt s a.2.2.2=sAt s a.1
    · exact .inl (by rw[← e]; exact QkT hg)
    · right
      have hu:¬(sAt s a.2.2.2=43∨sAt s a.2.2.2=45):=fun hu=>by
        rcases h.at_ a.2.2.2 ha.2.1 ha.2.2 with ⟨g1,g2⟩ | ⟨g1,g2⟩ <;> rcases hv with ⟨v1,v2⟩ | ⟨v1,v2⟩
        · rcases g2 with g2 | g2
          · rw[g2] at hu; rcases hu with hu | hu <;> exact absurd hu (by decide)
          · exact e (g2.trans v2.symm)
        · exact v1 g1
        · exact g1 v1
        · rcases g2 with g2 | g2
          · rw[g2] at hu; rcases hu with hu | hu <;> exact absurd hu (by decide)
          · exact e (g2.trans v2.symm)
      constructor
      · unfold nMk
        rw[QfD _ hg (ay hu) (aJ g.1)]; omega
      · unfold cMk
        have:=Qdu (fun x=> !decide (x=43∨x=45)) hg (by simp only[ay hu]; rfl) (v:=sAt s a.1) (by simp only[aJ g.1]; rfl)
        omega
  · exact ⟨h, .inl rfl⟩
structure PI (c:DSg) (block:List Int) (sg:List UInt8) (i:Nat) (s:List UInt8) (ch:Bool):Prop where
  si:SI c.2.1.length block s
  eq:Qna c block sg=(c.2.2.drop i).foldl (KA c block) s
  no:ch=false→s=sg
  yes:ch=true→cMk s < cMk sg
  le:cMk s≤cMk sg
theorem PI.start (h:SI c.2.1.length block sg):PI c block sg 0 sg false:=⟨h,rfl,fun _=>rfl,(fun h=>by cases h),aO _⟩
theorem Qi5 (hx:as_[i]? =some a):as_.drop i=a :: as_.drop (i+1):=by
  obtain ⟨h1,h2⟩:=ah.1 hx
  rw[br h1,h2]
theorem PI.skip (h:PI c block sg i s ch)(hx:c.2.2[i]? =some a)(hn:KA c block s a=s):PI c block sg (i+1) s ch:=⟨h.si,by rw[h.eq,Qi5 hx,bu,hn],h.no,h.yes,h.le⟩
theorem Qtn (h:PI c block sg i s ch)(hr:∀a∈c.2.2,InR c.2.1.length a)(hx:c.2.2[i]? =some a)(h1:s[a.1.toNat]? =some u)(h2:s[a.2.2.2.toNat]? =some v)(hm:u=43∨u=45)(hi:inA c a=true)(hb:a.1∈block↔a.2.2.2∈block)(hne:¬v=u):PI c block sg (i+1) (s.set a.2.2.2.toNat u) true:=by
  have ha:=hr a (ap hx)
  have hmv:KA c block s a=s.set a.2.2.2.toNat u:=by
    unfold KA
    rw[Qn5 h1,if_pos ⟨hm,hi,hb⟩]
  obtain ⟨k1,k2⟩:=Qg9 (c:=c) h.si ha
  rw[hmv] at k1 k2
  have k3:¬s.set a.2.2.2.toNat u=s:=fun e=>by
    have h3:(s.set a.2.2.2.toNat u)[a.2.2.2.toNat]? =some u:=aW (ah.1 h2).1
    rw[e,h2] at h3
    cases h3; exact hne rfl
  have k4:=(k2.resolve_left k3).2
  have:=h.le
  exact ⟨k1,by rw[h.eq,Qi5 hx,bu,hmv],(fun h=>by cases h),fun _=>by omega,by omega⟩
theorem PI.end_ (h:PI c block sg i s ch)(hi:c.2.2.length≤i):s=Qna c block sg:=by rw[h.eq,bE hi]; rfl
end
end Go.Proofs.YtfkmmpfdncopdaaGreat
namespace Go.Proofs.YtfkmmpfdncopdaaGreat
open Go.RowKit
set_option maxRecDepth 100000
set_option maxHeartbeats 4000000
def sgF (n:Nat)(block:List Int)(k:Nat):List UInt8:=sg0 k block++List.replicate (n - k) 0
def okB (c:DSg)(p r:Int×Bool):Bool:=Qpj c (Qrm c (K7 c p r))&&(decide (0 < ((K7 c p r).length:Int))&&decide (((K7 c p r).length:Int) < (c.2.1.length:Int)))
def QtZ (c:DSg)(p r:Int×Bool):ByteArray:=if okB c p r=true then Qrm c (K7 c p r) else ⟨#[]⟩
section
variable {c:DSg}{as_:List DAr}{a:DAr}{block:List Int}{k i j n:Nat}{s:List UInt8}{u:UInt8}{p r:Int×Bool}{x:Qz}
end
end Go.Proofs.YtfkmmpfdncopdaaGreat
namespace Go.Proofs.YtfkmmpfdncopdaaGreat
open Go.RowKit
set_option maxRecDepth 100000
set_option maxHeartbeats 4000000
structure SgW (c:DSg):Prop where
  sig8:c.1.length≤8
  some_:1≤c.2.1.length∧c.2.1.length≤300
  few:c.2.2.length≤4000
  arcs:∀a∈c.2.2,InR c.2.1.length a∧UH (c.1.length:Int) (a.2.1,a.2.2.1)
theorem SgOk.w {c:DSg}(h:SgOk c):SgW c:=⟨h.sigs.2.2,h.some_,h.few,fun a ha=>⟨Jm (h.arcs a ha),(h.arcs a ha).2.2.1⟩⟩
def mkV (l:Int×Bool):Int:=(if l.2=true then 2 else 1)*2 ^ (2*l.1).toNat
def orA (s:List Int)(a:DAr):List Int:=if 0≤a.2.1 then s.set a.1.toNat (((((s[a.1.toNat]?).getD 0).toNat ||| (mkV (a.2.1,a.2.2.1)).toNat:Nat)):Int) else s
def Qum (n:Nat)(as_:List DAr):List Int:=as_.foldl orA (List.replicate n 0)
def mAt (l:List Int)(x:Int):Int:=(l[x.toNat]?).getD 0
def Qpt (m:Int)(s:Int):Bool:=decide ((((m / 2 ^ (2*s).toNat).toNat &&& (3:Int).toNat:Nat):Int)=0)
def Qun (masks pair:List Int)(s:Int):Bool:= !(Qpt (mAt masks (mAt pair 0)) s==Qpt (mAt masks (mAt pair 1)) s)
def ZD (c:DSg)(k s:Int):Bool:=c.2.2.any fun a=>decide (a.1=k∧a.2.1=s)
def cdA (c:DSg)(j:Nat):ByteArray:=(c.2.1[j]?).getD ByteArray.empty
def Qtv (c:DSg)(f:Nat→Nat→Bool)(i k:Nat):List (List Int):=((List.range k).filter fun j=>decide (i < j)&&(decide (cdA c j=cdA c i)&&f i j)).map fun j:Nat=>[(i:Int),(j:Int)]
def Qtp (c:DSg)(f:Nat→Nat→Bool)(i:Nat):List (List Int):=(List.range i).flatMap fun i=>Qtv c f i c.2.1.length
def Qrt (c:DSg)(i j:Nat):Bool:=(Yn c.1 c.1.length).any fun s=> !(ZD c i s==ZD c j s)
def Qsx (c:DSg):List (List Int):=Qtp c (Qrt c) c.2.1.length
section
variable {c:DSg}{as_:List DAr}{a:DAr}{i j k n:Nat}{f g:Nat→Nat→Bool}{s x y m:Int}{l masks pair:List Int}{u v:ByteArray}
end
section
variable {c:DSg}{f:Nat→Nat→Bool}{i:Nat}{m:Int}{u v:ByteArray}
end
end Go.Proofs.YtfkmmpfdncopdaaGreat
namespace Go.Proofs.YtfkmmpfdncopdaaGreat
open Go.RowKit
set_option maxRecDepth 100000
set_option maxHeartbeats 4000000
def Qt7 (c:DSg)(s:ByteArray):Bool:=c.2.2.any fun a=>QtF s a&&W5 c a.2.1
def QrO (f:DAr→Bool)(as_:List DAr)(k:Nat):List Int:=((List.range k).filter fun i=>match as_[i]? with | some a=>f a | none=>false).map fun i=>((i:Nat):Int)
def exL (c:DSg)(q sig:Int)(up:Bool):Bool:=c.2.2.any fun a=>decide (a.1=q∧a.2.1=sig∧a.2.2.1=up)
def Qq8 (c:DSg)(sig:Int)(up:Bool)(a:DAr):Bool:= !decide (a.2.1=sig)&&(exL c a.1 sig up&& !exL c a.2.2.2 sig up)
def Qs3 (c:DSg)(sig:Int)(a:DAr):Bool:=Qq8 c sig false a||Qq8 c sig true a
abbrev Qr0 (c:DSg)(sig:Int)(k:Nat):List Int:=QrO (Qs3 c sig) c.2.2 k
def QtL (c:DSg)(k:Nat):Int:=((Yn c.1 k).map fun s=>((Qr0 c s c.2.2.length).length:Int)).sum
def Quf (c:DSg):Int:=QtL c c.1.length
def Qtz (sig:Int)(up:Bool)(l:List Int)(a:DAr):List Int:=if a.2.1=sig∧a.2.2.1=up then QN ltI a.1 l else l
def exS (sig:Int)(up:Bool)(as_:List DAr):List Int:=as_.foldl (Qtz sig up) []
def QpI (c:DSg)(sig:Int)(up:Bool)(l:List Int)(k:Nat):List Int:=(QrO (Qq8 c sig up) c.2.2 k).foldl (fun l i=>QN ltI i l) l
def Que (c:DSg)(sig:Int):Nat→List Int
  | 0=>[]
  | 1=>QpI c sig false [] c.2.2.length
  | _=>QpI c sig true (QpI c sig false [] c.2.2.length) c.2.2.length
section
variable {c:DSg}{as_:List DAr}{a:DAr}{i j k n:Nat}{s:ByteArray}{sig q x y:Int}{up:Bool}{l:List Int}{f g:DAr→Bool}
def Quc (c:DSg)(l:List Int):Int:=(l.map fun s=>((Qr0 c s c.2.2.length).length:Int)).sum
end
end Go.Proofs.YtfkmmpfdncopdaaGreat
namespace Go.Proofs.YtfkmmpfdncopdaaGreat
open Go.RowKit
set_option maxRecDepth 100000
set_option maxHeartbeats 4000000
section
variable {c:DSg}{as_:List DAr}{a:DAr}{i j k n:Nat}{s q:Int}{z:Qz}
theorem Qn1 (hx:c.2.2[k]? =some a)(h1:a.1=q)(h2:a.2.1=s):true=ZD c q s:=(bC.2 ⟨a,ap hx,aJ ⟨h1,h2⟩⟩).symm
theorem Qqn (hn:∀j,j < k→∀a,c.2.2[j]? =some a→¬(a.1=q∧a.2.1=s))(hk:c.2.2.length≤k):false=ZD c q s:=(cq.2 fun a ha=>by
  obtain ⟨j,hj⟩:=aM.1 ha
  have:=(ah.1 hj).1
  simpa using hn j (by omega) a hj).symm
end
theorem JZ (c:(List (ByteArray×Int))×List ByteArray×(List (Int×Int×Bool×Int)))(k:Int)(sig:Int):FC Tryz.prog 205 [(true,[.dat (.sl 203 (.pr .str .int)) c.1, .dat (.sl 9 .str) c.2.1, .dat (.sl 136 (.pr .int (.pr .int (.pr .bool .int)))) c.2.2]),(false,[dI k]),(false,[dI sig])] [] 0 (QH (lB (ZD c k sig))):=by
 refine Ql Tryz.func205 rfl rfl Tryz.ntmps205 fun O_ hO w0_ N0_ X_ h0_ f0_=> ?_
 refine acI 1 fun hi1=> ?_
 refine acI 2 fun hi2=> ?_
 refine w_ ?_
 refine xbx 0 ?_
 iterate 6 refine w_ ?_
 refine alL 10 fun hl3=> ?_
 iterate 4 refine w_ ?_
 refine lpK c.2.2.length (fun i=>∀j,j < i→∀a,c.2.2[j]? =some a→¬(a.1=k∧a.2.1=sig)) (fun i=>⟨[(1,lI k),(2,lI sig),(10,lf (.dat (.sl 136 (.pr .int (.pr .int (.pr .bool .int)))) c.2.2)),(11,lI (c.2.2.length:Int)),(12,lI (i:Int))],[]⟩) ((fun j hj=>absurd hj (b8 j))) ?_ fun i hk4 hno=> ?_
 · exact Wk.of [] rfl ⟨rfl,rfl,rfl,rfl,rfl,trivial⟩ trivial rfl rfl
 iterate 4 refine w_ ?_
 cases hb5:(decide ((i:Int) < (c.2.2.length:Int)))
 ·have hb5':=ab hb5
  refine w_ ?_
  refine Qj ?_
  refine (?_:AC _ _ _ _ _)
  iterate 3 refine w_ ?_
  refine Qb<|fqB hO ?_
  first | exact Qqn hno (by omega)
 ·have hb5':=ae hb5
  iterate 5 refine w_ ?_
  obtain ⟨x6,hx7⟩:∃z,c.2.2[i]? =some z:=⟨_,aa (by omega)⟩
  iterate 2 refine w_ ?_
  refine lc (xal 1 (.pr .int (.pr .int (.pr .bool .int))) V0) ?_
  iterate 5 refine w_ ?_
  refine alI 17 fun hi8=> ?_
  iterate 3 refine w_ ?_
  cases hb9:(decide (x6.1=k))
  ·have hb9':=ab hb9
   iterate 7 refine w_ ?_
   refine AC.skip ?_
   refine (?_:AC _ _ _ _ _)
   iterate 3 refine w_ ?_
   refine Qd ?_
   refine lK_ ((XB hno hx7 (by first | (exact fun g=>absurd g.1 (by assumption)) | (exact fun g=>absurd g.2 (by assumption))))) ?_
   exact Wk.of [] rfl ⟨rfl,rfl,rfl,rfl,rfl,trivial⟩ trivial rfl rfl
  ·have hb9':=ae hb9
   iterate 6 refine w_ ?_
   cases hb10:(decide (x6.2.1=sig))
   ·have hb10':=ab hb10
    refine w_ ?_
    refine AC.skip ?_
    refine (?_:AC _ _ _ _ _)
    iterate 3 refine w_ ?_
    refine Qd ?_
    refine lK_ ((XB hno hx7 (by first | (exact fun g=>absurd g.1 (by assumption)) | (exact fun g=>absurd g.2 (by assumption))))) ?_
    exact Wk.of [] rfl ⟨rfl,rfl,rfl,rfl,rfl,trivial⟩ trivial rfl rfl
   ·have hb10':=ae hb10
    iterate 4 refine w_ ?_
    refine Qb<|fqB hO ?_
    exact Qn1 hx7 (by assumption) (by assumption)
end Go.Proofs.YtfkmmpfdncopdaaGreat
namespace Go.Proofs.YtfkmmpfdncopdaaGreat
open Go.RowKit
attribute [local irreducible] TF
abbrev Qqy:Type:=ZF×ZF
end Go.Proofs.YtfkmmpfdncopdaaGreat
namespace Go.Proofs.YtfkmmpfdncopdaaGreat
open Go.RowKit
set_option maxRecDepth 100000
set_option maxHeartbeats 4000000
def inv (h:Int)(a:DAr):Bool:=decide (a.2.1= -1)||decide (a.2.1=h)
inductive Ch (rs:List DAr) (h:Int) (S:Int→Prop):Int→Prop
  | base {u:Int}:S u→Ch rs h S u
  | step {a:DAr}:Ch rs h S a.1→a∈rs→inv h a=true→Ch rs h S a.2.2.2
def stS (h:Int)(S:List Int)(a:DAr):List Int:=if inv h a=true∧a.1∈S then QN ltI a.2.2.2 S else S
def stP (h:Int)(rs:List DAr)(S:List Int):List Int:=rs.foldl (stS h) S
def stN (h:Int)(rs:List DAr):Nat→List Int→List Int
  | 0,S=>S
  | k+1,S=>stP h rs (stN h rs k S)
def stl (c:DSg)(h:Int)(S:List Int):List Int:=stN h c.2.2 c.2.1.length S
@[reducible] def Srt (S:List Int):Prop:=S.Pairwise fun x y=>ltI x y=true
section
variable {rs as_:List DAr}{a:DAr}{h:Int}{S T_:List Int}{P Q:Int→Prop}{u v:Int}{n k:Nat}
theorem Ch.mono (hq:∀u,P u→Ch rs h Q u)(k:Ch rs h P u):Ch rs h Q u:=by
  induction k with
  | base h1=>exact hq _ h1
  | step _ h2 h3 ih=>exact .step ih h2 h3
theorem Ch.congr (hq:∀u,P u↔Q u):Ch rs h P u↔Ch rs h Q u:=⟨Ch.mono fun _ k=> .base ((hq _).1 k),Ch.mono fun _ k=> .base ((hq _).2 k)⟩
theorem QjI (hx:u∈S):u∈stS h S a:=by
  unfold stS; split
  · exact ZO.2 (.inr hx)
  · exact hx
theorem Qea (hx:u∈S):u∈stP h as_ S:=by
  induction as_ generalizing S with
  | nil=>exact hx
  | cons a l ih=>exact ih (QjI hx)
theorem Qog (hx:u∈S):u∈stN h rs k S:=by
  induction k with
  | zero=>exact hx
  | succ k ih=>exact Qea ih
theorem Qoh (hs:Srt S):Srt (stS h S a):=by
  unfold stS; split
  · exact UM WD hs
  · exact hs
theorem Qju (hs:Srt S):Srt (stP h as_ S):=by
  induction as_ generalizing S with
  | nil=>exact hs
  | cons a l ih=>exact ih (Qoh hs)
theorem JR (hs:Srt S):Srt (stN h rs k S):=by
  induction k with
  | zero=>exact hs
  | succ k ih=>exact Qju ih
theorem Qqa (hsub:∀a∈as_,a∈rs)(hS:∀u∈S,Ch rs h P u):∀u∈stP h as_ S,Ch rs h P u:=by
  induction as_ generalizing S with
  | nil=>exact hS
  | cons a l ih=>
    refine ih (fun b hb=>hsub b (ax _ hb)) fun u hu=> ?_
    unfold stS at hu
    split at hu
    · rename_i h1
      rcases ZO.1 hu with rfl | h2
      · exact .step (hS _ h1.2) (hsub a (az ..)) h1.1
      · exact hS _ h2
    · exact hS _ hu
theorem Qml (hS:∀u∈S,Ch rs h P u):∀u∈stN h rs k S,Ch rs h P u:=by
  induction k with
  | zero=>exact hS
  | succ k ih=>exact Qqa (fun _ h=>h) ih
theorem Qoj (ha:a∈as_)(hi:inv h a=true)(hu:a.1∈S):a.2.2.2∈stP h as_ S:=by
  induction as_ generalizing S with
  | nil=>cases ha
  | cons b l ih=>
    rcases aE.1 ha with rfl | ha
    · refine Qea (as_ := l) ?_
      unfold stS; rw[if_pos ⟨hi,hu⟩]
      exact ZO.2 (.inl rfl)
    · exact ih ha (QjI hu)
theorem QdW (hs:Srt S):S.Nodup:=hs.imp fun h e=>by subst e; simp[ltI] at h
theorem H0 {α:Type}[DecidableEq α]:∀{l m:List α},l.Nodup→(∀x∈l,x∈m)→l.length≤m.length
  | [],_,_,_=>aR _
  | a :: l,m,hn,hs=>by
    obtain ⟨h1,h2⟩:=bl.1 hn
    have ha:=hs a (az ..)
    have h3:=H0 (m:=m.erase a) h2 fun x hx=>(List.mem_erase_of_ne (fun e=>h1 (by rw[← e]; exact hx))).2 (hs x (ax _ hx))
    rw[List.length_erase_of_mem ha] at h3
    have:=List.length_pos_of_mem ha
    rw[au]; omega
theorem QoN (hs:Srt S)(hn:∀u∈S,0≤u∧u < (n:Int)):S.length≤n:=by
  have h1:(S.map Int.toNat).Nodup:=by
    unfold List.Nodup
    rw[List.pairwise_map]
    exact (QdW hs).imp_of_mem fun ha hb h e=>h (by have:=hn _ ha; have:=hn _ hb; omega)
  have h2:(S.map Int.toNat) ⊆ List.range n:=fun x hx=>by
    obtain ⟨u,hu,rfl⟩:=ba.1 hx
    have:=hn u hu
    exact bY.2 (by omega)
  have:=H0 h1 h2
  rwa [aP,List.length_range] at this
theorem QoW (hr:∀a∈rs,0≤a.2.2.2∧a.2.2.2 < (n:Int))(hn:∀u∈S,0≤u∧u < (n:Int)):∀u∈stN h rs k S,0≤u∧u < (n:Int):=by
  have h1:∀u,Ch rs h (fun v=>v∈S) u→0≤u∧u < (n:Int):=fun u hu=>by
    induction hu with
    | base h2=>exact hn _ h2
    | step _ h2 _ _=>exact hr _ h2
  exact fun u hu=>h1 u (Qml (P:=fun v=>v∈S) (fun v hv=> .base hv) u hu)
theorem Qp2 (hs:Srt S)(ht:Srt T_)(hsub:∀u∈S,u∈T_):T_=S∨S.length < T_.length:=by
  by_cases hc:∀x∈T_,x∈S
  · exact .inl (WD.ext ht hs fun x=>⟨hc x,hsub x⟩)
  · obtain ⟨x, hx⟩ := Classical.not_forall.1 hc
    obtain ⟨h1,h2⟩:=Classical.not_imp.1 hx
    have:=H0 (l:=x :: S) (m:=T_) (bl.2 ⟨h2,QdW hs⟩) fun y hy=>by
      rcases aE.1 hy with rfl | hy
      · exact h1
      · exact hsub y hy
    rw[au] at this
    exact .inr this
theorem Qix (hs:Srt S)(h1:stP h rs (stN h rs k S)=stN h rs k S):∀j,stN h rs (k+j) S=stN h rs k S
  | 0=>rfl
  | j+1=>by rw[← bK,stN,Qix hs h1 j,h1]
theorem Qln (hs:Srt S):(∃j,j < k∧stP h rs (stN h rs j S)=stN h rs j S)∨S.length+k≤(stN h rs k S).length:=by
  induction k with
  | zero=>exact .inr (aO _)
  | succ k ih=>
    rcases ih with ⟨j,h1,h2⟩ | h1
    · exact .inl ⟨j,by omega,h2⟩
    · rcases Qp2 (JR (h := h) (rs := rs) (k := k) hs) (Qju (JR hs)) (fun u hu => Qea (h := h) (as_ := rs) hu) with h2 | h2
      · exact .inl ⟨k,by omega,h2⟩
      · right; rw[stN]; omega
theorem Qg8 (hs:Srt S)(hr:∀a∈rs,0≤a.2.2.2∧a.2.2.2 < (n:Int))(hn:∀u∈S,0≤u∧u < (n:Int)):∀u,u∈stN h rs n S↔Ch rs h (fun v=>v∈S) u:=by
  have hc:stP h rs (stN h rs n S)=stN h rs n S:=by
    rcases Qln (rs:=rs) (h:=h) (k:=n) hs with ⟨j,h1,h2⟩ | h1
    · have h3 := Qix hs h2 (n - j)
      rw[show j+(n - j)=n by omega] at h3
      rw[h3,h2]
    · have h2 := QoN (JR (h := h) (rs := rs) (k := n) hs) (QoW hr hn)
      have h3:S=[]:=bB (by omega)
      subst h3
      have h4:∀(l:List DAr),stP h l []=[]:=fun l=>by
        induction l with
        | nil=>rfl
        | cons a l ih=>show stP h l (stS h [] a)=[]; rw[show stS h [] a=[] from if_neg (by simp)]; exact ih
      have h5:∀k,stN h rs k []=[]:=fun k=>by
        induction k with
        | zero=>rfl
        | succ k ih=>rw[stN,ih,h4]
      rw[h5,h4]
  refine fun u=>⟨Qml (fun v hv=> .base hv) u,fun hu=> ?_⟩
  induction hu with
  | base h1=>exact Qog h1
  | step _ h2 h3 ih=>rw[← hc]; exact Qoj h2 h3 ih
def clA (rs:List DAr)(h u:Int)(out:List Int):List Int:=rs.foldl (fun out a=>if a.1=u∧inv h a=true∧¬a.2.2.2∈out then out++[a.2.2.2] else out) out
def clL (rs:List DAr)(h:Int):Nat→Nat→List Int→List Int
  | 0,_,out=>out
  | f+1,k,out=>match out[k]? with
    | none=>out
    | some u=>clL rs h f (k+1) (clA rs h u out)
theorem QeQ:∃r,clA as_ h u S=S++r:=by
  unfold clA
  induction as_ generalizing S with
  | nil=>exact ⟨[],(bF _).symm⟩
  | cons a l ih=>
    rw[bu]
    split
    · obtain ⟨r, hr⟩ := ih (S := S ++ [a.2.2.2])
      exact ⟨a.2.2.2 :: r,by rw[hr,aZ]; rfl⟩
    · exact ih
theorem Qj4 (hs:S.Nodup):(clA as_ h u S).Nodup:=by
  unfold clA
  induction as_ generalizing S with
  | nil=>exact hs
  | cons a l ih=>
    rw[bu]
    split
    · rename_i h1
      exact ih (b9.2 ⟨hs,by simp,fun x hx y hy e=>by rw[aC] at hy; subst hy; subst e; exact h1.2.2 hx⟩)
    · exact ih hs
theorem QpY (hsub:∀a∈as_,a∈rs)(hu:Ch rs h P u)(hS:∀v∈S,Ch rs h P v):∀v∈clA as_ h u S,Ch rs h P v:=by
  unfold clA
  induction as_ generalizing S with
  | nil=>exact hS
  | cons a l ih=>
    rw[bu]
    refine ih (fun b hb=>hsub b (ax _ hb)) ?_
    split
    · rename_i h1
      intro v hv
      rcases aK.1 hv with hv | hv
      · exact hS v hv
      · rw [aC] at hv; subst hv
        exact .step (by rw[h1.1]; exact hu) (hsub a (az ..)) h1.2.1
    · exact hS
theorem QoP (ha:a∈as_)(hi:inv h a=true)(hu:a.1=u):a.2.2.2∈clA as_ h u S:=by
  induction as_ generalizing S with
  | nil=>cases ha
  | cons b l ih=>
    rcases aE.1 ha with rfl | ha
    · unfold clA
      rw[bu]
      split
      · obtain ⟨r, hr⟩ := QeQ (as_ := l) (h := h) (u := u) (S := S ++ [a.2.2.2])
        unfold clA at hr
        rw[hr]; simp
      · rename_i h1
        obtain ⟨r,hr⟩:=QeQ (as_:=l) (h:=h) (u:=u) (S:=S)
        unfold clA at hr
        rw[hr]
        exact aQ _ (cd fun g=>h1 ⟨hu,hi,g⟩)
    · unfold clA at ih ⊢
      rw[bu]; exact ih ha
structure ClI (rs:List DAr) (h:Int) (P:Int→Prop) (k:Nat) (out:List Int):Prop where
  nod:out.Nodup
  ch:∀v∈out,Ch rs h P v
  bas:∀v,P v→v∈out
  don:∀(j:Nat) w,j < k→out[j]? =some w→∀a∈rs,a.1=w→inv h a=true→a.2.2.2∈out
  le:k≤out.length
theorem ClI.zero (hs:S.Nodup)(hp:∀v,P v↔v∈S):ClI rs h P 0 S:=⟨hs,fun v hv=> .base ((hp v).2 hv),fun v hv=>(hp v).1 hv,fun j w hj=>absurd hj (b8 _),aR _⟩
theorem ClI.step {out:List Int}(g:ClI rs h P k out)(hu:out[k]? =some u):ClI rs h P (k+1) (clA rs h u out):=by
  obtain ⟨r,hr⟩:=QeQ (as_:=rs) (h:=h) (u:=u) (S:=out)
  have hk:=(ah.1 hu).1
  refine ⟨Qj4 g.nod,QpY (fun _ h=>h) (g.ch u (ap hu)) g.ch,fun v hv=>by rw[hr]; exact aQ _ (g.bas v hv),fun j w hj hw a ha e hi=> ?_,by rw[hr,ai]; omega⟩
  by_cases e1:j=k
  · subst e1
    have hw:out[j]? =some w:=by rw[hr,bf hk] at hw; exact hw
    rw[hu] at hw; cases hw
    exact QoP ha hi e
  · have hj2 : j < out.length := by omega
    rw[hr,bf hj2] at hw
    rw[hr]; exact aQ _ (g.don j w (by omega) hw a ha e hi)
theorem ClI.end_ {out:List Int}(g:ClI rs h P k out)(hk:out.length≤k):∀v,v∈out↔Ch rs h P v:=by
  refine fun v=>⟨g.ch v,fun hv=> ?_⟩
  induction hv with
  | base h1=>exact g.bas _ h1
  | step _ h2 h3 ih=>
    obtain ⟨j,hj⟩:=aM.1 ih
    exact g.don j _ (by have:=(ah.1 hj).1; omega) hj _ h2 rfl h3
end
def QkR (b:UInt8):Bool:=b==43||b==45
def sgB (up:Bool):ByteArray:=if up=true then ⟨#[43]⟩ else ⟨#[45]⟩
def wdA (c:DSg)(a:DAr):ByteArray:=((c.1[a.2.1.toNat]?).getD (ByteArray.empty,0)).1++sgB a.2.2.1
def tl (t:ByteArray):List UInt8:=t.data.toList
def Qs5 (l:List UInt8):Prop:=l=[]∨∃l0 s,l=l0++[s]∧QkR s=true
theorem Qld (s t:ByteArray):tl (s++t)=tl s++tl t:=by simp[tl]
end Go.Proofs.YtfkmmpfdncopdaaGreat
namespace Go.Proofs.YtfkmmpfdncopdaaGreat
open Go.RowKit
set_option maxRecDepth 100000
set_option maxHeartbeats 4000000
inductive Tr (c:DSg) (h:Int):Nat→ByteArray→Int→Prop
  | zero:Tr c h 0 ByteArray.empty 0
  | still {n:Nat} {t:ByteArray} {a:DAr}:Tr c h n t a.1→a∈c.2.2→inv h a=true→Tr c h n t a.2.2.2
  | word {n:Nat} {t:ByteArray} {a:DAr}:Tr c h n t a.1→a∈c.2.2→inv h a=false→Tr c h (n+1) (t++wdA c a) a.2.2.2
@[reducible] def DTx:=ByteArray×List Int×Int
@[reducible] def DLv:=List (ByteArray×List Int)
def Vs (c:DSg)(h:Int)(L:DLv)(s:ByteArray)(v:Int):Prop:=∃q∈L,∃a∈c.2.2,inv h a=false∧a.1∈q.2∧s=q.1++wdA c a∧v=a.2.2.2
structure Lev (c:DSg) (h:Int) (n:Nat) (K:DLv):Prop where
  nod:K.Pairwise fun p q=>p.1≠q.1
  mem:∀p∈K,(∃u,u∈p.2)∧∀u,u∈p.2↔Tr c h n p.1 u
  all:∀t u,Tr c h n t u→∃p∈K,p.1=t
section
variable {c:DSg}{h:Int}{n m:Nat}{s t:ByteArray}{u v:Int}{K L M:DLv}{a:DAr}
theorem Tr.ch {P:Int→Prop}(hp:∀u,P u→Tr c h n t u)(k:Ch c.2.2 h P u):Tr c h n t u:=by
  induction k with
  | base h1=>exact hp _ h1
  | step _ h2 h3 ih=>exact .still ih h2 h3
theorem QaP:Tr c h 0 t u↔t=ByteArray.empty∧Ch c.2.2 h (fun v=>v=0) u:=by
  constructor
  · intro k
    generalize e:0=n at k
    induction k with
    | zero=>exact ⟨rfl, .base rfl⟩
    | still _ h2 h3 ih=>exact ⟨(ih e).1, .step (ih e).2 h2 h3⟩
    | word=>cases e
  · rintro ⟨rfl, k⟩
    exact Tr.ch (fun u hu=>by subst hu; exact .zero) k
theorem Qom:Tr c h (n+1) s u↔Ch c.2.2 h (fun v=>∃t,∃a∈c.2.2,inv h a=false∧Tr c h n t a.1∧s=t++wdA c a∧v=a.2.2.2) u:=by
  constructor
  · intro k
    generalize e:n+1=m at k
    induction k with
    | zero=>cases e
    | still _ h2 h3 ih=>exact .step (ih e) h2 h3
    | word h1 h2 h3=>
      cases e
      exact .base ⟨_,_,h2,h3,h1,rfl,rfl⟩
  · exact Tr.ch fun u ⟨t,a,h1,h2,h3,h4,h5⟩=>by subst h4; subst h5; exact .word h3 h1 h2
theorem Lev.vs (g:Lev c h n L):Vs c h L s v↔∃t,∃a∈c.2.2,inv h a=false∧Tr c h n t a.1∧s=t++wdA c a∧v=a.2.2.2:=by
  constructor
  · rintro ⟨q, hq, a, h1, h2, h3, h4, h5⟩
    exact ⟨q.1,a,h1,h2,((g.mem q hq).2 _).1 h3,h4,h5⟩
  · rintro ⟨t, a, h1, h2, h3, h4, h5⟩
    obtain ⟨q,hq,rfl⟩:=g.all t _ h3
    exact ⟨q,hq,a,h1,h2,((g.mem q hq).2 _).2 h3,h4,h5⟩
theorem Lev.next (g:Lev c h n L)(hn:M.Pairwise fun p q=>p.1≠q.1)(hm:∀p∈M,(∃v,Vs c h L p.1 v)∧∀u,u∈p.2↔Ch c.2.2 h (fun v=>Vs c h L p.1 v) u)(ha:∀s v,Vs c h L s v→∃p∈M,p.1=s):Lev c h (n+1) M:=by
  have e:∀s u,Ch c.2.2 h (fun v=>Vs c h L s v) u↔Tr c h (n+1) s u:=fun s u=>(Ch.congr fun _=>g.vs).trans Qom.symm
  refine ⟨hn,fun p hp=>⟨?_,fun u=>((hm p hp).2 u).trans (e _ _)⟩,fun t u hu=> ?_⟩
  · obtain ⟨v, hv⟩ := (hm p hp).1
    exact ⟨v,((hm p hp).2 v).2 (.base hv)⟩
  · have h1 := (e t u).2 hu
    have h2:∃v,Vs c h L t v:=by
      induction h1 with
      | base h2=>exact ⟨_,h2⟩
      | step h1 _ _ ih=>exact ih ((e _ _).1 h1)
    obtain ⟨v,hv⟩:=h2
    exact ha t v hv
def Ko:List DTx→DTx→List DTx
  | [],x=>[x]
  | y :: l,x=>if y.1=x.1∧y.2.2=x.2.2 then (y.1,x.2.1.foldl (fun s k=>QN ltI k s) y.2.1,y.2.2) :: l else y :: Ko l x
def arT (c:DSg)(h:Int)(x:DTx)(out:List DTx)(a:DAr):List DTx:=if inv h a=false∧a.1∈x.2.1 then Ko out (x.1++wdA c a,[a.2.2.2],x.2.2+1) else out
def QoC (c:DSg)(h:Int)(as_:List DAr)(x:DTx)(out:List DTx):List DTx:=as_.foldl (arT c h x) out
def QnC (c:DSg)(h:Int)(L:List DTx)(out:List DTx):List DTx:=L.foldl (fun out x=>QoC c h c.2.2 x out) out
def Qp8 (c:DSg)(h:Int)(y:DTx):DTx:=(y.1,stl c h y.2.1,y.2.2)
def Qsi (c:DSg)(h:Int)(L:List DTx):List DTx:=(QnC c h L []).map (Qp8 c h)
def KZ (c:DSg)(h:Int):Nat→List DTx
  | 0=>[(ByteArray.empty,stl c h [0],0)]
  | n+1=>Qsi c h (KZ c h n)
def unT (L:List DTx):DLv:=L.map fun x=>(x.1,x.2.1)
structure OT (m:Int) (V:ByteArray→Int→Prop) (out:List DTx):Prop where
  many:∀y∈out,y.2.2=m
  nod:out.Pairwise fun p q=>p.1≠q.1
  srt:∀y∈out,Srt y.2.1
  mem:∀y∈out,∀v,v∈y.2.1↔V y.1 v
  wit:∀y∈out,∃v,V y.1 v
  all:∀s v,V s v→∃y∈out,y.1=s
theorem OT.congr {i:Int}{V W:ByteArray→Int→Prop}{out:List DTx}(g:OT i V out)(e:∀s v,V s v↔W s v):OT i W out:=
  ⟨g.many,g.nod,g.srt,fun y hy v=>(g.mem y hy v).trans (e _ _),fun y hy=>(g.wit y hy).imp fun v hv=>(e _ _).1 hv,fun s v hv=>g.all s v ((e _ _).2 hv)⟩
theorem Qfy {i:Int}:∀{out:List DTx} {y:DTx},(∀y∈out,y.2.2=i)→(out.Pairwise fun p q=>p.1≠q.1)→(y∈Ko out (s,[v],i)↔(y∈out∧y.1≠s)∨(∃z∈out,z.1=s∧y=(z.1,QN ltI v z.2.1,z.2.2))∨((∀z∈out,z.1≠s)∧y=(s,[v],i)))
  | [],y,_,_=>by simp[Ko]
  | z :: l,y,hm,hn=>by
    obtain ⟨hn1,hn2⟩:=bi.1 hn
    have hm1:=hm z (az ..)
    rw[Ko]
    by_cases e:z.1=s
    · rw [if_pos ⟨e, hm1⟩]
      have hl:∀x∈l,x.1≠s:=fun x hx g=>hn1 x hx (e.trans g.symm)
      simp only[bu,List.foldl_nil,aE]
      constructor
      · rintro (rfl | hy)
        · exact .inr (.inl ⟨z, .inl rfl,e,rfl⟩)
        · exact .inl ⟨.inr hy,hl y hy⟩
      · rintro (⟨rfl | hy, h2⟩ | ⟨x, rfl | hx, h2, rfl⟩ | ⟨h1, _⟩)
        · exact absurd e h2
        · exact .inr hy
        · exact .inl rfl
        · exact absurd h2 (hl x hx)
        · exact absurd e (h1 z (.inl rfl))
    · rw [if_neg (fun g => e g.1)]
      have ih:=Qfy (out:=l) (y:=y) (fun x hx=>hm x (ax _ hx)) hn2
      rw[aE,ih]
      simp only[aE]
      constructor
      · rintro (rfl | ⟨h1, h2⟩ | ⟨x, hx, h2, h3⟩ | ⟨h1, h2⟩)
        · exact .inl ⟨.inl rfl,e⟩
        · exact .inl ⟨.inr h1,h2⟩
        · exact .inr (.inl ⟨x, .inr hx,h2,h3⟩)
        · exact .inr (.inr ⟨fun x hx=>by rcases hx with rfl | hx; exact e; exact h1 x hx,h2⟩)
      · rintro (⟨rfl | h1, h2⟩ | ⟨x, rfl | hx, h2, h3⟩ | ⟨h1, h2⟩)
        · exact .inl rfl
        · exact .inr (.inl ⟨h1,h2⟩)
        · exact absurd h2 e
        · exact .inr (.inr (.inl ⟨x,hx,h2,h3⟩))
        · exact .inr (.inr (.inr ⟨fun x hx=>h1 x (.inr hx),h2⟩))
theorem QfX {i:Int}{x:DTx}:∀{out:List DTx},∀y∈Ko out x,y.1=x.1∨∃z∈out,z.1=y.1
  | [],y,hy=>by rw[Ko,aC] at hy; subst hy; exact .inl rfl
  | z :: l,y,hy=>by
    rw[Ko] at hy
    split at hy
    · rcases aE.1 hy with rfl | hy
      · exact .inr ⟨z,az ..,rfl⟩
      · exact .inr ⟨y,ax _ hy,rfl⟩
    · rcases aE.1 hy with rfl | hy
      · exact .inr ⟨y,az ..,rfl⟩
      · rcases QfX (i := i) y hy with h1 | ⟨w, hw, h1⟩
        · exact .inl h1
        · exact .inr ⟨w,ax _ hw,h1⟩
theorem Qfg {i:Int}{x:DTx}(hx:x.2.2=i):∀{out:List DTx},(∀y∈out,y.2.2=i)→(out.Pairwise fun p q=>p.1≠q.1)→(Ko out x).Pairwise fun p q=>p.1≠q.1
  | [],_,_=>cG ..
  | z :: l,hm,hn=>by
    obtain ⟨hn1,hn2⟩:=bi.1 hn
    have hm1:=hm z (az ..)
    rw[Ko]
    split
    · exact bi.2 ⟨fun y hy=>hn1 y hy,hn2⟩
    · rename_i h1
      refine bi.2 ⟨fun y hy=> ?_,Qfg hx (fun x hx=>hm x (ax _ hx)) hn2⟩
      rcases QfX (i:=i) y hy with h2 | ⟨w,hw,h2⟩
      · exact fun g=>h1 ⟨g.trans h2,hm1.trans hx.symm⟩
      · rw[← h2]; exact hn1 w hw
theorem OT.step {i:Int}{V:ByteArray→Int→Prop}{out:List DTx}(g:OT i V out):OT i (fun s' v'=>V s' v'∨(s'=s∧v'=v)) (Ko out (s,[v],i)):=by
  have hm:=fun y=>Qfy (s:=s) (v:=v) (y:=y) g.many g.nod
  have hs:∀z∈out,z.1=s→∀v',v'∈QN ltI v z.2.1↔V s v'∨v'=v:=fun z hz e v'=>by
    rw[ZO,g.mem z hz v',e]; exact Or.comm
  refine ⟨fun y hy=> ?_,Qfg rfl g.many g.nod,fun y hy=> ?_,fun y hy v'=> ?_,fun y hy=> ?_,fun s' v' hv=> ?_⟩
  · rcases (hm y).1 hy with h1 | ⟨z, hz, h2, rfl⟩ | ⟨_, rfl⟩
    · exact g.many y h1.1
    · exact g.many z hz
    · rfl
  · rcases (hm y).1 hy with h1 | ⟨z, hz, h2, rfl⟩ | ⟨_, rfl⟩
    · exact g.srt y h1.1
    · exact UM WD (g.srt z hz)
    · exact cG ..
  · rcases (hm y).1 hy with h1 | ⟨z, hz, h2, rfl⟩ | ⟨h1, rfl⟩
    · rw[g.mem y h1.1]; exact ⟨.inl,fun k=>k.resolve_right fun e=>h1.2 e.1⟩
    · show v' ∈ QN ltI v z.2.1 ↔ _
      rw[hs z hz h2,h2]
      exact ⟨fun k=>k.imp id fun e=>⟨rfl,e⟩,fun k=>k.imp id fun e=>e.2⟩
    · show v' ∈ [v] ↔ _
      rw[aC]
      refine ⟨fun e=> .inr ⟨rfl,e⟩,fun k=>k.elim (fun k=> ?_) fun k=>k.2⟩
      obtain ⟨z,hz,e⟩:=g.all _ _ k
      exact absurd e (h1 z hz)
  · rcases (hm y).1 hy with h1 | ⟨z, hz, h2, rfl⟩ | ⟨_, rfl⟩
    · exact (g.wit y h1.1).imp fun _=> .inl
    · exact ⟨v, .inr ⟨h2,rfl⟩⟩
    · exact ⟨v, .inr ⟨rfl,rfl⟩⟩
  · by_cases e : s' = s
    · subst e
      by_cases k:∃z∈out,z.1=s'
      · obtain ⟨z, hz, h2⟩ := k
        exact ⟨_,(hm _).2 (.inr (.inl ⟨z,hz,h2,rfl⟩)),h2⟩
      · exact ⟨_,(hm _).2 (.inr (.inr ⟨fun z hz h2=>k ⟨z,hz,h2⟩,rfl⟩)),rfl⟩
    · obtain ⟨z, hz, h2⟩ := g.all s' v' (hv.resolve_right fun k => e k.1)
      exact ⟨z,(hm _).2 (.inl ⟨hz,by rw[h2]; exact e⟩),h2⟩
theorem Qec {i:Int}{x:DTx}(hx:x.2.2+1=i):∀(as_:List DAr) {V:ByteArray→Int→Prop} {out:List DTx},OT i V out→OT i (fun s v=>V s v∨∃a∈as_,inv h a=false∧a.1∈x.2.1∧s=x.1++wdA c a∧v=a.2.2.2) (QoC c h as_ x out)
  | [],V,out,g=>g.congr fun s v=>by simp
  | a :: l,V,out,g=>by
    show OT i _ (QoC c h l x (arT c h x out a))
    unfold arT
    split
    · rename_i h1
      rw[hx]
      refine (Qec hx l g.step).congr fun s v=> ?_
      simp only[aE,exists_eq_or_imp,or_assoc]
      exact or_congr_right (or_congr_left ⟨fun k=>⟨h1.1,h1.2,k⟩,fun k=>k.2.2⟩)
    · rename_i h1
      refine (Qec hx l g).congr fun s v=> ?_
      simp only[aE,exists_eq_or_imp]
      exact or_congr_right ⟨.inr,fun k=>k.resolve_left fun k=>h1 ⟨k.1,k.2.1⟩⟩
theorem Qjc {i:Int}:∀(L:List DTx) {V:ByteArray→Int→Prop} {out:List DTx},(∀x∈L,x.2.2+1=i)→OT i V out→OT i (fun s v=>V s v∨Vs c h (unT L) s v) (QnC c h L out)
  | [],V,out,_,g=>g.congr fun s v=>by simp[Vs,unT]
  | x :: l,V,out,hm,g=>by
    refine (Qjc l (fun y hy=>hm y (ax _ hy)) (Qec (hm x (az ..)) c.2.2 g)).congr fun s v=> ?_
    simp only[Vs,unT,bg,aE,exists_eq_or_imp,or_assoc]
theorem QlW {i:Int}{L:List DTx}(hm:∀x∈L,x.2.2+1=i):OT i (Vs c h (unT L)) (QnC c h L []):=
  (Qjc L hm (V:=fun _ _=>False) ⟨by simp,bX,by simp,by simp,by simp,by simp⟩).congr fun s v=>by simp
end
end Go.Proofs.YtfkmmpfdncopdaaGreat
