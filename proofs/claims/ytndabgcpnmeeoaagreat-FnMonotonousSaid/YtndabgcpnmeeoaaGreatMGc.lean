/- Regions of states: parts that hang together. Plain law. -/
import Derived.Test.YtndabgcpnmeeoaaGreatMGa
import Derived.Test.YtndabgcpnmeeoaaGreatMEa
set_option linter.unusedSimpArgs false
set_option linter.unusedVariables false
set_option linter.unusedSectionVars false
namespace Go.Proofs.YtndabgcpnmeeoaaGreat
open Go.RowKit
set_option maxRecDepth 100000
set_option maxHeartbeats 4000000
def frL (as_:List DAr)(l:Int×Bool):List Int:=(as_.filter fun a=>decide (a.2.1=l.1∧a.2.2.1=l.2)).map fun a=>a.1
def xS (as_:List DAr)(l:Int×Bool):List Int:=ofG ltI (frL as_ l)
def edA (S:List Int)(a:DAr):List DAr:=[((a.1, -1,false,a.2.2.2):DAr),(a.2.2.2, -1,false,a.1)].filter fun e=>decide (e.2.2.2∈S)
def edL (as_:List DAr)(S:List Int):List DAr:=as_.flatMap (edA S)
abbrev Cn (as_:List DAr)(S:List Int)(x v:Int):Prop:=Ch (edL as_ S) (-1) (fun u=>u=x) v
noncomputable def cnB (as_:List DAr) (S:List Int) (x v:Int):Bool:= @decide (Cn as_ S x v) (Classical.propDecidable _)
noncomputable def cls (as_:List DAr) (S:List Int) (x:Int):List Int:=S.filter (cnB as_ S x)
noncomputable def repB (as_:List DAr) (S:List Int) (x:Int):Bool:=S.all fun v=> !cnB as_ S x v||decide (x≤v)
noncomputable def regV (as_:List DAr) (S:List Int):List (List Int):=(S.filter (repB as_ S)).map (cls as_ S)
noncomputable def compL (as_:List DAr) (S:List Int):Nat→List Int→List (List Int)
 | 0,_=>[]
 | _+1,[]=>[]
 | f+1,x :: xs=>cls as_ S x :: compL as_ S f ((x :: xs).filter fun k=> !decide (k∈cls as_ S x))
def pE (S:List Int)(u:Int)(out:List Int)(e:Int×Int):List Int:=if e.1=u∧e.2∈S∧¬e.2∈out then out++[e.2] else out
abbrev edP (a:DAr):List (Int×Int):=[(a.1,a.2.2.2),(a.2.2.2,a.1)]
def pA (S:List Int)(u:Int)(out:List Int)(a:DAr):List Int:=(edP a).foldl (pE S u) out
section
variable {as_:List DAr}{a:DAr}{S T_ part left out:List Int}{x y u v w z:Int}{k i j n f:Nat}{l:Int×Bool}{e:Int×Int}
theorem QlC (d:as_[k]? =some a)(b:a.2.1=l.1)(c:a.2.2.1=l.2):frL (as_.take k) l++[a.1]=frL (as_.take (k+1)) l:=by
 unfold frL; rw[Qw d,bz,bt]; simp[b,c]
theorem Qqj (b:as_[k]? =some a)(h:¬(a.2.1=l.1∧a.2.2.1=l.2)):frL (as_.take k) l=frL (as_.take (k+1)) l:=by
 unfold frL; rw[Qw b,bz,bt]; simp[h]
theorem QrN:(frL as_ l).length≤as_.length:=by unfold frL; rw[aJ]; exact bM ..
theorem QgI:x∈xS as_ l↔∃a∈as_,a.2.1=l.1∧a.2.2.1=l.2∧a.1=x:=by
 unfold xS frL
 rw[X1 ZS,ba]
 constructor
 ·rintro ⟨a,b,c⟩; rw[bl] at b; have:=ab b.2; exact ⟨a,b.1,this.1,this.2,c⟩
 ·rintro ⟨a,b,c,d,g⟩; exact ⟨a,bl.2 ⟨b,aE ⟨c,d⟩⟩,g⟩
theorem QgX:Srt (xS as_ l):=UH ZS _
theorem Qcn {b:DAr}:b∈edL as_ S↔b.2.2.2∈S∧b.2.1= -1∧b.2.2.1=false∧∃a∈as_,(b.1=a.1∧b.2.2.2=a.2.2.2)∨(b.1=a.2.2.2∧b.2.2.2=a.1):=by
 unfold edL edA
 rw[cH]
 constructor
 ·rintro ⟨a,g,c⟩
  rw[bl,aC,aC] at c
  obtain ⟨c,d⟩:=c
  have d:=ab d
  rcases c with rfl | rfl | c
  ·exact ⟨d,rfl,rfl,a,g, .inl ⟨rfl,rfl⟩⟩
  ·exact ⟨d,rfl,rfl,a,g, .inr ⟨rfl,rfl⟩⟩
  ·cases c
 ·rintro ⟨m,o,p,a,g,h⟩
  obtain ⟨q,r,s,t⟩:=b
  simp only at m o p h
  subst o; subst p
  refine ⟨a,g,bl.2 ⟨?_,aE m⟩⟩
  rcases h with ⟨rfl,rfl⟩ | ⟨rfl,rfl⟩
  ·exact ax ..
  ·exact aw _ (ax ..)
theorem Qbu (d:x∈S)(h:Cn as_ S x v):v∈S:=by
 cases h with
 | base b=>rw[b]; exact d
 | step _ c _=>exact (Qcn.1 c).1
theorem Jq:Cn as_ S x x:= .base rfl
theorem VC (h:Cn as_ S x v)(k:Cn as_ S v w):Cn as_ S x w:=Ch.mono (fun u b=>by rw[b]; exact h) k
theorem H7 (c:u∈S)(hv:v∈S)(b:a∈as_)(h:(u=a.1∧v=a.2.2.2)∨(u=a.2.2.2∧v=a.1)):Cn as_ S u v:=
 Ch.step (a:=((u, -1,false,v):DAr)) (.base rfl) (Qcn.2 ⟨hv,rfl,rfl,a,b,h⟩) rfl
theorem Qao (o:x∈S)(h:Cn as_ S x v):Cn as_ S v x:=by
 induction h with
 | base c=>rw[c]; exact Jq
 | @step b c h2 h3 ih=>
  obtain ⟨d,_,_,a,m,g⟩:=Qcn.1 h2
  exact VC (H7 d (Qbu o c) m (g.elim (fun g=> .inr ⟨g.2,g.1⟩) fun g=> .inl ⟨g.2,g.1⟩)) ih
theorem K7:cnB as_ S x v=true↔Cn as_ S x v:=by unfold cnB; exact @dE _ (Classical.propDecidable _)
theorem Jz (b:x∈S):v∈cls as_ S x↔Cn as_ S x v:=by
 unfold cls
 rw[bl,K7]
 exact ⟨fun h=>h.2,fun h=>⟨Qbu b h,h⟩⟩
theorem Qlz (b:Srt S):Srt (cls as_ S x):=b.filter _
theorem Quz (b:Srt S)(c:x∈S)(h:∀v,v∈part↔Cn as_ S x v):ofG ltI part=cls as_ S x:=
 ZS.ext (UH ZS _) (Qlz b) fun v=>by rw[X1 ZS,h,Jz c]
theorem Qcd:repB as_ S x=true↔∀v∈S,Cn as_ S x v→x≤v:=by
 unfold repB
 rw[av]
 constructor
 ·intro h v c b
  have:=h v c
  rw[K7.2 b] at this
  simpa using this
 ·intro h v c
  cases b:cnB as_ S x v with
  | false=>rfl
  | true=>simp[h v c (K7.1 b)]
theorem Qmf (t:Srt S):∀{f:Nat} {left:List Int},left.length≤f→Srt left→(∀v∈left,v∈S)→(∀v∈left,∀u,Cn as_ S v u→u∈left)→compL as_ S f left=(left.filter (repB as_ S)).map (cls as_ S)
 | 0,left,h,_,_,_=>by obtain rfl:left=[]:=bf (by omega); rfl
 | f+1,[],_,_,_,_=>rfl
 | f+1,x :: xs,h,hs,hin,hcl=>by
  have m:=hin x (ax ..)
  have d:∀v∈x :: xs,x≤v:=fun v b=>by
   rcases aC.1 b with rfl | b
   ·exact cK _
   ·have:=(bk.1 hs).1 v b; simp only[ltI,aT] at this; omega
  have q:repB as_ S x=true:=Qcd.2 fun v _ A=>d v (hcl x (ax ..) v A)
  have o:x∈cls as_ S x:=(Jz m).2 Jq
  have c:((x :: xs).filter fun k=> !decide (k∈cls as_ S x)).length≤f:=by
   rw[cD (by simp[o])]
   have:=bM (fun k=> !decide (k∈cls as_ S x)) xs
   simp only[au] at h
   omega
  have D:=Qmf t (f:=f) c (hs.filter _) (fun v b=>hin v (bl.1 b).1) (fun v b u r=>by
   rw[bl] at b ⊢
   refine ⟨hcl v b.1 u r, ?_⟩
   have p:=b.2
   simp only[bS,cZ,Jz m] at p ⊢
   exact fun g=>p (VC g (Qao (hin v b.1) r)))
  rw[compL,D,dd q,be]
  congr 2
  rw[cD (by simp[o]),List.filter_filter]
  apply dq
  intro v b
  cases B:repB as_ S v with
  | false=>simp
  | true=>
   have C:=hin v (aw _ b)
   have:¬v∈cls as_ S x:=fun g=>by
    have p:=Qcd.1 B x m (Qao m ((Jz m).1 g))
    have s:=(bk.1 hs).1 v b
    simp only[ltI,aT] at s
    omega
   simp[this]
theorem QoF (b:Srt S):compL as_ S S.length S=regV as_ S:=Qmf b (aK _) b (fun _ h=>h) fun v d u c=>Qbu d c
theorem QnA (p:Srt S)(c:left[0]? =some x)(b:∀v∈left,v∈S){B C:List (List Int)}(q:left.length≤f)(h:B++compL as_ S f left=C)(r:∀v,v∈part↔Cn as_ S x v):
 (B++[ofG ltI part])++compL as_ S (f - 1) (left.filter fun k=> !((ofG ltI part).any fun y=>decide (k=y)))=C:=by
 cases left with
 | nil=>cases c
 | cons s t=>
  simp only[bN,bn] at c
  subst c
  have d:=b s (ax ..)
  rw[← h,Quz p d r]
  obtain ⟨g,rfl⟩:∃g,f=g+1:=⟨f - 1,by simp only[au] at q; omega⟩
  rw[compL,aU,List.singleton_append,Nat.add_sub_cancel]
  congr 3
  apply dq
  intro v _
  congr 1
  rw[co,bC,dE]
  constructor
  ·rintro ⟨y,m,o⟩; rw[ab o]; exact m
  ·intro h; exact ⟨v,h,aE rfl⟩
theorem Qh4 (b:left[0]? =some x)(c:x∈part):(left.filter fun k=> !((ofG ltI part).any fun y=>decide (k=y))).length < left.length:=by
 cases left with
 | nil=>cases b
 | cons d g=>
  simp only[bN,bn] at b
  subst b
  rw[cD]
  ·have:=bM (fun k=> !((ofG ltI part).any fun y=>decide (k=y))) g
   simp only[au]; omega
  ·simp only[Bool.not_eq_true,Bool.not_eq_false',bC]
   exact ⟨d,(X1 ZS _).2 c,aE rfl⟩
theorem Qxm:as_.foldl (pA S u) out=clA (edL as_ S) (-1) u out:=by
 unfold clA edL
 induction as_ generalizing out with
 | nil=>rfl
 | cons a l d=>
  rw[aN,List.flatMap_cons,bq,d]
  congr 1
  unfold pA edA edP pE
  simp only[aN,bU,cp,List.filter_nil]
  by_cases b:a.2.2.2∈S <;> by_cases c:a.1∈S <;> simp[b,c,inv]
theorem QpP (l:List (Int×Int)):∃r,l.foldl (pE S u) out=out++r:=by
 induction l generalizing out with
 | nil=>exact ⟨[],by simp⟩
 | cons e l c=>
  rw[aN]
  unfold pE
  split
  ·obtain ⟨r,b⟩:=c (out:=out++[e.2]); unfold pE at b; exact ⟨e.2 :: r,by rw[b]; simp⟩
  ·exact c
theorem Qvf (l:List DAr):∃r,l.foldl (pA S u) out=out++r:=by
 induction l generalizing out with
 | nil=>exact ⟨[],by simp⟩
 | cons a l d=>
  rw[aN]
  obtain ⟨g,b⟩:=QpP (S:=S) (u:=u) (out:=out) (edP a)
  obtain ⟨h,c⟩:=d (out:=pA S u out a)
  exact ⟨g++h,by rw[c]; unfold pA; rw[b,aU]⟩
theorem Qqh (b:out[k]? =some u){r:List Int}(h:part=out++r):part[k]? =some u:=by
 rw[h,bo (ah.1 b).1]; exact b
theorem QxV (g:out[k]? =some u)(l:List (Int×Int))(b:List DAr):(l.foldl (pE S u) (b.foldl (pA S u) out))[k]? =some u:=by
 obtain ⟨h,c⟩:=QpP (S:=S) (u:=u) (out:=b.foldl (pA S u) out) l
 obtain ⟨m,d⟩:=Qvf (S:=S) (u:=u) (out:=out) b
 rw[c,d,aU]
 exact Qqh g rfl
theorem Qhg {L:List (Int×Int)}(r:L[j]? =some e)(p:e.1=u)(q:S.any (fun y=>decide (e.2=y))=true)(c:((L.take j).foldl (pE S u) out).any (fun y=>decide (e.2=y))=false):(L.take j).foldl (pE S u) out++[e.2]=(L.take (j+1)).foldl (pE S u) out:=by
 rw[Qw r,bq,aN,bU]
 generalize (L.take j).foldl (pE S u) out=o at c
 unfold pE
 have b:e.2∈S:=by obtain ⟨y,h,m⟩:=bC.1 q; rw[ab m]; exact h
 have d:¬e.2∈o:=fun g=>by rw[cr] at c; exact c _ g (aE rfl)
 rw[if_pos ⟨p,b,d⟩]
theorem U3 {L:List (Int×Int)}(b:L[j]? =some e)(h:¬(e.1=u∧e.2∈S∧¬e.2∈(L.take j).foldl (pE S u) out)):(L.take j).foldl (pE S u) out=(L.take (j+1)).foldl (pE S u) out:=by
 rw[Qw b,bq,aN,bU]
 generalize (L.take j).foldl (pE S u) out=o at h
 unfold pE
 rw[if_neg h]
theorem VU (h:S.any (fun y=>decide (x=y))=false):¬x∈S:=fun g=>by rw[cr] at h; exact h _ g (aE rfl)
theorem QaP (h:S.any (fun y=>decide (x=y))=true):x∈S:=by obtain ⟨y,b,c⟩:=bC.1 h; rw[ab c]; exact b
theorem Qsb (b:as_[i]? =some a)(h:(edP a).length≤j):((edP a).take j).foldl (pE S u) ((as_.take i).foldl (pA S u) out)=(as_.take (i+1)).foldl (pA S u) out:=by
 rw[Za h,Qw b]; simp only[bq]; rfl
theorem Qrz (d:Srt S)(c:x∈S)(h:ClI (edL as_ S) (-1) (fun u=>u=x) k out):out.length≤S.length:=KX h.nod fun v b=>Qbu c (h.ch v b)
end
end Go.Proofs.YtndabgcpnmeeoaaGreat
namespace Go.Proofs.YtndabgcpnmeeoaaGreat
open Go.RowKit
set_option maxRecDepth 100000
set_option maxHeartbeats 4000000
def lpS (S p:List Int)(a:DAr):List Int:=if a.1∈S∧a.2.2.2∈S then (p.set a.1.toNat (min (mAt p a.1) (mAt p a.2.2.2))).set a.2.2.2.toNat (min (mAt p a.1) (mAt p a.2.2.2)) else p
def lpR (as_:List DAr)(S p:List Int):List Int:=as_.foldl (lpS S) p
def lpZ (n:Nat):List Int:=(List.range n).map fun k:Nat=>(k:Int)
noncomputable def rm (as_:List DAr) (S:List Int) (k:Int):Int:=(S.find? (cnB as_ S k)).getD k
def spF (S p:List Int)(k:Int)(i:Nat):Option Int:=if (i:Int)∈S∧mAt p (i:Int)=k then some (i:Int) else none
def lbG (S p:List Int)(n:Nat)(k:Nat):Option (List Int):=if 0 < ((rg (spF S p (k:Int)) n).length:Int) then some (rg (spF S p (k:Int)) n) else none
section
variable {as_ bs:List DAr}{a:DAr}{S p q:List Int}{x y u v w z:Int}{k i j n:Nat}{P:Nat→Prop}[DecidablePred P]
theorem UQ (e:Srt S)(f:u∈S):rm as_ S u∈S∧Cn as_ S u (rm as_ S u)∧∀v,Cn as_ S u v→rm as_ S u≤v:=by
 unfold rm
 cases h:S.find? (cnB as_ S u) with
 | none=>
  rw[List.find?_eq_none] at h
  exact absurd (K7.2 Jq) (h u f)
 | some m=>
  obtain ⟨l,s,t,d,o⟩:=List.find?_eq_some_iff_append.1 h
  have r:m∈S:=by rw[d]; simp
  refine ⟨r,K7.1 l,fun v g=> ?_⟩
  have c:=Qbu f g
  rw[d] at c e
  rcases aM.1 c with b | b
  ·have:=o v b
   rw[K7.2 g] at this
   cases this
  ·rcases aC.1 b with rfl | b
   ·exact cK _
   ·have:=(bk.1 (List.pairwise_append.1 e).2.1).1 v b
    simp only[ltI,aT] at this
    exact Int.le_of_lt this
theorem Qmt (c:Srt S)(b:u∈S)(h:Cn as_ S u v):rm as_ S u=rm as_ S v:=by
 obtain ⟨r,f,g⟩:=UQ c b (as_:=as_)
 obtain ⟨o,d,e⟩:=UQ c (Qbu b h) (as_:=as_)
 have l:=g _ (VC h d)
 have m:=e _ (VC (Qao b h) f)
 omega
structure LpI (as_:List DAr) (S:List Int) (n:Nat) (p:List Int):Prop where
  len:p.length=n
  ch:∀u∈S,Cn as_ S u (mAt p u)
  le:∀u∈S,mAt p u≤u
abbrev InN (S:List Int)(n:Nat):Prop:=∀u∈S,0≤u∧u < (n:Int)
theorem QmA (b:p.length=n)(c:0≤u∧u < (n:Int))(hv:0≤v):mAt (p.set u.toNat x) v=if v=u then x else mAt p v:=by
 unfold mAt
 rw[bB]
 by_cases h:v=u
 ·subst h; rw[if_pos rfl,if_pos rfl,if_pos (by omega)]; rfl
 ·rw[if_neg (by omega),if_neg h]
theorem QdS (g:InN S n)(f:p.length=n)(d:a.1∈S)(e:a.2.2.2∈S)(hv:0≤v):mAt (lpS S p a) v=if v=a.1∨v=a.2.2.2 then min (mAt p a.1) (mAt p a.2.2.2) else mAt p v:=by
 unfold lpS
 rw[if_pos ⟨d,e⟩,QmA (by rw[ay]; exact f) (g _ e) hv,QmA f (g _ d) hv]
 by_cases b:v=a.2.2.2
 ·rw[if_pos b,if_pos (.inr b)]
 ·rw[if_neg b]
  by_cases c:v=a.1
  ·rw[if_pos c,if_pos (.inl c)]
  ·rw[if_neg c,if_neg (fun h=>h.elim c b)]
theorem Qi3 (h:¬(a.1∈S∧a.2.2.2∈S)):lpS S p a=p:=if_neg h
theorem LpI.step (d:InN S n)(h:LpI as_ S n p)(l:a∈as_):LpI as_ S n (lpS S p a):=by
 by_cases b:a.1∈S∧a.2.2.2∈S
 ·refine ⟨by unfold lpS; rw[if_pos b]; simp[h.len],fun u c=> ?_,fun u c=> ?_⟩
  ·rw[QdS d h.len b.1 b.2 (d u c).1]
   split
   ·rename_i e
    have f:=H7 (as_:=as_) b.1 b.2 l (.inl ⟨rfl,rfl⟩)
    have g:=H7 (as_:=as_) b.2 b.1 l (.inr ⟨rfl,rfl⟩)
    have c1:=h.ch _ b.1
    have c2:=h.ch _ b.2
    rw[Int.min_def]
    split
    ·rcases e with rfl | rfl
     ·exact c1
     ·exact VC g c1
    ·rcases e with rfl | rfl
     ·exact VC f c2
     ·exact c2
   ·exact h.ch u c
  ·rw[QdS d h.len b.1 b.2 (d u c).1]
   split
   ·rename_i e
    have:=h.le _ b.1
    have:=h.le _ b.2
    rcases e with rfl | rfl <;> omega
   ·exact h.le u c
 ·rw[Qi3 b]; exact h
theorem LpI.rm_le (c:Srt S)(h:LpI as_ S n p)(b:u∈S):rm as_ S u≤mAt p u:=(UQ c b).2.2 _ (h.ch u b)
abbrev W3 (as_:List DAr)(S p:List Int)(u:Int):Prop:=mAt p u=rm as_ S u
theorem Qdy (d:Srt S)(f:InN S n)(h:LpI as_ S n p)(l:a∈as_)(m:u∈S)(c:W3 as_ S p u):W3 as_ S (lpS S p a) u:=by
 by_cases b:a.1∈S∧a.2.2.2∈S
 ·show mAt _ _=_
  rw[QdS f h.len b.1 b.2 (f u m).1]
  split
  ·rename_i e
   have g:=Qmt d b.1 (H7 (as_:=as_) b.1 b.2 l (.inl ⟨rfl,rfl⟩))
   have o:=h.rm_le d b.1
   have r:=h.rm_le d b.2
   have c:mAt p u=rm as_ S u:=c
   rcases e with rfl | rfl <;> omega
  ·exact c
 ·rw[Qi3 b]; exact c
theorem QpK (e:Srt S)(d:InN S n)(h:LpI as_ S n p)(o:a∈as_)(b:a.1∈S)(c:a.2.2.2∈S)(f:W3 as_ S p a.1∨W3 as_ S p a.2.2.2):W3 as_ S (lpS S p a) a.1∧W3 as_ S (lpS S p a) a.2.2.2:=by
 have g:=Qmt e b (H7 (as_:=as_) b c o (.inl ⟨rfl,rfl⟩))
 have r:=h.rm_le e b
 have s:=h.rm_le e c
 have f:mAt p a.1=rm as_ S a.1∨mAt p a.2.2.2=rm as_ S a.2.2.2:=f
 have l:=QdS d h.len b c (d _ b).1
 have m:=QdS d h.len b c (d _ c).1
 rw[if_pos (.inl rfl)] at l
 rw[if_pos (.inr rfl)] at m
 exact ⟨by show mAt _ _=_; omega,by show mAt _ _=_; omega⟩
theorem Qs1 (e:InN S n)(c:∀a∈bs,a∈as_)(h:LpI as_ S n p):LpI as_ S n (bs.foldl (lpS S) p):=by
 induction bs generalizing p with
 | nil=>exact h
 | cons a l f=>exact f (fun b d=>c b (aw _ d)) (h.step e (c a (ax ..)))
theorem Qgs (g:Srt S)(f:InN S n)(c:∀a∈bs,a∈as_)(h:LpI as_ S n p)(o:u∈S)(e:W3 as_ S p u):W3 as_ S (bs.foldl (lpS S) p) u:=by
 induction bs generalizing p with
 | nil=>exact e
 | cons a l r=>
  have d:=c a (ax ..)
  exact r (fun b m=>c b (aw _ m)) (h.step f d) (Qdy g f h d o e)
theorem QoX (g:Srt S)(d:InN S n)(e:∀a∈bs,a∈as_)(h:LpI as_ S n p)(m:a∈bs)(o:a.1∈S)(r:a.2.2.2∈S)(t:W3 as_ S p a.1∨W3 as_ S p a.2.2.2):W3 as_ S (bs.foldl (lpS S) p) a.1∧W3 as_ S (bs.foldl (lpS S) p) a.2.2.2:=by
 induction bs generalizing p with
 | nil=>cases m
 | cons b l D=>
  have f:=e b (ax ..)
  have s:=fun c C=>e c (aw _ C)
  rcases aC.1 m with rfl | m
  ·obtain ⟨A,B⟩:=QpK g d h f o r t
   exact ⟨Qgs (bs:=l) g d s (h.step d f) o A,Qgs (bs:=l) g d s (h.step d f) r B⟩
  ·exact D s (h.step d f) m (t.imp (Qdy g d h f o) (Qdy g d h f r))
noncomputable def finB (as_:List DAr) (S p:List Int) (u:Int):Bool:=decide (mAt p u=rm as_ S u)
theorem Qcb {f g:Int→Bool}:∀{l:List Int},(∀x∈l,f x=true→g x=true)→(l.filter g).length≤(l.filter f).length→∀x∈l,g x=true→f x=true
 | [],_,_,x,hx,_=>by cases hx
 | y :: l,hfg,hl,x,hx,hg=>by
  have m:=hfg y (ax ..)
  have d:∀z∈l,f z=true→g z=true:=fun z e=>hfg z (aw _ e)
  have o:∀{l:List Int},(∀z∈l,f z=true→g z=true)→(l.filter f).length≤(l.filter g).length:=by
   intro l
   induction l with
   | nil=>intro _; exact aK _
   | cons a l s=>
    intro h
    have:=s fun z e=>h z (aw _ e)
    have r:=h a (ax ..)
    rw[cp,cp]
    cases b:f a with
    | true=>rw[r b]; simp; exact this
    | false=>cases g a <;> simp <;> omega
  have t:=o d
  rw[cp,cp] at hl
  cases b:f y with
  | true=>
   rw[b,m b] at hl
   simp at hl
   rcases aC.1 hx with rfl | hx
   ·exact b
   ·exact Qcb d hl x hx hg
  | false=>
   cases c:g y with
   | true=>rw[b,c] at hl; simp at hl; omega
   | false=>
    rw[b,c] at hl
    simp at hl
    rcases aC.1 hx with rfl | hx
    ·rw[c] at hg; cases hg
    ·exact Qcb d hl x hx hg
theorem QrK (hS:Srt S)(hn:InN S n)(h:LpI as_ S n p)(hc:∀a∈as_,a.1∈S→a.2.2.2∈S→(W3 as_ S p a.1∨W3 as_ S p a.2.2.2)→W3 as_ S p a.1∧W3 as_ S p a.2.2.2):∀u∈S,W3 as_ S p u:=fun u hu=>by
 obtain ⟨g1,g2,g3⟩:=UQ hS hu (as_:=as_)
 have base:W3 as_ S p (rm as_ S u):=by
  have e:=Qmt hS hu g2
  have r1:=h.rm_le hS g1
  have r2:=h.le _ g1
  show mAt _ _=_
  omega
 have key:∀v,Cn as_ S (rm as_ S u) v→W3 as_ S p v:=fun v hv=>by
  induction hv with
  | base h1=>rw[h1]; exact base
  | @step b h1 h2 _ ih=>
   obtain ⟨k1,_,_,a,ha,k⟩:=Qcn.1 h2
   have hb:=Qbu g1 h1
   rcases k with ⟨k2,k3⟩ | ⟨k2,k3⟩
   ·rw[k3]; rw[k2] at ih hb; rw[k3] at k1
    exact (hc a ha hb k1 (.inl ih)).2
   ·rw[k3]; rw[k2] at ih hb; rw[k3] at k1
    exact (hc a ha k1 hb (.inr ih)).1
 exact key u (Qao hu g2)
theorem QpJ (b:InN S n)(h:LpI as_ S n p):∀j,LpI as_ S n (Q3 (lpR as_ S) j p)
 | 0=>h
 | j+1=>Qs1 b (fun _ h=>h) (QpJ b h j)
theorem Qoo (o:Srt S)(m:InN S n)(h:LpI as_ S n p):∀j,(∀u∈S,W3 as_ S (Q3 (lpR as_ S) j p) u)∨j≤(S.filter (finB as_ S (Q3 (lpR as_ S) j p))).length
 | 0=> .inr (aP _)
 | j+1=>by
  have s:=QpJ m h j
  have c:∀u∈S,W3 as_ S (Q3 (lpR as_ S) j p) u→W3 as_ S (Q3 (lpR as_ S) (j+1) p) u:=fun u b e=>Qgs o m (fun _ h=>h) s b e
  rcases Qoo o m h j with g | g
  ·exact .inl fun u b=>c u b (g u b)
  ·by_cases t:j+1≤(S.filter (finB as_ S (Q3 (lpR as_ S) (j+1) p))).length
   ·exact .inr t
   ·left
    have r:=Qcb (f:=finB as_ S (Q3 (lpR as_ S) j p)) (g:=finB as_ S (Q3 (lpR as_ S) (j+1) p)) (l:=S) (fun u b e=>aE (c u b (ab e))) (by omega)
    have d:∀u∈S,W3 as_ S (Q3 (lpR as_ S) (j+1) p) u→W3 as_ S (Q3 (lpR as_ S) j p) u:=fun u b e=>ab (r u b (aE e))
    exact fun u b=>c u b (QrK o m s (fun a C A B e=>by
     obtain ⟨D,E⟩:=QoX o m (fun _ h=>h) s C A B e
     exact ⟨d _ A D,d _ B E⟩) u b)
theorem Qsh (c:Srt S)(d:InN S n)(h:LpI as_ S n p):∀u∈S,mAt (Q3 (lpR as_ S) n p) u=rm as_ S u:=by
 rcases Qoo c d h n with g | g
 ·exact g
 ·have m:=Qgp c d
  have b:=Qcb (f:=finB as_ S (Q3 (lpR as_ S) n p)) (g:=fun _=>true) (l:=S) (fun _ _ _=>rfl) (by rw[dc.2 fun _ _=>rfl]; omega)
  exact fun u e=>ab (b u e rfl)
theorem QqR (h:0≤u∧u < (n:Int)):mAt (lpZ n) u=u:=by
 unfold mAt lpZ
 rw[bg,List.getElem?_range (by omega)]
 simp; omega
theorem QsO (c:InN S n):LpI as_ S n (lpZ n):=⟨by simp[lpZ],fun u b=>by rw[QqR (c u b)]; exact Jq,fun u b=>by rw[QqR (c u b)]; exact cK _⟩
theorem Qgi {f:Nat→Option Int}(d:∀i y,f i=some y→y=(i:Int)):Srt (rg f n):=by
 induction n with
 | zero=>exact ce
 | succ n h=>
  have e:rg f (n+1)=rg f n++(f n).toList:=by
   unfold rg; rw[bY,List.filterMap_append]
   cases b:f n <;> simp[b]
  rw[e]
  refine List.pairwise_append.2 ⟨h, ?_,fun x c y g=> ?_⟩
  ·cases f n with
   | none=>exact ce
   | some y=>exact cI _ _
  ·obtain ⟨j,o,c⟩:=Qg0.1 c
   have l:=d j x c
   have m:=d n y (by simpa using g)
   simp only[ltI,aT]; omega
theorem QuY (b:Srt S)(s:InN S n)(l:∀u∈S,mAt p u=rm as_ S u)(c:x∈S)(t:repB as_ S x=true):rg (spF S p x) n=cls as_ S x:=by
 refine ZS.ext (Qgi fun i y h=>by unfold spF at h; split at h; exact (di h).symm; cases h) (Qlz b) fun v=> ?_
 rw[Qg0,Jz c]
 unfold spF
 have d:rm as_ S x=x:=by
  obtain ⟨m,o,r⟩:=UQ b c (as_:=as_)
  have:=r x Jq
  have:=Qcd.1 t _ m o
  omega
 constructor
 ·rintro ⟨j,A,h⟩
  split at h
  ·rename_i g
   cases h
   have e:=l _ g.1
   have:=(UQ b g.1 (as_:=as_)).2.1
   rw[← e,g.2] at this
   exact Qao g.1 this
  ·cases h
 ·intro h
  have f:=Qbu c h
  have:=s v f
  refine ⟨v.toNat,by omega, ?_⟩
  rw[show ((v.toNat:Nat):Int)=v by omega,if_pos ⟨f,by rw[l v f,← Qmt b c h,d]⟩]
theorem QsW (e:Srt S)(h:∀u∈S,mAt p u=rm as_ S u)(l:¬(x∈S∧repB as_ S x=true)):rg (spF S p x) n=[]:=by
 rw[QjR]
 intro j _
 unfold spF
 refine if_neg fun g=>l ?_
 obtain ⟨b,c,d⟩:=UQ e g.1 (as_:=as_)
 rw[← h _ g.1,g.2] at b c d
 exact ⟨b,Qcd.2 fun v _ f=>d v (VC c f)⟩
theorem Quj (b:Srt S)(c:InN S n)(d:∀u∈S,mAt p u=rm as_ S u):rg (lbG S p n) n=regV as_ S:=by
 have e:rg (lbG S p n) n=(rg (fun i:Nat=>if (i:Int)∈S∧repB as_ S (i:Int)=true then some (i:Int) else none) n).map (cls as_ S):=by
  unfold rg
  rw[List.map_filterMap]
  congr 1
  funext i
  show lbG S p n i=_
  unfold lbG
  by_cases h:(i:Int)∈S∧repB as_ S (i:Int)=true
  ·rw[if_pos h,QuY b c d h.1 h.2,if_pos]
   ·rfl
   ·have:(i:Int)∈cls as_ S (i:Int):=(Jz h.1).2 Jq
    have:=List.length_pos_of_mem this
    omega
  ·rw[if_neg h,QsW b d h]; rfl
 rw[e]
 unfold regV
 congr 1
 refine ZS.ext (Qgi fun i y h=>by split at h; exact (di h).symm; cases h) (b.filter _) fun v=> ?_
 rw[Qg0,bl]
 constructor
 ·rintro ⟨j,_,h⟩
  split at h
  ·rename_i g; cases h; exact g
  ·cases h
 ·intro h
  have:=c v h.1
  exact ⟨v.toNat,by omega,by rw[show ((v.toNat:Nat):Int)=v by omega,if_pos h]⟩
end
end Go.Proofs.YtndabgcpnmeeoaaGreat
