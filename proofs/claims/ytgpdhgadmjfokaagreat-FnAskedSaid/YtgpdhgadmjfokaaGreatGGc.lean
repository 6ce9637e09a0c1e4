/- Regions of states: parts that hang together. Plain law. -/
import Derived.Test.YtgpdhgadmjfokaaGreatGGa
import Derived.Test.YtgpdhgadmjfokaaGreatGDf
set_option linter.unusedSimpArgs false
set_option linter.unusedVariables false
set_option linter.unusedSectionVars false
namespace Go.Proofs.YtgpdhgadmjfokaaGreat
open Go.RowKit
set_option maxRecDepth 100000
set_option maxHeartbeats 4000000
def frL (as_:List DAr)(l:Int×Bool):List Int:=(as_.filter fun a=>decide (a.2.1=l.1∧a.2.2.1=l.2)).map fun a=>a.1
def xS (as_:List DAr)(l:Int×Bool):List Int:=ofG ltI (frL as_ l)
def edA (S:List Int)(a:DAr):List DAr:=[((a.1, -1,false,a.2.2.2):DAr),(a.2.2.2, -1,false,a.1)].filter fun e=>decide (e.2.2.2∈S)
def edL (as_:List DAr)(S:List Int):List DAr:=as_.flatMap (edA S)
abbrev Cn (as_:List DAr)(S:List Int)(x v:Int):Prop:=Ch (edL as_ S) (-1) (fun u=>u=x) v
noncomputable def cnB (as_:List DAr) (S:List Int) (x v:Int):Bool:= @decide (Cn as_ S x v) (Classical.propDecidable _)
noncomputable def cls (as_:List DAr) (S:List Int) (x:Int):List Int:=S.filter (cnB as_ S x)
noncomputable def repB (as_:List DAr) (S:List Int) (x:Int):Bool:=S.all fun v=> !cnB as_ S x v||decide (x≤v)
noncomputable def regV (as_:List DAr) (S:List Int):List (List Int):=(S.filter (repB as_ S)).map (cls as_ S)
noncomputable def compL (as_:List DAr) (S:List Int):Nat→List Int→List (List Int)
  | 0,_=>[]
  | _+1,[]=>[]
  | f+1,x :: xs=>cls as_ S x :: compL as_ S f ((x :: xs).filter fun k=> !decide (k∈cls as_ S x))
def pE (S:List Int)(u:Int)(out:List Int)(e:Int×Int):List Int:=if e.1=u∧e.2∈S∧¬e.2∈out then out++[e.2] else out
abbrev edP (a:DAr):List (Int×Int):=[(a.1,a.2.2.2),(a.2.2.2,a.1)]
def pA (S:List Int)(u:Int)(out:List Int)(a:DAr):List Int:=(edP a).foldl (pE S u) out
section
variable {as_:List DAr}{a:DAr}{S T_ part left out:List Int}{x y u v w z:Int}{k i j n f:Nat}{l:Int×Bool}{e:Int×Int}
theorem Qi4 (hx:as_[k]? =some a)(h1:a.2.1=l.1)(h2:a.2.2.1=l.2):frL (as_.take k) l++[a.1]=frL (as_.take (k+1)) l:=by
  unfold frL; rw[Qs hx,bO,cC]; simp[h1,h2]
theorem QlG (hx:as_[k]? =some a)(h:¬(a.2.1=l.1∧a.2.2.1=l.2)):frL (as_.take k) l=frL (as_.take (k+1)) l:=by
  unfold frL; rw[Qs hx,bO,cC]; simp[h]
theorem Qop:(frL as_ l).length≤as_.length:=by unfold frL; rw[aN]; exact bX ..
theorem VX:x∈xS as_ l↔∃a∈as_,a.2.1=l.1∧a.2.2.1=l.2∧a.1=x:=by
  unfold xS frL
  rw[Xb Zo,bB]
  constructor
  · rintro ⟨a,h1,h2⟩; rw[be] at h1; have:=ab h1.2; exact ⟨a,h1.1,this.1,this.2,h2⟩
  · rintro ⟨a,h1,h2,h3,h4⟩; exact ⟨a,be.2 ⟨h1,aI ⟨h2,h3⟩⟩,h4⟩
theorem Hb:Srt (xS as_ l):=Vj Zo _
theorem Qah {b:DAr}:b∈edL as_ S↔b.2.2.2∈S∧b.2.1= -1∧b.2.2.1=false∧∃a∈as_,(b.1=a.1∧b.2.2.2=a.2.2.2)∨(b.1=a.2.2.2∧b.2.2.2=a.1):=by
  unfold edL edA
  rw[List.mem_flatMap]
  constructor
  · rintro ⟨a, ha, hb⟩
    rw[be,aJ,aJ] at hb
    obtain ⟨hb,hS⟩:=hb
    have hS:=ab hS
    rcases hb with rfl | rfl | hb
    · exact ⟨hS,rfl,rfl,a,ha, .inl ⟨rfl,rfl⟩⟩
    · exact ⟨hS,rfl,rfl,a,ha, .inr ⟨rfl,rfl⟩⟩
    · cases hb
  · rintro ⟨h1, h2, h3, a, ha, h⟩
    obtain ⟨b1,b2,b3,b4⟩:=b
    simp only at h1 h2 h3 h
    subst h2; subst h3
    refine ⟨a,ha,be.2 ⟨?_,aI h1⟩⟩
    rcases h with ⟨rfl,rfl⟩ | ⟨rfl,rfl⟩
    · exact aB ..
    · exact aC _ (aB ..)
theorem Hl (hx:x∈S)(h:Cn as_ S x v):v∈S:=by
  cases h with
  | base h1=>rw[h1]; exact hx
  | step _ h2 _=>exact (Qah.1 h2).1
theorem UH:Cn as_ S x x:= .base rfl
theorem YN (h:Cn as_ S x v)(k:Cn as_ S v w):Cn as_ S x w:=Ch.mono (fun u hu=>by rw[hu]; exact h) k
theorem Je (hu:u∈S)(hv:v∈S)(ha:a∈as_)(h:(u=a.1∧v=a.2.2.2)∨(u=a.2.2.2∧v=a.1)):Cn as_ S u v:=
  Ch.step (a:=((u, -1,false,v):DAr)) (.base rfl) (Qah.2 ⟨hv,rfl,rfl,a,ha,h⟩) rfl
theorem WD (hx:x∈S)(h:Cn as_ S x v):Cn as_ S v x:=by
  induction h with
  | base h1=>rw[h1]; exact UH
  | @step b h1 h2 h3 ih=>
    obtain ⟨g1,_,_,a,ha,g⟩:=Qah.1 h2
    exact YN (Je g1 (Hl hx h1) ha (g.elim (fun g=> .inr ⟨g.2,g.1⟩) fun g=> .inl ⟨g.2,g.1⟩)) ih
theorem UA:cnB as_ S x v=true↔Cn as_ S x v:=by unfold cnB; exact @decide_eq_true_iff _ (Classical.propDecidable _)
theorem XY (hx:x∈S):v∈cls as_ S x↔Cn as_ S x v:=by
  unfold cls
  rw[be,UA]
  exact ⟨fun h=>h.2,fun h=>⟨Hl hx h,h⟩⟩
theorem Qdo (hS:Srt S):Srt (cls as_ S x):=hS.filter _
theorem QpE (hS:Srt S)(hx:x∈S)(h:∀v,v∈part↔Cn as_ S x v):ofG ltI part=cls as_ S x:=
  Zo.ext (Vj Zo _) (Qdo hS) fun v=>by rw[Xb Zo,h,XY hx]
theorem Vr:repB as_ S x=true↔∀v∈S,Cn as_ S x v→x≤v:=by
  unfold repB
  rw[aA]
  constructor
  · intro h v hv hc
    have:=h v hv
    rw[UA.2 hc] at this
    simpa using this
  · intro h v hv
    cases hc:cnB as_ S x v with
    | false=>rfl
    | true=>simp[h v hv (UA.1 hc)]
theorem QiO (hS:Srt S):∀{f:Nat} {left:List Int},left.length≤f→Srt left→(∀v∈left,v∈S)→(∀v∈left,∀u,Cn as_ S v u→u∈left)→compL as_ S f left=(left.filter (repB as_ S)).map (cls as_ S)
  | 0,left,h,_,_,_=>by obtain rfl:left=[]:=bw (by omega); rfl
  | f+1,[],_,_,_,_=>rfl
  | f+1,x :: xs,h,hs,hin,hcl=>by
    have hx:=hin x (aB ..)
    have hmin:∀v∈x :: xs,x≤v:=fun v hv=>by
      rcases aJ.1 hv with rfl | hv
      · exact de _
      · have:=(bN.1 hs).1 v hv; simp only[ltI,aS] at this; omega
    have hrx:repB as_ S x=true:=Vr.2 fun v _ hc=>hmin v (hcl x (aB ..) v hc)
    have hxc:x∈cls as_ S x:=(XY hx).2 UH
    have hlen:((x :: xs).filter fun k=> !decide (k∈cls as_ S x)).length≤f:=by
      rw[cr (by simp[hxc])]
      have:=bX (fun k=> !decide (k∈cls as_ S x)) xs
      simp only[ax] at h
      omega
    have ih:=QiO hS (f:=f) hlen (hs.filter _) (fun v hv=>hin v (be.1 hv).1) (fun v hv u hu=>by
      rw[be] at hv ⊢
      refine ⟨hcl v hv.1 u hu, ?_⟩
      have h1:=hv.2
      simp only[c9,cQ,XY hx] at h1 ⊢
      exact fun g=>h1 (YN g (WD (hin v hv.1) hu)))
    rw[compL,ih,cU hrx,bc]
    congr 2
    rw[cr (by simp[hxc]),List.filter_filter]
    apply d6
    intro v hv
    cases hr:repB as_ S v with
    | false=>simp
    | true=>
      have hvS:=hin v (aC _ hv)
      have:¬v∈cls as_ S x:=fun g=>by
        have h1:=Vr.1 hr x hx (WD hx ((XY hx).1 g))
        have h2:=(bN.1 hs).1 v hv
        simp only[ltI,aS] at h2
        omega
      simp[this]
theorem Qk4 (hS:Srt S):compL as_ S S.length S=regV as_ S:=QiO hS (aQ _) hS (fun _ h=>h) fun v hv u hu=>Hl hv hu
theorem Qj5 (hS:Srt S)(hx:left[0]? =some x)(hin:∀v∈left,v∈S){B C:List (List Int)}(hf:left.length≤f)(h:B++compL as_ S f left=C)(hp:∀v,v∈part↔Cn as_ S x v):
    (B++[ofG ltI part])++compL as_ S (f - 1) (left.filter fun k=> !((ofG ltI part).any fun y=>decide (k=y)))=C:=by
  cases left with
  | nil=>cases hx
  | cons x' xs=>
    simp only[bQ,bf] at hx
    subst hx
    have hxS:=hin x' (aB ..)
    rw[← h,QpE hS hxS hp]
    obtain ⟨f',rfl⟩:∃f',f=f'+1:=⟨f - 1,by simp only[ax] at hf; omega⟩
    rw[compL,aP,List.singleton_append,Nat.add_sub_cancel]
    congr 3
    apply d6
    intro v _
    congr 1
    rw[cj,bC,decide_eq_true_iff]
    constructor
    · rintro ⟨y,h1,h2⟩; rw[ab h2]; exact h1
    · intro h; exact ⟨v,h,aI rfl⟩
theorem Qfn (hx:left[0]? =some x)(hp:x∈part):(left.filter fun k=> !((ofG ltI part).any fun y=>decide (k=y))).length < left.length:=by
  cases left with
  | nil=>cases hx
  | cons x' xs=>
    simp only[bQ,bf] at hx
    subst hx
    rw[cr]
    · have := bX (fun k => !((ofG ltI part).any fun y => decide (k = y))) xs
      simp only[ax]; omega
    · simp only [Bool.not_eq_true, Bool.not_eq_false', bC]
      exact ⟨x',(Xb Zo _).2 hp,aI rfl⟩
theorem QrH:as_.foldl (pA S u) out=clA (edL as_ S) (-1) u out:=by
  unfold clA edL
  induction as_ generalizing out with
  | nil=>rfl
  | cons a l ih=>
    rw[aL,List.flatMap_cons,bl,ih]
    congr 1
    unfold pA edA edP pE
    simp only[aL,bT,cB,List.filter_nil]
    by_cases h1:a.2.2.2∈S <;> by_cases h2:a.1∈S <;> simp[h1,h2,inv]
theorem QkI (l:List (Int×Int)):∃r,l.foldl (pE S u) out=out++r:=by
  induction l generalizing out with
  | nil=>exact ⟨[],by simp⟩
  | cons e l ih=>
    rw[aL]
    unfold pE
    split
    · obtain ⟨r,hr⟩:=ih (out:=out++[e.2]); unfold pE at hr; exact ⟨e.2 :: r,by rw[hr]; simp⟩
    · exact ih
theorem Qpj (l:List DAr):∃r,l.foldl (pA S u) out=out++r:=by
  induction l generalizing out with
  | nil=>exact ⟨[],by simp⟩
  | cons a l ih=>
    rw[aL]
    obtain ⟨r1,h1⟩:=QkI (S:=S) (u:=u) (out:=out) (edP a)
    obtain ⟨r2,h2⟩:=ih (out:=pA S u out a)
    exact ⟨r1++r2,by rw[h2]; unfold pA; rw[h1,aP]⟩
theorem QlE (hu:out[k]? =some u){r:List Int}(h:part=out++r):part[k]? =some u:=by
  rw[h,ba (ah.1 hu).1]; exact hu
theorem QsP (hu:out[k]? =some u)(l:List (Int×Int))(l2:List DAr):(l.foldl (pE S u) (l2.foldl (pA S u) out))[k]? =some u:=by
  obtain ⟨r1,h1⟩:=QkI (S:=S) (u:=u) (out:=l2.foldl (pA S u) out) l
  obtain ⟨r2,h2⟩:=Qpj (S:=S) (u:=u) (out:=out) l2
  rw[h1,h2,aP]
  exact QlE hu rfl
theorem Qes {L:List (Int×Int)}(hx:L[j]? =some e)(h1:e.1=u)(h2:S.any (fun y=>decide (e.2=y))=true)(h3:((L.take j).foldl (pE S u) out).any (fun y=>decide (e.2=y))=false):(L.take j).foldl (pE S u) out++[e.2]=(L.take (j+1)).foldl (pE S u) out:=by
  rw[Qs hx,bl,aL,bT]
  generalize (L.take j).foldl (pE S u) out=o at h3
  unfold pE
  have h2':e.2∈S:=by obtain ⟨y,g1,g2⟩:=bC.1 h2; rw[ab g2]; exact g1
  have h3':¬e.2∈o:=fun g=>by rw[cn] at h3; exact h3 _ g (aI rfl)
  rw[if_pos ⟨h1,h2',h3'⟩]
theorem VF {L:List (Int×Int)}(hx:L[j]? =some e)(h:¬(e.1=u∧e.2∈S∧¬e.2∈(L.take j).foldl (pE S u) out)):(L.take j).foldl (pE S u) out=(L.take (j+1)).foldl (pE S u) out:=by
  rw[Qs hx,bl,aL,bT]
  generalize (L.take j).foldl (pE S u) out=o at h
  unfold pE
  rw[if_neg h]
theorem WJ (h:S.any (fun y=>decide (x=y))=false):¬x∈S:=fun g=>by rw[cn] at h; exact h _ g (aI rfl)
theorem JI (h:S.any (fun y=>decide (x=y))=true):x∈S:=by obtain ⟨y,g1,g2⟩:=bC.1 h; rw[ab g2]; exact g1
theorem QnN (hx:as_[i]? =some a)(h:(edP a).length≤j):((edP a).take j).foldl (pE S u) ((as_.take i).foldl (pA S u) out)=(as_.take (i+1)).foldl (pA S u) out:=by
  rw[QO h,Qs hx]; simp only[bl]; rfl
theorem Qnd (hS:Srt S)(hx:x∈S)(h:ClI (edL as_ S) (-1) (fun u=>u=x) k out):out.length≤S.length:=JO h.nod fun v hv=>Hl hx (h.ch v hv)
end
end Go.Proofs.YtgpdhgadmjfokaaGreat
namespace Go.Proofs.YtgpdhgadmjfokaaGreat
open Go.RowKit
set_option maxRecDepth 100000
set_option maxHeartbeats 4000000
def lpS (S p:List Int)(a:DAr):List Int:=if a.1∈S∧a.2.2.2∈S then (p.set a.1.toNat (min (mAt p a.1) (mAt p a.2.2.2))).set a.2.2.2.toNat (min (mAt p a.1) (mAt p a.2.2.2)) else p
def lpR (as_:List DAr)(S p:List Int):List Int:=as_.foldl (lpS S) p
def lpZ (n:Nat):List Int:=(List.range n).map fun k:Nat=>(k:Int)
noncomputable def rm (as_:List DAr) (S:List Int) (k:Int):Int:=(S.find? (cnB as_ S k)).getD k
def spF (S p:List Int)(k:Int)(i:Nat):Option Int:=if (i:Int)∈S∧mAt p (i:Int)=k then some (i:Int) else none
def lbG (S p:List Int)(n:Nat)(k:Nat):Option (List Int):=if 0 < ((rg (spF S p (k:Int)) n).length:Int) then some (rg (spF S p (k:Int)) n) else none
section
variable {as_ bs:List DAr}{a:DAr}{S p q:List Int}{x y u v w z:Int}{k i j n:Nat}{P:Nat→Prop}[DecidablePred P]
theorem WG (hS:Srt S)(hk:u∈S):rm as_ S u∈S∧Cn as_ S u (rm as_ S u)∧∀v,Cn as_ S u v→rm as_ S u≤v:=by
  unfold rm
  cases h:S.find? (cnB as_ S u) with
  | none=>
    rw[List.find?_eq_none] at h
    exact absurd (UA.2 UH) (h u hk)
  | some m=>
    obtain ⟨h1,l1,l2,h2,h3⟩:=List.find?_eq_some_iff_append.1 h
    have hm:m∈S:=by rw[h2]; simp
    refine ⟨hm,UA.1 h1,fun v hv=> ?_⟩
    have hvS:=Hl hk hv
    rw[h2] at hvS hS
    rcases aO.1 hvS with h4 | h4
    · have := h3 v h4
      rw[UA.2 hv] at this
      cases this
    · rcases aJ.1 h4 with rfl | h4
      · exact de _
      · have := (bN.1 (List.pairwise_append.1 hS).2.1).1 v h4
        simp only[ltI,aS] at this
        exact Int.le_of_lt this
theorem Qh8 (hS:Srt S)(hu:u∈S)(h:Cn as_ S u v):rm as_ S u=rm as_ S v:=by
  obtain ⟨h1,h2,h3⟩:=WG hS hu (as_:=as_)
  obtain ⟨g1,g2,g3⟩:=WG hS (Hl hu h) (as_:=as_)
  have e1:=h3 _ (YN h g2)
  have e2:=g3 _ (YN (WD hu h) h2)
  omega
structure LpI (as_:List DAr) (S:List Int) (n:Nat) (p:List Int):Prop where
  len:p.length=n
  ch:∀u∈S,Cn as_ S u (mAt p u)
  le:∀u∈S,mAt p u≤u
abbrev InN (S:List Int)(n:Nat):Prop:=∀u∈S,0≤u∧u < (n:Int)
theorem Qij (hl:p.length=n)(hu:0≤u∧u < (n:Int))(hv:0≤v):mAt (p.set u.toNat x) v=if v=u then x else mAt p v:=by
  unfold mAt
  rw[bq]
  by_cases h:v=u
  · subst h; rw[if_pos rfl,if_pos rfl,if_pos (by omega)]; rfl
  · rw[if_neg (by omega),if_neg h]
theorem Qbm (hn:InN S n)(hl:p.length=n)(h1:a.1∈S)(h2:a.2.2.2∈S)(hv:0≤v):mAt (lpS S p a) v=if v=a.1∨v=a.2.2.2 then min (mAt p a.1) (mAt p a.2.2.2) else mAt p v:=by
  unfold lpS
  rw[if_pos ⟨h1,h2⟩,Qij (by rw[ay]; exact hl) (hn _ h2) hv,Qij hl (hn _ h1) hv]
  by_cases e1:v=a.2.2.2
  · rw[if_pos e1,if_pos (.inr e1)]
  · rw [if_neg e1]
    by_cases e2:v=a.1
    · rw[if_pos e2,if_pos (.inl e2)]
    · rw[if_neg e2,if_neg (fun h=>h.elim e2 e1)]
theorem QhN (h:¬(a.1∈S∧a.2.2.2∈S)):lpS S p a=p:=if_neg h
theorem LpI.step (hn:InN S n)(h:LpI as_ S n p)(ha:a∈as_):LpI as_ S n (lpS S p a):=by
  by_cases hs:a.1∈S∧a.2.2.2∈S
  · refine ⟨by unfold lpS; rw [if_pos hs]; simp [h.len], fun u hu => ?_, fun u hu => ?_⟩
    · rw [Qbm hn h.len hs.1 hs.2 (hn u hu).1]
      split
      · rename_i e
        have e12:=Je (as_:=as_) hs.1 hs.2 ha (.inl ⟨rfl,rfl⟩)
        have e21:=Je (as_:=as_) hs.2 hs.1 ha (.inr ⟨rfl,rfl⟩)
        have c1:=h.ch _ hs.1
        have c2:=h.ch _ hs.2
        rw[Int.min_def]
        split
        · rcases e with rfl | rfl
          · exact c1
          · exact YN e21 c1
        · rcases e with rfl | rfl
          · exact YN e12 c2
          · exact c2
      · exact h.ch u hu
    · rw [Qbm hn h.len hs.1 hs.2 (hn u hu).1]
      split
      · rename_i e
        have:=h.le _ hs.1
        have:=h.le _ hs.2
        rcases e with rfl | rfl <;> omega
      · exact h.le u hu
  · rw[QhN hs]; exact h
theorem LpI.rm_le (hS:Srt S)(h:LpI as_ S n p)(hu:u∈S):rm as_ S u≤mAt p u:=(WG hS hu).2.2 _ (h.ch u hu)
abbrev XU (as_:List DAr)(S p:List Int)(u:Int):Prop:=mAt p u=rm as_ S u
theorem QbM (hS:Srt S)(hn:InN S n)(h:LpI as_ S n p)(ha:a∈as_)(hu:u∈S)(hf:XU as_ S p u):XU as_ S (lpS S p a) u:=by
  by_cases hs:a.1∈S∧a.2.2.2∈S
  · show mAt _ _ = _
    rw[Qbm hn h.len hs.1 hs.2 (hn u hu).1]
    split
    · rename_i e
      have e12:=Qh8 hS hs.1 (Je (as_:=as_) hs.1 hs.2 ha (.inl ⟨rfl,rfl⟩))
      have r1:=h.rm_le hS hs.1
      have r2:=h.rm_le hS hs.2
      have hf:mAt p u=rm as_ S u:=hf
      rcases e with rfl | rfl <;> omega
    · exact hf
  · rw[QhN hs]; exact hf
theorem QkM (hS:Srt S)(hn:InN S n)(h:LpI as_ S n p)(ha:a∈as_)(h1:a.1∈S)(h2:a.2.2.2∈S)(hf:XU as_ S p a.1∨XU as_ S p a.2.2.2):XU as_ S (lpS S p a) a.1∧XU as_ S (lpS S p a) a.2.2.2:=by
  have e12:=Qh8 hS h1 (Je (as_:=as_) h1 h2 ha (.inl ⟨rfl,rfl⟩))
  have r1:=h.rm_le hS h1
  have r2:=h.rm_le hS h2
  have hf:mAt p a.1=rm as_ S a.1∨mAt p a.2.2.2=rm as_ S a.2.2.2:=hf
  have g1:=Qbm hn h.len h1 h2 (hn _ h1).1
  have g2:=Qbm hn h.len h1 h2 (hn _ h2).1
  rw[if_pos (.inl rfl)] at g1
  rw[if_pos (.inr rfl)] at g2
  exact ⟨by show mAt _ _=_; omega,by show mAt _ _=_; omega⟩
theorem Qoo (hn:InN S n)(hsub:∀a∈bs,a∈as_)(h:LpI as_ S n p):LpI as_ S n (bs.foldl (lpS S) p):=by
  induction bs generalizing p with
  | nil=>exact h
  | cons a l ih=>exact ih (fun b hb=>hsub b (aC _ hb)) (h.step hn (hsub a (aB ..)))
theorem QdK (hS:Srt S)(hn:InN S n)(hsub:∀a∈bs,a∈as_)(h:LpI as_ S n p)(hu:u∈S)(hf:XU as_ S p u):XU as_ S (bs.foldl (lpS S) p) u:=by
  induction bs generalizing p with
  | nil=>exact hf
  | cons a l ih=>
    have ha:=hsub a (aB ..)
    exact ih (fun b hb=>hsub b (aC _ hb)) (h.step hn ha) (QbM hS hn h ha hu hf)
theorem QlQ (hS:Srt S)(hn:InN S n)(hsub:∀a∈bs,a∈as_)(h:LpI as_ S n p)(ha:a∈bs)(h1:a.1∈S)(h2:a.2.2.2∈S)(hf:XU as_ S p a.1∨XU as_ S p a.2.2.2):XU as_ S (bs.foldl (lpS S) p) a.1∧XU as_ S (bs.foldl (lpS S) p) a.2.2.2:=by
  induction bs generalizing p with
  | nil=>cases ha
  | cons b l ih=>
    have hb:=hsub b (aB ..)
    have hl:=fun c hc=>hsub c (aC _ hc)
    rcases aJ.1 ha with rfl | ha
    · obtain ⟨g1, g2⟩ := QkM hS hn h hb h1 h2 hf
      exact ⟨QdK (bs:=l) hS hn hl (h.step hn hb) h1 g1,QdK (bs:=l) hS hn hl (h.step hn hb) h2 g2⟩
    · exact ih hl (h.step hn hb) ha (hf.imp (QbM hS hn h hb h1) (QbM hS hn h hb h2))
noncomputable def finB (as_:List DAr) (S p:List Int) (u:Int):Bool:=decide (mAt p u=rm as_ S u)
theorem H9 {f g:Int→Bool}:∀{l:List Int},(∀x∈l,f x=true→g x=true)→(l.filter g).length≤(l.filter f).length→∀x∈l,g x=true→f x=true
  | [],_,_,x,hx,_=>by cases hx
  | y :: l,hfg,hl,x,hx,hg=>by
    have h1:=hfg y (aB ..)
    have h2:∀z∈l,f z=true→g z=true:=fun z hz=>hfg z (aC _ hz)
    have h3:∀{l:List Int},(∀z∈l,f z=true→g z=true)→(l.filter f).length≤(l.filter g).length:=by
      intro l
      induction l with
      | nil=>intro _; exact aQ _
      | cons a l ih=>
        intro h
        have:=ih fun z hz=>h z (aC _ hz)
        have h4:=h a (aB ..)
        rw[cB,cB]
        cases hf:f a with
        | true=>rw[h4 hf]; simp; exact this
        | false=>cases g a <;> simp <;> omega
    have h5:=h3 h2
    rw[cB,cB] at hl
    cases hf:f y with
    | true=>
      rw[hf,h1 hf] at hl
      simp at hl
      rcases aJ.1 hx with rfl | hx
      · exact hf
      · exact H9 h2 hl x hx hg
    | false=>
      cases hg':g y with
      | true=>rw[hf,hg'] at hl; simp at hl; omega
      | false=>
        rw[hf,hg'] at hl
        simp at hl
        rcases aJ.1 hx with rfl | hx
        · rw[hg'] at hg; cases hg
        · exact H9 h2 hl x hx hg
theorem Qoi (hS:Srt S)(hn:InN S n)(h:LpI as_ S n p)(hc:∀a∈as_,a.1∈S→a.2.2.2∈S→(XU as_ S p a.1∨XU as_ S p a.2.2.2)→XU as_ S p a.1∧XU as_ S p a.2.2.2):∀u∈S,XU as_ S p u:=fun u hu=>by
  obtain ⟨g1,g2,g3⟩:=WG hS hu (as_:=as_)
  have base:XU as_ S p (rm as_ S u):=by
    have e:=Qh8 hS hu g2
    have r1:=h.rm_le hS g1
    have r2:=h.le _ g1
    show mAt _ _=_
    omega
  have key:∀v,Cn as_ S (rm as_ S u) v→XU as_ S p v:=fun v hv=>by
    induction hv with
    | base h1=>rw[h1]; exact base
    | @step b h1 h2 _ ih=>
      obtain ⟨k1,_,_,a,ha,k⟩:=Qah.1 h2
      have hb:=Hl g1 h1
      rcases k with ⟨k2,k3⟩ | ⟨k2,k3⟩
      · rw [k3]; rw [k2] at ih hb; rw [k3] at k1
        exact (hc a ha hb k1 (.inl ih)).2
      · rw [k3]; rw [k2] at ih hb; rw [k3] at k1
        exact (hc a ha k1 hb (.inr ih)).1
  exact key u (WD hu g2)
theorem Qmk (hn:InN S n)(h:LpI as_ S n p):∀j,LpI as_ S n (QJ (lpR as_ S) j p)
  | 0=>h
  | j+1=>Qoo hn (fun _ h=>h) (Qmk hn h j)
theorem QlH (hS:Srt S)(hn:InN S n)(h:LpI as_ S n p):∀j,(∀u∈S,XU as_ S (QJ (lpR as_ S) j p) u)∨j≤(S.filter (finB as_ S (QJ (lpR as_ S) j p))).length
  | 0=> .inr (aU _)
  | j+1=>by
    have hj:=Qmk hn h j
    have mono:∀u∈S,XU as_ S (QJ (lpR as_ S) j p) u→XU as_ S (QJ (lpR as_ S) (j+1) p) u:=fun u hu hf=>QdK hS hn (fun _ h=>h) hj hu hf
    rcases QlH hS hn h j with g | g
    · exact .inl fun u hu=>mono u hu (g u hu)
    · by_cases hlt : j + 1 ≤ (S.filter (finB as_ S (QJ (lpR as_ S) (j + 1) p))).length
      · exact .inr hlt
      · left
        have heq:=H9 (f:=finB as_ S (QJ (lpR as_ S) j p)) (g:=finB as_ S (QJ (lpR as_ S) (j+1) p)) (l:=S) (fun u hu hf=>aI (mono u hu (ab hf))) (by omega)
        have back:∀u∈S,XU as_ S (QJ (lpR as_ S) (j+1) p) u→XU as_ S (QJ (lpR as_ S) j p) u:=fun u hu hf=>ab (heq u hu (aI hf))
        exact fun u hu=>mono u hu (Qoi hS hn hj (fun a ha h1 h2 hf=>by
          obtain ⟨k1,k2⟩:=QlQ hS hn (fun _ h=>h) hj ha h1 h2 hf
          exact ⟨back _ h1 k1,back _ h2 k2⟩) u hu)
theorem QnD (hS:Srt S)(hn:InN S n)(h:LpI as_ S n p):∀u∈S,mAt (QJ (lpR as_ S) n p) u=rm as_ S u:=by
  rcases QlH hS hn h n with g | g
  · exact g
  · have h1 := Qej hS hn
    have heq:=H9 (f:=finB as_ S (QJ (lpR as_ S) n p)) (g:=fun _=>true) (l:=S) (fun _ _ _=>rfl) (by rw[List.filter_eq_self.2 fun _ _=>rfl]; omega)
    exact fun u hu=>ab (heq u hu rfl)
theorem QlC (h:0≤u∧u < (n:Int)):mAt (lpZ n) u=u:=by
  unfold mAt lpZ
  rw[bg,List.getElem?_range (by omega)]
  simp; omega
theorem Qnj (hn:InN S n):LpI as_ S n (lpZ n):=⟨by simp[lpZ],fun u hu=>by rw[QlC (hn u hu)]; exact UH,fun u hu=>by rw[QlC (hn u hu)]; exact de _⟩
theorem Qd4 {f:Nat→Option Int}(hf:∀i y,f i=some y→y=(i:Int)):Srt (rg f n):=by
  induction n with
  | zero=>exact cE
  | succ n ih=>
    have e:rg f (n+1)=rg f n++(f n).toList:=by
      unfold rg; rw[cp,List.filterMap_append]
      cases hfn:f n <;> simp[hfn]
    rw[e]
    refine List.pairwise_append.2 ⟨ih, ?_,fun x hx y hy=> ?_⟩
    · cases f n with
      | none=>exact cE
      | some y=>exact List.pairwise_singleton _ _
    · obtain ⟨j, hj, hx⟩ := Qec.1 hx
      have h1:=hf j x hx
      have h2:=hf n y (by simpa using hy)
      simp only[ltI,aS]; omega
theorem Qp3 (hS:Srt S)(hn:InN S n)(hp:∀u∈S,mAt p u=rm as_ S u)(hx:x∈S)(hr:repB as_ S x=true):rg (spF S p x) n=cls as_ S x:=by
  refine Zo.ext (Qd4 fun i y h=>by unfold spF at h; split at h; exact (cY h).symm; cases h) (Qdo hS) fun v=> ?_
  rw[Qec,XY hx]
  unfold spF
  have hrx:rm as_ S x=x:=by
    obtain ⟨h1,h2,h3⟩:=WG hS hx (as_:=as_)
    have:=h3 x UH
    have:=Vr.1 hr _ h1 h2
    omega
  constructor
  · rintro ⟨j, hj, h⟩
    split at h
    · rename_i g
      cases h
      have e:=hp _ g.1
      have:=(WG hS g.1 (as_:=as_)).2.1
      rw[← e,g.2] at this
      exact WD g.1 this
    · cases h
  · intro h
    have hv:=Hl hx h
    have:=hn v hv
    refine ⟨v.toNat,by omega, ?_⟩
    rw[show ((v.toNat:Nat):Int)=v by omega,if_pos ⟨hv,by rw[hp v hv,← Qh8 hS hx h,hrx]⟩]
theorem Qny (hS:Srt S)(hp:∀u∈S,mAt p u=rm as_ S u)(hr:¬(x∈S∧repB as_ S x=true)):rg (spF S p x) n=[]:=by
  rw[QfY]
  intro j _
  unfold spF
  refine if_neg fun g=>hr ?_
  obtain ⟨h1,h2,h3⟩:=WG hS g.1 (as_:=as_)
  rw[← hp _ g.1,g.2] at h1 h2 h3
  exact ⟨h1,Vr.2 fun v _ hc=>h3 v (YN h2 hc)⟩
theorem Qo8 (hS:Srt S)(hn:InN S n)(hp:∀u∈S,mAt p u=rm as_ S u):rg (lbG S p n) n=regV as_ S:=by
  have h1:rg (lbG S p n) n=(rg (fun i:Nat=>if (i:Int)∈S∧repB as_ S (i:Int)=true then some (i:Int) else none) n).map (cls as_ S):=by
    unfold rg
    rw[List.map_filterMap]
    congr 1
    funext i
    show lbG S p n i=_
    unfold lbG
    by_cases h:(i:Int)∈S∧repB as_ S (i:Int)=true
    · rw [if_pos h, Qp3 hS hn hp h.1 h.2, if_pos]
      · rfl
      · have : (i : Int) ∈ cls as_ S (i : Int) := (XY h.1).2 UH
        have:=List.length_pos_of_mem this
        omega
    · rw[if_neg h,Qny hS hp h]; rfl
  rw[h1]
  unfold regV
  congr 1
  refine Zo.ext (Qd4 fun i y h=>by split at h; exact (cY h).symm; cases h) (hS.filter _) fun v=> ?_
  rw[Qec,be]
  constructor
  · rintro ⟨j, _, h⟩
    split at h
    · rename_i g; cases h; exact g
    · cases h
  · intro h
    have:=hn v h.1
    exact ⟨v.toNat,by omega,by rw[show ((v.toNat:Nat):Int)=v by omega,if_pos h]⟩
end
end Go.Proofs.YtgpdhgadmjfokaaGreat
