/- Walks over abstract states: distances. -/
import Derived.Test.YtgpdhgadmjfokaaGreatHWz
import Derived.Test.YtgpdhgadmjfokaaGreatHAv
import Derived.DeepKeys3
import Derived.Test.YtgpdhgadmjfokaaGreatHWk
import Derived.Test.YtgpdhgadmjfokaaGreatHAk
import Derived.Test.YtgpdhgadmjfokaaGreatHStr
import Derived.Test.YtgpdhgadmjfokaaGreatProg
import Derived.KernelRfl
set_option linter.unusedSimpArgs false
set_option linter.unusedVariables false
set_option linter.unusedSectionVars false
namespace Go.Proofs.YtgpdhgadmjfokaaGreat
open Go.RowKit
set_option maxRecDepth 100000
set_option maxHeartbeats 4000000
def Hm (l:List (List Int))(e:Int×Int):List (List Int):=l.modify e.1.toNat (· ++[e.2])
def Z6 (n:Nat)(es:List (Int×Int)):List (List Int):=es.foldl Hm (List.replicate n [])
def bfT (o:Int):List Int→List Int×List Int→List Int×List Int
  | [],st=>st
  | t :: ts,st=>if (st.1[t.toNat]?).getD 0 < 0 then bfT o ts (st.1.set t.toNat ((st.1[o.toNat]?).getD 0+1),st.2++[t]) else bfT o ts st
def bfK (nx:List (List Int)):Nat→Nat→List Int×List Int→List Int
  | 0,_,st=>st.1
  | f+1,k,st=>match st.2[k]? with
    | none=>st.1
    | some o=>bfK nx f (k+1) (bfT o ((nx[o.toNat]?).getD []) st)
def U7 (n:Nat)(es:List (Int×Int)):List Int:=bfK (Z6 n es) (n+1) 0 ((List.replicate n (-1)).set 0 0,[0])
def Qb8 (l:List Int):Nat:=(l.filter (· < 0)).length
structure BI (n:Nat) (es:List (Int×Int)) (st:List Int×List Int):Prop where
  len:st.1.length=n
  cnt:Qb8 st.1+st.2.length=n
  q:∀x∈st.2,(0≤x∧x < n)∧Rch es x∧∃v,st.1[x.toNat]? =some v∧0≤v
  nn:∀(i:Nat) v,st.1[i]? =some v→0≤v→(i:Int)∈st.2
  rng:∀v∈st.1, -1≤v∧v≤(st.2.length:Int)
section
variable {n k i f:Nat}{es:List (Int×Int)}{e:Int×Int}{l ts ys q out:List Int}{o t c w:Int}{nx:List (List Int)}{st:List Int×List Int}
theorem QhH {α:Type _}{l:List α}{i:Nat}{x:α}{g:α→α}(h:l[i]? =some x):l.set i (g x)=l.modify i g:=by
  apply bt
  intro j
  rw[cA]
  by_cases e:i=j
  · subst e; rw[aV (aj.1 h).1,h]; simp
  · rw[aY e]; simp[e]
theorem QjE {l:List (List Int)}:(es.foldl Hm l).length=l.length:=by
  induction es generalizing l with
  | nil=>rfl
  | cons e es ih=>rw[bq,ih]; simp[Hm]
theorem UI:(Z6 n es).length=n:=by unfold Z6; rw[QjE]; simp
theorem QfM (hx:es[k]? =some e)(hy:(Z6 n (es.take k))[e.1.toNat]? =some ys):(Z6 n (es.take k)).set e.1.toNat (ys++[e.2])=Z6 n (es.take (k+1)):=by
  rw[QhH (g:=(· ++[e.2])) hy,Q1 hx]
  simp[Z6,List.foldl_append,Hm]
theorem Qjm {l:List (List Int)}{i:Nat}{t:Int}(hr:∀e∈es,0≤e.1):t∈((es.foldl Hm l)[i]?).getD []↔t∈(l[i]?).getD []∨(i < l.length∧((i:Int),t)∈es):=by
  induction es generalizing l with
  | nil=>simp
  | cons e es ih=>
    rw[bq,ih (fun e he=>hr e (ax _ he))]
    have h0:=hr e (ay ..)
    have hl:(Hm l e).length=l.length:=by simp[Hm]
    rw[hl]
    have h1:t∈((Hm l e)[i]?).getD []↔t∈(l[i]?).getD []∨(i < l.length∧((i:Int),t)=e):=by
      unfold Hm
      rw[cA]
      by_cases e2:e.1.toNat=i
      · cases h : l[i]? with
        | none=>
          have:=List.getElem?_eq_none_iff.1 h
          simp[e2]
          intro h3; omega
        | some x=>
          have:=(aj.1 h).1
          simp[e2,this]
          have:((i:Int),t)=e↔t=e.2:=⟨fun h=>by rw[← h],fun h=>Prod.ext (by show (i:Int)=e.1; omega) h⟩
          rw[this]
      · simp [e2]
        intro _ h3
        exact absurd (show e.1.toNat=i by rw[← h3]; rfl) e2
    rw[h1,aD]
    constructor
    · rintro ((h | ⟨h, h2⟩) | ⟨h, h2⟩)
      · exact .inl h
      · exact .inr ⟨h, .inl h2⟩
      · exact .inr ⟨h, .inr h2⟩
    · rintro (h | ⟨h, h2 | h2⟩)
      · exact .inl (.inl h)
      · exact .inl (.inr ⟨h,h2⟩)
      · exact .inr ⟨h,h2⟩
theorem Qcu {i:Nat}(hr:∀e∈es,InE n e)(hy:(Z6 n es)[i]? =some ys):t∈ys↔((i:Int),t)∈es:=by
  have h:=Qjm (l:=List.replicate n []) (i:=i) (t:=t) (es:=es) (fun e he=>(hr e he).1.1)
  have hi:i < n:=by have:=(aj.1 hy).1; rwa [UI] at this
  change t∈((Z6 n es)[i]?).getD []↔_ at h
  rw[hy] at h
  simpa [hi] using h
theorem QcV {i:Nat}(hy:(Z6 n es)[i]? =some ys):ys.length≤es.length:=by
  have:∀(l:List (List Int)) (i:Nat) (ys:List Int),(es.foldl Hm l)[i]? =some ys→ys.length≤((l[i]?).getD []).length+es.length:=by
    clear hy
    induction es with
    | nil=>intro l i ys h; simp at h; simp[h]
    | cons e es ih=>
      intro l i ys h
      rw[bq] at h
      have:=ih _ _ _ h
      have h2:(((Hm l e)[i]?).getD []).length≤((l[i]?).getD []).length+1:=by
        unfold Hm
        rw[cA]
        cases hl:l[i]? with
        | none=>simp
        | some x=>by_cases e2:e.1.toNat=i <;> simp[e2]
      rw[aq]; omega
  have h:=this _ _ _ hy
  have h0:(((List.replicate n ([]:List Int))[i]?).getD []).length=0:=by
    rw[cd]; split <;> rfl
  omega
theorem Qm1 (hx:ts[i]? =some t)(hc:out[t.toNat]? =some c)(hn:c < 0)(ho:out[o.toNat]? =some w):bfT o (ts.drop i) (out,q)=bfT o (ts.drop (i+1)) (out.set t.toNat (w+1),q++[t]):=by
  rw[ZX hx,bfT]
  simp[hc,ho,hn]
theorem QkE (hx:ts[i]? =some t)(hc:out[t.toNat]? =some c)(hn:¬c < 0):bfT o (ts.drop i) (out,q)=bfT o (ts.drop (i+1)) (out,q):=by
  rw[ZX hx,bfT]
  simp only[hc,ah,if_neg hn]
theorem QmF (h:ts.length≤i):bfT o (ts.drop i) st=st:=by rw[bz h,bfT]
theorem QoN (hq:q[k]? =some o)(hy:nx[o.toNat]? =some ts)(hk:k < n+1):bfK nx (n+1 - k) k (out,q)=bfK nx (n+1 - (k+1)) (k+1) (bfT o (ts.drop 0) (out,q)):=by
  rw[show n+1 - k=(n+1 - (k+1))+1 by omega,bfK]
  simp[hq,hy]
theorem Qnd (h:q.length≤k):bfK nx f k (out,q)=out:=by
  cases f with
  | zero=>rfl
  | succ f=>rw[bfK]; simp[bl h]
theorem Qfc {l:List Int}(h:l[i]? =some c)(hc:c < 0)(hw:0≤w):Qb8 (l.set i w)+1=Qb8 l:=by
  induction l generalizing i with
  | nil=>simp at h
  | cons x l ih=>
    cases i with
    | zero=>
      simp only[bL,bk] at h
      subst h
      simp[Qb8,hc,show¬w < 0 by omega]
    | succ i=>
      have:=ih (i:=i) (by simpa using h)
      simp only[Qb8,cF,d8] at this ⊢
      split <;> simp_all
theorem BI.step (h:BI n es (out,q))(hr:∀e∈es,InE n e)(ho:o∈q)(he:(o,t)∈es)(hc:out[t.toNat]? =some c)(hn:c < 0)(hw:out[o.toNat]? =some w):BI n es (out.set t.toNat (w+1),q++[t]):=by
  obtain ⟨h1,h2,h3,h4,h5⟩:=h
  have hw0:0≤w:=by
    obtain ⟨_,_,v,h6,h7⟩:=h3 o ho
    have h6:out[o.toNat]? =some v:=h6
    rw[hw] at h6; cases h6; exact h7
  have hw1:=h5 w (ao hw)
  have htl:=(aj.1 hc).1
  obtain ⟨_,ht0,ht1⟩:=hr _ he
  have ht0:0≤t:=ht0
  have ht1:t < (n:Int):=ht1
  refine ⟨by simpa using h1, ?_, ?_, ?_, ?_⟩
  · have h6 := Qfc hc hn (show 0 ≤ w + 1 by omega)
    have h2:Qb8 out+q.length=n:=h2
    show Qb8 (out.set t.toNat (w+1))+(q++[t]).length=n
    rw[ak,List.length_singleton]; omega
  · intro x hx
    show (0≤x∧x < n)∧Rch es x∧∃v,(out.set t.toNat (w+1))[x.toNat]? =some v∧0≤v
    rcases aG.1 hx with hx | hx
    · obtain ⟨h6, h7, v, h8, h9⟩ := h3 x hx
      refine ⟨h6,h7, ?_⟩
      by_cases e2:t.toNat=x.toNat
      · exact ⟨w+1,by rw[← e2,aV htl],by omega⟩
      · exact ⟨v,by rw[aY e2]; exact h8,h9⟩
    · rw [aC] at hx
      subst hx
      exact ⟨⟨ht0,ht1⟩, .step (h3 o ho).2.1 he,w+1,aV htl,by omega⟩
  · intro i v hv h0
    have hv:(out.set t.toNat (w+1))[i]? =some v:=hv
    show (i:Int)∈q++[t]
    by_cases e2:t.toNat=i
    · exact aG.2 (.inr (by rw[aC]; omega))
    · rw [aY e2] at hv
      exact aG.2 (.inl (h4 i v hv h0))
  · intro v hv
    show -1≤v∧v≤((q++[t]).length:Int)
    rw[ak,List.length_singleton]
    have hw1':w≤(q.length:Int):=hw1.2
    rcases bX hv with h6 | h6
    · have h7 := h5 v h6
      have h8:v≤(q.length:Int):=h7.2
      omega
    · omega
theorem BI.q_le (h:BI n es (out,q)):q.length≤n:=by have:=h.cnt; simp only at this; omega
theorem BI.at_ (h:BI n es (out,q))(hq:q[k]? =some o):(0≤o∧o < n)∧o∈q:=⟨(h.q o (ao hq)).1,ao hq⟩
theorem Qdl (hr:∀e∈es,InE n e):∀(ts:List Int) (st:List Int×List Int),BI n es st→o∈st.2→(∀t∈ts,(o,t)∈es)→BI n es (bfT o ts st)∧(∃r,(bfT o ts st).2=st.2++r)∧∀t∈ts,t∈(bfT o ts st).2
  | [],st,h,_,_=>⟨h,⟨[],by simp[bfT]⟩,fun t ht=>by cases ht⟩
  | t :: ts,st,h,ho,he=>by
    have he1:=he t (ay ..)
    obtain ⟨_,ht0,ht1⟩:=hr _ he1
    have ht0:0≤t:=ht0
    have ht1:t < (n:Int):=ht1
    obtain ⟨c,hc⟩:∃c,st.1[t.toNat]? =some c:=⟨_,aa (by rw[h.len]; omega)⟩
    obtain ⟨w,hw,_⟩:=(h.q o ho).2.2
    rw[bfT,hc,hw]
    simp only[ah]
    split
    · rename_i hn
      have h2:=BI.step (out:=st.1) (q:=st.2) h hr ho he1 hc hn hw
      obtain ⟨g1,⟨r,g2⟩,g3⟩:=Qdl hr ts _ h2 (aG.2 (.inl ho)) (fun t ht=>he t (ax _ ht))
      refine ⟨g1,⟨[t]++r,by rw[g2]; simp⟩,fun x hx=> ?_⟩
      rcases aD.1 hx with rfl | hx
      · rw[g2]; simp
      · exact g3 x hx
    · rename_i hn
      obtain ⟨g1,⟨r,g2⟩,g3⟩:=Qdl hr ts st h ho (fun t ht=>he t (ax _ ht))
      refine ⟨g1,⟨r,g2⟩,fun x hx=> ?_⟩
      rcases aD.1 hx with rfl | hx
      · have := h.nn _ _ hc (by omega)
        rw[show ((x.toNat:Nat):Int)=x by omega] at this
        rw[g2]; exact aG.2 (.inl this)
      · exact g3 x hx
theorem QhM (hr:∀e∈es,InE n e):∀(f k:Nat) (st:List Int×List Int),BI n es st→n+1≤f+k→k≤st.2.length→(∀j o,j < k→st.2[j]? =some o→∀t,(o,t)∈es→t∈st.2)→
    ∃r,BI n es (bfK (Z6 n es) f k st,st.2++r)∧∀o∈st.2++r,∀t,(o,t)∈es→t∈st.2++r
  | 0,k,st,h,hf,hk,_=>by have:=BI.q_le (out:=st.1) (q:=st.2) h; omega
  | f+1,k,st,h,hf,hk,hcl=>by
    rw[bfK]
    cases hq:st.2[k]? with
    | none=>
      refine ⟨[],by simpa using h,fun o ho t ht=> ?_⟩
      rw[bA] at ho ⊢
      obtain ⟨j,hj⟩:=aM.1 ho
      have h1:=(aj.1 hj).1
      have h2:=List.getElem?_eq_none_iff.1 hq
      exact hcl j o (by omega) hj t ht
    | some o=>
      simp only
      have ho:=ao hq
      obtain ⟨ho0,ho1⟩:=(h.q o ho).1
      obtain ⟨ys,hy⟩:∃ys,(Z6 n es)[o.toNat]? =some ys:=⟨_,aa (by rw[UI]; omega)⟩
      rw[hy,ah]
      have hm:∀t,t∈ys↔(o,t)∈es:=fun t=>by
        have:=Qcu (t:=t) hr hy
        rwa [show ((o.toNat:Nat):Int)=o by omega] at this
      obtain ⟨g1,⟨r,g2⟩,g3⟩:=Qdl hr ys st h ho (fun t ht=>(hm t).1 ht)
      have hkl:=(aj.1 hq).1
      obtain ⟨r2,k1,k2⟩:=QhM hr f (k+1) (bfT o ys st) g1 (by omega) (by rw[g2,ak]; omega) (fun j o' hj hjo t ht=>by
        rw[g2] at hjo ⊢
        rw[bd (by omega)] at hjo
        by_cases e2:j=k
        · subst e2
          rw[hq] at hjo; cases hjo
          rw[← g2]; exact g3 t ((hm t).2 ht)
        · exact aG.2 (.inl (hcl j o' (by omega) hjo t ht)))
      rw[g2,aS] at k1 k2
      exact ⟨r++r2,k1,k2⟩
theorem BI.start (hn:1≤n):BI n es ((List.replicate n (-1)).set 0 0,[0]):=by
  have h0:(List.replicate n (-1:Int))[0]? =some (-1):=by rw[cd,if_pos (by omega)]
  refine ⟨by simp, ?_, ?_, ?_, ?_⟩
  · have h1 := Qfc (w := 0) h0 (by decide) (by decide)
    have h2:Qb8 (List.replicate n (-1:Int))=n:=by simp[Qb8]
    show Qb8 ((List.replicate n (-1)).set 0 0)+1=n
    omega
  · intro x hx
    rw[aC.1 hx]
    exact ⟨⟨by omega,by omega⟩, .zero,0,aV (by simp; omega),by decide⟩
  · intro i v hv h1
    have hv:((List.replicate n (-1:Int)).set 0 0)[i]? =some v:=hv
    by_cases e2:0=i
    · subst e2; simp
    · rw [aY e2, cd] at hv
      split at hv
      · cases hv; omega
      · cases hv
  · intro v hv
    show -1≤v∧v≤1
    rcases bX hv with h | h
    · rw[cB h]; omega
    · omega
theorem QjM (hn:1≤n)(hr:∀e∈es,InE n e):∃r,BI n es (U7 n es,[0]++r)∧∀o∈[0]++r,∀t,(o,t)∈es→t∈[0]++r:=
  QhM hr (n+1) 0 _ (BI.start hn) (by omega) (aT _) (fun j o hj=>absurd hj (bc j))
theorem Qlm [Decidable (Hl n es)](hn:1≤n)(hr:∀e∈es,InE n e):(!((U7 n es).any fun y=>decide (-1=y)))=decide (Hl n es):=by
  obtain ⟨r,h,hc⟩:=QjM hn hr
  have hq:∀u,Rch es u→u∈[0]++r:=fun u hu=>by
    induction hu with
    | zero=>simp
    | step _ he ih=>exact hc _ ih _ he
  rw[bu,aU,bG,ce]
  constructor
  · intro g k hk
    have hl:k < (U7 n es).length:=by have:=h.len; simp only at this; omega
    have h1:=cN hl
    have h2:=g _ h1
    have h3:=(h.rng _ h1).1
    have h4:=h.nn k _ (aa hl) (by simp only[aU] at h2; omega)
    exact (h.q _ h4).2.1
  · intro g x hx
    obtain ⟨k,hk⟩:=aM.1 hx
    have hl:=(aj.1 hk).1
    have hl2:k < n:=by have:=h.len; simp only at this; omega
    obtain ⟨_,_,v,h5,h6⟩:=h.q _ (hq _ (g k hl2))
    have h5:(U7 n es)[((k:Int)).toNat]? =some v:=h5
    rw[show ((k:Int)).toNat=k by omega,hk] at h5
    cases h5
    simp only[aU]; omega
end
theorem Qpi {xs:List (List Int)}{i:Nat}{ys:List Int}(h:xs[i]? =some ys):(Za (.sl 3 .int) xs)[i*1+0]? =some (.dat (.sl 3 .int) ys):=Ky (e:= .sl 3 .int) (j:=0) h rfl
theorem QgM {xs:List (List Int)}{i:Nat}{x ys:List Int}(h:xs[i]? =some x):(Za (.sl 3 .int) xs).set (i*1+0) (.dat (.sl 3 .int) ys)=Za (.sl 3 .int) (xs.set i ys):=
  (KB (e:= .sl 3 .int) (j:=0) (x':=ys) h rfl (by decide)).symm
theorem KU (n:Int)(l:List (Int×Int))(start:Int)(hn:1≤n∧n≤300)(hl:∀e∈l,InE n.toNat e)(hll:l.length≤4000)(hst:start=0):FC Tryz.prog 216 [(false,[dI n]),(false,[.dat (.sl 295 (.pr .int .int)) l]),(false,[dI start])] [] 0 (Wy 3 .int (U7 n.toNat l)):=by
 refine Qj Tryz.func216 rfl rfl Tryz.ntmps216 fun O_ hO w0_ N0_ X_ h0_ f0_=> ?_
 refine acI 0 fun hi1=> ?_
 refine acI 2 fun hi2=> ?_
 iterate 3 refine w_ ?_
 apply dW [⟨some 15,lR 0,[ar 0 3 .int ([(-1)])]⟩,io 16 (lI n),⟨some 17,lR 1,[ar 1 3 .int (List.replicate n.toNat (-1))]⟩,io 18 (lI n),⟨some 19,lR 2,[ar 2 32 (.sl 3 .int) (List.replicate (n).toNat (Ty.zero (.sl 3 .int)))]⟩,io 7 (lR 1),io 8 _] [0,1,0,7,7,24,0]
 refine zz (fun _ h_=>ac (dBs 0 (e:= .int) XI) rfl) ?_
 refine z_ ?_
 refine zz (fun _ h_=>ac (dOB 1 (WL ([(-1)]) n (-1) rfl (by omega)) QfZ) rfl) ?_
 refine z_ ?_
 refine zz (fun _ h_=>ac (QaX 2 (e:=(.sl 3 .int)) (n:=n) (h_.v rfl) (h_.v rfl) QhK Qop rfl (by omega) (by omega) (by omega) rfl (h_.fr 2 rfl) (nlr rfl)) rfl) ?_
 iterate 2 refine z_ ?_
 exact zN
 iterate 3 refine w_ ?_
 refine alL 20 fun hl3=> ?_
 iterate 4 refine w_ ?_
 refine lp0 l.length (fun k=>⟨[(2,lI start),(6,lf (.val (.slice none 0 0))),(7,lR 1),(8,lR 3),(20,lf (.dat (.sl 295 (.pr .int .int)) l)),(21,lI (l.length:Int)),(22,lI (k:Int))],[ar 1 3 .int (List.replicate n.toNat (-1)),ar 3 32 (.sl 3 .int) (Z6 n.toNat (l.take k))]⟩) ?_ fun k hk4=> ?_
 · exact Wk.of [(3,2)] rfl ⟨rfl,rfl,rfl,rfl,rfl,rfl,rfl,trivial⟩ ⟨rfl,(Qk (by simp only[List.take_zero]; rfl)),trivial⟩ rfl rfl
 iterate 4 refine w_ ?_
 cases hb5:(decide ((k:Int) < (l.length:Int)))
 ·have hb5':=ab hb5
  refine w_ ?_
  refine Qi ?_
  refine (?_:AC _ _ _ _ _)
  refine Zl ?_
  have hke:Z6 n.toNat (l.take k)=Z6 n.toNat l:=by rw[ZH (by omega)]
  refine AC.wk (QfK 8 (q:=3) (e:=(.sl 3 .int)) (xs:=Z6 n.toNat (l.take k)) rfl rfl) ?_
  rw[hke]
  have hrl:(List.replicate n.toNat (-1:Int)).length=n.toNat:=aB ..
  have hnl:=UI (n:=n.toNat) (es:=l)
  iterate 4 refine w_ ?_
  obtain ⟨x6,hx7⟩:∃z,(List.replicate n.toNat (-1))[(start).toNat]? =some z:=⟨_,aa (by omega)⟩
  refine lc (Qu (e:= .int) (z':=0) (Qa rfl) rfl hx7 rfl (Evl.ev (Ql rfl)) rfl Kd rfl rfl) ?_
  iterate 3 refine w_ ?_
  refine lc (dBs 4 (e:= .int) XI) ?_
  iterate 7 refine w_ ?_
  refine QF (fun m_ s_=>∃(k:Nat) (out:List Int) (q:List Int),k≤n.toNat∧m_=n.toNat - k∧(U7 n.toNat l=bfK (Z6 n.toNat l) (n.toNat+1 - k) k (out,q))∧(BI n.toNat l (out,q))∧s_=⟨[(6,lf (.val (.slice none 0 0))),(7,lR 5),(8,lf (.dat (.sl 32 (.sl 3 .int)) (Z6 n.toNat l))),(11,lR 6),(12,lI (k:Int))],[ar 5 3 .int out,ar 6 3 .int q]⟩) ⟨0,(List.replicate n.toNat (-1)).set ((start).toNat) 0,[start],aT _,rfl,(by rw[hst]; rfl),(by rw[hst]; exact BI.start (by omega)),rfl⟩ ?_ ?_
  · exact Wk.of [(5,1),(6,4)] rfl ⟨rfl,rfl,rfl,rfl,rfl,trivial⟩ ⟨(Qk (by first | rfl | simp)),(Qk (by first | rfl | simp)),trivial⟩ rfl rfl
  rintro m_ s_ ⟨k,out,q,hk8,hm9,hA,hI,rfl⟩
  have hqn:=hI.q_le
  have hql:out.length=n.toNat:=hI.len
  iterate 7 refine w_ ?_
  cases hb10:(decide ((k:Int) < (q.length:Int)))
  ·have hb10':=ab hb10
   refine w_ ?_
   refine Qi ?_
   refine (?_:AC _ _ _ _ _)
   iterate 4 refine w_ ?_
   refine Qb<|fo_ hO ?_
   rw[hA,Qnd (by omega)]
  ·have hb10':=ae hb10
   iterate 9 refine w_ ?_
   obtain ⟨o,hx12⟩:∃z,q[k]? =some z:=⟨_,aa (by omega)⟩
   have hok0:=hI.at_ hx12
   refine w_ ?_
   refine alI 55 fun hi13=> ?_
   obtain ⟨ts,hx15⟩:∃z,(Z6 n.toNat l)[(o).toNat]? =some z:=⟨_,aa (by omega)⟩
   have htm:=QcV hx15
   have hmem:∀t∈ts,(o,t)∈l:=fun t ht=>by have:=(Qcu hl hx15).1 ht; rwa [show ((o.toNat:Nat):Int)=o by omega] at this
   iterate 2 refine w_ ?_
   refine alL 57 fun hl16=> ?_
   iterate 4 refine w_ ?_
   refine QF (fun m_ s_=>∃(i:Nat) (out2:List Int) (q2:List Int),i≤ts.length∧m_=ts.length - i∧(U7 n.toNat l=bfK (Z6 n.toNat l) (n.toNat+1 - (k+1)) (k+1) (bfT o (ts.drop i) (out2,q2)))∧(BI n.toNat l (out2,q2))∧(q2[k]? =some o)∧s_=⟨[(6,lf (.val (.slice none 0 0))),(7,lR 7),(8,lf (.dat (.sl 32 (.sl 3 .int)) (Z6 n.toNat l))),(11,lR 8),(12,lI (k:Int)),(45,lI (k:Int)),(47,lI (q.length:Int)),(48,lB true),(51,lf (.dat (.sl 32 (.sl 3 .int)) (Z6 n.toNat l))),(53,lI (k:Int)),(55,lI o),(56,lf (.elt (.sl 3 .int) ts 0)),(57,lf (.dat (.sl 3 .int) ts)),(58,lI (ts.length:Int)),(59,lI (i:Int))],[ar 7 3 .int out2,ar 8 3 .int q2]⟩) ⟨0,out,q,aT _,rfl,(hA.trans (QoN hx12 hx15 (by omega))),hI,hx12,rfl⟩ ?_ ?_
   · exact Wk.of [(7,5),(8,6)] rfl ⟨rfl,rfl,rfl,rfl,rfl,rfl,rfl,rfl,rfl,rfl,rfl,rfl,rfl,rfl,rfl,trivial⟩ ⟨rfl,rfl,trivial⟩ rfl rfl
   rintro m_ s_ ⟨i,out2,q2,hk17,hm18,hA2,hI2,hQ2,rfl⟩
   have hqn2:=hI2.q_le
   have hql2:out2.length=n.toNat:=hI2.len
   have hok:=hI2.at_ hQ2
   have hkl:=(aj.1 hQ2).1
   iterate 4 refine w_ ?_
   cases hb19:(decide ((i:Int) < (ts.length:Int)))
   ·have hb19':=ab hb19
    refine w_ ?_
    refine Qi ?_
    refine (?_:AC _ _ _ _ _)
    iterate 4 refine w_ ?_
    refine Qd<|Q8 ⟨k+1,out2,q2,by omega,rfl,(by rw[hA2,QmF (by omega)]),hI2,rfl⟩ (by omega) ?_
    exact Wk.of [(5,7),(6,8)] rfl ⟨rfl,rfl,rfl,rfl,rfl,trivial⟩ ⟨rfl,rfl,trivial⟩ rfl rfl
   ·have hb19':=ae hb19
    iterate 5 refine w_ ?_
    obtain ⟨x20,hx21⟩:∃z,ts[i]? =some z:=⟨_,aa (by omega)⟩
    obtain ⟨_,ht0x20,ht1x20⟩:=hl _ (hmem _ (ao hx21))
    have ht0x20:0≤x20:=ht0x20
    have ht1x20:x20 < (n.toNat:Int):=ht1x20
    iterate 2 refine w_ ?_
    refine alI 62 fun hi22=> ?_
    iterate 6 refine w_ ?_
    obtain ⟨x23,hx24⟩:∃z,out2[(x20).toNat]? =some z:=⟨_,aa (by omega)⟩
    have hrgx23: -1≤x23∧x23≤(q2.length:Int):=hI2.rng _ (ao hx24)
    refine w_ ?_
    refine alI 66 fun hi25=> ?_
    iterate 2 refine w_ ?_
    cases hb26:(decide (x23 < 0))
    ·have hb26':=ab hb26
     refine w_ ?_
     refine AC.skip ?_
     refine (?_:AC _ _ _ _ _)
     iterate 3 refine w_ ?_
     refine Qd<|Q8 ⟨i+1,out2,q2,by omega,rfl,(by (rw[hA2,QkE hx21 (by assumption) (by assumption)]; done)),(by exact hI2),(by exact hQ2),rfl⟩ (by omega) ?_
     exact Wk.of [] rfl ⟨rfl,rfl,rfl,rfl,rfl,rfl,rfl,rfl,rfl,rfl,rfl,rfl,rfl,rfl,rfl,trivial⟩ ⟨rfl,rfl,trivial⟩ rfl rfl
    ·have hb26':=ae hb26
     iterate 10 refine w_ ?_
     obtain ⟨x27,hx28⟩:∃z,out2[(o).toNat]? =some z:=⟨_,aa (by omega)⟩
     have hrgx27: -1≤x27∧x27≤(q2.length:Int):=hI2.rng _ (ao hx28)
     refine w_ ?_
     refine alI 76 fun hi29=> ?_
     iterate 2 refine w_ ?_
     refine lc (Qu (e:= .int) (z':=x27+1) (Qa rfl) rfl hx24 rfl (Qm rfl) rfl Kd rfl rfl) ?_
     iterate 4 refine w_ ?_
     refine lc (dBs 9 (e:= .int) XI) ?_
     refine lc (dA 10 Wf) ?_
     refine w_ ?_
     refine Qd ?_
     refine (?_:AC _ _ _ _ _)
     iterate 3 refine w_ ?_
     refine Qd ?_
     refine Q8 ⟨i+1,(out2.set ((x20).toNat) (x27+1)),(q2++([x20])),by omega,rfl,(by (rw[hA2,Qm1 hx21 (by assumption) (by assumption) (by assumption)]; done)),(by exact hI2.step hl hok.2 (hmem _ (ao hx21)) (by assumption) (by assumption) (by assumption)),(by (rw[bd hkl]; exact hQ2)),rfl⟩ (by omega) ?_
     exact Wk.of [(8,10)] rfl ⟨rfl,rfl,rfl,rfl,rfl,rfl,rfl,rfl,rfl,rfl,rfl,rfl,rfl,rfl,rfl,trivial⟩ ⟨(Qk (by first | rfl | simp)),(Qk (by first | rfl | simp)),trivial⟩ rfl rfl
 ·have hb5':=ae hb5
  iterate 5 refine w_ ?_
  obtain ⟨e,hx31⟩:∃z,l[k]? =some z:=⟨_,aa (by omega)⟩
  iterate 2 refine w_ ?_
  refine lc (xal 11 (.pr .int .int) Qak) ?_
  iterate 2 refine w_ ?_
  have hin:=hl _ (ao hx31)
  have hn1:=UI (n:=n.toNat) (es:=l.take k)
  obtain ⟨⟨he1,he2⟩,he3,he4⟩:=hin
  obtain ⟨ys,hys⟩:∃z,(Z6 n.toNat (l.take k))[e.1.toNat]? =some z:=⟨_,aa (by omega)⟩
  have hyf:=QcV hys
  have hltk:(l.take k).length≤l.length:=by simp only[ap]; omega
  have hcA:=Qpi hys
  have hpA:e.1.toNat*1+0 < (Za (.sl 3 .int) (Z6 n.toNat (l.take k))).length:=by rw[VG]; show e.1.toNat*1+0 < (Z6 n.toNat (l.take k)).length*1; omega
  refine AC.wk (Qdo (q:=3) rfl (by omega))<|AC.wk (JN 12 (q:=3) (p:=e.1.toNat*1+0) (E':=3) (e':= .int) (ys:=ys) rfl (hcA) (Fresh.of rfl) (aI rfl)) ?_
  apply dV (i6 26 _ _ _ _ _ _ (io 32 (lf (.ept 3 1 ((e.1).toNat) 0)) :: io 33 (lR 12) :: i2 34 _ _ [⟨some 36,lR 13,[ar 13 3 .int ([e.2])]⟩,⟨some 37,lR 14,[ar 14 3 .int (ys++([e.2])),(12,none),(13,none)]⟩,io 38 (lf (.ept 3 1 ((e.1).toNat) 0)),⟨none,lf (.val undef),[(3,some (.obx 32 1 ((Z6 n.toNat (l.take k)).length) (Za (.sl 3 .int) (Z6 n.toNat (l.take k))) [((e.1).toNat*1+0, .ref 14),(e.1.toNat*1+0, .ref 12)]))]⟩])) [0,1,1,7,15,15,7,7,255,255,255,7,0,0]
  iterate 6 refine z_ ?_
  refine zz (fun _ h_=>ac (Y4 (h_.v rfl) (h_.en 3 rfl) (h_.v rfl) QhK V3 rfl (by omega) (by omega)) rfl) ?_
  refine zz (fun _ h_=>ac (Ku (h_.v rfl) (h_.n 3 rfl) (show (ovr _ _)[e.1.toNat*1+0]? =some (.ref 12) from by simp only[ovr,br,aA,hpA,hcA,eq_self,if_true,if_false,↓reduceIte]) (h_.n 12 rfl) V3 rfl) rfl) ?_
  iterate 2 refine z_ ?_
  refine zz (fun _ h_=>ac (dBs 13 (e:= .int) XI) rfl) ?_
  refine zz (fun _ h_=>ac (dA 14 Wf) rfl) ?_
  refine zz (fun _ h_=>ac (Y4 (h_.v rfl) (h_.en 3 rfl) (h_.v rfl) QhK V3 rfl (by omega) (by omega)) rfl) ?_
  refine zz (fun _ h_=>ac (Ur (t:=12) (h_.v rfl) (h_.n 3 rfl) (show (ovr _ _)[e.1.toNat*1+0]? =some (.ref 12) from by simp only[ovr,br,aA,hpA,hcA,eq_self,if_true,if_false,↓reduceIte]) (h_.v rfl) (h_.n 14 rfl) V3) rfl) ?_
  exact zN
  refine (?_:AC _ _ _ _ _)
  refine AC.wk (QbS (q:=3) (t:=14) (p:=e.1.toNat*1+0) rfl (by simp only[ovr,br,aA,hpA,hcA,eq_self,if_true,if_false,↓reduceIte]) rfl) ?_
  refine AC.wk (Qa4 (q:=3) (e:=(.sl 3 .int)) ((Z6 n.toNat (l.take k)).set e.1.toNat (ys++[e.2])) rfl (by simp only[aA]) (by simp only[ovr,dc]; exact QgM hys)) ?_
  iterate 3 refine w_ ?_
  refine Qd ?_
  refine l0_ ?_
  exact Wk.of [] rfl ⟨rfl,rfl,rfl,rfl,rfl,rfl,rfl,trivial⟩ ⟨rfl,(Qk (QfM hx31 hys)),trivial⟩ rfl rfl
end Go.Proofs.YtgpdhgadmjfokaaGreat
namespace Go.Proofs.YtgpdhgadmjfokaaGreat
open Go.RowKit
set_option maxRecDepth 100000
set_option maxHeartbeats 4000000
section
variable {c:DSg}{a:DAr}{x y:ByteArray}{k:Nat}
theorem Qip (h:¬(0≤a.1∧a.1≤(c.2.1.length:Int) - 1)):¬YK c a:=fun g=>h g.1
theorem QiE (h:¬(0≤a.2.2.2∧a.2.2.2≤(c.2.1.length:Int) - 1)):¬YK c a:=fun g=>h g.2.1
theorem Qiy (h:¬V5 (c.1.length:Int) (a.2.1,a.2.2.1)):¬YK c a:=fun g=>h g.2.2.1
theorem QiC (hx:c.2.1[a.1.toNat]? =some x)(hy:c.2.1[a.2.2.2.toNat]? =some y)(h:¬Fit a x y):¬YK c a:=fun g=>h (by have:=g.2.2.2; rwa [XH hx,XH hy] at this)
theorem Qpp (h1:0≤a.1∧a.1≤(c.2.1.length:Int) - 1)(h2:0≤a.2.2.2∧a.2.2.2≤(c.2.1.length:Int) - 1)(h3:V5 (c.1.length:Int) (a.2.1,a.2.2.1))(hx:c.2.1[a.1.toNat]? =some x)(hy:c.2.1[a.2.2.2.toNat]? =some y)(h:Fit a x y):YK c a:=
  ⟨h1,h2,h3,by rw[XH hx,XH hy]; exact h⟩
end
theorem YL (c:(List (ByteArray×Int))×List ByteArray×(List (Int×Int×Bool×Int)))[∀c,Decidable (SgOk c)]:FC Tryz.prog 106 [(true,[.dat (.sl 44 (.pr .str .int)) c.1, .dat (.sl 9 .str) c.2.1, .dat (.sl 46 (.pr .int (.pr .int (.pr .bool .int)))) c.2.2])] [] 0 (QV (lB (decide (SgOk c)))):=by
 classical
 refine Qj Tryz.func106 rfl rfl Tryz.ntmps106 fun O_ hO w0_ N0_ X_ h0_ f0_=> ?_
 refine w_ ?_
 refine xbx 0 ?_
 iterate 6 refine w_ ?_
 refine lc (dK (KI c.1) QgR) ?_
 iterate 2 refine w_ ?_
 cases hb1:(decide (YO c.1))
 ·have hb1':=ab hb1
  iterate 17 refine w_ ?_
  refine Qb<|fqB hO ?_
  exact Qln (by assumption)
 ·have hb1':=ae hb1
  iterate 2 refine w_ ?_
  refine alL 14 fun hl2=> ?_
  refine w_ ?_
  refine lgy rfl rfl (dK (QZ (c.2.1.length:Int) 1 300) ZE) ?_
  iterate 3 refine w_ ?_
  cases hb3:(decide (1≤(c.2.1.length:Int)∧(c.2.1.length:Int)≤300))
  ·have hb3':=ab hb3
   iterate 10 refine w_ ?_
   refine Qb<|fqB hO ?_
   exact Qmm (by assumption)
  ·have hb3':=ae hb3
   iterate 2 refine w_ ?_
   refine alL 21 fun hl4=> ?_
   iterate 4 refine w_ ?_
   refine cd_ (fun hb5 hb5'=> ?_) fun hb5 hb5'=> ?_
   ·iterate 4 refine w_ ?_
    refine alL 26 fun hl6=> ?_
    iterate 8 refine w_ ?_
    refine alL 30 fun hl7=> ?_
    iterate 4 refine w_ ?_
    refine lpK c.2.1.length (fun k=>∀j,j < k→∀x,c.2.1[j]? =some x→ZN x (c.1.length:Int)) (fun k=>⟨[(1,lP 0 0),(3,lI ((c.2.1.length:Int) - 1)),(30,lf (.dat (.sl 9 .str) c.2.1)),(31,lI (c.2.1.length:Int)),(32,lI (k:Int))],[bx 0 27 [.dat (.sl 44 (.pr .str .int)) c.1, .dat (.sl 9 .str) c.2.1, .dat (.sl 46 (.pr .int (.pr .int (.pr .bool .int)))) c.2.2]]⟩) ((fun j hj=>absurd hj (bc j))) ?_ fun k hk8 hB=> ?_
    · exact Wk.of [] rfl ⟨rfl,rfl,rfl,rfl,rfl,trivial⟩ ⟨rfl,trivial⟩ rfl rfl
    iterate 4 refine w_ ?_
    cases hb9:(decide ((k:Int) < (c.2.1.length:Int)))
    ·have hb9':=ab hb9
     refine w_ ?_
     refine Qi ?_
     refine (?_:AC _ _ _ _ _)
     iterate 4 refine w_ ?_
     refine alL 44 fun hl10=> ?_
     iterate 4 refine w_ ?_
     refine lpK c.2.2.length (fun i=>∀j,j < i→∀a,c.2.2[j]? =some a→YK c a) (fun i=>⟨[(1,lP 0 0),(3,lI ((c.2.1.length:Int) - 1)),(44,lf (.dat (.sl 46 (.pr .int (.pr .int (.pr .bool .int)))) c.2.2)),(45,lI (c.2.2.length:Int)),(46,lI (i:Int))],[bx 0 27 [.dat (.sl 44 (.pr .str .int)) c.1, .dat (.sl 9 .str) c.2.1, .dat (.sl 46 (.pr .int (.pr .int (.pr .bool .int)))) c.2.2]]⟩) ((fun j hj=>absurd hj (bc j))) ?_ fun i hk11 hR=> ?_
     · exact Wk.of [] rfl ⟨rfl,rfl,rfl,rfl,rfl,trivial⟩ ⟨rfl,trivial⟩ rfl rfl
     iterate 4 refine w_ ?_
     cases hb12:(decide ((i:Int) < (c.2.2.length:Int)))
     ·have hb12':=ab hb12
      refine w_ ?_
      refine Qi ?_
      refine (?_:AC _ _ _ _ _)
      apply dW (i5 92 _ _ _ _ _ [io 97 (lf (.dat (.sl 295 (.pr .int .int)) (ZJ c.2.2))),io 98 (lf (.dat (.sl 3 .int) (U7 (c.2.1.length:Int).toNat (ZJ c.2.2)))),io 99 (lB ((U7 (c.2.1.length:Int).toNat (ZJ c.2.2)).any (fun y=>decide ((-1)=y)))),io 100 _,io 2 _]) [0,0,0,7,7,7,0,0,0,0]
      iterate 5 refine z_ ?_
      refine zz (fun _ h_=>ac (dK (JM c.2.2 (by omega)).frozen Qf2) rfl) ?_
      refine zz (fun _ h_=>ac (dK (KU (c.2.1.length:Int) (ZJ c.2.2) 0 (by omega) (QbX (fun a ha=>Jh (Yz hR (by omega) a ha))) (by simp only[ZJ,aQ]; omega) rfl).frozen Qgt) rfl) ?_
      refine zz (fun _ h_=>ac (dK (Wn (U7 (c.2.1.length:Int).toNat (ZJ c.2.2)) (-1)) Qga) rfl) ?_
      iterate 2 refine z_ ?_
      exact zN
      refine Qb<|fqB hO ?_
      exact (Qlm (by omega) (QbX (fun a ha=>Jh (Yz hR (by omega) a ha)))).trans (Qmb (by assumption) (by assumption) (by assumption) (Yz hB (by omega)) (Yz hR (by omega)))
     ·have hb12':=ae hb12
      iterate 5 refine w_ ?_
      obtain ⟨ar,hx14⟩:∃z,c.2.2[i]? =some z:=⟨_,aa (by omega)⟩
      iterate 2 refine w_ ?_
      refine lc (xal 1 (.pr .int (.pr .int (.pr .bool .int))) KH) ?_
      iterate 2 refine w_ ?_
      cases hb15:(decide (0≤ar.1∧ar.1≤((c.2.1.length:Int) - 1)))
      ·have hb15':=ab hb15
       apply dW (i3 50 _ _ _ (io 53 (lB false) :: i9 54 _ _ _ _ _ _ _ _ _ (i9 63 _ _ _ _ _ _ _ _ _ (i9 72 _ _ _ _ _ _ _ _ _ (i9 81 _ _ _ _ _ _ _ _ _ [io 90 _]))))) [0,0,3,0,0,0,0,0,192,0,0,0,0,0,0,24576,24576,0,253952,253952,253952,0,0,0,0,0,33554432,33554432,234881024,234881024,33554432,33554432,4261412864,4261412864,17146314752,17146314752,4261412864,4261412864,0,0,0]
       iterate 3 refine z_ ?_
       refine zz (fun _ h_=>ac (QB (hb15) (dK (QZ ar.1 0 ((c.2.1.length:Int) - 1)) ZE)) rfl) ?_
       iterate 37 refine z_ ?_
       exact zN
       iterate 4 refine w_ ?_
       refine Qb<|fqB hO ?_
       exact QbZ hx14 (by first | exact Qip (by assumption) | exact QiE (by assumption) | exact Qiy (by assumption) | exact QiC (x:=cx) (y:=cy) (by assumption) (by assumption) (by assumption))
      ·have hb15':=ae hb15
       cases hb16:(decide (0≤ar.2.2.2∧ar.2.2.2≤((c.2.1.length:Int) - 1)))
       ·have hb16':=ab hb16
        apply dW (i3 50 _ _ _ (io 53 (lB true) :: i5 54 _ _ _ _ _ (io 59 (lB false) :: i9 60 _ _ _ _ _ _ _ _ _ (i9 69 _ _ _ _ _ _ _ _ _ (i9 78 _ _ _ _ _ _ _ _ _ (i4 87 _ _ _ _ [])))))) [0,0,3,0,0,0,0,0,192,0,0,0,0,0,0,24576,24576,0,253952,253952,253952,0,0,0,0,0,33554432,33554432,234881024,234881024,33554432,33554432,4261412864,4261412864,17146314752,17146314752,4261412864,4261412864,0,0,0]
        iterate 3 refine z_ ?_
        refine zz (fun _ h_=>ac (QB (hb15) (dK (QZ ar.1 0 ((c.2.1.length:Int) - 1)) ZE)) rfl) ?_
        iterate 5 refine z_ ?_
        refine zz (fun _ h_=>day rfl (h_.k rfl) (QB (hb16) (dK (QZ ar.2.2.2 0 ((c.2.1.length:Int) - 1)) ZE)) rfl) ?_
        iterate 31 refine z_ ?_
        exact zN
        iterate 4 refine w_ ?_
        refine Qb<|fqB hO ?_
        exact QbZ hx14 (by first | exact Qip (by assumption) | exact QiE (by assumption) | exact Qiy (by assumption) | exact QiC (x:=cx) (y:=cy) (by assumption) (by assumption) (by assumption))
       ·have hb16':=ae hb16
        cases hb17:(decide (V5 (c.1.length:Int) (ar.2.1,ar.2.2.1)))
        ·have hb17':=ab hb17
         apply dW (i3 50 _ _ _ (io 53 (lB true) :: i5 54 _ _ _ _ _ (io 59 (lB true) :: i7 60 _ _ _ _ _ _ _ (io 67 (ag [dI ar.2.1,dB ar.2.2.1]) :: i3 68 _ _ _ (io 71 (lB false) :: i9 72 _ _ _ _ _ _ _ _ _ (i9 81 _ _ _ _ _ _ _ _ _ [io 90 _])))))) [0,0,3,0,0,0,0,0,192,0,0,0,0,0,0,24576,24576,0,253952,253952,253952,0,0,0,0,0,33554432,33554432,234881024,234881024,33554432,33554432,4261412864,4261412864,17146314752,17146314752,4261412864,4261412864,0,0,0]
         iterate 3 refine z_ ?_
         refine zz (fun _ h_=>ac (QB (hb15) (dK (QZ ar.1 0 ((c.2.1.length:Int) - 1)) ZE)) rfl) ?_
         iterate 5 refine z_ ?_
         refine zz (fun _ h_=>day rfl (h_.k rfl) (QB (hb16) (dK (QZ ar.2.2.2 0 ((c.2.1.length:Int) - 1)) ZE)) rfl) ?_
         iterate 7 refine z_ ?_
         refine zz (fun _ h_=>day rfl (h_.k rfl) (Qn JD ⟨_,_,rfl,(h_.w rfl),⟨_,_,rfl,(h_.w rfl),rfl⟩⟩ (aw.1 rfl) rfl rfl) rfl) ?_
         iterate 3 refine z_ ?_
         refine zz (fun _ h_=>day rfl (h_.k rfl) (QB (hb17) (dK (Ub (ar.2.1,ar.2.2.1) (c.1.length:Int) (by have:=(‹YO c.1›).2.2; omega)) Qbb)) rfl) ?_
         iterate 19 refine z_ ?_
         exact zN
         iterate 4 refine w_ ?_
         refine Qb<|fqB hO ?_
         exact QbZ hx14 (by first | exact Qip (by assumption) | exact QiE (by assumption) | exact Qiy (by assumption) | exact QiC (x:=cx) (y:=cy) (by assumption) (by assumption) (by assumption))
        ·have hb17':=ae hb17
         obtain ⟨cx,hx19⟩:∃z,c.2.1[(ar.1).toNat]? =some z:=⟨_,aa (by omega)⟩
         have hzcx:ZN cx (c.1.length:Int)→cx.size=c.1.length:=fun h=>by have:=h.2; omega
         have hwcx:c.2.1.length≤k→cx.size=c.1.length:=fun h=>hzcx (Yz hB h _ (ao hx19))
         obtain ⟨cy,hx21⟩:∃z,c.2.1[(ar.2.2.2).toNat]? =some z:=⟨_,aa (by omega)⟩
         have hzcy:ZN cy (c.1.length:Int)→cy.size=c.1.length:=fun h=>by have:=h.2; omega
         have hwcy:c.2.1.length≤k→cy.size=c.1.length:=fun h=>hzcy (Yz hB h _ (ao hx21))
         apply dW (i3 50 _ _ _ (io 53 (lB true) :: i5 54 _ _ _ _ _ (io 59 (lB true) :: i7 60 _ _ _ _ _ _ _ (io 67 (ag [dI ar.2.1,dB ar.2.2.1]) :: i3 68 _ _ _ (io 71 (lB true) :: i9 72 _ _ _ _ _ _ _ _ _ (i7 81 _ _ _ _ _ _ _ (io 88 (lB (decide (Fit ar cx cy))) :: i2 89 _ _ []))))))) [0,0,3,0,0,0,0,0,192,0,0,0,0,0,0,24576,24576,0,253952,253952,253952,0,0,0,0,0,33554432,33554432,234881024,234881024,33554432,33554432,4261412864,4261412864,17146314752,17146314752,4261412864,4261412864,0,0,0]
         iterate 3 refine z_ ?_
         refine zz (fun _ h_=>ac (QB (hb15) (dK (QZ ar.1 0 ((c.2.1.length:Int) - 1)) ZE)) rfl) ?_
         iterate 5 refine z_ ?_
         refine zz (fun _ h_=>day rfl (h_.k rfl) (QB (hb16) (dK (QZ ar.2.2.2 0 ((c.2.1.length:Int) - 1)) ZE)) rfl) ?_
         iterate 7 refine z_ ?_
         refine zz (fun _ h_=>day rfl (h_.k rfl) (Qn JD ⟨_,_,rfl,(h_.w rfl),⟨_,_,rfl,(h_.w rfl),rfl⟩⟩ (aw.1 rfl) rfl rfl) rfl) ?_
         iterate 3 refine z_ ?_
         refine zz (fun _ h_=>day rfl (h_.k rfl) (QB (hb17) (dK (Ub (ar.2.1,ar.2.2.1) (c.1.length:Int) (by have:=(‹YO c.1›).2.2; omega)) Qbb)) rfl) ?_
         iterate 16 refine z_ ?_
         refine zz (fun _ h_=>day rfl (h_.k rfl) (dK (Jc ar cx cy (by have:=hwcx (by omega); have:=hwcy (by omega); omega)) Qgd) rfl) ?_
         iterate 2 refine z_ ?_
         exact zN
         cases hb22:(decide (Fit ar cx cy))
         ·have hb22':=ab hb22
          iterate 4 refine w_ ?_
          refine Qb<|fqB hO ?_
          exact QbZ hx14 (by first | exact Qip (by assumption) | exact QiE (by assumption) | exact Qiy (by assumption) | exact QiC (x:=cx) (y:=cy) (by assumption) (by assumption) (by assumption))
         ·have hb22':=ae hb22
          refine w_ ?_
          refine AC.skip ?_
          refine (?_:AC _ _ _ _ _)
          iterate 3 refine w_ ?_
          refine Qd ?_
          refine lK_ ((Y5 hR hx14 (Qpp (by assumption) (by assumption) (by assumption) (x:=cx) (y:=cy) (by assumption) (by assumption) (by assumption)))) ?_
          exact Wk.of [] rfl ⟨rfl,rfl,rfl,rfl,rfl,trivial⟩ ⟨rfl,trivial⟩ rfl rfl
    ·have hb9':=ae hb9
     iterate 5 refine w_ ?_
     obtain ⟨x23,hx24⟩:∃z,c.2.1[k]? =some z:=⟨_,aa (by omega)⟩
     have hzx23:ZN x23 (c.1.length:Int)→x23.size=c.1.length:=fun h=>by have:=h.2; omega
     have hwx23:c.2.1.length≤k→x23.size=c.1.length:=fun h=>hzx23 (Yz hB h _ (ao hx24))
     iterate 8 refine w_ ?_
     refine alL 38 fun hl25=> ?_
     refine w_ ?_
     refine lc (dK (Qb1 x23 (c.1.length:Int)) QgE) ?_
     iterate 2 refine w_ ?_
     cases hb26:(decide (ZN x23 (c.1.length:Int)))
     ·have hb26':=ab hb26
      iterate 4 refine w_ ?_
      refine Qb<|fqB hO ?_
      exact Qk2 hx24 (by assumption)
     ·have hb26':=ae hb26
      refine w_ ?_
      refine AC.skip ?_
      refine (?_:AC _ _ _ _ _)
      iterate 3 refine w_ ?_
      refine Qd ?_
      refine lK_ ((Y5 hB hx24 (by assumption))) ?_
      exact Wk.of [] rfl ⟨rfl,rfl,rfl,rfl,rfl,trivial⟩ ⟨rfl,trivial⟩ rfl rfl
   ·iterate 3 refine w_ ?_
    refine Qb<|fqB hO ?_
    exact Qlr (by assumption)
end Go.Proofs.YtgpdhgadmjfokaaGreat
namespace Go.Proofs.YtgpdhgadmjfokaaGreat
open Go.RowKit
set_option maxRecDepth 100000
set_option maxHeartbeats 4000000
def QrN (a b:UInt8):Bool:=decide (a=b)||(decide (a=48)&&decide (b=43))||(decide (a=43)&&decide (b=49))||(decide (a=49)&&decide (b=45))||(decide (a=45)&&decide (b=48))||(decide (a=43)&&decide (b=45))||(decide (a=45)&&decide (b=43))
def QnX (s:ByteArray):Prop:=∀x∈s.toList,x=48∨x=43∨x=49∨x=45
instance (s:ByteArray):Decidable (QnX s):=inferInstanceAs (Decidable (∀x∈s.toList,x=48∨x=43∨x=49∨x=45))
def SignsOk (c:DSg)(s:ByteArray):Prop:=QnX s∧s.size=c.2.1.length∧SgOk c
instance (c:DSg) (s:ByteArray) [Decidable (SgOk c)]:Decidable (SignsOk c s):=inferInstanceAs (Decidable (_∧_))
def Qod (c:DSg)(s:ByteArray):Bool:=c.2.2.all fun a=>QrN (bAt s a.1) (bAt s a.2.2.2)
def Qrc (s:ByteArray)(a:DAr):Bool:=(decide (bAt s a.1=43)&&(decide (bAt s a.2.2.2=49)||decide (bAt s a.2.2.2=45)))||(decide (bAt s a.1=45)&&(decide (bAt s a.2.2.2=48)||decide (bAt s a.2.2.2=43)))
def okP (c:DSg)(s:ByteArray)[Decidable (SgOk c)]:Bool:=decide (SignsOk c s)&&Qod c s
def QqD (as_:List DAr)(q:Int):List DAr:=as_.filter fun a=>decide (a.1=q)
def QrY:ByteArray:=⟨#[48,43,49,45,48]⟩
section
variable {a b x:UInt8}{k i:Nat}{s:ByteArray}{c:DSg}{l:List DAr}{e:DAr}{q:Int}
section
variable [Decidable (SignsOk c s)]
end
theorem SignsOk.at_ (h:SignsOk c s)(ha:e∈c.2.2):(0≤e.1∧e.1 < (s.size:Int))∧0≤e.2.2.2∧e.2.2.2 < (s.size:Int):=by
  have h1:=Jh (h.2.2.arcs e ha)
  rw[h.2.1]
  exact h1
end
end Go.Proofs.YtgpdhgadmjfokaaGreat
namespace Go.Proofs.YtgpdhgadmjfokaaGreat
open Go.RowKit
set_option maxRecDepth 100000
set_option maxHeartbeats 4000000
def DelI {α:Type _}(p:α→Bool)(l0 l:List α)(i j:Int):Prop:=(0≤i∧i < j∧j≤(l.length:Int))∧l.length=l0.length∧l.take i.toNat=(l0.take j.toNat).filter p∧l.drop j.toNat=l0.drop j.toNat
section
variable {α:Type _}{p f:α→Bool}{l0 l:List α}{i j:Int}{x:α}
theorem Kl (f:α→Bool)(l:List α):(Ze f l= -1∧∀x∈l,f x=false)∨∃(k:Nat) (x:α),Ze f l=(k:Int)∧l[k]? =some x∧f x=true∧NoneTo f l k:=by
  unfold Ze
  cases h:l.findIdx? f with
  | none=>exact .inl ⟨rfl,fun x hx=>by simpa using cw.1 h x hx⟩
  | some k=>
    obtain ⟨h1,h2,h3⟩:=bT.1 h
    exact .inr ⟨k,l[k],rfl,aa h1,h2,fun j hj y hy=>by
      obtain ⟨h4,h5⟩:=aj.1 hy
      have:=h3 j hj
      rw[h5] at this
      simpa using this⟩
theorem Qma (f:α→Bool)(l:List α): -1≤Ze f l∧Ze f l < (l.length:Int):=by
  rcases Kl f l with ⟨h,_⟩ | ⟨k,x,h,h2,_⟩
  · omega
  · have := (aj.1 h2).1
    omega
theorem QeS (h:Ze f l= -1):l=l.filter fun x=> !f x:=by
  rcases Kl f l with ⟨_,h2⟩ | ⟨k,_,h2,_⟩
  · exact (cD.2 fun x hx=>by rw[h2 x hx]; rfl).symm
  · omega
theorem DelI.start (h:¬Ze f l= -1):DelI (fun x=> !f x) l l (Ze f l) (Ze f l+1):=by
  rcases Kl f l with ⟨h2,_⟩ | ⟨k,x,h2,h3,h4,h5⟩
  · exact absurd h2 h
  · have hk := (aj.1 h3).1
    rw[h2]
    refine ⟨by omega,rfl, ?_,rfl⟩
    rw[show ((k:Int)+1).toNat=k+1 by omega,show ((k:Int)).toNat=k by omega,Q1 h3,bC]
    have:([x].filter fun x=> !f x)=[]:=by simp[h4]
    rw[this,bA]
    refine (cD.2 fun y hy=> ?_).symm
    obtain ⟨n,hn⟩:=aM.1 hy
    have hn2:=(aj.1 hn).1
    rw[ap] at hn2
    rw[List.getElem?_take_of_lt (by omega)] at hn
    rw[h5 n (by omega) y hn]; rfl
theorem DelI.at_ (h:DelI p l0 l i j)(hx:l[j.toNat]? =some x):l0[j.toNat]? =some x:=by
  obtain ⟨h1,h2,h3,h4⟩:=h
  have:=congrArg (fun l:List α=>l[0]?) h4
  simpa [hx] using this.symm
theorem DelI.lt (h:DelI p l0 l i j)(hx:l[j.toNat]? =some x):j < (l.length:Int):=by
  have:=(aj.1 hx).1
  obtain ⟨h1,_⟩:=h
  omega
theorem DelI.drop_ (h:DelI p l0 l i j)(hx:l[j.toNat]? =some x)(hp:p x=false):DelI p l0 l i (j+1):=by
  have h0:=h.at_ hx
  have hl:=h.lt hx
  obtain ⟨h1,h2,h3,h4⟩:=h
  refine ⟨by omega,h2, ?_, ?_⟩
  · rw[show (j+1).toNat=j.toNat+1 by omega,Q1 h0,bC,h3]; simp[hp]
  · have := congrArg (List.drop 1) h4
    rw[cV,cV] at this
    rw[show (j+1).toNat=j.toNat+1 by omega]
    exact this
theorem DelI.keep (h:DelI p l0 l i j)(hx:l[j.toNat]? =some x)(hp:p x=true):DelI p l0 (l.set i.toNat x) (i+1) (j+1):=by
  have h0:=h.at_ hx
  have hl:=h.lt hx
  obtain ⟨h1,h2,h3,h4⟩:=h
  refine ⟨by rw[aA]; omega,by rw[aA]; exact h2, ?_, ?_⟩
  · have hg : (l.set i.toNat x)[i.toNat]? = some x := aV (by omega)
    rw[show (j+1).toNat=j.toNat+1 by omega,show (i+1).toNat=i.toNat+1 by omega,Q1 hg,Q1 h0,bC,List.take_set_of_le (aO _),h3]
    simp[hp]
  · have := congrArg (List.drop 1) h4
    rw[cV,cV] at this
    rw[show (j+1).toNat=j.toNat+1 by omega,List.drop_set_of_lt (by omega)]
    exact this
theorem DelI.end_ {z:List α}(h:DelI p l0 l i j)(hj:¬j < (l.length:Int))(n:Nat)(hn:n=i.toNat):(l.take i.toNat++z).take n=l0.filter p:=by
  obtain ⟨h1,h2,h3,h4⟩:=h
  subst hn
  rw[List.take_left' (by rw[ap]; omega),h3,b9 (by omega)]
end
theorem JU (l:List (ByteArray×Int))(name:ByteArray):FC Tryz.prog 199 [(false,[.dat (.sl 44 (.pr .str .int)) l]),(false,[dS name])] [] 0 (QV (lI (Ze (fun x:Qz=>decide (x.1=name)) l))):=by
 refine Qj Tryz.func199 rfl rfl Tryz.ntmps199 fun O_ hO w0_ N0_ X_ h0_ f0_=> ?_
 iterate 6 refine w_ ?_
 refine alL 7 fun hl1=> ?_
 iterate 4 refine w_ ?_
 refine lpK l.length (fun k=>NoneTo (fun x:Qz=>decide (x.1=name)) l k) (fun k=>⟨[(1,lf (dS name)),(7,lf (.dat (.sl 44 (.pr .str .int)) l)),(8,lI (l.length:Int)),(9,lI (k:Int))],[]⟩) (NoneTo.zero) ?_ fun k hk2 hno=> ?_
 · exact Wk.of [] rfl ⟨rfl,rfl,rfl,rfl,trivial⟩ trivial rfl rfl
 iterate 4 refine w_ ?_
 cases hb3:(decide ((k:Int) < (l.length:Int)))
 ·have hb3':=ab hb3
  refine w_ ?_
  refine Qi ?_
  refine (?_:AC _ _ _ _ _)
  iterate 3 refine w_ ?_
  refine Qb<|fqI hO ?_
  first | exact (hno.no (by omega)).symm
 ·have hb3':=ae hb3
  iterate 6 refine w_ ?_
  obtain ⟨x4,hx5⟩:∃z,l[k]? =some z:=⟨_,aa (by omega)⟩
  iterate 2 refine w_ ?_
  refine lc (xal 0 (.pr .str .int) QbP) ?_
  iterate 9 refine w_ ?_
  cases hb6:(decide (x4.1=name))
  ·have hb6':=ab hb6
   refine w_ ?_
   refine AC.skip ?_
   refine (?_:AC _ _ _ _ _)
   iterate 3 refine w_ ?_
   refine Qd ?_
   refine lK_ (hno.step hx5 (by assumption)) ?_
   exact Wk.of [] rfl ⟨rfl,rfl,rfl,rfl,trivial⟩ trivial rfl rfl
  ·have hb6':=ae hb6
   iterate 5 refine w_ ?_
   refine Qb<|fqI hO ?_
   exact (hno.at hx5 (by assumption)).symm
end Go.Proofs.YtgpdhgadmjfokaaGreat
namespace Go.Proofs.YtgpdhgadmjfokaaGreat
open Go.RowKit
set_option maxRecDepth 100000
set_option maxHeartbeats 4000000
abbrev PSt:=Int×Bool
def ixP (ps:List PSt)(p:PSt):Int:=(ps.idxOf p:Nat)
def psP (ps:List PSt)(p:PSt):List PSt:=if p∈ps then ps else ps++[p]
def cdP (c:DSg)(ps:List PSt)(cs:List ByteArray)(p:PSt):List ByteArray:=if p∈ps then cs else cs++[Xj c p.1++⟨#[if p.2 then 49 else 48]⟩]
def Qqp:Nat→List PSt→List (PSt×Int)
  | _,[]=>[]
  | n,p :: ps=>(p,(n:Int)) :: Qqp (n+1) ps
def Qs1 (ps:List PSt):List (PSt×Int):=Qqp 0 ps
section
variable {c:DSg}{ps:List PSt}{p:PSt}{cs:List ByteArray}{n:Nat}{code:ByteArray}
end
end Go.Proofs.YtgpdhgadmjfokaaGreat
namespace Go.Proofs.YtgpdhgadmjfokaaGreat
open Go.RowKit
set_option maxRecDepth 100000
set_option maxHeartbeats 4000000
abbrev Ins:=List PSt×List ByteArray×List DAr
def Qk7 (s:ByteArray)(p:PSt):Bool:=(decide (bAt s p.1=43)&& !p.2)||(decide (bAt s p.1=45)&&p.2)
def Qqf (s:ByteArray)(p:PSt)(a:DAr):Bool:=(decide (bAt s a.2.2.2=48)&&p.2)||(decide (bAt s a.2.2.2=49)&& !p.2)||(Qk7 s p&&Qrc s a)
def Qqr (c:DSg)(st:Ins)(k:Int)(l:Zu)(p:PSt):Ins:=(psP st.1 p,cdP c st.1 st.2.1 p,st.2.2++[(k,l.1,l.2,ixP st.1 p)])
def Qqa (c:DSg)(s:ByteArray)(k:Int)(p:PSt)(st:Ins)(a:DAr):Ins:=if Qqf s p a=true then st else Qqr c st k (a.2.1,a.2.2.1) (a.2.2.2,p.2)
def Qsp (c:DSg)(s:ByteArray)(st:Ins)(k:Int)(p:PSt):Ins:=if Qk7 s p=true then Qqr c st k ((c.1.length:Int),decide (bAt s p.1=43)) (p.1, !p.2) else st
def QrB (c:DSg)(s:ByteArray)(st:Ins)(k:Int):Ins:=match st.1[k.toNat]? with
  | none=>st
  | some p=>(QqD c.2.2 p.1).foldl (Qqa c s k p) (Qsp c s st k p)
section
variable {c:DSg}{s:ByteArray}{st:Ins}{k:Int}{p:PSt}{a:DAr}{i:Nat}{x:UInt8}{l:List DAr}
end
end Go.Proofs.YtgpdhgadmjfokaaGreat
namespace Go.Proofs.YtgpdhgadmjfokaaGreat
open Go.RowKit
set_option maxRecDepth 100000
set_option maxHeartbeats 4000000
def vB (b:Bool):Int:=if b then 1 else 0
def Qpd (p:PSt):Int:=2*p.1+vB p.2
def Qtb (x:UInt8)(v:Int):Bool:=if x=48 then decide (v=0) else if x=49 then decide (v=1) else true
section
variable {c:DSg}{s:ByteArray}{ps:List PSt}{p:PSt}{cs:List ByteArray}{i:Nat}{k v z q:Int}{code:ByteArray}{a:DAr}
theorem Qgp (b:Bool):vB b=0∨vB b=1:=by cases b <;> simp[vB]
theorem Ql0 (b:Bool):decide (vB b=1)=b:=by cases b <;> rfl
abbrev Qte (k v:Int):Int→Bool:=fun z=>decide (z=2*k+v)
end
end Go.Proofs.YtgpdhgadmjfokaaGreat
namespace Go.Proofs.YtgpdhgadmjfokaaGreat
open Go.RowKit
set_option maxRecDepth 100000
set_option maxHeartbeats 4000000
def Qlu (s:ByteArray):Bool:=decide (bAt s 0=49)||decide (bAt s 0=45)
def QoS (c:DSg)(s:ByteArray):Ins:=(psP [] (0,Qlu s),cdP c [] [] (0,Qlu s),[])
def QqV (c:DSg)(s:ByteArray):Nat→Nat→Ins→Ins
  | 0,_,st=>st
  | f+1,k,st=>if k < st.1.length then QqV c s f (k+1) (QrB c s st (k:Int)) else st
def JI (c:DSg)(s:ByteArray):Ins:=QqV c s 601 0 (QoS c s)
def Qnx (c:DSg)(name:ByteArray)(st:Ins):DSg:=(c.1++[(name,3)],st.2.1,st.2.2)
structure InsI (c:DSg) (st:Ins):Prop where
  rng:∀p∈st.1,0≤p.1∧p.1 < (c.2.1.length:Int)
  nd:st.1.Nodup
  len:st.2.1.length=st.1.length
section
variable {c:DSg}{s name:ByteArray}{st:Ins}{ps:List PSt}{cs:List ByteArray}{as_:List DAr}{p:PSt}{k:Int}{l:Zu}{i j n:Nat}{b:Bool}{z:Int}
theorem Qfp:∀(n:Nat) (l:List Nat),l.Nodup→(∀x∈l,x < n)→l.length≤n
  | 0,[],_,_=>aO _
  | 0,x :: l,_,h=>absurd (h x (ay ..)) (bc x)
  | n+1,l,hd,h=>by
    have h1:=Qfp n (l.erase n) (hd.erase n) fun x hx=>by
      have h2:=h x (List.mem_of_mem_erase hx)
      have h3:x≠n:=fun e=>by subst e; exact (List.Nodup.not_mem_erase hd) hx
      omega
    have h2:=List.length_erase (a:=n) (l:=l)
    split at h2 <;> omega
theorem InsI.few (h:InsI c st)(hn:c.2.1.length≤300):st.1.length≤600:=by
  have h1:=Qfp 600 (st.1.map fun p=>(Qpd p).toNat) ?_ ?_
  · simpa using h1
  · rw [List.Nodup, List.pairwise_map]
    refine List.Pairwise.imp_of_mem ?_ h.nd
    intro a b ha hb hne e
    apply hne
    have h2:=h.rng a ha
    have h3:=h.rng b hb
    have h4:=Qgp a.2
    have h5:=Qgp b.2
    unfold Qpd at e
    have h6:a.1=b.1∧vB a.2=vB b.2:=by omega
    refine Prod.ext h6.1 ?_
    rw[← Ql0 a.2,h6.2,Ql0]
  · intro x hx
    obtain ⟨p,hp,rfl⟩:=b8.1 hx
    have h2:=h.rng p hp
    have h4:=Qgp p.2
    unfold Qpd
    omega
end
abbrev QmT (name:ByteArray):Qz→Bool:=fun x=>decide (x.1=name)
section
variable [∀c,Decidable (SgOk c)][∀s,Decidable (XV s)]{c:DSg}{s name:ByteArray}{st:Ins}
def Qrg (c:DSg)(name s:ByteArray):Bool:=okP c s&&decide (XV name)&& !(c.1.any (QmT name))&& !decide (c.1.length=8)
def QqE:DSg×List Int:=(Um,[])
def Qsx (c:DSg)(name s:ByteArray):(DSg×List Int)×Bool:=
  if Qrg c name s=true∧SgOk (Qnx c name (JI c s)) then ((Qnx c name (JI c s),(JI c s).1.map fun p=>p.1),true) else (QqE,false)
def Qsy (c:DSg)(name s:ByteArray):(DSg×List Int)×Bool:=
  if Qrg c name s=true then ((Qnx c name (JI c s),(JI c s).1.map fun p=>p.1),decide (SgOk (Qnx c name (JI c s)))) else (QqE,false)
end
end Go.Proofs.YtgpdhgadmjfokaaGreat
namespace Go.Proofs.YtgpdhgadmjfokaaGreat
open Go.RowKit
set_option maxRecDepth 100000
set_option maxHeartbeats 4000000
@[reducible] def Qmd:(ByteArray)→Int→(ByteArray)×Int:=fun _ k=>(Qoh (k),k+1)
@[reducible] def Qn2:(Qon)→Int→(Qon)×Int:=fun _ k=>((k,k+1,decide ((k+1+1) % 3=0),k+1+1+1),k+1+1+1+1)
def mSG (c:DSg)(k:Int):DSg×Int:=(((Qr fS c.1 k).1,(Qr Qmd c.2.1 (Qr fS c.1 k).2).1,(Qr Qn2 c.2.2 (Qr Qmd c.2.1 (Qr fS c.1 k).2).2).1),(Qr Qn2 c.2.2 (Qr Qmd c.2.1 (Qr fS c.1 k).2).2).2)
section
variable [∀c,Decidable (SgOk c)][∀s,Decidable (XV s)]
end
end Go.Proofs.YtgpdhgadmjfokaaGreat
