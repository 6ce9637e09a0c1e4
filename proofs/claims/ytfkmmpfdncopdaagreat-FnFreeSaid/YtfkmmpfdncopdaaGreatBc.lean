/- Walks over abstract states: distances. -/
import Derived.Test.YtfkmmpfdncopdaaGreatWz
import Derived.Test.YtfkmmpfdncopdaaGreatAv
import Derived.Test.YtfkmmpfdncopdaaGreatWk
import Derived.Shelf.Lays
import Derived.Shelf.Lays2
import Derived.Shelf.Slices.In.SortNone
import Derived.Shelf.Slices.In.CompactI
import Derived.Test.YtfkmmpfdncopdaaGreatApp
set_option linter.unusedSimpArgs false
set_option linter.unusedVariables false
set_option linter.unusedSectionVars false
namespace Go.Proofs.YtfkmmpfdncopdaaGreat
open Go.RowKit
set_option maxRecDepth 100000
set_option maxHeartbeats 4000000
def Hu (l:List (List Int))(e:Int×Int):List (List Int):=l.modify e.1.toNat (· ++[e.2])
def Z6 (n:Nat)(es:List (Int×Int)):List (List Int):=es.foldl Hu (List.replicate n [])
def bfT (o:Int):List Int→List Int×List Int→List Int×List Int
  | [],st=>st
  | t :: ts,st=>if (st.1[t.toNat]?).getD 0 < 0 then bfT o ts (st.1.set t.toNat ((st.1[o.toNat]?).getD 0+1),st.2++[t]) else bfT o ts st
def bfK (nx:List (List Int)):Nat→Nat→List Int×List Int→List Int
  | 0,_,st=>st.1
  | f+1,k,st=>match st.2[k]? with
    | none=>st.1
    | some o=>bfK nx f (k+1) (bfT o ((nx[o.toNat]?).getD []) st)
def U0 (n:Nat)(es:List (Int×Int)):List Int:=bfK (Z6 n es) (n+1) 0 ((List.replicate n (-1)).set 0 0,[0])
def QbI (l:List Int):Nat:=(l.filter (· < 0)).length
structure BI (n:Nat) (es:List (Int×Int)) (st:List Int×List Int):Prop where
  len:st.1.length=n
  cnt:QbI st.1+st.2.length=n
  q:∀x∈st.2,(0≤x∧x < n)∧Rch es x∧∃v,st.1[x.toNat]? =some v∧0≤v
  nn:∀(i:Nat) v,st.1[i]? =some v→0≤v→(i:Int)∈st.2
  rng:∀v∈st.1, -1≤v∧v≤(st.2.length:Int)
section
variable {n k i f:Nat}{es:List (Int×Int)}{e:Int×Int}{l ts ys q out:List Int}{o t c w:Int}{nx:List (List Int)}{st:List Int×List Int}
theorem QfK {α:Type _}{l:List α}{i:Nat}{x:α}{g:α→α}(h:l[i]? =some x):l.set i (g x)=l.modify i g:=by
  apply bt
  intro j
  rw[cv]
  by_cases e:i=j
  · subst e; rw[aU (aj.1 h).1,h]; simp
  · rw[aY e]; simp[e]
theorem Qit {l:List (List Int)}:(es.foldl Hu l).length=l.length:=by
  induction es generalizing l with
  | nil=>rfl
  | cons e es ih=>rw[bq,ih]; simp[Hu]
theorem Ur:(Z6 n es).length=n:=by unfold Z6; rw[Qit]; simp
theorem Qgo (hx:es[k]? =some e)(hy:(Z6 n (es.take k))[e.1.toNat]? =some ys):(Z6 n (es.take k)).set e.1.toNat (ys++[e.2])=Z6 n (es.take (k+1)):=by
  rw[QfK (g:=(· ++[e.2])) hy,Q0 hx]
  simp[Z6,List.foldl_append,Hu]
theorem Qjw {l:List (List Int)}{i:Nat}{t:Int}(hr:∀e∈es,0≤e.1):t∈((es.foldl Hu l)[i]?).getD []↔t∈(l[i]?).getD []∨(i < l.length∧((i:Int),t)∈es):=by
  induction es generalizing l with
  | nil=>simp
  | cons e es ih=>
    rw[bq,ih (fun e he=>hr e (ax _ he))]
    have h0:=hr e (ay ..)
    have hl:(Hu l e).length=l.length:=by simp[Hu]
    rw[hl]
    have h1:t∈((Hu l e)[i]?).getD []↔t∈(l[i]?).getD []∨(i < l.length∧((i:Int),t)=e):=by
      unfold Hu
      rw[cv]
      by_cases e2:e.1.toNat=i
      · cases h : l[i]? with
        | none=>
          have:=List.getElem?_eq_none_iff.1 h
          simp[e2]
          intro h3; omega
        | some x=>
          have:=(aj.1 h).1
          simp[e2,this]
          have:((i:Int),t)=e↔t=e.2:=⟨fun h=>by rw[← h],fun h=>Prod.ext (by show (i:Int)=e.1; omega) h⟩
          rw[this]
      · simp [e2]
        intro _ h3
        exact absurd (show e.1.toNat=i by rw[← h3]; rfl) e2
    rw[h1,aC]
    constructor
    · rintro ((h | ⟨h, h2⟩) | ⟨h, h2⟩)
      · exact .inl h
      · exact .inr ⟨h, .inl h2⟩
      · exact .inr ⟨h, .inr h2⟩
    · rintro (h | ⟨h, h2 | h2⟩)
      · exact .inl (.inl h)
      · exact .inl (.inr ⟨h,h2⟩)
      · exact .inr ⟨h,h2⟩
theorem Qcq {i:Nat}(hr:∀e∈es,InE n e)(hy:(Z6 n es)[i]? =some ys):t∈ys↔((i:Int),t)∈es:=by
  have h:=Qjw (l:=List.replicate n []) (i:=i) (t:=t) (es:=es) (fun e he=>(hr e he).1.1)
  have hi:i < n:=by have:=(aj.1 hy).1; rwa [Ur] at this
  change t∈((Z6 n es)[i]?).getD []↔_ at h
  rw[hy] at h
  simpa [hi] using h
theorem Qcn {i:Nat}(hy:(Z6 n es)[i]? =some ys):ys.length≤es.length:=by
  have:∀(l:List (List Int)) (i:Nat) (ys:List Int),(es.foldl Hu l)[i]? =some ys→ys.length≤((l[i]?).getD []).length+es.length:=by
    clear hy
    induction es with
    | nil=>intro l i ys h; simp at h; simp[h]
    | cons e es ih=>
      intro l i ys h
      rw[bq] at h
      have:=ih _ _ _ h
      have h2:(((Hu l e)[i]?).getD []).length≤((l[i]?).getD []).length+1:=by
        unfold Hu
        rw[cv]
        cases hl:l[i]? with
        | none=>simp
        | some x=>by_cases e2:e.1.toNat=i <;> simp[e2]
      rw[aq]; omega
  have h:=this _ _ _ hy
  have h0:(((List.replicate n ([]:List Int))[i]?).getD []).length=0:=by
    rw[c9]; split <;> rfl
  omega
theorem QmK (hx:ts[i]? =some t)(hc:out[t.toNat]? =some c)(hn:c < 0)(ho:out[o.toNat]? =some w):bfT o (ts.drop i) (out,q)=bfT o (ts.drop (i+1)) (out.set t.toNat (w+1),q++[t]):=by
  rw[ZU hx,bfT]
  simp[hc,ho,hn]
theorem Qla (hx:ts[i]? =some t)(hc:out[t.toNat]? =some c)(hn:¬c < 0):bfT o (ts.drop i) (out,q)=bfT o (ts.drop (i+1)) (out,q):=by
  rw[ZU hx,bfT]
  simp only[hc,ah,if_neg hn]
theorem Qmd (h:ts.length≤i):bfT o (ts.drop i) st=st:=by rw[bw h,bfT]
theorem Qob (hq:q[k]? =some o)(hy:nx[o.toNat]? =some ts)(hk:k < n+1):bfK nx (n+1 - k) k (out,q)=bfK nx (n+1 - (k+1)) (k+1) (bfT o (ts.drop 0) (out,q)):=by
  rw[show n+1 - k=(n+1 - (k+1))+1 by omega,bfK]
  simp[hq,hy]
theorem QmH (h:q.length≤k):bfK nx f k (out,q)=out:=by
  cases f with
  | zero=>rfl
  | succ f=>rw[bfK]; simp[bl h]
theorem Qef {l:List Int}(h:l[i]? =some c)(hc:c < 0)(hw:0≤w):QbI (l.set i w)+1=QbI l:=by
  induction l generalizing i with
  | nil=>simp at h
  | cons x l ih=>
    cases i with
    | zero=>
      simp only[bK,bk] at h
      subst h
      simp[QbI,hc,show¬w < 0 by omega]
    | succ i=>
      have:=ih (i:=i) (by simpa using h)
      simp only[QbI,cE,d7] at this ⊢
      split <;> simp_all
theorem BI.step (h:BI n es (out,q))(hr:∀e∈es,InE n e)(ho:o∈q)(he:(o,t)∈es)(hc:out[t.toNat]? =some c)(hn:c < 0)(hw:out[o.toNat]? =some w):BI n es (out.set t.toNat (w+1),q++[t]):=by
  obtain ⟨h1,h2,h3,h4,h5⟩:=h
  have hw0:0≤w:=by
    obtain ⟨_,_,v,h6,h7⟩:=h3 o ho
    have h6:out[o.toNat]? =some v:=h6
    rw[hw] at h6; cases h6; exact h7
  have hw1:=h5 w (ao hw)
  have htl:=(aj.1 hc).1
  obtain ⟨_,ht0,ht1⟩:=hr _ he
  have ht0:0≤t:=ht0
  have ht1:t < (n:Int):=ht1
  refine ⟨by simpa using h1, ?_, ?_, ?_, ?_⟩
  · have h6 := Qef hc hn (show 0 ≤ w + 1 by omega)
    have h2:QbI out+q.length=n:=h2
    show QbI (out.set t.toNat (w+1))+(q++[t]).length=n
    rw[ak,List.length_singleton]; omega
  · intro x hx
    show (0≤x∧x < n)∧Rch es x∧∃v,(out.set t.toNat (w+1))[x.toNat]? =some v∧0≤v
    rcases aH.1 hx with hx | hx
    · obtain ⟨h6, h7, v, h8, h9⟩ := h3 x hx
      refine ⟨h6,h7, ?_⟩
      by_cases e2:t.toNat=x.toNat
      · exact ⟨w+1,by rw[← e2,aU htl],by omega⟩
      · exact ⟨v,by rw[aY e2]; exact h8,h9⟩
    · rw [aE] at hx
      subst hx
      exact ⟨⟨ht0,ht1⟩, .step (h3 o ho).2.1 he,w+1,aU htl,by omega⟩
  · intro i v hv h0
    have hv:(out.set t.toNat (w+1))[i]? =some v:=hv
    show (i:Int)∈q++[t]
    by_cases e2:t.toNat=i
    · exact aH.2 (.inr (by rw[aE]; omega))
    · rw [aY e2] at hv
      exact aH.2 (.inl (h4 i v hv h0))
  · intro v hv
    show -1≤v∧v≤((q++[t]).length:Int)
    rw[ak,List.length_singleton]
    have hw1':w≤(q.length:Int):=hw1.2
    rcases bX hv with h6 | h6
    · have h7 := h5 v h6
      have h8:v≤(q.length:Int):=h7.2
      omega
    · omega
theorem BI.q_le (h:BI n es (out,q)):q.length≤n:=by have:=h.cnt; simp only at this; omega
theorem BI.at_ (h:BI n es (out,q))(hq:q[k]? =some o):(0≤o∧o < n)∧o∈q:=⟨(h.q o (ao hq)).1,ao hq⟩
theorem Qc6 (hr:∀e∈es,InE n e):∀(ts:List Int) (st:List Int×List Int),BI n es st→o∈st.2→(∀t∈ts,(o,t)∈es)→BI n es (bfT o ts st)∧(∃r,(bfT o ts st).2=st.2++r)∧∀t∈ts,t∈(bfT o ts st).2
  | [],st,h,_,_=>⟨h,⟨[],by simp[bfT]⟩,fun t ht=>by cases ht⟩
  | t :: ts,st,h,ho,he=>by
    have he1:=he t (ay ..)
    obtain ⟨_,ht0,ht1⟩:=hr _ he1
    have ht0:0≤t:=ht0
    have ht1:t < (n:Int):=ht1
    obtain ⟨c,hc⟩:∃c,st.1[t.toNat]? =some c:=⟨_,aa (by rw[h.len]; omega)⟩
    obtain ⟨w,hw,_⟩:=(h.q o ho).2.2
    rw[bfT,hc,hw]
    simp only[ah]
    split
    · rename_i hn
      have h2:=BI.step (out:=st.1) (q:=st.2) h hr ho he1 hc hn hw
      obtain ⟨g1,⟨r,g2⟩,g3⟩:=Qc6 hr ts _ h2 (aH.2 (.inl ho)) (fun t ht=>he t (ax _ ht))
      refine ⟨g1,⟨[t]++r,by rw[g2]; simp⟩,fun x hx=> ?_⟩
      rcases aC.1 hx with rfl | hx
      · rw[g2]; simp
      · exact g3 x hx
    · rename_i hn
      obtain ⟨g1,⟨r,g2⟩,g3⟩:=Qc6 hr ts st h ho (fun t ht=>he t (ax _ ht))
      refine ⟨g1,⟨r,g2⟩,fun x hx=> ?_⟩
      rcases aC.1 hx with rfl | hx
      · have := h.nn _ _ hc (by omega)
        rw[show ((x.toNat:Nat):Int)=x by omega] at this
        rw[g2]; exact aH.2 (.inl this)
      · exact g3 x hx
theorem QhP (hr:∀e∈es,InE n e):∀(f k:Nat) (st:List Int×List Int),BI n es st→n+1≤f+k→k≤st.2.length→(∀j o,j < k→st.2[j]? =some o→∀t,(o,t)∈es→t∈st.2)→
    ∃r,BI n es (bfK (Z6 n es) f k st,st.2++r)∧∀o∈st.2++r,∀t,(o,t)∈es→t∈st.2++r
  | 0,k,st,h,hf,hk,_=>by have:=BI.q_le (out:=st.1) (q:=st.2) h; omega
  | f+1,k,st,h,hf,hk,hcl=>by
    rw[bfK]
    cases hq:st.2[k]? with
    | none=>
      refine ⟨[],by simpa using h,fun o ho t ht=> ?_⟩
      rw[bH] at ho ⊢
      obtain ⟨j,hj⟩:=aM.1 ho
      have h1:=(aj.1 hj).1
      have h2:=List.getElem?_eq_none_iff.1 hq
      exact hcl j o (by omega) hj t ht
    | some o=>
      simp only
      have ho:=ao hq
      obtain ⟨ho0,ho1⟩:=(h.q o ho).1
      obtain ⟨ys,hy⟩:∃ys,(Z6 n es)[o.toNat]? =some ys:=⟨_,aa (by rw[Ur]; omega)⟩
      rw[hy,ah]
      have hm:∀t,t∈ys↔(o,t)∈es:=fun t=>by
        have:=Qcq (t:=t) hr hy
        rwa [show ((o.toNat:Nat):Int)=o by omega] at this
      obtain ⟨g1,⟨r,g2⟩,g3⟩:=Qc6 hr ys st h ho (fun t ht=>(hm t).1 ht)
      have hkl:=(aj.1 hq).1
      obtain ⟨r2,k1,k2⟩:=QhP hr f (k+1) (bfT o ys st) g1 (by omega) (by rw[g2,ak]; omega) (fun j o' hj hjo t ht=>by
        rw[g2] at hjo ⊢
        rw[b9 (by omega)] at hjo
        by_cases e2:j=k
        · subst e2
          rw[hq] at hjo; cases hjo
          rw[← g2]; exact g3 t ((hm t).2 ht)
        · exact aH.2 (.inl (hcl j o' (by omega) hjo t ht)))
      rw[g2,aW] at k1 k2
      exact ⟨r++r2,k1,k2⟩
theorem BI.start (hn:1≤n):BI n es ((List.replicate n (-1)).set 0 0,[0]):=by
  have h0:(List.replicate n (-1:Int))[0]? =some (-1):=by rw[c9,if_pos (by omega)]
  refine ⟨by simp, ?_, ?_, ?_, ?_⟩
  · have h1 := Qef (w := 0) h0 (by decide) (by decide)
    have h2:QbI (List.replicate n (-1:Int))=n:=by simp[QbI]
    show QbI ((List.replicate n (-1)).set 0 0)+1=n
    omega
  · intro x hx
    rw[aE.1 hx]
    exact ⟨⟨by omega,by omega⟩, .zero,0,aU (by simp; omega),by decide⟩
  · intro i v hv h1
    have hv:((List.replicate n (-1:Int)).set 0 0)[i]? =some v:=hv
    by_cases e2:0=i
    · subst e2; simp
    · rw [aY e2, c9] at hv
      split at hv
      · cases hv; omega
      · cases hv
  · intro v hv
    show -1≤v∧v≤1
    rcases bX hv with h | h
    · rw[cw h]; omega
    · omega
theorem Qiy (hn:1≤n)(hr:∀e∈es,InE n e):∃r,BI n es (U0 n es,[0]++r)∧∀o∈[0]++r,∀t,(o,t)∈es→t∈[0]++r:=
  QhP hr (n+1) 0 _ (BI.start hn) (by omega) (aS _) (fun j o hj=>absurd hj (bc j))
theorem Qll [Decidable (Hr n es)](hn:1≤n)(hr:∀e∈es,InE n e):(!((U0 n es).any fun y=>decide (-1=y)))=decide (Hr n es):=by
  obtain ⟨r,h,hc⟩:=Qiy hn hr
  have hq:∀u,Rch es u→u∈[0]++r:=fun u hu=>by
    induction hu with
    | zero=>simp
    | step _ he ih=>exact hc _ ih _ he
  rw[bP,aT,bD,cc]
  constructor
  · intro g k hk
    have hl:k < (U0 n es).length:=by have:=h.len; simp only at this; omega
    have h1:=cN hl
    have h2:=g _ h1
    have h3:=(h.rng _ h1).1
    have h4:=h.nn k _ (aa hl) (by simp only[aT] at h2; omega)
    exact (h.q _ h4).2.1
  · intro g x hx
    obtain ⟨k,hk⟩:=aM.1 hx
    have hl:=(aj.1 hk).1
    have hl2:k < n:=by have:=h.len; simp only at this; omega
    obtain ⟨_,_,v,h5,h6⟩:=h.q _ (hq _ (g k hl2))
    have h5:(U0 n es)[((k:Int)).toNat]? =some v:=h5
    rw[show ((k:Int)).toNat=k by omega,hk] at h5
    cases h5
    simp only[aT]; omega
end
theorem Qn9 {xs:List (List Int)}{i:Nat}{ys:List Int}(h:xs[i]? =some ys):(Q8 (.sl 3 .int) xs)[i*1+0]? =some (.dat (.sl 3 .int) ys):=Ko (e:= .sl 3 .int) (j:=0) h rfl
theorem QgX {xs:List (List Int)}{i:Nat}{x ys:List Int}(h:xs[i]? =some x):(Q8 (.sl 3 .int) xs).set (i*1+0) (.dat (.sl 3 .int) ys)=Q8 (.sl 3 .int) (xs.set i ys):=
  (Ku (e:= .sl 3 .int) (j:=0) (x':=ys) h rfl (by decide)).symm
theorem Jh (n:Int)(l:List (Int×Int))(start:Int)(hn:1≤n∧n≤300)(hl:∀e∈l,InE n.toNat e)(hll:l.length≤4000)(hst:start=0):FC Tryz.prog 158 [(false,[dI n]),(false,[.dat (.sl 258 (.pr .int .int)) l]),(false,[dI start])] [] 0 (Wv 3 .int (U0 n.toNat l)):=by
 refine Qj Tryz.func158 rfl rfl Tryz.ntmps158 fun O_ hO w0_ N0_ X_ h0_ f0_=> ?_
 refine acI 0 fun hi1=> ?_
 refine acI 2 fun hi2=> ?_
 iterate 3 refine w_ ?_
 apply dW [⟨some 15,lR 0,[ar 0 3 .int ([(-1)])]⟩,io 16 (lI n),⟨some 17,lR 1,[ar 1 3 .int (List.replicate n.toNat (-1))]⟩,io 18 (lI n),⟨some 19,lR 2,[ar 2 35 (.sl 3 .int) (List.replicate (n).toNat (Ty.zero (.sl 3 .int)))]⟩,io 7 (lR 1),io 8 _] [0,1,0,7,7,24,0]
 refine zz (fun _ h_=>ac (dBs 0 (e:= .int) Xy) rfl) ?_
 refine z_ ?_
 refine zz (fun _ h_=>ac (dOB 1 (WJ ([(-1)]) n (-1) rfl (by omega)) Qf7) rfl) ?_
 refine z_ ?_
 refine zz (fun _ h_=>ac (Qam 2 (e:=(.sl 3 .int)) (n:=n) (h_.v rfl) (h_.v rfl) QdV Qn5 rfl (by omega) (by omega) (by omega) rfl (h_.fr 2 rfl) (nlr rfl)) rfl) ?_
 iterate 2 refine z_ ?_
 exact zN
 iterate 3 refine w_ ?_
 refine alL 20 fun hl3=> ?_
 iterate 4 refine w_ ?_
 refine lp0 l.length (fun k=>⟨[(2,lI start),(6,lf (.val (.slice none 0 0))),(7,lR 1),(8,lR 3),(20,lf (.dat (.sl 258 (.pr .int .int)) l)),(21,lI (l.length:Int)),(22,lI (k:Int))],[ar 1 3 .int (List.replicate n.toNat (-1)),ar 3 35 (.sl 3 .int) (Z6 n.toNat (l.take k))]⟩) ?_ fun k hk4=> ?_
 · exact Wk.of [(3,2)] rfl ⟨rfl,rfl,rfl,rfl,rfl,rfl,rfl,trivial⟩ ⟨rfl,(Qk (by simp only[List.take_zero]; rfl)),trivial⟩ rfl rfl
 iterate 4 refine w_ ?_
 cases hb5:(decide ((k:Int) < (l.length:Int)))
 ·have hb5':=ab hb5
  refine w_ ?_
  refine Qi ?_
  refine (?_:AC _ _ _ _ _)
  refine Zl ?_
  have hke:Z6 n.toNat (l.take k)=Z6 n.toNat l:=by rw[ZG (by omega)]
  refine AC.wk (QgY 8 (q:=3) (e:=(.sl 3 .int)) (xs:=Z6 n.toNat (l.take k)) rfl rfl) ?_
  rw[hke]
  have hrl:(List.replicate n.toNat (-1:Int)).length=n.toNat:=aB ..
  have hnl:=Ur (n:=n.toNat) (es:=l)
  iterate 4 refine w_ ?_
  obtain ⟨x6,hx7⟩:∃z,(List.replicate n.toNat (-1))[(start).toNat]? =some z:=⟨_,aa (by omega)⟩
  refine lc (Qs (e:= .int) (z':=0) (Qa rfl) rfl hx7 rfl (Evl.ev (Ql rfl)) rfl U8 rfl rfl) ?_
  iterate 3 refine w_ ?_
  refine lc (dBs 4 (e:= .int) Xy) ?_
  iterate 7 refine w_ ?_
  refine QE (fun m_ s_=>∃(k:Nat) (out:List Int) (q:List Int),k≤n.toNat∧m_=n.toNat - k∧(U0 n.toNat l=bfK (Z6 n.toNat l) (n.toNat+1 - k) k (out,q))∧(BI n.toNat l (out,q))∧s_=⟨[(6,lf (.val (.slice none 0 0))),(7,lR 5),(8,lf (.dat (.sl 35 (.sl 3 .int)) (Z6 n.toNat l))),(11,lR 6),(12,lI (k:Int))],[ar 5 3 .int out,ar 6 3 .int q]⟩) ⟨0,(List.replicate n.toNat (-1)).set ((start).toNat) 0,[start],aS _,rfl,(by rw[hst]; rfl),(by rw[hst]; exact BI.start (by omega)),rfl⟩ ?_ ?_
  · exact Wk.of [(5,1),(6,4)] rfl ⟨rfl,rfl,rfl,rfl,rfl,trivial⟩ ⟨(Qk (by first | rfl | simp)),(Qk (by first | rfl | simp)),trivial⟩ rfl rfl
  rintro m_ s_ ⟨k,out,q,hk8,hm9,hA,hI,rfl⟩
  have hqn:=hI.q_le
  have hql:out.length=n.toNat:=hI.len
  iterate 7 refine w_ ?_
  cases hb10:(decide ((k:Int) < (q.length:Int)))
  ·have hb10':=ab hb10
   refine w_ ?_
   refine Qi ?_
   refine (?_:AC _ _ _ _ _)
   iterate 4 refine w_ ?_
   refine Qb<|fo_ hO ?_
   rw[hA,QmH (by omega)]
  ·have hb10':=ae hb10
   iterate 9 refine w_ ?_
   obtain ⟨o,hx12⟩:∃z,q[k]? =some z:=⟨_,aa (by omega)⟩
   have hok0:=hI.at_ hx12
   refine w_ ?_
   refine alI 55 fun hi13=> ?_
   obtain ⟨ts,hx15⟩:∃z,(Z6 n.toNat l)[(o).toNat]? =some z:=⟨_,aa (by omega)⟩
   have htm:=Qcn hx15
   have hmem:∀t∈ts,(o,t)∈l:=fun t ht=>by have:=(Qcq hl hx15).1 ht; rwa [show ((o.toNat:Nat):Int)=o by omega] at this
   iterate 2 refine w_ ?_
   refine alL 57 fun hl16=> ?_
   iterate 4 refine w_ ?_
   refine QE (fun m_ s_=>∃(i:Nat) (out2:List Int) (q2:List Int),i≤ts.length∧m_=ts.length - i∧(U0 n.toNat l=bfK (Z6 n.toNat l) (n.toNat+1 - (k+1)) (k+1) (bfT o (ts.drop i) (out2,q2)))∧(BI n.toNat l (out2,q2))∧(q2[k]? =some o)∧s_=⟨[(6,lf (.val (.slice none 0 0))),(7,lR 7),(8,lf (.dat (.sl 35 (.sl 3 .int)) (Z6 n.toNat l))),(11,lR 8),(12,lI (k:Int)),(45,lI (k:Int)),(47,lI (q.length:Int)),(48,lB true),(51,lf (.dat (.sl 35 (.sl 3 .int)) (Z6 n.toNat l))),(53,lI (k:Int)),(55,lI o),(56,lf (.elt (.sl 3 .int) ts 0)),(57,lf (.dat (.sl 3 .int) ts)),(58,lI (ts.length:Int)),(59,lI (i:Int))],[ar 7 3 .int out2,ar 8 3 .int q2]⟩) ⟨0,out,q,aS _,rfl,(hA.trans (Qob hx12 hx15 (by omega))),hI,hx12,rfl⟩ ?_ ?_
   · exact Wk.of [(7,5),(8,6)] rfl ⟨rfl,rfl,rfl,rfl,rfl,rfl,rfl,rfl,rfl,rfl,rfl,rfl,rfl,rfl,rfl,trivial⟩ ⟨rfl,rfl,trivial⟩ rfl rfl
   rintro m_ s_ ⟨i,out2,q2,hk17,hm18,hA2,hI2,hQ2,rfl⟩
   have hqn2:=hI2.q_le
   have hql2:out2.length=n.toNat:=hI2.len
   have hok:=hI2.at_ hQ2
   have hkl:=(aj.1 hQ2).1
   iterate 4 refine w_ ?_
   cases hb19:(decide ((i:Int) < (ts.length:Int)))
   ·have hb19':=ab hb19
    refine w_ ?_
    refine Qi ?_
    refine (?_:AC _ _ _ _ _)
    iterate 4 refine w_ ?_
    refine Qd<|Q5 ⟨k+1,out2,q2,by omega,rfl,(by rw[hA2,Qmd (by omega)]),hI2,rfl⟩ (by omega) ?_
    exact Wk.of [(5,7),(6,8)] rfl ⟨rfl,rfl,rfl,rfl,rfl,trivial⟩ ⟨rfl,rfl,trivial⟩ rfl rfl
   ·have hb19':=ae hb19
    iterate 5 refine w_ ?_
    obtain ⟨x20,hx21⟩:∃z,ts[i]? =some z:=⟨_,aa (by omega)⟩
    obtain ⟨_,ht0x20,ht1x20⟩:=hl _ (hmem _ (ao hx21))
    have ht0x20:0≤x20:=ht0x20
    have ht1x20:x20 < (n.toNat:Int):=ht1x20
    iterate 2 refine w_ ?_
    refine alI 62 fun hi22=> ?_
    iterate 6 refine w_ ?_
    obtain ⟨x23,hx24⟩:∃z,out2[(x20).toNat]? =some z:=⟨_,aa (by omega)⟩
    have hrgx23: -1≤x23∧x23≤(q2.length:Int):=hI2.rng _ (ao hx24)
    refine w_ ?_
    refine alI 66 fun hi25=> ?_
    iterate 2 refine w_ ?_
    cases hb26:(decide (x23 < 0))
    ·have hb26':=ab hb26
     refine w_ ?_
     refine AC.skip ?_
     refine (?_:AC _ _ _ _ _)
     iterate 3 refine w_ ?_
     refine Qd<|Q5 ⟨i+1,out2,q2,by omega,rfl,(by (rw[hA2,Qla hx21 (by assumption) (by assumption)]; done)),(by exact hI2),(by exact hQ2),rfl⟩ (by omega) ?_
     exact Wk.of [] rfl ⟨rfl,rfl,rfl,rfl,rfl,rfl,rfl,rfl,rfl,rfl,rfl,rfl,rfl,rfl,rfl,trivial⟩ ⟨rfl,rfl,trivial⟩ rfl rfl
    ·have hb26':=ae hb26
     iterate 10 refine w_ ?_
     obtain ⟨x27,hx28⟩:∃z,out2[(o).toNat]? =some z:=⟨_,aa (by omega)⟩
     have hrgx27: -1≤x27∧x27≤(q2.length:Int):=hI2.rng _ (ao hx28)
     refine w_ ?_
     refine alI 76 fun hi29=> ?_
     iterate 2 refine w_ ?_
     refine lc (Qs (e:= .int) (z':=x27+1) (Qa rfl) rfl hx24 rfl (Qm rfl) rfl U8 rfl rfl) ?_
     iterate 4 refine w_ ?_
     refine lc (dBs 9 (e:= .int) Xy) ?_
     refine lc (dA 10 Wo) ?_
     refine w_ ?_
     refine Qd ?_
     refine (?_:AC _ _ _ _ _)
     iterate 3 refine w_ ?_
     refine Qd ?_
     refine Q5 ⟨i+1,(out2.set ((x20).toNat) (x27+1)),(q2++([x20])),by omega,rfl,(by (rw[hA2,QmK hx21 (by assumption) (by assumption) (by assumption)]; done)),(by exact hI2.step hl hok.2 (hmem _ (ao hx21)) (by assumption) (by assumption) (by assumption)),(by (rw[b9 hkl]; exact hQ2)),rfl⟩ (by omega) ?_
     exact Wk.of [(8,10)] rfl ⟨rfl,rfl,rfl,rfl,rfl,rfl,rfl,rfl,rfl,rfl,rfl,rfl,rfl,rfl,rfl,trivial⟩ ⟨(Qk (by first | rfl | simp)),(Qk (by first | rfl | simp)),trivial⟩ rfl rfl
 ·have hb5':=ae hb5
  iterate 5 refine w_ ?_
  obtain ⟨e,hx31⟩:∃z,l[k]? =some z:=⟨_,aa (by omega)⟩
  iterate 2 refine w_ ?_
  refine lc (xal 11 (.pr .int .int) H1) ?_
  iterate 2 refine w_ ?_
  have hin:=hl _ (ao hx31)
  have hn1:=Ur (n:=n.toNat) (es:=l.take k)
  obtain ⟨⟨he1,he2⟩,he3,he4⟩:=hin
  obtain ⟨ys,hys⟩:∃z,(Z6 n.toNat (l.take k))[e.1.toNat]? =some z:=⟨_,aa (by omega)⟩
  have hyf:=Qcn hys
  have hltk:(l.take k).length≤l.length:=by simp only[ap]; omega
  have hcA:=Qn9 hys
  have hpA:e.1.toNat*1+0 < (Q8 (.sl 3 .int) (Z6 n.toNat (l.take k))).length:=by rw[Vn]; show e.1.toNat*1+0 < (Z6 n.toNat (l.take k)).length*1; omega
  refine AC.wk (QdF (q:=3) rfl (by omega))<|AC.wk (JJ 12 (q:=3) (p:=e.1.toNat*1+0) (E':=3) (e':= .int) (ys:=ys) rfl (hcA) (Fresh.of rfl) (aG rfl)) ?_
  apply dV (i6 26 _ _ _ _ _ _ (io 32 (lf (.ept 3 1 ((e.1).toNat) 0)) :: io 33 (lR 12) :: i2 34 _ _ [⟨some 36,lR 13,[ar 13 3 .int ([e.2])]⟩,⟨some 37,lR 14,[ar 14 3 .int (ys++([e.2])),(12,none),(13,none)]⟩,io 38 (lf (.ept 3 1 ((e.1).toNat) 0)),⟨none,lf (.val undef),[(3,some (.obx 35 1 ((Z6 n.toNat (l.take k)).length) (Q8 (.sl 3 .int) (Z6 n.toNat (l.take k))) [((e.1).toNat*1+0, .ref 14),(e.1.toNat*1+0, .ref 12)]))]⟩])) [0,1,1,7,15,15,7,7,255,255,255,7,0,0]
  iterate 6 refine z_ ?_
  refine zz (fun _ h_=>ac (YY (h_.v rfl) (h_.en 3 rfl) (h_.v rfl) QdV Ub rfl (by omega) (by omega)) rfl) ?_
  refine zz (fun _ h_=>ac (Ki (h_.v rfl) (h_.n 3 rfl) (show (ovr _ _)[e.1.toNat*1+0]? =some (.ref 12) from by simp only[ovr,br,aA,hpA,hcA,eq_self,if_true,if_false,↓reduceIte]) (h_.n 12 rfl) Ub rfl) rfl) ?_
  iterate 2 refine z_ ?_
  refine zz (fun _ h_=>ac (dBs 13 (e:= .int) Xy) rfl) ?_
  refine zz (fun _ h_=>ac (dA 14 Wo) rfl) ?_
  refine zz (fun _ h_=>ac (YY (h_.v rfl) (h_.en 3 rfl) (h_.v rfl) QdV Ub rfl (by omega) (by omega)) rfl) ?_
  refine zz (fun _ h_=>ac (V3 (t:=12) (h_.v rfl) (h_.n 3 rfl) (show (ovr _ _)[e.1.toNat*1+0]? =some (.ref 12) from by simp only[ovr,br,aA,hpA,hcA,eq_self,if_true,if_false,↓reduceIte]) (h_.v rfl) (h_.n 14 rfl) Ub) rfl) ?_
  exact zN
  refine (?_:AC _ _ _ _ _)
  refine AC.wk (Qbd (q:=3) (t:=14) (p:=e.1.toNat*1+0) rfl (by simp only[ovr,br,aA,hpA,hcA,eq_self,if_true,if_false,↓reduceIte]) rfl) ?_
  refine AC.wk (QaW (q:=3) (e:=(.sl 3 .int)) ((Z6 n.toNat (l.take k)).set e.1.toNat (ys++[e.2])) rfl (by simp only[aA]) (by simp only[ovr,db]; exact QgX hys)) ?_
  iterate 3 refine w_ ?_
  refine Qd ?_
  refine l0_ ?_
  exact Wk.of [] rfl ⟨rfl,rfl,rfl,rfl,rfl,rfl,rfl,trivial⟩ ⟨rfl,(Qk (Qgo hx31 hys)),trivial⟩ rfl rfl
end Go.Proofs.YtfkmmpfdncopdaaGreat
namespace Go.Proofs.YtfkmmpfdncopdaaGreat
open Go.RowKit
set_option maxRecDepth 100000
set_option maxHeartbeats 4000000
section
variable {c:DSg}{a:DAr}{x y:ByteArray}{k:Nat}
theorem QhF (h:¬(0≤a.1∧a.1≤(c.2.1.length:Int) - 1)):¬YH c a:=fun g=>h g.1
theorem Qh0 (h:¬(0≤a.2.2.2∧a.2.2.2≤(c.2.1.length:Int) - 1)):¬YH c a:=fun g=>h g.2.1
theorem QhX (h:¬VS (c.1.length:Int) (a.2.1,a.2.2.1)):¬YH c a:=fun g=>h g.2.2.1
theorem Qhg (hx:c.2.1[a.1.toNat]? =some x)(hy:c.2.1[a.2.2.2.toNat]? =some y)(h:¬Fit a x y):¬YH c a:=fun g=>h (by have:=g.2.2.2; rwa [XC hx,XC hy] at this)
theorem QnX (h1:0≤a.1∧a.1≤(c.2.1.length:Int) - 1)(h2:0≤a.2.2.2∧a.2.2.2≤(c.2.1.length:Int) - 1)(h3:VS (c.1.length:Int) (a.2.1,a.2.2.1))(hx:c.2.1[a.1.toNat]? =some x)(hy:c.2.1[a.2.2.2.toNat]? =some y)(h:Fit a x y):YH c a:=
  ⟨h1,h2,h3,by rw[XC hx,XC hy]; exact h⟩
end
theorem YK (c:(List (ByteArray×Int))×List ByteArray×(List (Int×Int×Bool×Int)))[∀c,Decidable (SgOk c)]:FC Tryz.prog 62 [(true,[.dat (.sl 203 (.pr .str .int)) c.1, .dat (.sl 9 .str) c.2.1, .dat (.sl 136 (.pr .int (.pr .int (.pr .bool .int)))) c.2.2])] [] 0 (QU (lB (decide (SgOk c)))):=by
 classical
 refine Qj Tryz.func62 rfl rfl Tryz.ntmps62 fun O_ hO w0_ N0_ X_ h0_ f0_=> ?_
 refine w_ ?_
 refine xbx 0 ?_
 iterate 6 refine w_ ?_
 refine lc (dK (Kd c.1) Qg5) ?_
 iterate 2 refine w_ ?_
 cases hb1:(decide (YQ c.1))
 ·have hb1':=ab hb1
  iterate 17 refine w_ ?_
  refine Qb<|fqB hO ?_
  exact Ql5 (by assumption)
 ·have hb1':=ae hb1
  iterate 2 refine w_ ?_
  refine alL 14 fun hl2=> ?_
  refine w_ ?_
  refine lgy rfl rfl (dK (QX (c.2.1.length:Int) 1 300) ZV) ?_
  iterate 3 refine w_ ?_
  cases hb3:(decide (1≤(c.2.1.length:Int)∧(c.2.1.length:Int)≤300))
  ·have hb3':=ab hb3
   iterate 10 refine w_ ?_
   refine Qb<|fqB hO ?_
   exact Ql0 (by assumption)
  ·have hb3':=ae hb3
   iterate 2 refine w_ ?_
   refine alL 21 fun hl4=> ?_
   iterate 4 refine w_ ?_
   refine cd_ (fun hb5 hb5'=> ?_) fun hb5 hb5'=> ?_
   ·iterate 4 refine w_ ?_
    refine alL 26 fun hl6=> ?_
    iterate 8 refine w_ ?_
    refine alL 30 fun hl7=> ?_
    iterate 4 refine w_ ?_
    refine lpK c.2.1.length (fun k=>∀j,j < k→∀x,c.2.1[j]? =some x→ZN x (c.1.length:Int)) (fun k=>⟨[(1,lP 0 0),(3,lI ((c.2.1.length:Int) - 1)),(30,lf (.dat (.sl 9 .str) c.2.1)),(31,lI (c.2.1.length:Int)),(32,lI (k:Int))],[bx 0 28 [.dat (.sl 203 (.pr .str .int)) c.1, .dat (.sl 9 .str) c.2.1, .dat (.sl 136 (.pr .int (.pr .int (.pr .bool .int)))) c.2.2]]⟩) ((fun j hj=>absurd hj (bc j))) ?_ fun k hk8 hB=> ?_
    · exact Wk.of [] rfl ⟨rfl,rfl,rfl,rfl,rfl,trivial⟩ ⟨rfl,trivial⟩ rfl rfl
    iterate 4 refine w_ ?_
    cases hb9:(decide ((k:Int) < (c.2.1.length:Int)))
    ·have hb9':=ab hb9
     refine w_ ?_
     refine Qi ?_
     refine (?_:AC _ _ _ _ _)
     iterate 4 refine w_ ?_
     refine alL 44 fun hl10=> ?_
     iterate 4 refine w_ ?_
     refine lpK c.2.2.length (fun i=>∀j,j < i→∀a,c.2.2[j]? =some a→YH c a) (fun i=>⟨[(1,lP 0 0),(3,lI ((c.2.1.length:Int) - 1)),(44,lf (.dat (.sl 136 (.pr .int (.pr .int (.pr .bool .int)))) c.2.2)),(45,lI (c.2.2.length:Int)),(46,lI (i:Int))],[bx 0 28 [.dat (.sl 203 (.pr .str .int)) c.1, .dat (.sl 9 .str) c.2.1, .dat (.sl 136 (.pr .int (.pr .int (.pr .bool .int)))) c.2.2]]⟩) ((fun j hj=>absurd hj (bc j))) ?_ fun i hk11 hR=> ?_
     · exact Wk.of [] rfl ⟨rfl,rfl,rfl,rfl,rfl,trivial⟩ ⟨rfl,trivial⟩ rfl rfl
     iterate 4 refine w_ ?_
     cases hb12:(decide ((i:Int) < (c.2.2.length:Int)))
     ·have hb12':=ab hb12
      refine w_ ?_
      refine Qi ?_
      refine (?_:AC _ _ _ _ _)
      apply dW (i5 92 _ _ _ _ _ [io 97 (lf (.dat (.sl 258 (.pr .int .int)) (ZC c.2.2))),io 98 (lf (.dat (.sl 3 .int) (U0 (c.2.1.length:Int).toNat (ZC c.2.2)))),io 99 (lB ((U0 (c.2.1.length:Int).toNat (ZC c.2.2)).any (fun y=>decide ((-1)=y)))),io 100 _,io 2 _]) [0,0,0,7,7,7,0,0,0,0]
      iterate 5 refine z_ ?_
      refine zz (fun _ h_=>ac (dK (Jx c.2.2 (by omega)).frozen Qfy) rfl) ?_
      refine zz (fun _ h_=>ac (dK (Jh (c.2.1.length:Int) (ZC c.2.2) 0 (by omega) (Qak (fun a ha=>KW (YB hR (by omega) a ha))) (by simp only[ZC,aQ]; omega) rfl).frozen QfA) rfl) ?_
      refine zz (fun _ h_=>ac (dK (Wr (U0 (c.2.1.length:Int).toNat (ZC c.2.2)) (-1)) Qg1) rfl) ?_
      iterate 2 refine z_ ?_
      exact zN
      refine Qb<|fqB hO ?_
      exact (Qll (by omega) (Qak (fun a ha=>KW (YB hR (by omega) a ha)))).trans (QlW (by assumption) (by assumption) (by assumption) (YB hB (by omega)) (YB hR (by omega)))
     ·have hb12':=ae hb12
      iterate 5 refine w_ ?_
      obtain ⟨ar,hx14⟩:∃z,c.2.2[i]? =some z:=⟨_,aa (by omega)⟩
      iterate 2 refine w_ ?_
      refine lc (xal 1 (.pr .int (.pr .int (.pr .bool .int))) Vr) ?_
      iterate 2 refine w_ ?_
      cases hb15:(decide (0≤ar.1∧ar.1≤((c.2.1.length:Int) - 1)))
      ·have hb15':=ab hb15
       apply dW (i3 50 _ _ _ (io 53 (lB false) :: i9 54 _ _ _ _ _ _ _ _ _ (i9 63 _ _ _ _ _ _ _ _ _ (i9 72 _ _ _ _ _ _ _ _ _ (i9 81 _ _ _ _ _ _ _ _ _ [io 90 _]))))) [0,0,3,0,0,0,0,0,192,0,0,0,0,0,0,24576,24576,0,253952,253952,253952,0,0,0,0,0,33554432,33554432,234881024,234881024,33554432,33554432,4261412864,4261412864,17146314752,17146314752,4261412864,4261412864,0,0,0]
       iterate 3 refine z_ ?_
       refine zz (fun _ h_=>ac (QA (hb15) (dK (QX ar.1 0 ((c.2.1.length:Int) - 1)) ZV)) rfl) ?_
       iterate 37 refine z_ ?_
       exact zN
       iterate 4 refine w_ ?_
       refine Qb<|fqB hO ?_
       exact Qby hx14 (by first | exact QhF (by assumption) | exact Qh0 (by assumption) | exact QhX (by assumption) | exact Qhg (x:=cx) (y:=cy) (by assumption) (by assumption) (by assumption))
      ·have hb15':=ae hb15
       cases hb16:(decide (0≤ar.2.2.2∧ar.2.2.2≤((c.2.1.length:Int) - 1)))
       ·have hb16':=ab hb16
        apply dW (i3 50 _ _ _ (io 53 (lB true) :: i5 54 _ _ _ _ _ (io 59 (lB false) :: i9 60 _ _ _ _ _ _ _ _ _ (i9 69 _ _ _ _ _ _ _ _ _ (i9 78 _ _ _ _ _ _ _ _ _ (i4 87 _ _ _ _ [])))))) [0,0,3,0,0,0,0,0,192,0,0,0,0,0,0,24576,24576,0,253952,253952,253952,0,0,0,0,0,33554432,33554432,234881024,234881024,33554432,33554432,4261412864,4261412864,17146314752,17146314752,4261412864,4261412864,0,0,0]
        iterate 3 refine z_ ?_
        refine zz (fun _ h_=>ac (QA (hb15) (dK (QX ar.1 0 ((c.2.1.length:Int) - 1)) ZV)) rfl) ?_
        iterate 5 refine z_ ?_
        refine zz (fun _ h_=>day rfl (h_.k rfl) (QA (hb16) (dK (QX ar.2.2.2 0 ((c.2.1.length:Int) - 1)) ZV)) rfl) ?_
        iterate 31 refine z_ ?_
        exact zN
        iterate 4 refine w_ ?_
        refine Qb<|fqB hO ?_
        exact Qby hx14 (by first | exact QhF (by assumption) | exact Qh0 (by assumption) | exact QhX (by assumption) | exact Qhg (x:=cx) (y:=cy) (by assumption) (by assumption) (by assumption))
       ·have hb16':=ae hb16
        cases hb17:(decide (VS (c.1.length:Int) (ar.2.1,ar.2.2.1)))
        ·have hb17':=ab hb17
         apply dW (i3 50 _ _ _ (io 53 (lB true) :: i5 54 _ _ _ _ _ (io 59 (lB true) :: i7 60 _ _ _ _ _ _ _ (io 67 (ag [dI ar.2.1,dB ar.2.2.1]) :: i3 68 _ _ _ (io 71 (lB false) :: i9 72 _ _ _ _ _ _ _ _ _ (i9 81 _ _ _ _ _ _ _ _ _ [io 90 _])))))) [0,0,3,0,0,0,0,0,192,0,0,0,0,0,0,24576,24576,0,253952,253952,253952,0,0,0,0,0,33554432,33554432,234881024,234881024,33554432,33554432,4261412864,4261412864,17146314752,17146314752,4261412864,4261412864,0,0,0]
         iterate 3 refine z_ ?_
         refine zz (fun _ h_=>ac (QA (hb15) (dK (QX ar.1 0 ((c.2.1.length:Int) - 1)) ZV)) rfl) ?_
         iterate 5 refine z_ ?_
         refine zz (fun _ h_=>day rfl (h_.k rfl) (QA (hb16) (dK (QX ar.2.2.2 0 ((c.2.1.length:Int) - 1)) ZV)) rfl) ?_
         iterate 7 refine z_ ?_
         refine zz (fun _ h_=>day rfl (h_.k rfl) (Qn Ux ⟨_,_,rfl,(h_.w rfl),⟨_,_,rfl,(h_.w rfl),rfl⟩⟩ (aw.1 rfl) rfl rfl) rfl) ?_
         iterate 3 refine z_ ?_
         refine zz (fun _ h_=>day rfl (h_.k rfl) (QA (hb17) (dK (V1 (ar.2.1,ar.2.2.1) (c.1.length:Int) (by have:=(‹YQ c.1›).2.2; omega)) Qa7)) rfl) ?_
         iterate 19 refine z_ ?_
         exact zN
         iterate 4 refine w_ ?_
         refine Qb<|fqB hO ?_
         exact Qby hx14 (by first | exact QhF (by assumption) | exact Qh0 (by assumption) | exact QhX (by assumption) | exact Qhg (x:=cx) (y:=cy) (by assumption) (by assumption) (by assumption))
        ·have hb17':=ae hb17
         obtain ⟨cx,hx19⟩:∃z,c.2.1[(ar.1).toNat]? =some z:=⟨_,aa (by omega)⟩
         have hzcx:ZN cx (c.1.length:Int)→cx.size=c.1.length:=fun h=>by have:=h.2; omega
         have hwcx:c.2.1.length≤k→cx.size=c.1.length:=fun h=>hzcx (YB hB h _ (ao hx19))
         obtain ⟨cy,hx21⟩:∃z,c.2.1[(ar.2.2.2).toNat]? =some z:=⟨_,aa (by omega)⟩
         have hzcy:ZN cy (c.1.length:Int)→cy.size=c.1.length:=fun h=>by have:=h.2; omega
         have hwcy:c.2.1.length≤k→cy.size=c.1.length:=fun h=>hzcy (YB hB h _ (ao hx21))
         apply dW (i3 50 _ _ _ (io 53 (lB true) :: i5 54 _ _ _ _ _ (io 59 (lB true) :: i7 60 _ _ _ _ _ _ _ (io 67 (ag [dI ar.2.1,dB ar.2.2.1]) :: i3 68 _ _ _ (io 71 (lB true) :: i9 72 _ _ _ _ _ _ _ _ _ (i7 81 _ _ _ _ _ _ _ (io 88 (lB (decide (Fit ar cx cy))) :: i2 89 _ _ []))))))) [0,0,3,0,0,0,0,0,192,0,0,0,0,0,0,24576,24576,0,253952,253952,253952,0,0,0,0,0,33554432,33554432,234881024,234881024,33554432,33554432,4261412864,4261412864,17146314752,17146314752,4261412864,4261412864,0,0,0]
         iterate 3 refine z_ ?_
         refine zz (fun _ h_=>ac (QA (hb15) (dK (QX ar.1 0 ((c.2.1.length:Int) - 1)) ZV)) rfl) ?_
         iterate 5 refine z_ ?_
         refine zz (fun _ h_=>day rfl (h_.k rfl) (QA (hb16) (dK (QX ar.2.2.2 0 ((c.2.1.length:Int) - 1)) ZV)) rfl) ?_
         iterate 7 refine z_ ?_
         refine zz (fun _ h_=>day rfl (h_.k rfl) (Qn Ux ⟨_,_,rfl,(h_.w rfl),⟨_,_,rfl,(h_.w rfl),rfl⟩⟩ (aw.1 rfl) rfl rfl) rfl) ?_
         iterate 3 refine z_ ?_
         refine zz (fun _ h_=>day rfl (h_.k rfl) (QA (hb17) (dK (V1 (ar.2.1,ar.2.2.1) (c.1.length:Int) (by have:=(‹YQ c.1›).2.2; omega)) Qa7)) rfl) ?_
         iterate 16 refine z_ ?_
         refine zz (fun _ h_=>day rfl (h_.k rfl) (dK (Ja ar cx cy (by have:=hwcx (by omega); have:=hwcy (by omega); omega)) Qgm) rfl) ?_
         iterate 2 refine z_ ?_
         exact zN
         cases hb22:(decide (Fit ar cx cy))
         ·have hb22':=ab hb22
          iterate 4 refine w_ ?_
          refine Qb<|fqB hO ?_
          exact Qby hx14 (by first | exact QhF (by assumption) | exact Qh0 (by assumption) | exact QhX (by assumption) | exact Qhg (x:=cx) (y:=cy) (by assumption) (by assumption) (by assumption))
         ·have hb22':=ae hb22
          refine w_ ?_
          refine AC.skip ?_
          refine (?_:AC _ _ _ _ _)
          iterate 3 refine w_ ?_
          refine Qd ?_
          refine lK_ ((Y5 hR hx14 (QnX (by assumption) (by assumption) (by assumption) (x:=cx) (y:=cy) (by assumption) (by assumption) (by assumption)))) ?_
          exact Wk.of [] rfl ⟨rfl,rfl,rfl,rfl,rfl,trivial⟩ ⟨rfl,trivial⟩ rfl rfl
    ·have hb9':=ae hb9
     iterate 5 refine w_ ?_
     obtain ⟨x23,hx24⟩:∃z,c.2.1[k]? =some z:=⟨_,aa (by omega)⟩
     have hzx23:ZN x23 (c.1.length:Int)→x23.size=c.1.length:=fun h=>by have:=h.2; omega
     have hwx23:c.2.1.length≤k→x23.size=c.1.length:=fun h=>hzx23 (YB hB h _ (ao hx24))
     iterate 8 refine w_ ?_
     refine alL 38 fun hl25=> ?_
     refine w_ ?_
     refine lc (dK (Qbc x23 (c.1.length:Int)) QgA) ?_
     iterate 2 refine w_ ?_
     cases hb26:(decide (ZN x23 (c.1.length:Int)))
     ·have hb26':=ab hb26
      iterate 4 refine w_ ?_
      refine Qb<|fqB hO ?_
      exact Ql2 hx24 (by assumption)
     ·have hb26':=ae hb26
      refine w_ ?_
      refine AC.skip ?_
      refine (?_:AC _ _ _ _ _)
      iterate 3 refine w_ ?_
      refine Qd ?_
      refine lK_ ((Y5 hB hx24 (by assumption))) ?_
      exact Wk.of [] rfl ⟨rfl,rfl,rfl,rfl,rfl,trivial⟩ ⟨rfl,trivial⟩ rfl rfl
   ·iterate 3 refine w_ ?_
    refine Qb<|fqB hO ?_
    exact QkN (by assumption)
end Go.Proofs.YtfkmmpfdncopdaaGreat
namespace Go.Proofs.YtfkmmpfdncopdaaGreat
open Go.RowKit
set_option maxRecDepth 100000
set_option maxHeartbeats 4000000
def QqK (a b:UInt8):Bool:=decide (a=b)||(decide (a=48)&&decide (b=43))||(decide (a=43)&&decide (b=49))||(decide (a=49)&&decide (b=45))||(decide (a=45)&&decide (b=48))||(decide (a=43)&&decide (b=45))||(decide (a=45)&&decide (b=43))
def QnK (s:ByteArray):Prop:=∀x∈s.toList,x=48∨x=43∨x=49∨x=45
instance (s:ByteArray):Decidable (QnK s):=inferInstanceAs (Decidable (∀x∈s.toList,x=48∨x=43∨x=49∨x=45))
def SignsOk (c:DSg)(s:ByteArray):Prop:=QnK s∧s.size=c.2.1.length∧SgOk c
instance (c:DSg) (s:ByteArray) [Decidable (SgOk c)]:Decidable (SignsOk c s):=inferInstanceAs (Decidable (_∧_))
def QnB (c:DSg)(s:ByteArray):Bool:=c.2.2.all fun a=>QqK (bAt s a.1) (bAt s a.2.2.2)
def QqO (s:ByteArray)(a:DAr):Bool:=(decide (bAt s a.1=43)&&(decide (bAt s a.2.2.2=49)||decide (bAt s a.2.2.2=45)))||(decide (bAt s a.1=45)&&(decide (bAt s a.2.2.2=48)||decide (bAt s a.2.2.2=43)))
def okP (c:DSg)(s:ByteArray)[Decidable (SgOk c)]:Bool:=decide (SignsOk c s)&&QnB c s
def Qrx (as_:List DAr)(q:Int):List DAr:=as_.filter fun a=>decide (a.1=q)
def QqD:ByteArray:=⟨#[48,43,49,45,48]⟩
section
variable {a b x:UInt8}{k i:Nat}{s:ByteArray}{c:DSg}{l:List DAr}{e:DAr}{q:Int}
section
variable [Decidable (SignsOk c s)]
end
theorem SignsOk.at_ (h:SignsOk c s)(ha:e∈c.2.2):(0≤e.1∧e.1 < (s.size:Int))∧0≤e.2.2.2∧e.2.2.2 < (s.size:Int):=by
  have h1:=KW (h.2.2.arcs e ha)
  rw[h.2.1]
  exact h1
end
end Go.Proofs.YtfkmmpfdncopdaaGreat
namespace Go.Proofs.YtfkmmpfdncopdaaGreat
open Go.RowKit
set_option maxRecDepth 100000
set_option maxHeartbeats 4000000
def DelI {α:Type _}(p:α→Bool)(l0 l:List α)(i j:Int):Prop:=(0≤i∧i < j∧j≤(l.length:Int))∧l.length=l0.length∧l.take i.toNat=(l0.take j.toNat).filter p∧l.drop j.toNat=l0.drop j.toNat
section
variable {α:Type _}{p f:α→Bool}{l0 l:List α}{i j:Int}{x:α}
theorem Kw (f:α→Bool)(l:List α):(Zb f l= -1∧∀x∈l,f x=false)∨∃(k:Nat) (x:α),Zb f l=(k:Int)∧l[k]? =some x∧f x=true∧NoneTo f l k:=by
  unfold Zb
  cases h:l.findIdx? f with
  | none=>exact .inl ⟨rfl,fun x hx=>by simpa using cu.1 h x hx⟩
  | some k=>
    obtain ⟨h1,h2,h3⟩:=bT.1 h
    exact .inr ⟨k,l[k],rfl,aa h1,h2,fun j hj y hy=>by
      obtain ⟨h4,h5⟩:=aj.1 hy
      have:=h3 j hj
      rw[h5] at this
      simpa using this⟩
theorem Qkw (f:α→Bool)(l:List α): -1≤Zb f l∧Zb f l < (l.length:Int):=by
  rcases Kw f l with ⟨h,_⟩ | ⟨k,x,h,h2,_⟩
  · omega
  · have := (aj.1 h2).1
    omega
theorem QeB (h:Zb f l= -1):l=l.filter fun x=> !f x:=by
  rcases Kw f l with ⟨_,h2⟩ | ⟨k,_,h2,_⟩
  · exact (cB.2 fun x hx=>by rw[h2 x hx]; rfl).symm
  · omega
theorem DelI.start (h:¬Zb f l= -1):DelI (fun x=> !f x) l l (Zb f l) (Zb f l+1):=by
  rcases Kw f l with ⟨h2,_⟩ | ⟨k,x,h2,h3,h4,h5⟩
  · exact absurd h2 h
  · have hk := (aj.1 h3).1
    rw[h2]
    refine ⟨by omega,rfl, ?_,rfl⟩
    rw[show ((k:Int)+1).toNat=k+1 by omega,show ((k:Int)).toNat=k by omega,Q0 h3,bA]
    have:([x].filter fun x=> !f x)=[]:=by simp[h4]
    rw[this,bH]
    refine (cB.2 fun y hy=> ?_).symm
    obtain ⟨n,hn⟩:=aM.1 hy
    have hn2:=(aj.1 hn).1
    rw[ap] at hn2
    rw[List.getElem?_take_of_lt (by omega)] at hn
    rw[h5 n (by omega) y hn]; rfl
theorem DelI.at_ (h:DelI p l0 l i j)(hx:l[j.toNat]? =some x):l0[j.toNat]? =some x:=by
  obtain ⟨h1,h2,h3,h4⟩:=h
  have:=congrArg (fun l:List α=>l[0]?) h4
  simpa [hx] using this.symm
theorem DelI.lt (h:DelI p l0 l i j)(hx:l[j.toNat]? =some x):j < (l.length:Int):=by
  have:=(aj.1 hx).1
  obtain ⟨h1,_⟩:=h
  omega
theorem DelI.drop_ (h:DelI p l0 l i j)(hx:l[j.toNat]? =some x)(hp:p x=false):DelI p l0 l i (j+1):=by
  have h0:=h.at_ hx
  have hl:=h.lt hx
  obtain ⟨h1,h2,h3,h4⟩:=h
  refine ⟨by omega,h2, ?_, ?_⟩
  · rw[show (j+1).toNat=j.toNat+1 by omega,Q0 h0,bA,h3]; simp[hp]
  · have := congrArg (List.drop 1) h4
    rw[cV,cV] at this
    rw[show (j+1).toNat=j.toNat+1 by omega]
    exact this
theorem DelI.keep (h:DelI p l0 l i j)(hx:l[j.toNat]? =some x)(hp:p x=true):DelI p l0 (l.set i.toNat x) (i+1) (j+1):=by
  have h0:=h.at_ hx
  have hl:=h.lt hx
  obtain ⟨h1,h2,h3,h4⟩:=h
  refine ⟨by rw[aA]; omega,by rw[aA]; exact h2, ?_, ?_⟩
  · have hg : (l.set i.toNat x)[i.toNat]? = some x := aU (by omega)
    rw[show (j+1).toNat=j.toNat+1 by omega,show (i+1).toNat=i.toNat+1 by omega,Q0 hg,Q0 h0,bA,List.take_set_of_le (aO _),h3]
    simp[hp]
  · have := congrArg (List.drop 1) h4
    rw[cV,cV] at this
    rw[show (j+1).toNat=j.toNat+1 by omega,List.drop_set_of_lt (by omega)]
    exact this
theorem DelI.end_ {z:List α}(h:DelI p l0 l i j)(hj:¬j < (l.length:Int))(n:Nat)(hn:n=i.toNat):(l.take i.toNat++z).take n=l0.filter p:=by
  obtain ⟨h1,h2,h3,h4⟩:=h
  subst hn
  rw[List.take_left' (by rw[ap]; omega),h3,b7 (by omega)]
end
theorem JR (l:List (ByteArray×Int))(name:ByteArray):FC Tryz.prog 361 [(false,[.dat (.sl 203 (.pr .str .int)) l]),(false,[dS name])] [] 0 (QU (lI (Zb (fun x:Qy=>decide (x.1=name)) l))):=by
 refine Qj Tryz.func361 rfl rfl Tryz.ntmps361 fun O_ hO w0_ N0_ X_ h0_ f0_=> ?_
 iterate 6 refine w_ ?_
 refine alL 7 fun hl1=> ?_
 iterate 4 refine w_ ?_
 refine lpK l.length (fun k=>NoneTo (fun x:Qy=>decide (x.1=name)) l k) (fun k=>⟨[(1,lf (dS name)),(7,lf (.dat (.sl 203 (.pr .str .int)) l)),(8,lI (l.length:Int)),(9,lI (k:Int))],[]⟩) (NoneTo.zero) ?_ fun k hk2 hno=> ?_
 · exact Wk.of [] rfl ⟨rfl,rfl,rfl,rfl,trivial⟩ trivial rfl rfl
 iterate 4 refine w_ ?_
 cases hb3:(decide ((k:Int) < (l.length:Int)))
 ·have hb3':=ab hb3
  refine w_ ?_
  refine Qi ?_
  refine (?_:AC _ _ _ _ _)
  iterate 3 refine w_ ?_
  refine Qb<|fqI hO ?_
  first | exact (hno.no (by omega)).symm
 ·have hb3':=ae hb3
  iterate 6 refine w_ ?_
  obtain ⟨x4,hx5⟩:∃z,l[k]? =some z:=⟨_,aa (by omega)⟩
  iterate 2 refine w_ ?_
  refine lc (xal 0 (.pr .str .int) KT) ?_
  iterate 9 refine w_ ?_
  cases hb6:(decide (x4.1=name))
  ·have hb6':=ab hb6
   refine w_ ?_
   refine AC.skip ?_
   refine (?_:AC _ _ _ _ _)
   iterate 3 refine w_ ?_
   refine Qd ?_
   refine lK_ (hno.step hx5 (by assumption)) ?_
   exact Wk.of [] rfl ⟨rfl,rfl,rfl,rfl,trivial⟩ trivial rfl rfl
  ·have hb6':=ae hb6
   iterate 5 refine w_ ?_
   refine Qb<|fqI hO ?_
   exact (hno.at hx5 (by assumption)).symm
end Go.Proofs.YtfkmmpfdncopdaaGreat
namespace Go.Proofs.YtfkmmpfdncopdaaGreat
open Go.RowKit
theorem HU:∀{t:Ty} {w:World} {cs:List Value} {x y:t.Den},Rep t w cs x→Rep t w cs y→x=y
  | .int,_,_,x,y,h,k=>by have h1:=h.1; have h2:=k.1; rw[h1] at h2; simpa using h2
  | .bool,_,_,x,y,h,k=>by have h1:_=_:=h; have h2:_=_:=k; rw[h1] at h2; simpa using h2
  | .str,_,_,x,y,h,k=>by have h1:=h.1; have h2:=k.1; rw[h1] at h2; simpa using h2
  | .u8,_,_,x,y,h,k=>by
    have h1:_=_:=h; have h2:_=_:=k; rw[h1] at h2
    simp only[aI,Value.int.injEq,and_true,true_and] at h2
    exact UInt8.toNat_inj.1 (by omega)
  | .vl,_,_,x,y,h,k=>by
    have h1:_=_:=h; have h2:_=_:=k; rw[h1] at h2
    exact Qh1 (by simpa using h2)
  | .sl E e,w,cs,xs,ys,⟨A,c,h1,h2,h3,h4⟩,⟨A',c',k1,k2,k3,k4⟩=>by
    rw[h1] at k1
    simp only[aI,Value.slice.injEq,and_true] at k1
    obtain ⟨rfl,hl,rfl⟩:=k1
    apply bt
    intro i
    rcases cG i xs.length with hi | hi
    · obtain ⟨b, o, e1, g1⟩ := h4 (by omega)
      obtain ⟨b',o',e2,g2⟩:=k4 (by omega)
      rw[e1] at e2
      cases e2
      obtain ⟨ds,r1,r2⟩:=g1 i xs[i] (aa hi)
      obtain ⟨ds',s1,s2⟩:=g2 i ys[i] (aa (by omega))
      have hd:ds=ds':=by
        apply bt
        intro j
        have l1:=r1.len
        have l2:=s1.len
        rcases cG j e.wd with hj | hj
        · have a1 := r2 j ds[j] (aa (by omega))
          have a2:=s2 j ds'[j] (aa (by omega))
          rw[a1] at a2
          rw[aa (by omega),aa (by omega)]
          exact a2
        · rw[bl (by omega),bl (by omega)]
      subst hd
      rw[aa hi,aa (by omega),HU r1 s1]
    · rw[bl hi,bl (by omega)]
  | .pr a b,w,cs,x,y,⟨l,r,h1,h2,h3⟩,⟨l',r',k1,k2,k3⟩=>by
    rw[h1] at k1
    obtain ⟨rfl,rfl⟩:=List.append_inj k1 (by rw[h2.len,k2.len])
    exact Prod.ext (HU h2 k2) (HU h3 k3)
theorem QoQ {E:TypeId}{e:Ty}{w:World}{fp:List Nat}{cs:List Value}{x:List e.Den}(h:Own (.sl E e) w fp cs x):∃v:Hdr,cs=[hdV v]:=by
  rcases h with ⟨_,h,_⟩ | ⟨g,cap,cur,fps,_,h,_⟩
  · exact ⟨none,h⟩
  · exact ⟨some (g,0,x.length,cap),h⟩
open Classical in
noncomputable def rdF (E:TypeId) (e:Ty) (w:World) (v:Hdr):List e.Den:=if h:∃x,Rep (.sl E e) w [hdV v] x then h.choose else []
theorem Qoi {E:TypeId}{e:Ty}{w:World}{v:Hdr}{x:List e.Den}(h:Rep (.sl E e) w [hdV v] x):rdF E e w v=x:=by
  have hx:∃x,Rep (.sl E e) w [hdV v] x:=⟨x,h⟩
  unfold rdF
  rw[dif_pos hx]
  exact HU hx.choose_spec h
theorem QhG {E:TypeId}{e:Ty}{w:World}{f:Hdr→List e.Den}:∀{vs:List Hdr} {fp:List Nat},OwnL (Own (.sl E e) w) fp (vs.map hdV) (vs.map f)→∀v∈vs,∃fv,Own (.sl E e) w fv [hdV v] (f v)∧∀g∈fv,g∈fp
  | [],_,_,v,hv=>by cases hv
  | u :: vs,fp,h,v,hv=>by
    obtain ⟨f1,f2,c1,c2,rfl,h2,h3,h4⟩:=h
    obtain ⟨z,rfl⟩:=QoQ h3
    simp only[bg,cD,cI,aI] at h2
    obtain ⟨h5,rfl⟩:=h2
    rcases aC.1 hv with rfl | hv
    · exact ⟨f1,by rw[h5]; exact h3,fun g hg=>aP _ hg⟩
    · obtain ⟨fv, k1, k2⟩ := QhG h4 v hv
      exact ⟨fv,k1,fun g hg=>aR _ (k2 g hg)⟩
section
variable {A:Amb}{P:Program}{s:St}{Q:Exit→St→Prop}{c:Code}
theorem Evl.pl {x:Operand}{p:Nat}{e:Ty}{vs:List Hdr}{f:Hdr→e.Den}{v:Hdr}(hx:Evl A s x (.dat .vl v))(hp:s.tab.ent p=some (.pl false e vs f))(hv:v∈vs):Evl A s x (.dat e (f v)):=fun gh a w r=>by
  obtain ⟨_,_,h3⟩:=r.cx.en p _ hp
  have h1:Rd gh.N .vl w [a.eval x] v:=hx gh a w r
  have h2:[a.eval x]=[hdV v]:=h1.rep
  show Rd gh.N e w [a.eval x] (f v)
  rw[h2]
  exact h3 v hv
end
end Go.Proofs.YtfkmmpfdncopdaaGreat
namespace Go.Proofs.YtfkmmpfdncopdaaGreat
open Go.RowKit
section
variable {α:Type}[DecidableEq α][Inhabited α]
omit [Inhabited α] in
theorem Qca (y:α):∀l:List α,Zz (l++[y])=Zz l++(if l.getLast? =some y then [] else [y])
  | []=>by simp[Zz]
  | [x]=>by
    by_cases h:x=y
    · simp[Zz,h]
    · simp[Zz,h]
  | x :: z :: l=>by
    have ih:=Qca y (z :: l)
    have hl:(x :: z :: l).getLast? =(z :: l).getLast? :=by simp
    rw[hl]
    show (if x=z then Zz ((z :: l)++[y]) else x :: Zz ((z :: l)++[y]))=(if x=z then Zz (z :: l) else x :: Zz (z :: l))++_
    rw[ih]
    split <;> simp
omit [Inhabited α] in
end
def QqI (P:Program)(f:FuncId):Prop:=∀(blk cap:Nat) (zs:List Int) (w:World),Sort.Holds (Value.int .i64) w blk 0 zs.toArray→zs.length≤9223372036854775807→zs.length≤cap→
  Calls P f #[.slice (some ⟨blk,0,none⟩) zs.length cap] w fun e w'=>e= .returned (.slice (some ⟨blk,0,none⟩) (Zz zs).length cap)∧∃q,w'=Sort.putRow (Value.int .i64) (Sort.ahead w q) blk 0 (Zz zs++List.replicate (zs.length - (Zz zs).length) 0).toArray
def QpE (P:Program)(f:FuncId):Prop:=∀w:World,Calls P f #[.slice none 0 0] w fun e w'=>e= .returned (.slice none 0 0)∧w'=w
def Qpc:Go.Shelf.Ren:=⟨fun | 189=>237 | 125=>240 | 257=>292 | 128=>302 | 129=>303 | 294=>339 | 295=>340 | 296=>341 | 297=>342 | 298=>343 | 299=>344 | 216=>345 | 300=>346 | 301=>347 | 328=>372 | 329=>349 | 330=>350 | 331=>373 | 332=>374 | 215=>375 | 343=>393 | n=>n,fun | 28=>35 | 3=>3 | 46=>252 | 0=>0 | 51=>314 | 53=>91 | 4=>4 | 183=>308 | 182=>307 | 131=>66 | 5=>5 | 9=>9 | 218=>341 | 222=>345 | 228=>360 | 229=>361 | n=>n,fun | n=>n⟩
def Qma:Go.Shelf.Ren:=⟨fun | 20=>238 | n=>n,fun | 22=>35 | 3=>3 | 4=>4 | 0=>0 | n=>n,fun | n=>n⟩
end Go.Proofs.YtfkmmpfdncopdaaGreat
namespace Go.Proofs.YtfkmmpfdncopdaaGreat
open Go.RowKit
section
variable {E:TypeId}{e:Ty}{w:World}{f:Hdr→List e.Den}
end
section
variable {A:Amb}{P:Program}{s:St}{Q:Exit→St→Prop}{c:Code}
theorem Qqs {x:Operand}{p:Nat}{E:TypeId}{e:Ty}{vs:List Hdr}{f:Hdr→List e.Den}{v:Hdr}(hx:Evl A s x (.dat .vl v))(hp:s.tab.ent p=some (.pl true (.sl E e) vs f))(hv:v∈vs):EvB A s x (false,[.dat (.sl E e) (f v)]):=fun gh a w r=>by
  obtain ⟨_,h3⟩:=r.cx.en p _ hp
  have h1:Rd gh.N .vl w [a.eval x] v:=hx gh a w r
  have h2:[a.eval x]=[hdV v]:=h1.rep
  obtain ⟨fv,k1,k2⟩:=QhG h3 v hv
  refine ⟨_,rfl, ?_⟩
  have h4:Own (.sl E e) w fv [a.eval x] (f v):=by rw[h2]; exact k1
  exact h4.rd fun g hg=>r.cx.lt ⟨_,hp⟩ g (k2 g hg)
end
section
variable {A:Amb}{P:Program}{s:St}{f:FuncId}{xs:List Operand}{tys:Array TypeId}{args:List (Bool×List LV)}{d:Nat}{ty:TypeId}{pos:String}{af:Array Edge}{g:Option (Nat×Bool)}{pv:PV}
end
end Go.Proofs.YtfkmmpfdncopdaaGreat
namespace Go.Proofs.YtfkmmpfdncopdaaGreat
open Go.RowKit
def ltP:List Int→List Int→Bool
  | [],[]=>false
  | [],_ :: _=>true
  | _ :: _,[]=>false
  | x :: a,y :: b=>if x < y then true else if y < x then false else ltP a b
def QpL (x y:Int):Int:=if x < y then -1 else if y < x then 1 else 0
def QqF:List Int→List Int→Int
  | [],[]=>0
  | [],_ :: _=> -1
  | _ :: _,[]=>1
  | x :: a,y :: b=>if QpL x y=0 then QqF a b else QpL x y
end Go.Proofs.YtfkmmpfdncopdaaGreat
