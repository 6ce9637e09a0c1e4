/- Walks over abstract states: distances. -/
import Derived.Test.YtjaadeknhofhpaaGreatWz
set_option linter.unusedSimpArgs false
set_option linter.unusedVariables false
set_option linter.unusedSectionVars false
namespace Go.Proofs.YtjaadeknhofhpaaGreat
open Go.RowKit
set_option maxRecDepth 100000
set_option maxHeartbeats 4000000
def QbV (l:List (List Int))(e:Int×Int):List (List Int):=l.modify e.1.toNat (· ++[e.2])
def ZC (n:Nat)(es:List (Int×Int)):List (List Int):=es.foldl QbV (List.replicate n [])
def bfT (o:Int):List Int→List Int×List Int→List Int×List Int
  | [],st=>st
  | t :: ts,st=>if (st.1[t.toNat]?).getD 0 < 0 then bfT o ts (st.1.set t.toNat ((st.1[o.toNat]?).getD 0+1),st.2++[t]) else bfT o ts st
def bfK (nx:List (List Int)):Nat→Nat→List Int×List Int→List Int
  | 0,_,st=>st.1
  | f+1,k,st=>match st.2[k]? with
    | none=>st.1
    | some o=>bfK nx f (k+1) (bfT o ((nx[o.toNat]?).getD []) st)
def Jq (n:Nat)(es:List (Int×Int)):List Int:=bfK (ZC n es) (n+1) 0 ((List.replicate n (-1)).set 0 0,[0])
def Qfi (l:List Int):Nat:=(l.filter (· < 0)).length
structure BI (n:Nat) (es:List (Int×Int)) (st:List Int×List Int):Prop where
  len:st.1.length=n
  cnt:Qfi st.1+st.2.length=n
  q:∀x∈st.2,(0≤x∧x < n)∧Rch es x∧∃v,st.1[x.toNat]? =some v∧0≤v
  nn:∀(i:Nat) v,st.1[i]? =some v→0≤v→(i:Int)∈st.2
  rng:∀v∈st.1, -1≤v∧v≤(st.2.length:Int)
section
variable {n k i f:Nat}{es:List (Int×Int)}{e:Int×Int}{l ts ys q out:List Int}{o t c w:Int}{nx:List (List Int)}{st:List Int×List Int}
theorem Qlx {α:Type _}{l:List α}{i:Nat}{x:α}{g:α→α}(h:l[i]? =some x):l.set i (g x)=l.modify i g:=by
  apply bz
  intro j
  rw[cF]
  by_cases e:i=j
  · subst e; rw[aR (ab.1 h).1,h]; simp
  · rw[aZ e]; simp[e]
theorem QoF {l:List (List Int)}:(es.foldl QbV l).length=l.length:=by
  induction es generalizing l with
  | nil=>rfl
  | cons e es ih=>rw[aS,ih]; simp[QbV]
theorem WO:(ZC n es).length=n:=by unfold ZC; rw[QoF]; simp
theorem Qd7 (hx:es[k]? =some e)(hy:(ZC n (es.take k))[e.1.toNat]? =some ys):(ZC n (es.take k)).set e.1.toNat (ys++[e.2])=ZC n (es.take (k+1)):=by
  rw[Qlx (g:=(· ++[e.2])) hy,QO hx]
  simp[ZC,b9,QbV]
theorem Qf9 {l:List (List Int)}{i:Nat}{t:Int}(hr:∀e∈es,0≤e.1):t∈((es.foldl QbV l)[i]?).getD []↔t∈(l[i]?).getD []∨(i < l.length∧((i:Int),t)∈es):=by
  induction es generalizing l with
  | nil=>simp
  | cons e es ih=>
    rw[aS,ih (fun e he=>hr e (ax _ he))]
    have h0:=hr e (aA ..)
    have hl:(QbV l e).length=l.length:=by simp[QbV]
    rw[hl]
    have h1:t∈((QbV l e)[i]?).getD []↔t∈(l[i]?).getD []∨(i < l.length∧((i:Int),t)=e):=by
      unfold QbV
      rw[cF]
      by_cases e2:e.1.toNat=i
      · cases h : l[i]? with
        | none=>
          have:=List.getElem?_eq_none_iff.1 h
          simp[e2]
          intro h3; omega
        | some x=>
          have:=(ab.1 h).1
          simp[e2,this]
          have:((i:Int),t)=e↔t=e.2:=⟨fun h=>by rw[← h],fun h=>Prod.ext (by show (i:Int)=e.1; omega) h⟩
          rw[this]
      · simp [e2]
        intro _ h3
        exact absurd (show e.1.toNat=i by rw[← h3]; rfl) e2
    rw[h1,aH]
    constructor
    · rintro ((h | ⟨h, h2⟩) | ⟨h, h2⟩)
      · exact .inl h
      · exact .inr ⟨h, .inl h2⟩
      · exact .inr ⟨h, .inr h2⟩
    · rintro (h | ⟨h, h2 | h2⟩)
      · exact .inl (.inl h)
      · exact .inl (.inr ⟨h,h2⟩)
      · exact .inr ⟨h,h2⟩
theorem Qgr {i:Nat}(hr:∀e∈es,InE n e)(hy:(ZC n es)[i]? =some ys):t∈ys↔((i:Int),t)∈es:=by
  have h:=Qf9 (l:=List.replicate n []) (i:=i) (t:=t) (es:=es) (fun e he=>(hr e he).1.1)
  have hi:i < n:=by have:=(ab.1 hy).1; rwa [WO] at this
  change t∈((ZC n es)[i]?).getD []↔_ at h
  rw[hy] at h
  simpa [hi] using h
theorem Qbz {i:Nat}(hy:(ZC n es)[i]? =some ys):ys.length≤es.length:=by
  have:∀(l:List (List Int)) (i:Nat) (ys:List Int),(es.foldl QbV l)[i]? =some ys→ys.length≤((l[i]?).getD []).length+es.length:=by
    clear hy
    induction es with
    | nil=>intro l i ys h; simp at h; simp[h]
    | cons e es ih=>
      intro l i ys h
      rw[aS] at h
      have:=ih _ _ _ h
      have h2:(((QbV l e)[i]?).getD []).length≤((l[i]?).getD []).length+1:=by
        unfold QbV
        rw[cF]
        cases hl:l[i]? with
        | none=>simp
        | some x=>by_cases e2:e.1.toNat=i <;> simp[e2]
      rw[ao]; omega
  have h:=this _ _ _ hy
  have h0:(((List.replicate n ([]:List Int))[i]?).getD []).length=0:=by
    rw[bI]; split <;> rfl
  omega
theorem Qro (hx:ts[i]? =some t)(hc:out[t.toNat]? =some c)(hn:c < 0)(ho:out[o.toNat]? =some w):bfT o (ts.drop i) (out,q)=bfT o (ts.drop (i+1)) (out.set t.toNat (w+1),q++[t]):=by
  rw[Yb hx,bfT]
  simp[hc,ho,hn]
theorem Qqi (hx:ts[i]? =some t)(hc:out[t.toNat]? =some c)(hn:¬c < 0):bfT o (ts.drop i) (out,q)=bfT o (ts.drop (i+1)) (out,q):=by
  rw[Yb hx,bfT]
  simp only[hc,ae,if_neg hn]
theorem QrJ (h:ts.length≤i):bfT o (ts.drop i) st=st:=by rw[bt h,bfT]
theorem Qs6 (hq:q[k]? =some o)(hy:nx[o.toNat]? =some ts)(hk:k < n+1):bfK nx (n+1 - k) k (out,q)=bfK nx (n+1 - (k+1)) (k+1) (bfT o (ts.drop 0) (out,q)):=by
  rw[show n+1 - k=(n+1 - (k+1))+1 by omega,bfK]
  simp[hq,hy]
theorem Qrj (h:q.length≤k):bfK nx f k (out,q)=out:=by
  cases f with
  | zero=>rfl
  | succ f=>rw[bfK]; simp[bu h]
theorem QiM {l:List Int}(h:l[i]? =some c)(hc:c < 0)(hw:0≤w):Qfi (l.set i w)+1=Qfi l:=by
  induction l generalizing i with
  | nil=>simp at h
  | cons x l ih=>
    cases i with
    | zero=>
      simp only[bJ,ba] at h
      subst h
      simp[Qfi,hc,show¬w < 0 by omega]
    | succ i=>
      have:=ih (i:=i) (by simpa using h)
      simp only[Qfi,cB,List.filter_cons] at this ⊢
      split <;> simp_all
theorem BI.step (h:BI n es (out,q))(hr:∀e∈es,InE n e)(ho:o∈q)(he:(o,t)∈es)(hc:out[t.toNat]? =some c)(hn:c < 0)(hw:out[o.toNat]? =some w):BI n es (out.set t.toNat (w+1),q++[t]):=by
  obtain ⟨h1,h2,h3,h4,h5⟩:=h
  have hw0:0≤w:=by
    obtain ⟨_,_,v,h6,h7⟩:=h3 o ho
    have h6:out[o.toNat]? =some v:=h6
    rw[hw] at h6; cases h6; exact h7
  have hw1:=h5 w (a8 hw)
  have htl:=(ab.1 hc).1
  obtain ⟨_,ht0,ht1⟩:=hr _ he
  have ht0:0≤t:=ht0
  have ht1:t < (n:Int):=ht1
  refine ⟨by simpa using h1, ?_, ?_, ?_, ?_⟩
  · have h6 := QiM hc hn (show 0 ≤ w + 1 by omega)
    have h2:Qfi out+q.length=n:=h2
    show Qfi (out.set t.toNat (w+1))+(q++[t]).length=n
    rw[aa,List.length_singleton]; omega
  · intro x hx
    show (0≤x∧x < n)∧Rch es x∧∃v,(out.set t.toNat (w+1))[x.toNat]? =some v∧0≤v
    rcases aL.1 hx with hx | hx
    · obtain ⟨h6, h7, v, h8, h9⟩ := h3 x hx
      refine ⟨h6,h7, ?_⟩
      by_cases e2:t.toNat=x.toNat
      · exact ⟨w+1,by rw[← e2,aR htl],by omega⟩
      · exact ⟨v,by rw[aZ e2]; exact h8,h9⟩
    · rw [aK] at hx
      subst hx
      exact ⟨⟨ht0,ht1⟩, .step (h3 o ho).2.1 he,w+1,aR htl,by omega⟩
  · intro i v hv h0
    have hv:(out.set t.toNat (w+1))[i]? =some v:=hv
    show (i:Int)∈q++[t]
    by_cases e2:t.toNat=i
    · exact aL.2 (.inr (by rw[aK]; omega))
    · rw [aZ e2] at hv
      exact aL.2 (.inl (h4 i v hv h0))
  · intro v hv
    show -1≤v∧v≤((q++[t]).length:Int)
    rw[aa,List.length_singleton]
    have hw1':w≤(q.length:Int):=hw1.2
    rcases bV hv with h6 | h6
    · have h7 := h5 v h6
      have h8:v≤(q.length:Int):=h7.2
      omega
    · omega
theorem BI.q_le (h:BI n es (out,q)):q.length≤n:=by have:=h.cnt; simp only at this; omega
theorem BI.at_ (h:BI n es (out,q))(hq:q[k]? =some o):(0≤o∧o < n)∧o∈q:=⟨(h.q o (a8 hq)).1,a8 hq⟩
theorem Qg3 (hr:∀e∈es,InE n e):∀(ts:List Int) (st:List Int×List Int),BI n es st→o∈st.2→(∀t∈ts,(o,t)∈es)→BI n es (bfT o ts st)∧(∃r,(bfT o ts st).2=st.2++r)∧∀t∈ts,t∈(bfT o ts st).2
  | [],st,h,_,_=>⟨h,⟨[],by simp[bfT]⟩,fun t ht=>by cases ht⟩
  | t :: ts,st,h,ho,he=>by
    have he1:=he t (aA ..)
    obtain ⟨_,ht0,ht1⟩:=hr _ he1
    have ht0:0≤t:=ht0
    have ht1:t < (n:Int):=ht1
    obtain ⟨c,hc⟩:∃c,st.1[t.toNat]? =some c:=⟨_,ai (by rw[h.len]; omega)⟩
    obtain ⟨w,hw,_⟩:=(h.q o ho).2.2
    rw[bfT,hc,hw]
    simp only[ae]
    split
    · rename_i hn
      have h2:=BI.step (out:=st.1) (q:=st.2) h hr ho he1 hc hn hw
      obtain ⟨g1,⟨r,g2⟩,g3⟩:=Qg3 hr ts _ h2 (aL.2 (.inl ho)) (fun t ht=>he t (ax _ ht))
      refine ⟨g1,⟨[t]++r,by rw[g2]; simp⟩,fun x hx=> ?_⟩
      rcases aH.1 hx with rfl | hx
      · rw[g2]; simp
      · exact g3 x hx
    · rename_i hn
      obtain ⟨g1,⟨r,g2⟩,g3⟩:=Qg3 hr ts st h ho (fun t ht=>he t (ax _ ht))
      refine ⟨g1,⟨r,g2⟩,fun x hx=> ?_⟩
      rcases aH.1 hx with rfl | hx
      · have := h.nn _ _ hc (by omega)
        rw[show ((x.toNat:Nat):Int)=x by omega] at this
        rw[g2]; exact aL.2 (.inl this)
      · exact g3 x hx
theorem Qm4 (hr:∀e∈es,InE n e):∀(f k:Nat) (st:List Int×List Int),BI n es st→n+1≤f+k→k≤st.2.length→(∀j o,j < k→st.2[j]? =some o→∀t,(o,t)∈es→t∈st.2)→
    ∃r,BI n es (bfK (ZC n es) f k st,st.2++r)∧∀o∈st.2++r,∀t,(o,t)∈es→t∈st.2++r
  | 0,k,st,h,hf,hk,_=>by have:=BI.q_le (out:=st.1) (q:=st.2) h; omega
  | f+1,k,st,h,hf,hk,hcl=>by
    rw[bfK]
    cases hq:st.2[k]? with
    | none=>
      refine ⟨[],by simpa using h,fun o ho t ht=> ?_⟩
      rw[bo] at ho ⊢
      obtain ⟨j,hj⟩:=aJ.1 ho
      have h1:=(ab.1 hj).1
      have h2:=List.getElem?_eq_none_iff.1 hq
      exact hcl j o (by omega) hj t ht
    | some o=>
      simp only
      have ho:=a8 hq
      obtain ⟨ho0,ho1⟩:=(h.q o ho).1
      obtain ⟨ys,hy⟩:∃ys,(ZC n es)[o.toNat]? =some ys:=⟨_,ai (by rw[WO]; omega)⟩
      rw[hy,ae]
      have hm:∀t,t∈ys↔(o,t)∈es:=fun t=>by
        have:=Qgr (t:=t) hr hy
        rwa [show ((o.toNat:Nat):Int)=o by omega] at this
      obtain ⟨g1,⟨r,g2⟩,g3⟩:=Qg3 hr ys st h ho (fun t ht=>(hm t).1 ht)
      have hkl:=(ab.1 hq).1
      obtain ⟨r2,k1,k2⟩:=Qm4 hr f (k+1) (bfT o ys st) g1 (by omega) (by rw[g2,aa]; omega) (fun j o' hj hjo t ht=>by
        rw[g2] at hjo ⊢
        rw[bd (by omega)] at hjo
        by_cases e2:j=k
        · subst e2
          rw[hq] at hjo; cases hjo
          rw[← g2]; exact g3 t ((hm t).2 ht)
        · exact aL.2 (.inl (hcl j o' (by omega) hjo t ht)))
      rw[g2,aM] at k1 k2
      exact ⟨r++r2,k1,k2⟩
theorem BI.start (hn:1≤n):BI n es ((List.replicate n (-1)).set 0 0,[0]):=by
  have h0:(List.replicate n (-1:Int))[0]? =some (-1):=by rw[bI,if_pos (by omega)]
  refine ⟨by simp, ?_, ?_, ?_, ?_⟩
  · have h1 := QiM (w := 0) h0 (by decide) (by decide)
    have h2:Qfi (List.replicate n (-1:Int))=n:=by simp[Qfi]
    show Qfi ((List.replicate n (-1)).set 0 0)+1=n
    omega
  · intro x hx
    rw[aK.1 hx]
    exact ⟨⟨by omega,by omega⟩, .zero,0,aR (by simp; omega),by decide⟩
  · intro i v hv h1
    have hv:((List.replicate n (-1:Int)).set 0 0)[i]? =some v:=hv
    by_cases e2:0=i
    · subst e2; simp
    · rw [aZ e2, bI] at hv
      split at hv
      · cases hv; omega
      · cases hv
  · intro v hv
    show -1≤v∧v≤1
    rcases bV hv with h | h
    · rw[cG h]; omega
    · omega
theorem QnD (hn:1≤n)(hr:∀e∈es,InE n e):∃r,BI n es (Jq n es,[0]++r)∧∀o∈[0]++r,∀t,(o,t)∈es→t∈[0]++r:=
  Qm4 hr (n+1) 0 _ (BI.start hn) (by omega) (ap _) (fun j o hj=>absurd hj (b7 j))
theorem QpF [Decidable (HV n es)](hn:1≤n)(hr:∀e∈es,InE n e):(!((Jq n es).any fun y=>decide (-1=y)))=decide (HV n es):=by
  obtain ⟨r,h,hc⟩:=QnD hn hr
  have hq:∀u,Rch es u→u∈[0]++r:=fun u hu=>by
    induction hu with
    | zero=>simp
    | step _ he ih=>exact hc _ ih _ he
  rw[bC,aN,bB,cr]
  constructor
  · intro g k hk
    have hl:k < (Jq n es).length:=by have:=h.len; simp only at this; omega
    have h1:=cI hl
    have h2:=g _ h1
    have h3:=(h.rng _ h1).1
    have h4:=h.nn k _ (ai hl) (by simp only[aN] at h2; omega)
    exact (h.q _ h4).2.1
  · intro g x hx
    obtain ⟨k,hk⟩:=aJ.1 hx
    have hl:=(ab.1 hk).1
    have hl2:k < n:=by have:=h.len; simp only at this; omega
    obtain ⟨_,_,v,h5,h6⟩:=h.q _ (hq _ (g k hl2))
    have h5:(Jq n es)[((k:Int)).toNat]? =some v:=h5
    rw[show ((k:Int)).toNat=k by omega,hk] at h5
    cases h5
    simp only[aN]; omega
end
theorem Qq2 {xs:List (List Int)}{i:Nat}{ys:List Int}(h:xs[i]? =some ys):(Zr QI xs)[i*1+0]? =some (.dat QI ys):=HA (e:= .sl 3 .int) (j:=0) h rfl
theorem Qek {xs:List (List Int)}{i:Nat}{x ys:List Int}(h:xs[i]? =some x):(Zr QI xs).set (i*1+0) (.dat QI ys)=Zr QI (xs.set i ys):=
  (Qah (e:= .sl 3 .int) (j:=0) (x':=ys) h rfl (by decide)).symm
theorem QaP (n:Int)(l:List (Int×Int))(start:Int)(hn:1≤n∧n≤300)(hl:∀e∈l,InE n.toNat e)(hll:l.length≤4000)(hst:start=0):FC Tryz.prog 179 [(false,[dI n]),(false,[.dat (.sl 289 (.pr .int .int)) l]),(false,[dI start])] [] 0 (Xe 3 .int (Jq n.toNat l)):=by
 refine Qy Tryz.func179 rfl rfl Tryz.ntmps179 fun O_ hO w0_ N0_ X_ h0_ f0_=> ?_
 refine AC.fact (Ql (x:= .tmp 0) (Qa rfl)) fun hi1=>AC.fact (Ql (x:= .tmp 2) (Qa rfl)) fun hi2=> ?_
 iterate 3 refine w_ ?_
 apply dW [⟨some 15,lR 0,[(0,some (.arr 3 .int ([(-1)])))]⟩,io 16 (lI n),⟨some 17,lR 1,[(1,some (.arr 3 .int (List.replicate n.toNat (-1))))]⟩,io 18 (lI n),⟨some 19,lR 2,[(2,some (.arr 95 QI (List.replicate (n).toNat (Ty.zero QI))))]⟩,io 7 (lR 1),io 8 _] [0,1,0,7,7,24,0]
 refine zz (fun _ h_=>ac (dBs 0 (e:= .int) YD) rfl) ?_
 refine z_ ?_
 refine zz (fun _ h_=>ac (dOB 1 (Uz ([(-1)]) n (-1) rfl (by omega)) Qkl) rfl) ?_
 refine z_ ?_
 refine zz (fun _ h_=>ac (Qd1 2 (e:=QI) (n:=n) (h_.v rfl) (h_.v rfl) Kx Qo8 rfl (by omega) (by omega) (by omega) rfl (h_.fr 2 rfl) (nlr rfl)) rfl) ?_
 iterate 2 refine z_ ?_
 exact zN
 iterate 3 refine w_ ?_
 refine AL.fact (Qp (x:= .tmp 20) (Qa rfl)) fun hl3=> ?_
 iterate 4 refine w_ ?_
 refine Qm (fun m_ s_=>∃(k:Nat),k≤l.length∧m_=l.length - k∧s_=⟨[(2,lI start),(6,lf (.val (.slice none 0 0))),(7,lR 1),(8,lR 3),(20,lf (.dat (.sl 289 (.pr .int .int)) l)),(21,lI (l.length:Int)),(22,lI (k:Int))],[(1,some (.arr 3 .int (List.replicate n.toNat (-1)))),(3,some (.arr 95 QI (ZC n.toNat (l.take k))))]⟩) ⟨0,ap _,rfl,rfl⟩ ?_ ?_
 exact wp [(3,2)] ⟨rfl,(Qh (by simp only[cD]; rfl)),trivial⟩
 rintro m_ s_ ⟨k,hk4,hm5,rfl⟩
 iterate 4 refine w_ ?_
 cases hb6:(decide ((k:Int) < (l.length:Int)))
 have hb6':=a6 hb6
 iterate 3 refine w_ ?_
 refine Yd ?_
 have hke:ZC n.toNat (l.take k)=ZC n.toNat l:=by rw[QN (by omega)]
 refine AC.wk (Qk3 8 (q:=3) (e:=QI) (xs:=ZC n.toNat (l.take k)) rfl rfl) ?_
 rw[hke]
 have hrl:(List.replicate n.toNat (-1:Int)).length=n.toNat:=ay ..
 have hnl:=WO (n:=n.toNat) (es:=l)
 iterate 4 refine w_ ?_
 obtain ⟨x7,hx8⟩:=gx (List.replicate n.toNat (-1)) ((start).toNat)
 refine lc (QG (e:= .int) (z':=0) (Qa rfl) rfl hx8 rfl (Evl.ev (Qu rfl)) rfl WK rfl rfl) ?_
 iterate 3 refine w_ ?_
 refine lc (dBs 4 (e:= .int) YD) ?_
 iterate 7 refine w_ ?_
 refine Qm (fun m_ s_=>∃(k:Nat) (out:List Int) (q:List Int),k≤n.toNat∧m_=n.toNat - k∧(Jq n.toNat l=bfK (ZC n.toNat l) (n.toNat+1 - k) k (out,q))∧(BI n.toNat l (out,q))∧s_=⟨[(6,lf (.val (.slice none 0 0))),(7,lR 5),(8,lf (.dat Jl (ZC n.toNat l))),(11,lR 6),(12,lI (k:Int))],[(5,some (.arr 3 .int out)),(6,some (.arr 3 .int q))]⟩) ⟨0,(List.replicate n.toNat (-1)).set ((start).toNat) 0,[start],ap _,rfl,(by rw[hst]; rfl),(by rw[hst]; exact BI.start (by omega)),rfl⟩ ?_ ?_
 exact wp [(5,1),(6,4)] ⟨(Qh (by first | rfl | simp)),(Qh (by first | rfl | simp)),trivial⟩
 rintro m_ s_ ⟨k,out,q,hk9,hm10,hA,hI,rfl⟩
 have hqn:=hI.q_le
 have hql:out.length=n.toNat:=hI.len
 iterate 7 refine w_ ?_
 cases hb11:(decide ((k:Int) < (q.length:Int)))
 have hb11':=a6 hb11
 iterate 8 refine w_ ?_
 subst hO
 refine Zc (e:= .int) (xs:=out) (Res.one rfl (Qb rfl)) rfl ?_
 rw[hA,Qrj (by omega)]
 have hb11':=a7 hb11
 iterate 9 refine w_ ?_
 obtain ⟨o,hx13⟩:=gx q k
 have hok0:=hI.at_ hx13
 refine w_ ?_
 refine AL.fact (Ql (x:= .tmp 55) (Qa rfl)) fun hi14=> ?_
 obtain ⟨ts,hx16⟩:=gx (ZC n.toNat l) ((o).toNat)
 have htm:=Qbz hx16
 have hmem:∀t∈ts,(o,t)∈l:=fun t ht=>by have:=(Qgr hl hx16).1 ht; rwa [show ((o.toNat:Nat):Int)=o by omega] at this
 iterate 2 refine w_ ?_
 refine AL.fact (Qp (x:= .tmp 57) (Qa rfl)) fun hl17=> ?_
 iterate 4 refine w_ ?_
 refine Qm (fun m_ s_=>∃(i:Nat) (out2:List Int) (q2:List Int),i≤ts.length∧m_=ts.length - i∧(Jq n.toNat l=bfK (ZC n.toNat l) (n.toNat+1 - (k+1)) (k+1) (bfT o (ts.drop i) (out2,q2)))∧(BI n.toNat l (out2,q2))∧(q2[k]? =some o)∧s_=⟨[(6,lf (.val (.slice none 0 0))),(7,lR 7),(8,lf (.dat Jl (ZC n.toNat l))),(11,lR 8),(12,lI (k:Int)),(45,lI (k:Int)),(47,lI (q.length:Int)),(48,lB true),(51,lf (.dat Jl (ZC n.toNat l))),(53,lI (k:Int)),(55,lI o),(56,lf (.elt QI ts 0)),(57,lf (.dat QI ts)),(58,lI (ts.length:Int)),(59,lI (i:Int))],[(7,some (.arr 3 .int out2)),(8,some (.arr 3 .int q2))]⟩) ⟨0,out,q,ap _,rfl,(hA.trans (Qs6 hx13 hx16 (by omega))),hI,hx13,rfl⟩ ?_ ?_
 exact wo [(7,5),(8,6)]
 rintro m_ s_ ⟨i,out2,q2,hk18,hm19,hA2,hI2,hQ2,rfl⟩
 have hqn2:=hI2.q_le
 have hql2:out2.length=n.toNat:=hI2.len
 have hok:=hI2.at_ hQ2
 have hkl:=(ab.1 hQ2).1
 iterate 4 refine w_ ?_
 cases hb20:(decide ((i:Int) < (ts.length:Int)))
 have hb20':=a6 hb20
 iterate 7 refine w_ ?_
 refine Qc<|QE ⟨k+1,out2,q2,by omega,rfl,(by rw[hA2,QrJ (by omega)]),hI2,rfl⟩ (by omega) ?_
 exact wo [(5,7),(6,8)]
 have hb20':=a7 hb20
 iterate 5 refine w_ ?_
 obtain ⟨x21,hx22⟩:=gx ts i
 obtain ⟨_,ht0x21,ht1x21⟩:=hl _ (hmem _ (a8 hx22))
 have ht0x21:0≤x21:=ht0x21
 have ht1x21:x21 < (n.toNat:Int):=ht1x21
 iterate 2 refine w_ ?_
 refine AL.fact (Ql (x:= .tmp 62) (Qa rfl)) fun hi23=> ?_
 iterate 6 refine w_ ?_
 obtain ⟨x24,hx25⟩:=gx out2 ((x21).toNat)
 have hrgx24: -1≤x24∧x24≤(q2.length:Int):=hI2.rng _ (a8 hx25)
 refine w_ ?_
 refine AL.fact (Ql (x:= .tmp 66) (Qa rfl)) fun hi26=> ?_
 iterate 2 refine w_ ?_
 cases hb27:(decide (x24 < 0))
 have hb27':=a6 hb27
 iterate 6 refine w_ ?_
 refine Qc<|QE ⟨i+1,out2,q2,by omega,rfl,(by (rw[hA2,Qqi hx22 ‹_› ‹_›]; done)),(by exact hI2),(by exact hQ2),rfl⟩ (by omega) ?_
 exact wo []
 have hb27':=a7 hb27
 iterate 10 refine w_ ?_
 obtain ⟨x28,hx29⟩:=gx out2 ((o).toNat)
 have hrgx28: -1≤x28∧x28≤(q2.length:Int):=hI2.rng _ (a8 hx29)
 refine w_ ?_
 refine AL.fact (Ql (x:= .tmp 76) (Qa rfl)) fun hi30=> ?_
 iterate 2 refine w_ ?_
 refine lc (QG (e:= .int) (z':=x28+1) (Qa rfl) rfl hx25 rfl (Qf rfl) rfl WK rfl rfl) ?_
 iterate 4 refine w_ ?_
 refine lc (dBs 9 (e:= .int) YD) ?_
 refine lc (dA 10 XR) ?_
 refine w_ ?_
 refine Qc ?_
 iterate 4 refine w_ ?_
 refine Qc ?_
 refine QE ⟨i+1,(out2.set ((x21).toNat) (x28+1)),(q2++([x21])),by omega,rfl,(by (rw[hA2,Qro hx22 ‹_› ‹_› ‹_›]; done)),(by exact hI2.step hl hok.2 (hmem _ (a8 hx22)) ‹_› ‹_› ‹_›),(by (rw[bd hkl]; exact hQ2)),rfl⟩ (by omega) ?_
 exact wp [(8,10)] ⟨(Qh (by first | rfl | simp)),(Qh (by first | rfl | simp)),trivial⟩
 have hb6':=a7 hb6
 iterate 5 refine w_ ?_
 obtain ⟨e,hx32⟩:=gx l k
 iterate 2 refine w_ ?_
 refine lc (xal 11 QfZ QcJ) ?_
 iterate 2 refine w_ ?_
 have hin:=hl _ (a8 hx32)
 have hn1:=WO (n:=n.toNat) (es:=l.take k)
 obtain ⟨⟨he1,he2⟩,he3,he4⟩:=hin
 obtain ⟨ys,hys⟩:=gx (ZC n.toNat (l.take k)) e.1.toNat
 have hyf:=Qbz hys
 have hltk:(l.take k).length≤l.length:=by simp only[ak]; omega
 have hcA:=Qq2 hys
 have hpA:e.1.toNat*1+0 < (Zr QI (ZC n.toNat (l.take k))).length:=by rw[V4]; show e.1.toNat*1+0 < (ZC n.toNat (l.take k)).length*1; omega
 refine AC.wk (QcW (q:=3) rfl (by omega))<|AC.wk (Hb 12 (q:=3) (p:=e.1.toNat*1+0) (E':=3) (e':= .int) (ys:=ys) rfl (hcA) (Fresh.of rfl) (aE rfl)) ?_
 apply dV [io 26 _,io 27 _,io 28 _,io 29 _,io 30 _,io 31 _,io 32 (lf (.ept 3 1 ((e.1).toNat) 0)),io 33 (lR 12),io 34 _,io 35 _,⟨some 36,lR 13,[(13,some (.arr 3 .int ([e.2])))]⟩,⟨some 37,lR 14,[(14,some (.arr 3 .int (ys++([e.2])))),(12,none),(13,none)]⟩,io 38 (lf (.ept 3 1 ((e.1).toNat) 0)),⟨none,lf (.val undef),[(3,some (.obx 95 1 ((ZC n.toNat (l.take k)).length) (Zr QI (ZC n.toNat (l.take k))) [((e.1).toNat*1+0, .ref 14),(e.1.toNat*1+0, .ref 12)]))]⟩] [0,1,1,7,15,15,7,7,255,255,255,7,0,0]
 iterate 6 refine z_ ?_
 refine zz (fun _ h_=>ac (YU (h_.v rfl) (h_.en 3 rfl) (h_.v rfl) Kx X4 rfl (by omega) (by omega)) rfl) ?_
 refine zz (fun _ h_=>ac (KD (h_.v rfl) (h_.n 3 rfl) (show (ovr _ _)[e.1.toNat*1+0]? =some (.ref 12) from by simp only[ovr,bm,au,hpA,hcA,da,if_true,if_false,↓reduceIte]) (h_.n 12 rfl) X4 rfl) rfl) ?_
 iterate 2 refine z_ ?_
 refine zz (fun _ h_=>ac (dBs 13 (e:= .int) YD) rfl) ?_
 refine zz (fun _ h_=>ac (dA 14 XR) rfl) ?_
 refine zz (fun _ h_=>ac (YU (h_.v rfl) (h_.en 3 rfl) (h_.v rfl) Kx X4 rfl (by omega) (by omega)) rfl) ?_
 refine zz (fun _ h_=>ac (Ue (t:=12) (h_.v rfl) (h_.n 3 rfl) (show (ovr _ _)[e.1.toNat*1+0]? =some (.ref 12) from by simp only[ovr,bm,au,hpA,hcA,da,if_true,if_false,↓reduceIte]) (h_.v rfl) (h_.n 14 rfl) X4) rfl) ?_
 exact zN
 refine w_ ?_
 refine AC.wk (QaZ (q:=3) (t:=14) (p:=e.1.toNat*1+0) rfl (by simp only[ovr,bm,au,hpA,hcA,da,if_true,if_false,↓reduceIte]) rfl) ?_
 refine AC.wk (QaV (q:=3) (e:=QI) ((ZC n.toNat (l.take k)).set e.1.toNat (ys++[e.2])) rfl (by simp only[au]) (by simp only[ovr,cR]; exact Qek hys)) ?_
 iterate 3 refine w_ ?_
 refine Qc<|QE ⟨k+1,by omega,rfl,rfl⟩ (by omega) ?_
 exact wp [] ⟨rfl,(Qh (Qd7 hx32 hys)),trivial⟩
end Go.Proofs.YtjaadeknhofhpaaGreat
namespace Go.Proofs.YtjaadeknhofhpaaGreat
open Go.RowKit
set_option maxRecDepth 100000
set_option maxHeartbeats 4000000
section
variable {c:DSg}{a:DAr}{x y:ByteArray}{k:Nat}
theorem QmC (h:¬(0≤a.1∧a.1≤(c.2.1.length:Int) - 1)):¬YE c a:=fun g=>h g.1
theorem Qmy (h:¬(0≤a.2.2.2∧a.2.2.2≤(c.2.1.length:Int) - 1)):¬YE c a:=fun g=>h g.2.1
theorem QlX (h:¬Vs (c.1.length:Int) (a.2.1,a.2.2.1)):¬YE c a:=fun g=>h g.2.2.1
theorem Qmp (hx:c.2.1[a.1.toNat]? =some x)(hy:c.2.1[a.2.2.2.toNat]? =some y)(h:¬Fit a x y):¬YE c a:=fun g=>h (by have:=g.2.2.2; rwa [W8 hx,W8 hy] at this)
theorem Qtx (h1:0≤a.1∧a.1≤(c.2.1.length:Int) - 1)(h2:0≤a.2.2.2∧a.2.2.2≤(c.2.1.length:Int) - 1)(h3:Vs (c.1.length:Int) (a.2.1,a.2.2.1))(hx:c.2.1[a.1.toNat]? =some x)(hy:c.2.1[a.2.2.2.toNat]? =some y)(h:Fit a x y):YE c a:=
  ⟨h1,h2,h3,by rw[W8 hx,W8 hy]; exact h⟩
end
theorem ZB (c:(List (ByteArray×Int))×List ByteArray×(List (Int×Int×Bool×Int)))[∀c,Decidable (SgOk c)]:FC Tryz.prog 88 [(true,[.dat Qo c.1, .dat Qr c.2.1, .dat QD c.2.2])] [] 0 (Zk (lB (decide (SgOk c)))):=by
 classical
 refine Qy Tryz.func88 rfl rfl Tryz.ntmps88 fun O_ hO w0_ N0_ X_ h0_ f0_=> ?_
 refine w_ ?_
 refine xbx 0 ?_
 iterate 6 refine w_ ?_
 refine lc (dK (H1 c.1) Qlj) ?_
 iterate 2 refine w_ ?_
 cases hb1:(decide (XK c.1))
 have hb1':=a6 hb1
 iterate 18 refine w_ ?_
 subst hO
 have e2:(false:Bool)=(decide (SgOk c)):=by
  exact QpB ‹_›
 exact Qe (Res.one rfl (Qb rfl)) (by rw[← e2] <;> rfl) rfl
 have hb1':=a7 hb1
 iterate 2 refine w_ ?_
 refine AL.fact (Qp (x:= .tmp 14) (Qa rfl)) fun hl3=> ?_
 refine w_ ?_
 refine lgy rfl rfl (dK (Zx (c.2.1.length:Int) 1 300) YN) ?_
 iterate 3 refine w_ ?_
 cases hb4:(decide (1≤(c.2.1.length:Int)∧(c.2.1.length:Int)≤300))
 have hb4':=a6 hb4
 iterate 11 refine w_ ?_
 subst hO
 have e5:(false:Bool)=(decide (SgOk c)):=by
  exact Qpx ‹_›
 exact Qe (Res.one rfl (Qb rfl)) (by rw[← e5] <;> rfl) rfl
 have hb4':=a7 hb4
 iterate 2 refine w_ ?_
 refine AL.fact (Qp (x:= .tmp 21) (Qa rfl)) fun hl6=> ?_
 iterate 4 refine w_ ?_
 cases hb7:(decide (4000 < (c.2.2.length:Int)))
 have hb7':=a6 hb7
 iterate 5 refine w_ ?_
 refine AL.fact (Qp (x:= .tmp 26) (Qa rfl)) fun hl8=> ?_
 iterate 8 refine w_ ?_
 refine AL.fact (Qp (x:= .tmp 30) (Qa rfl)) fun hl9=> ?_
 iterate 4 refine w_ ?_
 refine Qm (fun m_ s_=>∃(k:Nat),k≤c.2.1.length∧m_=c.2.1.length - k∧(∀j,j < k→∀x,c.2.1[j]? =some x→YC x (c.1.length:Int))∧s_=⟨[(1,lP 0 0),(3,lI ((c.2.1.length:Int) - 1)),(30,lf (.dat Qr c.2.1)),(31,lI (c.2.1.length:Int)),(32,lI (k:Int))],[(0,some (.box 52 [.dat Qo c.1, .dat Qr c.2.1, .dat QD c.2.2]))]⟩) ⟨0,ap _,rfl,(fun j hj=>absurd hj (b7 j)),rfl⟩ ?_ ?_
 exact wo []
 rintro m_ s_ ⟨k,hk10,hm11,hB,rfl⟩
 iterate 4 refine w_ ?_
 cases hb12:(decide ((k:Int) < (c.2.1.length:Int)))
 have hb12':=a6 hb12
 iterate 7 refine w_ ?_
 refine AL.fact (Qp (x:= .tmp 44) (Qa rfl)) fun hl13=> ?_
 iterate 4 refine w_ ?_
 refine Qm (fun m_ s_=>∃(i:Nat),i≤c.2.2.length∧m_=c.2.2.length - i∧(∀j,j < i→∀a,c.2.2[j]? =some a→YE c a)∧s_=⟨[(1,lP 0 0),(3,lI ((c.2.1.length:Int) - 1)),(44,lf (.dat QD c.2.2)),(45,lI (c.2.2.length:Int)),(46,lI (i:Int))],[(0,some (.box 52 [.dat Qo c.1, .dat Qr c.2.1, .dat QD c.2.2]))]⟩) ⟨0,ap _,rfl,(fun j hj=>absurd hj (b7 j)),rfl⟩ ?_ ?_
 exact wo []
 rintro m_ s_ ⟨i,hk14,hm15,hR,rfl⟩
 iterate 4 refine w_ ?_
 cases hb16:(decide ((i:Int) < (c.2.2.length:Int)))
 have hb16':=a6 hb16
 iterate 3 refine w_ ?_
 apply dW [io 92 _,io 93 _,io 94 _,io 95 _,io 96 _,io 97 (lf (.dat (.sl 289 (.pr .int .int)) (ZJ c.2.2))),io 98 (lf (.dat QI (Jq (c.2.1.length:Int).toNat (ZJ c.2.2)))),io 99 (lB ((Jq (c.2.1.length:Int).toNat (ZJ c.2.2)).any (fun y=>decide ((-1)=y)))),io 100 _,io 2 _] [0,0,0,7,7,7,0,0,0,0]
 iterate 5 refine z_ ?_
 refine zz (fun _ h_=>ac (dK (QbK c.2.2 (by omega)).frozen Qlb) rfl) ?_
 refine zz (fun _ h_=>ac (dK (QaP (c.2.1.length:Int) (ZJ c.2.2) 0 (by omega) (Qeh (fun a ha=>Xi (Xr hR (by omega) a ha))) (by simp only[ZJ,aF]; omega) rfl).frozen Qk0) rfl) ?_
 refine zz (fun _ h_=>ac (dK (Xq (Jq (c.2.1.length:Int).toNat (ZJ c.2.2)) (-1)) Qdq) rfl) ?_
 iterate 2 refine z_ ?_
 exact zN
 refine w_ ?_
 subst hO
 have e17:(!((Jq (c.2.1.length:Int).toNat (ZJ c.2.2)).any (fun y=>decide ((-1)=y))):Bool)=(decide (SgOk c)):=by
  exact (QpF (by omega) (Qeh (fun a ha=>Xi (Xr hR (by omega) a ha)))).trans (QoU ‹_› ‹_› ‹_› (Xr hB (by omega)) (Xr hR (by omega)))
 exact Qe (Res.one rfl (Qb rfl)) (by rw[e17] <;> rfl) rfl
 have hb16':=a7 hb16
 iterate 5 refine w_ ?_
 obtain ⟨ar,hx19⟩:=gx c.2.2 i
 iterate 2 refine w_ ?_
 refine lc (xal 1 QA Za) ?_
 iterate 2 refine w_ ?_
 cases hb20:(decide (0≤ar.1∧ar.1≤((c.2.1.length:Int) - 1)))
 have hb20':=a6 hb20
 apply dW [io 50 _,io 51 _,io 52 _,io 53 (lB false),io 54 _,io 55 _,io 56 _,io 57 _,io 58 _,io 59 _,io 60 _,io 61 _,io 62 _,io 63 _,io 64 _,io 65 _,io 66 _,io 67 _,io 68 _,io 69 _,io 70 _,io 71 _,io 72 _,io 73 _,io 74 _,io 75 _,io 76 _,io 77 _,io 78 _,io 79 _,io 80 _,io 81 _,io 82 _,io 83 _,io 84 _,io 85 _,io 86 _,io 87 _,io 88 _,io 89 _,io 90 _] [0,0,3,0,0,0,0,0,192,0,0,0,0,0,0,24576,24576,0,253952,253952,253952,0,0,0,0,0,33554432,33554432,234881024,234881024,33554432,33554432,4261412864,4261412864,17146314752,17146314752,4261412864,4261412864,0,0,0]
 iterate 3 refine z_ ?_
 refine zz (fun _ h_=>ac (QL (hb20) (dK (Zx ar.1 0 ((c.2.1.length:Int) - 1)) YN)) rfl) ?_
 iterate 37 refine z_ ?_
 exact zN
 iterate 5 refine w_ ?_
 subst hO
 have e21:(false:Bool)=(decide (SgOk c)):=by
  exact Qd9 hx19 (by first | exact QmC ‹_› | exact Qmy ‹_› | exact QlX ‹_› | exact Qmp (x:=cx) (y:=cy) ‹_› ‹_› ‹_›)
 exact Qe (Res.one rfl (Qb rfl)) (by rw[← e21] <;> rfl) rfl
 have hb20':=a7 hb20
 cases hb22:(decide (0≤ar.2.2.2∧ar.2.2.2≤((c.2.1.length:Int) - 1)))
 have hb22':=a6 hb22
 apply dW [io 50 _,io 51 _,io 52 _,io 53 (lB true),io 54 _,io 55 _,io 56 _,io 57 _,io 58 _,io 59 (lB false),io 60 _,io 61 _,io 62 _,io 63 _,io 64 _,io 65 _,io 66 _,io 67 _,io 68 _,io 69 _,io 70 _,io 71 _,io 72 _,io 73 _,io 74 _,io 75 _,io 76 _,io 77 _,io 78 _,io 79 _,io 80 _,io 81 _,io 82 _,io 83 _,io 84 _,io 85 _,io 86 _,io 87 _,io 88 _,io 89 _,io 90 _] [0,0,3,0,0,0,0,0,192,0,0,0,0,0,0,24576,24576,0,253952,253952,253952,0,0,0,0,0,33554432,33554432,234881024,234881024,33554432,33554432,4261412864,4261412864,17146314752,17146314752,4261412864,4261412864,0,0,0]
 iterate 3 refine z_ ?_
 refine zz (fun _ h_=>ac (QL (hb20) (dK (Zx ar.1 0 ((c.2.1.length:Int) - 1)) YN)) rfl) ?_
 iterate 5 refine z_ ?_
 refine zz (fun _ h_=>day rfl (h_.k rfl) (QL (hb22) (dK (Zx ar.2.2.2 0 ((c.2.1.length:Int) - 1)) YN)) rfl) ?_
 iterate 31 refine z_ ?_
 exact zN
 iterate 5 refine w_ ?_
 subst hO
 have e23:(false:Bool)=(decide (SgOk c)):=by
  exact Qd9 hx19 (by first | exact QmC ‹_› | exact Qmy ‹_› | exact QlX ‹_› | exact Qmp (x:=cx) (y:=cy) ‹_› ‹_› ‹_›)
 exact Qe (Res.one rfl (Qb rfl)) (by rw[← e23] <;> rfl) rfl
 have hb22':=a7 hb22
 cases hb24:(decide (Vs (c.1.length:Int) (ar.2.1,ar.2.2.1)))
 have hb24':=a6 hb24
 apply dW [io 50 _,io 51 _,io 52 _,io 53 (lB true),io 54 _,io 55 _,io 56 _,io 57 _,io 58 _,io 59 (lB true),io 60 _,io 61 _,io 62 _,io 63 _,io 64 _,io 65 _,io 66 _,io 67 (ag [dI ar.2.1,dB ar.2.2.1]),io 68 _,io 69 _,io 70 _,io 71 (lB false),io 72 _,io 73 _,io 74 _,io 75 _,io 76 _,io 77 _,io 78 _,io 79 _,io 80 _,io 81 _,io 82 _,io 83 _,io 84 _,io 85 _,io 86 _,io 87 _,io 88 _,io 89 _,io 90 _] [0,0,3,0,0,0,0,0,192,0,0,0,0,0,0,24576,24576,0,253952,253952,253952,0,0,0,0,0,33554432,33554432,234881024,234881024,33554432,33554432,4261412864,4261412864,17146314752,17146314752,4261412864,4261412864,0,0,0]
 iterate 3 refine z_ ?_
 refine zz (fun _ h_=>ac (QL (hb20) (dK (Zx ar.1 0 ((c.2.1.length:Int) - 1)) YN)) rfl) ?_
 iterate 5 refine z_ ?_
 refine zz (fun _ h_=>day rfl (h_.k rfl) (QL (hb22) (dK (Zx ar.2.2.2 0 ((c.2.1.length:Int) - 1)) YN)) rfl) ?_
 iterate 7 refine z_ ?_
 refine zz (fun _ h_=>day rfl (h_.k rfl) (Qi XM ⟨_,_,rfl,(h_.w rfl),⟨_,_,rfl,(h_.w rfl),rfl⟩⟩ (ah.1 rfl) rfl rfl) rfl) ?_
 iterate 3 refine z_ ?_
 refine zz (fun _ h_=>day rfl (h_.k rfl) (QL (hb24) (dK (Jb (ar.2.1,ar.2.2.1) (c.1.length:Int) (by have:=(‹XK c.1›).2.2; omega)) QeG)) rfl) ?_
 iterate 19 refine z_ ?_
 exact zN
 iterate 5 refine w_ ?_
 subst hO
 have e25:(false:Bool)=(decide (SgOk c)):=by
  exact Qd9 hx19 (by first | exact QmC ‹_› | exact Qmy ‹_› | exact QlX ‹_› | exact Qmp (x:=cx) (y:=cy) ‹_› ‹_› ‹_›)
 exact Qe (Res.one rfl (Qb rfl)) (by rw[← e25] <;> rfl) rfl
 have hb24':=a7 hb24
 obtain ⟨cx,hx27⟩:=gx c.2.1 ((ar.1).toNat)
 have hzcx:YC cx (c.1.length:Int)→cx.size=c.1.length:=fun h=>by have:=h.2; omega
 have hwcx:c.2.1.length≤k→cx.size=c.1.length:=fun h=>hzcx (Xr hB h _ (a8 hx27))
 obtain ⟨cy,hx29⟩:=gx c.2.1 ((ar.2.2.2).toNat)
 have hzcy:YC cy (c.1.length:Int)→cy.size=c.1.length:=fun h=>by have:=h.2; omega
 have hwcy:c.2.1.length≤k→cy.size=c.1.length:=fun h=>hzcy (Xr hB h _ (a8 hx29))
 apply dW [io 50 _,io 51 _,io 52 _,io 53 (lB true),io 54 _,io 55 _,io 56 _,io 57 _,io 58 _,io 59 (lB true),io 60 _,io 61 _,io 62 _,io 63 _,io 64 _,io 65 _,io 66 _,io 67 (ag [dI ar.2.1,dB ar.2.2.1]),io 68 _,io 69 _,io 70 _,io 71 (lB true),io 72 _,io 73 _,io 74 _,io 75 _,io 76 _,io 77 _,io 78 _,io 79 _,io 80 _,io 81 _,io 82 _,io 83 _,io 84 _,io 85 _,io 86 _,io 87 _,io 88 (lB (decide (Fit ar cx cy))),io 89 _,io 90 _] [0,0,3,0,0,0,0,0,192,0,0,0,0,0,0,24576,24576,0,253952,253952,253952,0,0,0,0,0,33554432,33554432,234881024,234881024,33554432,33554432,4261412864,4261412864,17146314752,17146314752,4261412864,4261412864,0,0,0]
 iterate 3 refine z_ ?_
 refine zz (fun _ h_=>ac (QL (hb20) (dK (Zx ar.1 0 ((c.2.1.length:Int) - 1)) YN)) rfl) ?_
 iterate 5 refine z_ ?_
 refine zz (fun _ h_=>day rfl (h_.k rfl) (QL (hb22) (dK (Zx ar.2.2.2 0 ((c.2.1.length:Int) - 1)) YN)) rfl) ?_
 iterate 7 refine z_ ?_
 refine zz (fun _ h_=>day rfl (h_.k rfl) (Qi XM ⟨_,_,rfl,(h_.w rfl),⟨_,_,rfl,(h_.w rfl),rfl⟩⟩ (ah.1 rfl) rfl rfl) rfl) ?_
 iterate 3 refine z_ ?_
 refine zz (fun _ h_=>day rfl (h_.k rfl) (QL (hb24) (dK (Jb (ar.2.1,ar.2.2.1) (c.1.length:Int) (by have:=(‹XK c.1›).2.2; omega)) QeG)) rfl) ?_
 iterate 16 refine z_ ?_
 refine zz (fun _ h_=>day rfl (h_.k rfl) (dK (Qas ar cx cy (by have:=hwcx (by omega); have:=hwcy (by omega); omega)) QjR) rfl) ?_
 iterate 2 refine z_ ?_
 exact zN
 cases hb30:(decide (Fit ar cx cy))
 have hb30':=a6 hb30
 iterate 5 refine w_ ?_
 subst hO
 have e31:(false:Bool)=(decide (SgOk c)):=by
  exact Qd9 hx19 (by first | exact QmC ‹_› | exact Qmy ‹_› | exact QlX ‹_› | exact Qmp (x:=cx) (y:=cy) ‹_› ‹_› ‹_›)
 exact Qe (Res.one rfl (Qb rfl)) (by rw[← e31] <;> rfl) rfl
 have hb30':=a7 hb30
 iterate 6 refine w_ ?_
 refine Qc<|QE ⟨i+1,by omega,rfl,(YM hR hx19 (Qtx ‹_› ‹_› ‹_› (x:=cx) (y:=cy) ‹_› ‹_› ‹_›)),rfl⟩ (by omega) ?_
 exact wo []
 have hb12':=a7 hb12
 iterate 5 refine w_ ?_
 obtain ⟨x32,hx33⟩:=gx c.2.1 k
 have hzx32:YC x32 (c.1.length:Int)→x32.size=c.1.length:=fun h=>by have:=h.2; omega
 have hwx32:c.2.1.length≤k→x32.size=c.1.length:=fun h=>hzx32 (Xr hB h _ (a8 hx33))
 iterate 8 refine w_ ?_
 refine AL.fact (Qp (x:= .tmp 38) (Qa rfl)) fun hl34=> ?_
 refine w_ ?_
 refine lc (dK (QdM x32 (c.1.length:Int)) Qjw) ?_
 iterate 2 refine w_ ?_
 cases hb35:(decide (YC x32 (c.1.length:Int)))
 have hb35':=a6 hb35
 iterate 5 refine w_ ?_
 subst hO
 have e36:(false:Bool)=(decide (SgOk c)):=by
  exact Qp1 hx33 ‹_›
 exact Qe (Res.one rfl (Qb rfl)) (by rw[← e36] <;> rfl) rfl
 have hb35':=a7 hb35
 iterate 6 refine w_ ?_
 refine Qc<|QE ⟨k+1,by omega,rfl,(YM hB hx33 ‹_›),rfl⟩ (by omega) ?_
 exact wo []
 have hb7':=a7 hb7
 iterate 5 refine w_ ?_
 subst hO
 have e37:(false:Bool)=(decide (SgOk c)):=by
  exact QqS ‹_›
 exact Qe (Res.one rfl (Qb rfl)) (by rw[← e37] <;> rfl) rfl
end Go.Proofs.YtjaadeknhofhpaaGreat
