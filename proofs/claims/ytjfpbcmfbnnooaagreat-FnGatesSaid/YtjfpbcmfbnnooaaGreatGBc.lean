/- Walks over abstract states: distances. -/
import Derived.Test.YtjfpbcmfbnnooaaGreatGWz
import Derived.Test.YtjfpbcmfbnnooaaGreatGAu
import Derived.Test.YtjfpbcmfbnnooaaGreatGFb
import Derived.Test.YtjfpbcmfbnnooaaGreatGWk
import Derived.Shelf.Lays
import Derived.Shelf.Lays2
import Derived.Shelf.Slices.In.SortNone
import Derived.Shelf.Slices.In.CompactI
import Derived.Test.YtjfpbcmfbnnooaaGreatGApp
set_option linter.unusedSimpArgs false
set_option linter.unusedVariables false
set_option linter.unusedSectionVars false
namespace Go.Proofs.YtjfpbcmfbnnooaaGreat
open Go.RowKit
set_option maxRecDepth 100000
set_option maxHeartbeats 4000000
def QbZ (l:List (List Int))(e:Int×Int):List (List Int):=l.modify e.1.toNat (· ++[e.2])
def Zn (n:Nat)(es:List (Int×Int)):List (List Int):=es.foldl QbZ (List.replicate n [])
def bfT (o:Int):List Int→List Int×List Int→List Int×List Int
 | [],st=>st
 | t::ts,st=>if (st.1[t.toNat]?).getD 0<0 then bfT o ts (st.1.set t.toNat ((st.1[o.toNat]?).getD 0+1),st.2++[t]) else bfT o ts st
def bfK (nx:List (List Int)):Nat→Nat→List Int×List Int→List Int
 | 0,_,st=>st.1
 | f+1,k,st=>match st.2[k]? with
  | none=>st.1
  | some o=>bfK nx f (k+1) (bfT o ((nx[o.toNat]?).getD []) st)
def H2 (n:Nat)(es:List (Int×Int)):List Int:=bfK (Zn n es) (n+1) 0 ((List.replicate n (-1)).set 0 0,[0])
def Qgq (l:List Int):Nat:=(l.filter (· < 0)).length
structure BI (n:Nat) (es:List (Int×Int)) (st:List Int×List Int):Prop where
  len:st.1.length=n
  cnt:Qgq st.1+st.2.length=n
  q:∀x∈st.2,(0≤x∧x<n)∧Rch es x∧∃v,st.1[x.toNat]? =some v∧0≤v
  nn:∀(i:Nat) v,st.1[i]? =some v→0≤v→(i:Int)∈st.2
  rng:∀v∈st.1,-1≤v∧v≤(st.2.length:Int)
section
variable {n k i f:Nat}{es:List (Int×Int)}{e:Int×Int}{l ts ys q out:List Int}{o t c w:Int}{nx:List (List Int)}{st:List Int×List Int}
theorem QmJ {α:Type _}{l:List α}{i:Nat}{x:α}{g:α→α}(h:l[i]? =some x):l.set i (g x)=l.modify i g:=by
 apply bM
 intro j
 rw[cM]
 by_cases e:i=j
 ·subst e;rw[bk (ai.1 h).1,h];simp
 ·rw[be e];simp[e]
theorem QpC {l:List (List Int)}:(es.foldl QbZ l).length=l.length:=by
 induction es generalizing l with
 | nil=>rfl
 | cons e es a=>rw[bC,a];simp[QbZ]
theorem XA:(Zn n es).length=n:=by unfold Zn;rw[QpC];simp
theorem QfR (a:es[k]? =some e)(b:(Zn n (es.take k))[e.1.toNat]? =some ys):(Zn n (es.take k)).set e.1.toNat (ys++[e.2])=Zn n (es.take (k+1)):=by
 rw[QmJ (g:=(· ++[e.2])) b,QE a]
 simp[Zn,cP,QbZ]
theorem Qhj {l:List (List Int)}{i:Nat}{t:Int}(g:∀e∈es,0≤e.1):t∈((es.foldl QbZ l)[i]?).getD []↔t∈(l[i]?).getD []∨(i<l.length∧((i:Int),t)∈es):=by
 induction es generalizing l with
 | nil=>simp
 | cons e es r=>
  rw[bC,r (fun e m=>g e (aA _ m))]
  have s:=g e (aB ..)
  have p:(QbZ l e).length=l.length:=by simp[QbZ]
  rw[p]
  have j:t∈((QbZ l e)[i]?).getD []↔t∈(l[i]?).getD []∨(i<l.length∧((i:Int),t)=e):=by
   unfold QbZ
   rw[cM]
   by_cases b:e.1.toNat=i
   ·cases h:l[i]? with
    | none=>
     have:=List.getElem?_eq_none_iff.1 h
     simp[b]
     intro d;omega
    | some x=>
     have:=(ai.1 h).1
     simp[b,this]
     have:((i:Int),t)=e↔t=e.2:=⟨fun h=>by rw[← h],fun h=>Prod.ext (by show (i:Int)=e.1;omega) h⟩
     rw[this]
   ·simp[b]
    intro _ d
    exact absurd (show e.1.toNat=i by rw[← d];rfl) b
  rw[j,aJ]
  constructor
  ·rintro ((h|⟨h,a⟩)|⟨h,a⟩)
   ·exact .inl h
   ·exact .inr ⟨h,.inl a⟩
   ·exact .inr ⟨h,.inr a⟩
  ·rintro (h|⟨h,a|a⟩)
   ·exact .inl (.inl h)
   ·exact .inl (.inr ⟨h,a⟩)
   ·exact .inr ⟨h,a⟩
theorem Qhu {i:Nat}(g:∀e∈es,InE n e)(a:(Zn n es)[i]? =some ys):t∈ys↔((i:Int),t)∈es:=by
 have h:=Qhj (l:=List.replicate n []) (i:=i) (t:=t) (es:=es) (fun e b=>(g e b).1.1)
 have d:i<n:=by have:=(ai.1 a).1;rwa [XA] at this
 change t∈((Zn n es)[i]?).getD []↔_ at h
 rw[a] at h
 simpa [d] using h
theorem Ko {i:Nat}(a:(Zn n es)[i]? =some ys):ys.length≤es.length:=by
 have:∀(l:List (List Int)) (i:Nat) (ys:List Int),(es.foldl QbZ l)[i]? =some ys→ys.length≤((l[i]?).getD []).length+es.length:=by
  clear a
  induction es with
  | nil=>intro l i ys h;simp at h;simp[h]
  | cons e es d=>
   intro l i ys h
   rw[bC] at h
   have:=d _ _ _ h
   have j:(((QbZ l e)[i]?).getD []).length≤((l[i]?).getD []).length+1:=by
    unfold QbZ
    rw[cM]
    cases m:l[i]? with
    | none=>simp
    | some x=>by_cases b:e.1.toNat=i <;> simp[b]
   rw[av];omega
 have h:=this _ _ _ a
 have g:(((List.replicate n ([]:List Int))[i]?).getD []).length=0:=by
  rw[cv];split <;> rfl
 omega
theorem Qt1 (g:ts[i]? =some t)(a:out[t.toNat]? =some c)(b:c<0)(d:out[o.toNat]? =some w):bfT o (ts.drop i) (out,q)=bfT o (ts.drop (i+1)) (out.set t.toNat (w+1),q++[t]):=by
 rw[Yr g,bfT]
 simp[a,d,b]
theorem Qrc (d:ts[i]? =some t)(a:out[t.toNat]? =some c)(b:¬c<0):bfT o (ts.drop i) (out,q)=bfT o (ts.drop (i+1)) (out,q):=by
 rw[Yr d,bfT]
 simp only[a,aj,if_neg b]
theorem Qt0 (h:ts.length≤i):bfT o (ts.drop i) st=st:=by rw[bR h,bfT]
theorem QwA (a:q[k]? =some o)(b:nx[o.toNat]? =some ts)(d:k<n+1):bfK nx (n+1 - k) k (out,q)=bfK nx (n+1 - (k+1)) (k+1) (bfT o (ts.drop 0) (out,q)):=by
 rw[show n+1 - k=(n+1 - (k+1))+1 by omega,bfK]
 simp[a,b]
theorem QtZ (h:q.length≤k):bfK nx f k (out,q)=out:=by
 cases f with
 | zero=>rfl
 | succ f=>rw[bfK];simp[bD h]
theorem QjG {l:List Int}(h:l[i]? =some c)(a:c<0)(d:0≤w):Qgq (l.set i w)+1=Qgq l:=by
 induction l generalizing i with
 | nil=>simp at h
 | cons x l b=>
  cases i with
  | zero=>
   simp only[cw,bp] at h
   subst h
   simp[Qgq,a,show¬w<0 by omega]
  | succ i=>
   have:=b (i:=i) (by simpa using h)
   simp only[Qgq,List.set_cons_succ,List.filter_cons] at this ⊢
   split <;> simp_all
theorem BI.step (h:BI n es (out,q))(L:∀e∈es,InE n e)(D:o∈q)(C:(o,t)∈es)(B:out[t.toNat]? =some c)(K:c<0)(E:out[o.toNat]? =some w):BI n es (out.set t.toNat (w+1),q++[t]):=by
 obtain ⟨H,y,s,I,z⟩:=h
 have M:0≤w:=by
  obtain ⟨_,_,v,a,m⟩:=s o D
  have a:out[o.toNat]? =some v:=a
  rw[E] at a;cases a;exact m
 have u:=z w (ae E)
 have p:=(ai.1 B).1
 obtain ⟨_,b,d⟩:=L _ C
 have b:0≤t:=b
 have d:t<(n:Int):=d
 refine ⟨by simpa using H,?_,?_,?_,?_⟩
 ·have a:=QjG B K (show 0≤w+1 by omega)
  have y:Qgq out+q.length=n:=y
  show Qgq (out.set t.toNat (w+1))+(q++[t]).length=n
  rw[ah,dc];omega
 ·intro x j
  show (0≤x∧x<n)∧Rch es x∧∃v,(out.set t.toNat (w+1))[x.toNat]? =some v∧0≤v
  rcases aQ.1 j with j|j
  ·obtain ⟨a,m,v,A,J⟩:=s x j
   refine ⟨a,m,?_⟩
   by_cases r:t.toNat=x.toNat
   ·exact ⟨w+1,by rw[← r,bk p],by omega⟩
   ·exact ⟨v,by rw[be r];exact A,J⟩
  ·rw[aF] at j
   subst j
   exact ⟨⟨b,d⟩,.step (s o D).2.1 C,w+1,bk p,by omega⟩
 ·intro i v g G
  have g:(out.set t.toNat (w+1))[i]? =some v:=g
  show (i:Int)∈q++[t]
  by_cases r:t.toNat=i
  ·exact aQ.2 (.inr (by rw[aF];omega))
  ·rw[be r] at g
   exact aQ.2 (.inl (I i v g G))
 ·intro v g
  show -1≤v∧v≤((q++[t]).length:Int)
  rw[ah,dc]
  have F:w≤(q.length:Int):=u.2
  rcases ck g with a|a
  ·have m:=z v a
   have A:v≤(q.length:Int):=m.2
   omega
  ·omega
theorem BI.q_le (h:BI n es (out,q)):q.length≤n:=by have:=h.cnt;simp only at this;omega
theorem BI.at_ (h:BI n es (out,q))(a:q[k]? =some o):(0≤o∧o<n)∧o∈q:=⟨(h.q o (ae a)).1,ae a⟩
theorem Qh3 (p:∀e∈es,InE n e):∀(ts:List Int) (st:List Int×List Int),BI n es st→o∈st.2→(∀t∈ts,(o,t)∈es)→BI n es (bfT o ts st)∧(∃r,(bfT o ts st).2=st.2++r)∧∀t∈ts,t∈(bfT o ts st).2
 | [],st,h,_,_=>⟨h,⟨[],by simp[bfT]⟩,fun t g=>by cases g⟩
 | t::ts,st,h,ho,he=>by
  have d:=he t (aB ..)
  obtain ⟨_,j,m⟩:=p _ d
  have j:0≤t:=j
  have m:t<(n:Int):=m
  obtain ⟨c,v⟩:∃c,st.1[t.toNat]? =some c:=⟨_,ao (by rw[h.len];omega)⟩
  obtain ⟨w,z,_⟩:=(h.q o ho).2.2
  rw[bfT,v,z]
  simp only[aj]
  split
  ·rename_i y
   have A:=BI.step (out:=st.1) (q:=st.2) h p ho d v y z
   obtain ⟨s,⟨r,b⟩,u⟩:=Qh3 p ts _ A (aQ.2 (.inl ho)) (fun t g=>he t (aA _ g))
   refine ⟨s,⟨[t]++r,by rw[b];simp⟩,fun x a=> ?_⟩
   rcases aJ.1 a with rfl|a
   ·rw[b];simp
   ·exact u x a
  ·rename_i y
   obtain ⟨s,⟨r,b⟩,u⟩:=Qh3 p ts st h ho (fun t g=>he t (aA _ g))
   refine ⟨s,⟨r,b⟩,fun x a=> ?_⟩
   rcases aJ.1 a with rfl|a
   ·have:=h.nn _ _ v (by omega)
    rw[show ((x.toNat:Nat):Int)=x by omega] at this
    rw[b];exact aQ.2 (.inl this)
   ·exact u x a
theorem Qni (s:∀e∈es,InE n e):∀(f k:Nat) (st:List Int×List Int),BI n es st→n+1≤f+k→k≤st.2.length→(∀j o,j<k→st.2[j]? =some o→∀t,(o,t)∈es→t∈st.2)→
 ∃r,BI n es (bfK (Zn n es) f k st,st.2++r)∧∀o∈st.2++r,∀t,(o,t)∈es→t∈st.2++r
 | 0,k,st,h,hf,hk,_=>by have:=BI.q_le (out:=st.1) (q:=st.2) h;omega
 | f+1,k,st,h,hf,hk,hcl=>by
  rw[bfK]
  cases m:st.2[k]? with
  | none=>
   refine ⟨[],by simpa using h,fun o d t b=> ?_⟩
   rw[br] at d ⊢
   obtain ⟨j,p⟩:=aK.1 d
   have H:=(ai.1 p).1
   have I:=List.getElem?_eq_none_iff.1 m
   exact hcl j o (by omega) p t b
  | some o=>
   simp only
   have d:=ae m
   obtain ⟨D,E⟩:=(h.q o d).1
   obtain ⟨ys,v⟩:∃ys,(Zn n es)[o.toNat]? =some ys:=⟨_,ao (by rw[XA];omega)⟩
   rw[v,aj]
   have u:∀t,t∈ys↔(o,t)∈es:=fun t=>by
    have:=Qhu (t:=t) s v
    rwa [show ((o.toNat:Nat):Int)=o by omega] at this
   obtain ⟨A,⟨r,g⟩,B⟩:=Qh3 s ys st h d (fun t b=>(u t).1 b)
   have C:=(ai.1 m).1
   obtain ⟨G,x,y⟩:=Qni s f (k+1) (bfT o ys st) A (by omega) (by rw[g,ah];omega) (fun j F p a t b=>by
    rw[g] at a ⊢
    rw[bo (by omega)] at a
    by_cases z:j=k
    ·subst z
     rw[m] at a;cases a
     rw[← g];exact B t ((u t).2 b)
    ·exact aQ.2 (.inl (hcl j F (by omega) a t b)))
   rw[g,aR] at x y
   exact ⟨r++G,x,y⟩
theorem BI.start (p:1≤n):BI n es ((List.replicate n (-1)).set 0 0,[0]):=by
 have d:(List.replicate n (-1:Int))[0]? =some (-1):=by rw[cv,if_pos (by omega)]
 refine ⟨by simp,?_,?_,?_,?_⟩
 ·have g:=QjG (w:=0) d (by decide) (by decide)
  have m:Qgq (List.replicate n (-1:Int))=n:=by simp[Qgq]
  show Qgq ((List.replicate n (-1)).set 0 0)+1=n
  omega
 ·intro x j
  rw[aF.1 j]
  exact ⟨⟨by omega,by omega⟩,.zero,0,bk (by simp;omega),by decide⟩
 ·intro i v a g
  have a:((List.replicate n (-1:Int)).set 0 0)[i]? =some v:=a
  by_cases b:0=i
  ·subst b;simp
  ·rw[be b,cv] at a
   split at a
   ·cases a;omega
   ·cases a
 ·intro v a
  show -1≤v∧v≤1
  rcases ck a with h|h
  ·rw[cQ h];omega
  ·omega
theorem Qo4 (b:1≤n)(d:∀e∈es,InE n e):∃r,BI n es (H2 n es,[0]++r)∧∀o∈[0]++r,∀t,(o,t)∈es→t∈[0]++r:=
 Qni d (n+1) 0 _ (BI.start b) (by omega) (aL _) (fun j o a=>absurd a (aV j))
theorem QrC [Decidable (Qc3 n es)](B:1≤n)(D:∀e∈es,InE n e):(!((H2 n es).any fun y=>decide (-1=y)))=decide (Qc3 n es):=by
 obtain ⟨r,h,z⟩:=Qo4 B D
 have C:∀u,Rch es u→u∈[0]++r:=fun u E=>by
  induction E with
  | zero=>simp
  | step _ A G=>exact z _ G _ A
 rw[cj,aU,bT,cr]
 constructor
 ·intro g k b
  have d:k<(H2 n es).length:=by have:=h.len;simp only at this;omega
  have m:=cH d
  have p:=g _ m
  have H:=(h.rng _ m).1
  have s:=h.nn k _ (ao d) (by simp only[aU] at p;omega)
  exact (h.q _ s).2.1
 ·intro g x F
  obtain ⟨k,b⟩:=aK.1 F
  have d:=(ai.1 b).1
  have j:k<n:=by have:=h.len;simp only at this;omega
  obtain ⟨_,_,v,a,I⟩:=h.q _ (C _ (g k j))
  have a:(H2 n es)[((k:Int)).toNat]? =some v:=a
  rw[show ((k:Int)).toNat=k by omega,b] at a
  cases a
  simp only[aU];omega
end
theorem Qrl {xs:List (List Int)}{i:Nat}{ys:List Int}(h:xs[i]? =some ys):(Zr Qs xs)[i*1+0]? =some (.dat Qs ys):=Qaj (e:= .sl 3 .int) (j:=0) h rfl
theorem Qez {xs:List (List Int)}{i:Nat}{x ys:List Int}(h:xs[i]? =some x):(Zr Qs xs).set (i*1+0) (.dat Qs ys)=Zr Qs (xs.set i ys):=
 (Qak (e:= .sl 3 .int) (j:=0) (x':=ys) h rfl (by decide)).symm
theorem Qbn (n:Int)(l:List (Int×Int))(b:Int)(hn:1≤n∧n≤300)(V:∀e∈l,InE n.toNat e)(b7:l.length≤4000)(Q:b=0):FC Tryz.prog 148 [(false,[dI n]),(false,[.dat (.sl 204 (.pr .int .int)) l]),(false,[dI b])] [] 0 (Xv 3 .int (H2 n.toNat l)):=by
 refine Qj Tryz.func148 rfl rfl Tryz.ntmps148 fun O_ hO c6 a9 X_ b1 b0=> ?_
 refine acI 0 fun _=> ?_
 refine acI 2 fun _=> ?_
 refine w3 ?_
 apply dW [⟨some 15,lR 0,[ar 0 3 .int ([(-1)])]⟩,io 16 (lI n),⟨some 17,lR 1,[ar 1 3 .int (List.replicate n.toNat (-1))]⟩,io 18 (lI n),⟨some 19,lR 2,[ar 2 62 Qs (List.replicate (n).toNat (Ty.zero Qs))]⟩,io 7 (lR 1),io 8 _] [0,1,0,7,7,24,0]
 refine zz (fun _ d=>ac (dBs 0 (e:= .int) Xt) rfl) ?_
 refine z_ ?_
 refine zz (fun _ d=>ac (dOB 1 (UQ ([(-1)]) n (-1) rfl (by omega)) Qlr) rfl) ?_
 refine z_ ?_
 refine zz (fun _ d=>ac (Qei 2 (e:=Qs) (n:=n) (d.v rfl) (d.v rfl) Wm QsB rfl (by omega) (by omega) (by omega) rfl (d.fr 2 rfl) (nlr rfl)) rfl) ?_
 exact y2
 refine w3 ?_
 refine alL 20 fun _=> ?_
 refine w4 ?_
 refine lp0 l.length (fun k=>⟨[(2,lI b),(6,lf (.val (.slice none 0 0))),(7,lR 1),(8,lR 3),(20,lf (.dat (.sl 204 (.pr .int .int)) l)),(21,lI (l.length:Int)),(22,lI (k:Int))],[ar 1 3 .int (List.replicate n.toNat (-1)),ar 3 62 Qs (Zn n.toNat (l.take k))]⟩) ?_ fun k _=> ?_
 exact wp [(3,2)] ⟨rfl,(Qm (by simp only[List.take_zero];rfl)),trivial⟩
 refine w4 ?_
 cases O:(decide ((k:Int)<(l.length:Int)))
 have P:=aa O
 refine w3 ?_
 refine YC ?_
 have Z:Zn n.toNat (l.take k)=Zn n.toNat l:=by rw[ZD (by omega)]
 refine AC.wk (QkJ 8 (q:=3) (e:=Qs) (xs:=Zn n.toNat (l.take k)) rfl rfl) ?_
 rw[Z]
 have c3:(List.replicate n.toNat (-1:Int)).length=n.toNat:=az ..
 have c0:=XA (n:=n.toNat) (es:=l)
 refine w4 ?_
 obtain ⟨x6,a2⟩:=gx (List.replicate n.toNat (-1)) ((b).toNat)
 refine lc (QB (e:= .int) (z':=0) (Qa rfl) rfl a2 rfl (Evl.ev (Qq rfl)) rfl Wl rfl rfl) ?_
 refine w3 ?_
 refine lc (dBs 4 (e:= .int) Xt) ?_
 refine w7 ?_
 refine Qu (fun S T=>∃(k:Nat) (out:List Int) (q:List Int),k≤n.toNat∧S=n.toNat - k∧(H2 n.toNat l=bfK (Zn n.toNat l) (n.toNat+1 - k) k (out,q))∧(BI n.toNat l (out,q))∧T=⟨[(6,lf (.val (.slice none 0 0))),(7,lR 5),(8,lf (.dat Ji (Zn n.toNat l))),(11,lR 6),(12,lI (k:Int))],[ar 5 3 .int out,ar 6 3 .int q]⟩) ⟨0,(List.replicate n.toNat (-1)).set ((b).toNat) 0,[b],aL _,rfl,(by rw[Q];rfl),(by rw[Q];exact BI.start (by omega)),rfl⟩ ?_ ?_
 exact wp [(5,1),(6,4)] ⟨(Qm (by first|rfl|simp)),(Qm (by first|rfl|simp)),trivial⟩
 rintro S T ⟨k,out,q,b6,b8,hA,U,rfl⟩
 have c2:=U.q_le
 have c1:out.length=n.toNat:=U.len
 refine w7 ?_
 cases C:(decide ((k:Int)<(q.length:Int)))
 have J:=aa C
 refine w7 ?_
 refine Qe<|fo_ hO ?_
 rw[hA,QtZ (by omega)]
 have J:=ab C
 refine w9 ?_
 obtain ⟨o,r⟩:=gx q k
 have a6:=U.at_ r
 refine w_ ?_
 refine alI 55 fun _=> ?_
 obtain ⟨ts,s⟩:=gx (Zn n.toNat l) ((o).toNat)
 have c4:=Ko s
 have F:∀t∈ts,(o,t)∈l:=fun t ht=>by have:=(Qhu V s).1 ht;rwa [show ((o.toNat:Nat):Int)=o by omega] at this
 refine w2 ?_
 refine alL 57 fun _=> ?_
 refine w4 ?_
 refine Qu (fun S T=>∃(i:Nat) (a:List Int) (x:List Int),i≤ts.length∧S=ts.length - i∧(H2 n.toNat l=bfK (Zn n.toNat l) (n.toNat+1 - (k+1)) (k+1) (bfT o (ts.drop i) (a,x)))∧(BI n.toNat l (a,x))∧(x[k]? =some o)∧T=⟨[(6,lf (.val (.slice none 0 0))),(7,lR 7),(8,lf (.dat Ji (Zn n.toNat l))),(11,lR 8),(12,lI (k:Int)),(45,lI (k:Int)),(47,lI (q.length:Int)),(48,lB true),(51,lf (.dat Ji (Zn n.toNat l))),(53,lI (k:Int)),(55,lI o),(56,lf (.elt Qs ts 0)),(57,lf (.dat Qs ts)),(58,lI (ts.length:Int)),(59,lI (i:Int))],[ar 7 3 .int a,ar 8 3 .int x]⟩) ⟨0,out,q,aL _,rfl,(hA.trans (QwA r s (by omega))),U,r,rfl⟩ ?_ ?_
 exact wo [(7,5),(8,6)]
 rintro S T ⟨i,a,x,a3,a5,I,g,y,rfl⟩
 have a8:=g.q_le
 have a7:a.length=n.toNat:=g.len
 have a1:=g.at_ y
 have a0:=(ai.1 y).1
 refine w4 ?_
 cases D:(decide ((i:Int)<(ts.length:Int)))
 have K:=aa D
 refine w7 ?_
 refine Qd<|QV ⟨k+1,a,x,by omega,rfl,(by rw[I,Qt0 (by omega)]),g,rfl⟩ (by omega) ?_
 exact wo [(5,7),(6,8)]
 have K:=ab D
 refine w5 ?_
 obtain ⟨u,m⟩:=gx ts i
 obtain ⟨_,h,j⟩:=V _ (F _ (ae m))
 have h:0≤u:=h
 have j:u<(n.toNat:Int):=j
 refine w2 ?_
 refine alI 62 fun _=> ?_
 refine w6 ?_
 obtain ⟨N,G⟩:=gx a ((u).toNat)
 have W: -1≤N∧N≤(x.length:Int):=g.rng _ (ae G)
 refine w_ ?_
 refine alI 66 fun _=> ?_
 refine w2 ?_
 cases E:(decide (N<0))
 have L:=aa E
 refine w6 ?_
 refine Qd<|QV ⟨i+1,a,x,by omega,rfl,(by (rw[I,Qrc m ‹_› ‹_›];done)),(by exact g),(by exact y),rfl⟩ (by omega) ?_
 exact wo []
 have L:=ab E
 refine w10 ?_
 obtain ⟨B,R⟩:=gx a ((o).toNat)
 have X: -1≤B∧B≤(x.length:Int):=g.rng _ (ae R)
 refine w_ ?_
 refine alI 76 fun _=> ?_
 refine w2 ?_
 refine lc (QB (e:= .int) (z':=B+1) (Qa rfl) rfl G rfl (Qn rfl) rfl Wl rfl rfl) ?_
 refine w4 ?_
 refine lc (dBs 9 (e:= .int) Xt) ?_
 refine lc (dA 10 Vh) ?_
 refine w_ ?_
 refine Qd ?_
 refine w4 ?_
 refine Qd ?_
 refine QV ⟨i+1,(a.set ((u).toNat) (B+1)),(x++([u])),by omega,rfl,(by (rw[I,Qt1 m ‹_› ‹_› ‹_›];done)),(by exact g.step V a1.2 (F _ (ae m)) ‹_› ‹_› ‹_›),(by (rw[bo a0];exact y)),rfl⟩ (by omega) ?_
 exact wp [(8,10)] ⟨(Qm (by first|rfl|simp)),(Qm (by first|rfl|simp)),trivial⟩
 have P:=ab O
 refine w5 ?_
 obtain ⟨e,H⟩:=gx l k
 refine w2 ?_
 refine lc (xal 11 (.pr .int .int) Qeb) ?_
 refine w2 ?_
 have Y:=V _ (ae H)
 have b9:=XA (n:=n.toNat) (es:=l.take k)
 obtain ⟨⟨b2,b3⟩,b4,b5⟩:=Y
 obtain ⟨ys,A⟩:=gx (Zn n.toNat (l.take k)) e.1.toNat
 have c5:=Ko A
 have a4:(l.take k).length≤l.length:=by simp only[ap];omega
 have z:=Qrl A
 have M:e.1.toNat*1+0<(Zr Qs (Zn n.toNat (l.take k))).length:=by rw[VQ];show e.1.toNat*1+0<(Zn n.toNat (l.take k)).length*1;omega
 refine AC.wk (Qdy (q:=3) rfl (by omega))<|AC.wk (Hl 12 (q:=3) (p:=e.1.toNat*1+0) (E':=3) (e':= .int) (ys:=ys) rfl (z) (Fresh.of rfl) (aE rfl)) ?_
 apply dV (i6 26 _ _ _ _ _ _ (io 32 (lf (.ept 3 1 ((e.1).toNat) 0))::io 33 (lR 12)::i2 34 _ _ [⟨some 36,lR 13,[ar 13 3 .int ([e.2])]⟩,⟨some 37,lR 14,[ar 14 3 .int (ys++([e.2])),(12,none),(13,none)]⟩,io 38 (lf (.ept 3 1 ((e.1).toNat) 0)),⟨none,lf (.val undef),[(3,some (.obx 62 1 ((Zn n.toNat (l.take k)).length) (Zr Qs (Zn n.toNat (l.take k))) [((e.1).toNat*1+0,.ref 14),(e.1.toNat*1+0,.ref 12)]))]⟩])) [0,1,1,7,15,15,7,7,255,255,255,7,0,0]
 refine z6 ?_
 refine zz (fun _ d=>ac (YQ (d.v rfl) (d.en 3 rfl) (d.v rfl) Wm XK rfl (by omega) (by omega)) rfl) ?_
 refine zz (fun _ d=>ac (Kz (d.v rfl) (d.n 3 rfl) (show (ovr _ _)[e.1.toNat*1+0]? =some (.ref 12) from by simp only[ovr,bJ,aD,M,z,dJ,if_true,if_false,↓reduceIte]) (d.n 12 rfl) XK rfl) rfl) ?_
 refine z2 ?_
 refine zz (fun _ d=>ac (dBs 13 (e:= .int) Xt) rfl) ?_
 refine zz (fun _ d=>ac (dA 14 Vh) rfl) ?_
 refine zz (fun _ d=>ac (YQ (d.v rfl) (d.en 3 rfl) (d.v rfl) Wm XK rfl (by omega) (by omega)) rfl) ?_
 refine zz (fun _ d=>ac (Uv (t:=12) (d.v rfl) (d.n 3 rfl) (show (ovr _ _)[e.1.toNat*1+0]? =some (.ref 12) from by simp only[ovr,bJ,aD,M,z,dJ,if_true,if_false,↓reduceIte]) (d.v rfl) (d.n 14 rfl) XK) rfl) ?_
 exact zN
 refine w_ ?_
 refine AC.wk (Qa5 (q:=3) (t:=14) (p:=e.1.toNat*1+0) rfl (by simp only[ovr,bJ,aD,M,z,dJ,if_true,if_false,↓reduceIte]) rfl) ?_
 refine AC.wk (Qa4 (q:=3) (e:=Qs) ((Zn n.toNat (l.take k)).set e.1.toNat (ys++[e.2])) rfl (by simp only[aD]) (by simp only[ovr,dt];exact Qez A)) ?_
 refine w3 ?_
 refine Qd ?_
 refine l0_ ?_
 exact wp [] ⟨rfl,(Qm (QfR H A)),trivial⟩
section
variable {c:DSg}{a:DAr}{x y:ByteArray}{k:Nat}
theorem Qnd (h:¬(0≤a.1∧a.1≤(c.2.1.length:Int) - 1)):¬XC c a:=fun g=>h g.1
theorem Qne (h:¬(0≤a.2.2.2∧a.2.2.2≤(c.2.1.length:Int) - 1)):¬XC c a:=fun g=>h g.2.1
theorem Qnf (h:¬KD (c.1.length:Int) (a.2.1,a.2.2.1)):¬XC c a:=fun g=>h g.2.2.1
theorem Qng (b:c.2.1[a.1.toNat]? =some x)(d:c.2.1[a.2.2.2.toNat]? =some y)(h:¬Fit a x y):¬XC c a:=fun g=>h (by have:=g.2.2.2;rwa [Xf b,Xf d] at this)
theorem Qwz (b:0≤a.1∧a.1≤(c.2.1.length:Int) - 1)(d:0≤a.2.2.2∧a.2.2.2≤(c.2.1.length:Int) - 1)(e:KD (c.1.length:Int) (a.2.1,a.2.2.1))(f:c.2.1[a.1.toNat]? =some x)(g:c.2.1[a.2.2.2.toNat]? =some y)(h:Fit a x y):XC c a:=
 ⟨b,d,e,by rw[Xf f,Xf g];exact h⟩
end
theorem Yx (c:ZM)[∀c,Decidable (SgOk c)]:FC Tryz.prog 67 [(true,[.dat Ql c.1,.dat Qb c.2.1,.dat QA c.2.2])] [] 0 (QK (lB (decide (SgOk c)))):=by
 classical
 refine Qj Tryz.func67 rfl rfl Tryz.ntmps67 fun Y p X U Z W V=> ?_
 refine w_ ?_
 refine xbx 0 ?_
 refine w6 ?_
 refine lc (dK (XX c.1) Qb7) ?_
 refine w2 ?_
 cases E:(decide (Yj c.1))
 have F:=aa E
 refine w16 ?_
 refine w_ ?_
 refine Qe<|fqB p ?_
 exact Qtd ‹_›
 have F:=ab E
 refine w2 ?_
 refine alL 14 fun _=> ?_
 refine w_ ?_
 refine lgy rfl rfl (dK (Q7 (c.2.1.length:Int) 1 300) Z6) ?_
 refine w3 ?_
 cases G:(decide (1≤(c.2.1.length:Int)∧(c.2.1.length:Int)≤300))
 have H:=aa G
 refine w10 ?_
 refine Qe<|fqB p ?_
 exact Qte ‹_›
 have H:=ab G
 refine w2 ?_
 refine alL 21 fun _=> ?_
 refine w4 ?_
 refine cd_ (fun _ _=> ?_) fun _ _=> ?_
 refine w4 ?_
 refine alL 26 fun _=> ?_
 refine w8 ?_
 refine alL 30 fun _=> ?_
 refine w4 ?_
 refine lpK c.2.1.length (fun k=>∀j,j<k→∀x,c.2.1[j]? =some x→Ye x (c.1.length:Int)) (fun k=>⟨[(1,lP 0 0),(3,lI ((c.2.1.length:Int) - 1)),(30,lf (.dat Qb c.2.1)),(31,lI (c.2.1.length:Int)),(32,lI (k:Int))],[bx 0 28 [.dat Ql c.1,.dat Qb c.2.1,.dat QA c.2.2]]⟩) ((fun j S=>absurd S (aV j))) ?_ fun k _ D=> ?_
 exact wo []
 refine w4 ?_
 cases I:(decide ((k:Int)<(c.2.1.length:Int)))
 have J:=aa I
 refine w7 ?_
 refine alL 44 fun _=> ?_
 refine w4 ?_
 refine lpK c.2.2.length (fun i=>∀j,j<i→∀a,c.2.2[j]? =some a→XC c a) (fun i=>⟨[(1,lP 0 0),(3,lI ((c.2.1.length:Int) - 1)),(44,lf (.dat QA c.2.2)),(45,lI (c.2.2.length:Int)),(46,lI (i:Int))],[bx 0 28 [.dat Ql c.1,.dat Qb c.2.1,.dat QA c.2.2]]⟩) ((fun j S=>absurd S (aV j))) ?_ fun i _ Q=> ?_
 exact wo []
 refine w4 ?_
 cases q:(decide ((i:Int)<(c.2.2.length:Int)))
 have t:=aa q
 refine w3 ?_
 apply dW (i5 92 _ _ _ _ _ [io 97 (lf (.dat (.sl 204 (.pr .int .int)) (Z4 c.2.2))),io 98 (lf (.dat Qs (H2 (c.2.1.length:Int).toNat (Z4 c.2.2)))),io 99 (lB ((H2 (c.2.1.length:Int).toNat (Z4 c.2.2)).any (fun y=>decide ((-1)=y)))),io 100 _,io 2 _]) [0,0,0,7,7,7,0,0,0,0]
 refine z5 ?_
 refine zz (fun _ b=>ac (dK (Qcd c.2.2 (by omega)).frozen Qlm) rfl) ?_
 refine zz (fun _ b=>ac (dK (Qbn (c.2.1.length:Int) (Z4 c.2.2) 0 (by omega) (Qge (fun a R=>Qa9 (Xh Q (by omega) a R))) (by simp only[Z4,aH];omega) rfl).frozen Qll) rfl) ?_
 refine zz (fun _ b=>ac (dK (V3 (H2 (c.2.1.length:Int).toNat (Z4 c.2.2)) (-1)) Qlk) rfl) ?_
 exact y2
 refine Qe<|fqB p ?_
 exact (QrC (by omega) (Qge (fun a R=>Qa9 (Xh Q (by omega) a R)))).trans (Qtc ‹_› ‹_› ‹_› (Xh D (by omega)) (Xh Q (by omega)))
 have t:=ab q
 refine w5 ?_
 obtain ⟨ar,f⟩:=gx c.2.2 i
 refine w2 ?_
 refine lc (xal 1 Yq YJ) ?_
 refine w2 ?_
 cases d:(decide (0≤ar.1∧ar.1≤((c.2.1.length:Int) - 1)))
 have u:=aa d
 apply dW (i3 50 _ _ _ (io 53 (lB false)::i9 54 _ _ _ _ _ _ _ _ _ (i9 63 _ _ _ _ _ _ _ _ _ (i9 72 _ _ _ _ _ _ _ _ _ (i9 81 _ _ _ _ _ _ _ _ _ [io 90 _]))))) [0,0,3,0,0,0,0,0,192,0,0,0,0,0,0,24576,24576,0,253952,253952,253952,0,0,0,0,0,33554432,33554432,234881024,234881024,33554432,33554432,4261412864,4261412864,17146314752,17146314752,4261412864,4261412864,0,0,0]
 refine z3 ?_
 refine zz (fun _ b=>ac (Q9 (d) (dK (Q7 ar.1 0 ((c.2.1.length:Int) - 1)) Z6)) rfl) ?_
 refine z16 ?_
 refine z16 ?_
 exact y5
 refine w4 ?_
 refine Qe<|fqB p ?_
 exact Qgb f (by first|exact Qnd ‹_› | exact Qne ‹_› | exact Qnf ‹_› | exact Qng (x:=l) (y:=m) ‹_› ‹_› ‹_›)
 have u:=ab d
 cases e:(decide (0≤ar.2.2.2∧ar.2.2.2≤((c.2.1.length:Int) - 1)))
 have v:=aa e
 apply dW (i3 50 _ _ _ (io 53 (lB true)::i5 54 _ _ _ _ _ (io 59 (lB false)::i9 60 _ _ _ _ _ _ _ _ _ (i9 69 _ _ _ _ _ _ _ _ _ (i9 78 _ _ _ _ _ _ _ _ _ (i4 87 _ _ _ _ [])))))) [0,0,3,0,0,0,0,0,192,0,0,0,0,0,0,24576,24576,0,253952,253952,253952,0,0,0,0,0,33554432,33554432,234881024,234881024,33554432,33554432,4261412864,4261412864,17146314752,17146314752,4261412864,4261412864,0,0,0]
 refine z3 ?_
 refine zz (fun _ b=>ac (Q9 (d) (dK (Q7 ar.1 0 ((c.2.1.length:Int) - 1)) Z6)) rfl) ?_
 refine z5 ?_
 refine zz (fun _ b=>day rfl (b.k rfl) (Q9 (e) (dK (Q7 ar.2.2.2 0 ((c.2.1.length:Int) - 1)) Z6)) rfl) ?_
 refine z16 ?_
 exact y15
 refine w4 ?_
 refine Qe<|fqB p ?_
 exact Qgb f (by first|exact Qnd ‹_› | exact Qne ‹_› | exact Qnf ‹_› | exact Qng (x:=l) (y:=m) ‹_› ‹_› ‹_›)
 have v:=ab e
 cases g:(decide (KD (c.1.length:Int) (ar.2.1,ar.2.2.1)))
 have z:=aa g
 apply dW (i3 50 _ _ _ (io 53 (lB true)::i5 54 _ _ _ _ _ (io 59 (lB true)::i7 60 _ _ _ _ _ _ _ (io 67 (ag [dI ar.2.1,dB ar.2.2.1])::i3 68 _ _ _ (io 71 (lB false)::i9 72 _ _ _ _ _ _ _ _ _ (i9 81 _ _ _ _ _ _ _ _ _ [io 90 _])))))) [0,0,3,0,0,0,0,0,192,0,0,0,0,0,0,24576,24576,0,253952,253952,253952,0,0,0,0,0,33554432,33554432,234881024,234881024,33554432,33554432,4261412864,4261412864,17146314752,17146314752,4261412864,4261412864,0,0,0]
 refine z3 ?_
 refine zz (fun _ b=>ac (Q9 (d) (dK (Q7 ar.1 0 ((c.2.1.length:Int) - 1)) Z6)) rfl) ?_
 refine z5 ?_
 refine zz (fun _ b=>day rfl (b.k rfl) (Q9 (e) (dK (Q7 ar.2.2.2 0 ((c.2.1.length:Int) - 1)) Z6)) rfl) ?_
 refine z7 ?_
 refine zz (fun _ b=>day rfl (b.k rfl) (Qk KG ⟨_,_,rfl,(b.w rfl),⟨_,_,rfl,(b.w rfl),rfl⟩⟩ (au.1 rfl) rfl rfl) rfl) ?_
 refine z3 ?_
 refine zz (fun _ b=>day rfl (b.k rfl) (Q9 (g) (dK (JO (ar.2.1,ar.2.2.1) (c.1.length:Int) (by have:=(‹Yj c.1›).2.2;omega)) QeO)) rfl) ?_
 refine z16 ?_
 exact y3
 refine w4 ?_
 refine Qe<|fqB p ?_
 exact Qgb f (by first|exact Qnd ‹_› | exact Qne ‹_› | exact Qnf ‹_› | exact Qng (x:=l) (y:=m) ‹_› ‹_› ‹_›)
 have z:=ab g
 obtain ⟨l,M⟩:=gx c.2.1 ((ar.1).toNat)
 have O:Ye l (c.1.length:Int)→l.size=c.1.length:=fun h=>by have:=h.2;omega
 have K:c.2.1.length≤k→l.size=c.1.length:=fun h=>O (Xh D h _ (ae M))
 obtain ⟨m,N⟩:=gx c.2.1 ((ar.2.2.2).toNat)
 have P:Ye m (c.1.length:Int)→m.size=c.1.length:=fun h=>by have:=h.2;omega
 have L:c.2.1.length≤k→m.size=c.1.length:=fun h=>P (Xh D h _ (ae N))
 apply dW (i3 50 _ _ _ (io 53 (lB true)::i5 54 _ _ _ _ _ (io 59 (lB true)::i7 60 _ _ _ _ _ _ _ (io 67 (ag [dI ar.2.1,dB ar.2.2.1])::i3 68 _ _ _ (io 71 (lB true)::i9 72 _ _ _ _ _ _ _ _ _ (i7 81 _ _ _ _ _ _ _ (io 88 (lB (decide (Fit ar l m)))::i2 89 _ _ []))))))) [0,0,3,0,0,0,0,0,192,0,0,0,0,0,0,24576,24576,0,253952,253952,253952,0,0,0,0,0,33554432,33554432,234881024,234881024,33554432,33554432,4261412864,4261412864,17146314752,17146314752,4261412864,4261412864,0,0,0]
 refine z3 ?_
 refine zz (fun _ b=>ac (Q9 (d) (dK (Q7 ar.1 0 ((c.2.1.length:Int) - 1)) Z6)) rfl) ?_
 refine z5 ?_
 refine zz (fun _ b=>day rfl (b.k rfl) (Q9 (e) (dK (Q7 ar.2.2.2 0 ((c.2.1.length:Int) - 1)) Z6)) rfl) ?_
 refine z7 ?_
 refine zz (fun _ b=>day rfl (b.k rfl) (Qk KG ⟨_,_,rfl,(b.w rfl),⟨_,_,rfl,(b.w rfl),rfl⟩⟩ (au.1 rfl) rfl rfl) rfl) ?_
 refine z3 ?_
 refine zz (fun _ b=>day rfl (b.k rfl) (Q9 (g) (dK (JO (ar.2.1,ar.2.2.1) (c.1.length:Int) (by have:=(‹Yj c.1›).2.2;omega)) QeO)) rfl) ?_
 refine z16 ?_
 refine zz (fun _ b=>day rfl (b.k rfl) (dK (Qbo ar l m (by have:=K (by omega);have:=L (by omega);omega)) Qlj) rfl) ?_
 exact y2
 cases r:(decide (Fit ar l m))
 have A:=aa r
 refine w4 ?_
 refine Qe<|fqB p ?_
 exact Qgb f (by first|exact Qnd ‹_› | exact Qne ‹_› | exact Qnf ‹_› | exact Qng (x:=l) (y:=m) ‹_› ‹_› ‹_›)
 have A:=ab r
 refine w6 ?_
 refine Qd ?_
 refine lK_ ((YM Q f (Qwz ‹_› ‹_› ‹_› (x:=l) (y:=m) ‹_› ‹_› ‹_›))) ?_
 exact wo []
 have J:=ab I
 refine w5 ?_
 obtain ⟨o,n⟩:=gx c.2.1 k
 have C:Ye o (c.1.length:Int)→o.size=c.1.length:=fun h=>by have:=h.2;omega
 have T:c.2.1.length≤k→o.size=c.1.length:=fun h=>C (Xh D h _ (ae n))
 refine w8 ?_
 refine alL 38 fun _=> ?_
 refine w_ ?_
 refine lc (dK (Qfo o (c.1.length:Int)) Qk3) ?_
 refine w2 ?_
 cases s:(decide (Ye o (c.1.length:Int)))
 have B:=aa s
 refine w4 ?_
 refine Qe<|fqB p ?_
 exact Qtg n ‹_›
 have B:=ab s
 refine w6 ?_
 refine Qd ?_
 refine lK_ ((YM D n ‹_›)) ?_
 exact wo []
 refine w3 ?_
 refine Qe<|fqB p ?_
 exact Qtf ‹_›
def QBd (a b:UInt8):Bool:=decide (a=b)||(decide (a=48)&&decide (b=43))||(decide (a=43)&&decide (b=49))||(decide (a=49)&&decide (b=45))||(decide (a=45)&&decide (b=48))||(decide (a=43)&&decide (b=45))||(decide (a=45)&&decide (b=43))
def QvZ (s:ByteArray):Prop:=∀x∈s.toList,x=48∨x=43∨x=49∨x=45
instance (s:ByteArray):Decidable (QvZ s):=inferInstanceAs (Decidable (∀x∈s.toList,x=48∨x=43∨x=49∨x=45))
def SignsOk (c:DSg)(s:ByteArray):Prop:=QvZ s∧s.size=c.2.1.length∧SgOk c
instance (c:DSg) (s:ByteArray) [Decidable (SgOk c)]:Decidable (SignsOk c s):=inferInstanceAs (Decidable (_∧_))
def Qwk (c:DSg)(s:ByteArray):Bool:=c.2.2.all fun a=>QBd (bAt s a.1) (bAt s a.2.2.2)
def QA0 (s:ByteArray)(a:DAr):Bool:=(decide (bAt s a.1=43)&&(decide (bAt s a.2.2.2=49)||decide (bAt s a.2.2.2=45)))||(decide (bAt s a.1=45)&&(decide (bAt s a.2.2.2=48)||decide (bAt s a.2.2.2=43)))
def okP (c:DSg)(s:ByteArray)[Decidable (SgOk c)]:Bool:=decide (SignsOk c s)&&Qwk c s
def QBI (as_:List DAr)(q:Int):List DAr:=as_.filter fun a=>decide (a.1=q)
def QBq:ByteArray:=⟨#[48,43,49,45,48]⟩
section
variable {a b x:UInt8}{k i:Nat}{s:ByteArray}{c:DSg}{l:List DAr}{e:DAr}{q:Int}
section
variable [Decidable (SignsOk c s)]
end
theorem SignsOk.at_ (h:SignsOk c s)(f:e∈c.2.2):(0≤e.1∧e.1<(s.size:Int))∧0≤e.2.2.2∧e.2.2.2<(s.size:Int):=by
 have d:=Qa9 (h.2.2.arcs e f)
 rw[h.2.1]
 exact d
end
def DelI {α:Type _}(p:α→Bool)(l0 l:List α)(i j:Int):Prop:=(0≤i∧i<j∧j≤(l.length:Int))∧l.length=l0.length∧l.take i.toNat=(l0.take j.toNat).filter p∧l.drop j.toNat=l0.drop j.toNat
section
variable {α:Type _}{p f:α→Bool}{l0 l:List α}{i j:Int}{x:α}
theorem QaF (f:α→Bool)(l:List α):(Zf f l= -1∧∀x∈l,f x=false)∨∃(k:Nat) (x:α),Zf f l=(k:Int)∧l[k]? =some x∧f x=true∧NoneTo f l k:=by
 unfold Zf
 cases h:l.findIdx? f with
 | none=>exact .inl ⟨rfl,fun x g=>by simpa using List.findIdx?_eq_none_iff.1 h x g⟩
 | some k=>
  obtain ⟨a,b,c⟩:=cy.1 h
  exact .inr ⟨k,l[k],rfl,ao a,b,fun j e y m=>by
   obtain ⟨n,d⟩:=ai.1 m
   have:=c j e
   rw[d] at this
   simpa using this⟩
theorem QfC (f:α→Bool)(l:List α): -1≤Zf f l∧Zf f l<(l.length:Int):=by
 rcases QaF f l with ⟨h,_⟩|⟨k,x,h,a,_⟩
 ·omega
 ·have:=(ai.1 a).1
  omega
theorem JX (h:Zf f l= -1):l=l.filter fun x=> !f x:=by
 rcases QaF f l with ⟨_,a⟩|⟨k,_,a,_⟩
 ·exact (cG.2 fun x b=>by rw[a x b];rfl).symm
 ·omega
theorem DelI.start (h:¬Zf f l= -1):DelI (fun x=> !f x) l l (Zf f l) (Zf f l+1):=by
 rcases QaF f l with ⟨a,_⟩|⟨k,x,a,d,e,g⟩
 ·exact absurd a h
 ·have o:=(ai.1 d).1
  rw[a]
  refine ⟨by omega,rfl,?_,rfl⟩
  rw[show ((k:Int)+1).toNat=k+1 by omega,show ((k:Int)).toNat=k by omega,QE d,bE]
  have:([x].filter fun x=> !f x)=[]:=by simp[e]
  rw[this,br]
  refine (cG.2 fun y m=> ?_).symm
  obtain ⟨n,b⟩:=aK.1 m
  have c:=(ai.1 b).1
  rw[ap] at c
  rw[List.getElem?_take_of_lt (by omega)] at b
  rw[g n (by omega) y b];rfl
theorem DelI.at_ (h:DelI p l0 l i j)(b:l[j.toNat]? =some x):l0[j.toNat]? =some x:=by
 obtain ⟨c,d,e,a⟩:=h
 have:=congrArg (fun l:List α=>l[0]?) a
 simpa [b] using this.symm
theorem DelI.lt (h:DelI p l0 l i j)(a:l[j.toNat]? =some x):j<(l.length:Int):=by
 have:=(ai.1 a).1
 obtain ⟨b,_⟩:=h
 omega
theorem DelI.drop_ (h:DelI p l0 l i j)(a:l[j.toNat]? =some x)(g:p x=false):DelI p l0 l i (j+1):=by
 have b:=h.at_ a
 have m:=h.lt a
 obtain ⟨k,c,d,e⟩:=h
 refine ⟨by omega,c,?_,?_⟩
 ·rw[show (j+1).toNat=j.toNat+1 by omega,QE b,bE,d];simp[g]
 ·have:=congrArg (List.drop 1) e
  rw[dr,dr] at this
  rw[show (j+1).toNat=j.toNat+1 by omega]
  exact this
theorem DelI.keep (h:DelI p l0 l i j)(a:l[j.toNat]? =some x)(k:p x=true):DelI p l0 (l.set i.toNat x) (i+1) (j+1):=by
 have b:=h.at_ a
 have n:=h.lt a
 obtain ⟨m,c,d,e⟩:=h
 refine ⟨by rw[aD];omega,by rw[aD];exact c,?_,?_⟩
 ·have g:(l.set i.toNat x)[i.toNat]? =some x:=bk (by omega)
  rw[show (j+1).toNat=j.toNat+1 by omega,show (i+1).toNat=i.toNat+1 by omega,QE g,QE b,bE,List.take_set_of_le (aO _),d]
  simp[k]
 ·have:=congrArg (List.drop 1) e
  rw[dr,dr] at this
  rw[show (j+1).toNat=j.toNat+1 by omega,List.drop_set_of_lt (by omega)]
  exact this
theorem DelI.end_ {z:List α}(h:DelI p l0 l i j)(g:¬j<(l.length:Int))(n:Nat)(b:n=i.toNat):(l.take i.toNat++z).take n=l0.filter p:=by
 obtain ⟨c,d,a,e⟩:=h
 subst b
 rw[List.take_left' (by rw[ap];omega),a,aP (by omega)]
end
theorem Qcm (l:Qgr)(name:ByteArray):FC Tryz.prog 303 [(false,[.dat Ql l]),(false,[dS name])] [] 0 (QK (lI (Zf (fun x:Qy=>decide (x.1=name)) l))):=by
 refine Qj Tryz.func303 rfl rfl Tryz.ntmps303 fun s h q m t o n=> ?_
 refine w6 ?_
 refine alL 7 fun _=> ?_
 refine w4 ?_
 refine lpK l.length (fun k=>NoneTo (fun x:Qy=>decide (x.1=name)) l k) (fun k=>⟨[(1,lf (dS name)),(7,lf (.dat Ql l)),(8,lI (l.length:Int)),(9,lI (k:Int))],[]⟩) (NoneTo.zero) ?_ fun k _ a=> ?_
 exact wo []
 refine w4 ?_
 cases b:(decide ((k:Int)<(l.length:Int)))
 have c:=aa b
 refine w6 ?_
 refine Qe<|fqI h ?_
 first|exact (a.no (by omega)).symm
 have c:=ab b
 refine w6 ?_
 obtain ⟨r,g⟩:=gx l k
 refine w2 ?_
 refine lc (xal 0 QI WO) ?_
 refine w9 ?_
 cases d:(decide (r.1=name))
 have e:=aa d
 refine w6 ?_
 refine Qd ?_
 refine lK_ (a.step g ‹_›) ?_
 exact wo []
 have e:=ab d
 refine w5 ?_
 refine Qe<|fqI h ?_
 exact (a.at g ‹_›).symm
end Go.Proofs.YtjfpbcmfbnnooaaGreat
namespace Go.Proofs.YtjfpbcmfbnnooaaGreat
open Go.RowKit
theorem Qdx:∀{t:Ty} {w:World} {cs:List Value} {x y:t.Den},Rep t w cs x→Rep t w cs y→x=y
 | .int,_,_,x,y,h,k=>by have f:=h.1;have d:=k.1;rw[f] at d;simpa using d
 | .bool,_,_,x,y,h,k=>by have f:_=_:=h;have d:_=_:=k;rw[f] at d;simpa using d
 | .str,_,_,x,y,h,k=>by have f:=h.1;have d:=k.1;rw[f] at d;simpa using d
 | .u8,_,_,x,y,h,k=>by
  have f:_=_:=h;have d:_=_:=k;rw[f] at d
  simp only[aI,Value.int.injEq,and_true,true_and] at d
  exact UInt8.toNat_inj.1 (by omega)
 | .vl,_,_,x,y,h,k=>by
  have f:_=_:=h;have d:_=_:=k;rw[f] at d
  exact QnL (by simpa using d)
 | .sl E e,w,cs,xs,ys,⟨A,c,f,d,h3,h4⟩,⟨A',c',k1,k2,k3,k4⟩=>by
  rw[f] at k1
  simp only[aI,Value.slice.injEq,and_true] at k1
  obtain ⟨rfl,K,rfl⟩:=k1
  apply bM
  intro i
  rcases da i xs.length with m|m
  ·obtain ⟨b,o,B,C⟩:=h4 (by omega)
   obtain ⟨J,N,q,D⟩:=k4 (by omega)
   rw[B] at q
   cases q
   obtain ⟨p,u,H⟩:=C i xs[i] (ao m)
   obtain ⟨g,v,I⟩:=D i ys[i] (ao (by omega))
   have F:p=g:=by
    apply bM
    intro j
    have L:=u.len
    have M:=v.len
    rcases da j e.wd with G|G
    ·have z:=H j p[j] (ao (by omega))
     have n:=I j g[j] (ao (by omega))
     rw[z] at n
     rw[ao (by omega),ao (by omega)]
     exact n
    ·rw[bD (by omega),bD (by omega)]
   subst F
   rw[ao m,ao (by omega),Qdx u v]
  ·rw[bD m,bD (by omega)]
 | .pr a b,w,cs,x,y,⟨l,r,f,d,h3⟩,⟨l',r',k1,k2,k3⟩=>by
  rw[f] at k1
  obtain ⟨rfl,rfl⟩:=List.append_inj k1 (by rw[d.len,k2.len])
  exact Prod.ext (Qdx d k2) (Qdx h3 k3)
theorem Qr4 {E:TypeId}{e:Ty}{w:World}{fp:List Nat}{cs:List Value}{x:List e.Den}(h:Own (.sl E e) w fp cs x):∃v:Hdr,cs=[hdV v]:=by
 rcases h with ⟨_,h,_⟩|⟨g,a,b,fps,_,h,_⟩
 ·exact ⟨none,h⟩
 ·exact ⟨some (g,0,x.length,a),h⟩
open Classical in
noncomputable def rdF (E:TypeId) (e:Ty) (w:World) (v:Hdr):List e.Den:=if h:∃x,Rep (.sl E e) w [hdV v] x then h.choose else []
theorem QsU {E:TypeId}{e:Ty}{w:World}{v:Hdr}{x:List e.Den}(h:Rep (.sl E e) w [hdV v] x):rdF E e w v=x:=by
 have a:∃x,Rep (.sl E e) w [hdV v] x:=⟨x,h⟩
 unfold rdF
 rw[dif_pos a]
 exact Qdx a.choose_spec h
theorem Qhw {E:TypeId}{e:Ty}{w:World}:∀{xs:List (List e.Den)} {fp:List Nat} {cs:List Value},OwnL (Own (.sl E e) w) fp cs xs→∃vs:List Hdr,cs=vs.map hdV∧vs.map (rdF E e w)=xs
 | [],_,_,h=>⟨[],h.2,rfl⟩
 | x::xs,_,_,⟨f1,f2,c1,c2,h1,h2,h3,h4⟩=>by
  obtain ⟨v,rfl⟩:=Qr4 h3
  obtain ⟨vs,rfl,a⟩:=Qhw h4
  exact ⟨v::vs,by rw[h2];rfl,by rw[bf,a,QsU h3.rep]⟩
theorem Qd2 {E:TypeId}{e:Ty}{w:World}{f:Hdr→List e.Den}:∀{vs:List Hdr} {fp:List Nat},OwnL (Own (.sl E e) w) fp (vs.map hdV) (vs.map f)→∀v∈vs,∃a,Own (.sl E e) w a [hdV v] (f v)∧∀g∈a,g∈fp
 | [],_,_,v,hv=>by cases hv
 | u::vs,fp,h,v,hv=>by
  obtain ⟨j,o,c1,c2,rfl,d,i,k⟩:=h
  obtain ⟨z,rfl⟩:=Qr4 i
  simp only[bf,cX,db,aI] at d
  obtain ⟨l,rfl⟩:=d
  rcases aJ.1 hv with rfl|hv
  ·exact ⟨j,by rw[l];exact i,fun g b=>aS _ b⟩
  ·obtain ⟨a,m,n⟩:=Qd2 k v hv
   exact ⟨a,m,fun g b=>aW _ (n g b)⟩
theorem Qob {w:World}:∀(vs:List Hdr),OwnL (Own .vl w) [] (vs.map hdV) vs
 | []=>⟨rfl,rfl⟩
 | v::vs=>⟨[],[],[hdV v],vs.map hdV,rfl,rfl,⟨rfl,rfl⟩,Qob vs⟩
theorem Qka {E E':TypeId}{e:Ty}{w:World}{fp:List Nat}{v:Value}{xs:List (List e.Den)}(h:Own (.sl E (.sl E' e)) w fp [v] xs):
 ∃j k vs f,fp=j++k∧Own (.sl E .vl) w j [v] vs∧OwnL (Own (.sl E' e) w) k (vs.map hdV) (vs.map f)∧vs.map f=xs:=by
 rcases h with ⟨rfl,h,rfl⟩|⟨g,b,a,fps,rfl,n,o,r,p,q,d⟩
 ·exact ⟨[],[],[],fun _=>[],rfl,.inl ⟨rfl,h,rfl⟩,⟨rfl,rfl⟩,rfl⟩
 ·obtain ⟨vs,m,i⟩:=Qhw d
  have l:vs.length=xs.length:=by rw[← i,aH]
  rw[m] at d
  refine ⟨[g],fps,vs,rdF E' e w,rfl,.inr ⟨g,b,a,[],rfl,by rw[l];exact n,o,by omega,p,q,?_⟩,by rw[i];exact d,i⟩
  have:(a.toList.take (vs.length*Ty.wd .vl))=vs.map hdV:=by rw[l];exact m
  rw[this]
  exact Qob vs
section
variable {A:Amb}{P:Program}{s:St}{Q:Exit→St→Prop}{c:Code}
theorem R.pool {q:Nat}(p:Nat){E E':TypeId}{e:Ty}{xs:List (List e.Den)}{a:Act}{w:World}(Y:s.tab.ent q=some (.arr E (.sl E' e) xs))(z:Fresh s p)(hk:A.k0≤p)(r:R A s a w):
 ∃(vs:List Hdr) (f:Hdr→List e.Den),vs.map f=xs∧R A ⟨s.tm,(p,some (.pl false (.sl E' e) vs f))::(q,some (.arr E .vl vs))::s.tab⟩ a w:=by
 obtain ⟨m,r⟩:=r
 have C:s.tab.al q:=⟨_,Y⟩
 have H:q≠p:=fun h=>z.al (h▸C)
 have hO:Own (.sl E (.sl E' e)) w (m.f q) [m.h q] xs:=r.cx.en q _ Y
 obtain ⟨D,W,vs,f,M,h2,h3,h4⟩:=Qka hO
 have G:=r.cx.nd q C
 rw[M] at G
 obtain ⟨n1,n2,n3⟩:=bj.1 G
 have mg:∀g∈D,g∈m.f q:=fun g i=>by rw[M];exact aS _ i
 have K:∀g∈W,g∈m.f q:=fun g i=>by rw[M];exact aW _ i
 have l:∀t,Tab.al ((p,some (.pl false (.sl E' e) vs f))::(q,some (.arr E .vl vs))::s.tab) t→t=p∨(t≠p∧s.tab.al t):=fun t ⟨x,n⟩=>by
  by_cases d:t=p
  ·exact .inl d
  ·refine .inr ⟨d,?_⟩
   rw[Qg,if_neg d,Qg] at n
   by_cases j:t=q
   ·rw[j];exact C
   ·rw[if_neg j] at n;exact ⟨_,n⟩
 let k:Gh:=⟨fun t=>if t=p then .slice none 0 0 else m.h t,fun t=>if t=p then [] else if t=q then D else m.f t,fun g=>m.N g∨g∈W⟩
 have I:k.f q=D:=by show (if q=p then [] else if q=q then D else m.f q)=D;rw[if_neg H,if_pos rfl]
 have F:k.f p=[]:=if_pos rfl
 have L:∀t,t≠p→t≠q→k.f t=m.f t:=fun t d j=>by show (if t=p then [] else if t=q then D else m.f t)=_;rw[if_neg d,if_neg j]
 have J:∀t,t≠p→k.h t=m.h t:=fun t d=>if_neg d
 have o:∀t,t≠p→∀g∈k.f t,g∈m.f t:=fun t d g i=>by
  by_cases j:t=q
  ·rw[j,I] at i;rw[j];exact mg g i
  ·rwa [L t d j] at i
 have X:∀g,m.N g→k.N g∧w.heap[g]? =w.heap[g]? :=fun g h=>⟨.inl h,rfl⟩
 refine ⟨vs,f,h4,k,r.step ⟨fun t x n=> ?_,fun t U y S hn g i B=> ?_,fun t y=> ?_,fun t y g i b=> ?_,fun g b=> ?_⟩ (fun t y=> ?_) X (Zl w) (fun _ _ _=>rfl) (fun g b=> ?_) fun t y g i=> ?_⟩
 ·rw[Qg] at n
  by_cases d:t=p
  ·rw[if_pos d] at n
   cases n
   rw[d]
   refine ⟨if_pos rfl,F,fun v hv=> ?_⟩
   obtain ⟨fv,k1,k2⟩:=Qd2 h3 v hv
   exact k1.rd fun g i=> .inr (k2 g i)
  ·rw[if_neg d,Qg] at n
   by_cases j:t=q
   ·rw[if_pos j] at n
    cases n
    show Own (.sl E .vl) w (k.f t) [k.h t] vs
    rw[j,I,J q H]
    exact h2
   ·rw[if_neg j] at n
    refine (r.cx.en t x n).mono (fun T O ha=> ?_) X (J t d) (L t d j) fun _ _=>rfl
    have V:T≠p:=fun h=>z.en t x n (h▸O)
    rcases l T ha with h|⟨_,h⟩
    ·exact absurd h V
    ·exact ⟨h,J T V⟩
 ·rcases l t y with d|⟨d,u⟩
  ·rw[d,F] at i;cases i
  ·rcases l U S with j|⟨j,a2⟩
   ·rw[j,F] at B;cases B
   ·exact r.cx.dj t U u a2 hn g (o t d g i) (o U j g B)
 ·rcases l t y with d|⟨d,u⟩
  ·rw[d,F];exact bG
  ·by_cases j:t=q
   ·rw[j,I];exact n1
   ·rw[L t d j];exact r.cx.nd t u
 ·rcases l t y with d|⟨d,u⟩
  ·rw[d,F] at i;cases i
  ·rcases b with b|b
   ·exact r.cx.no t u g (o t d g i) b
   ·by_cases j:t=q
    ·rw[j,I] at i;exact n3 g i g b rfl
    ·exact r.cx.dj t q u C j g (o t d g i) (K g b)
 ·rcases b with b|b
  ·exact r.cx.nl g b
  ·exact r.cx.lt C g (K g b)
 ·rcases l t y with d|⟨d,u⟩
  ·rw[d];exact .inr ⟨z,hk⟩
  ·exact .inl ⟨u,J t d,fun _=>rfl⟩
 ·rcases b with b|b
  ·exact .inl b
  ·exact .inr (.inr ⟨q,C,K g b,fun Z=>r.xn g Z (r.ox q C g (K g b) Z)⟩)
 ·rcases l t y with d|⟨d,u⟩
  ·rw[d,F] at i;cases i
  ·exact .inr ⟨t,u,o t d g i⟩
theorem AC.pool {q:Nat}(p:Nat){E E':TypeId}{e:Ty}{xs:List (List e.Den)}(d:s.tab.ent q=some (.arr E (.sl E' e) xs))(b:Fresh s p)(g:A.k0≤p)
 (k:∀(vs:List Hdr) (f:Hdr→List e.Den),vs.map f=xs→AC A P c Q ⟨s.tm,(p,some (.pl false (.sl E' e) vs f))::(q,some (.arr E .vl vs))::s.tab⟩):AC A P c Q s:=fun a w r=>by
 obtain ⟨vs,f,h,i⟩:=R.pool p d b g r
 exact k vs f h a w i
theorem AL.pool {ops:Array Oper}{l:List Oper}{q:Nat}(p:Nat){E E':TypeId}{e:Ty}{xs:List (List e.Den)}(d:s.tab.ent q=some (.arr E (.sl E' e) xs))(b:Fresh s p)(g:A.k0≤p)
 (k:∀(vs:List Hdr) (f:Hdr→List e.Den),vs.map f=xs→AL A P ops l Q ⟨s.tm,(p,some (.pl false (.sl E' e) vs f))::(q,some (.arr E .vl vs))::s.tab⟩):AL A P ops l Q s:=fun a w r=>by
 obtain ⟨vs,f,h,i⟩:=R.pool p d b g r
 exact k vs f h a w i
theorem Evl.pl {x:Operand}{p:Nat}{e:Ty}{vs:List Hdr}{f:Hdr→e.Den}{v:Hdr}(j:Evl A s x (.dat .vl v))(i:s.tab.ent p=some (.pl false e vs f))(hv:v∈vs):Evl A s x (.dat e (f v)):=fun b a w r=>by
 obtain ⟨_,_,h⟩:=r.cx.en p _ i
 have d:Rd b.N .vl w [a.eval x] v:=j b a w r
 have g:[a.eval x]=[hdV v]:=d.rep
 show Rd b.N e w [a.eval x] (f v)
 rw[g]
 exact h v hv
theorem QqP {i q p:Nat}{E E':TypeId}{e:Ty}{zs vs:List Hdr}{f:Hdr→List e.Den}(hi:lk s.tm i=some (lf (.ref q)))(x:s.tab.ent q=some (.arr E .vl zs))(T:s.tab.ent p=some (.pl false (.sl E' e) vs f))(W:∀z∈zs,z∈vs):
 Wk A s ⟨(i,lf (.dat (.sl E (.sl E' e)) (zs.map f)))::s.tm,(q,none)::s.tab⟩:=fun a w r=>by
 obtain ⟨d,r⟩:=r
 obtain ⟨v,O,l,C,R⟩:=r.tm i _ hi
 simp only[aI,and_true] at C
 subst C
 have V:v=d.h q:=R ⟨_,x⟩
 have S:Own (.sl E .vl) w (d.f q) [d.h q] zs:=r.cx.en q _ x
 obtain ⟨_,_,X⟩:=r.cx.en p _ T
 refine ⟨_,(r.freeze x).know O (pv:=lf (.dat (.sl E (.sl E' e)) (zs.map f))) ⟨_,rfl,?_⟩⟩
 rw[V]
 show Rd (fun g=>d.N g∨g∈d.f q) (.sl E (.sl E' e)) w [d.h q] (zs.map f)
 obtain ⟨wM,Y,F⟩:=VU (fun g=>d.N g∨g∈d.f q) w
 refine ⟨wM,Y,?_⟩
 rcases S with ⟨_,o,t⟩|⟨g,n,G,fps,J,o,t,K,L,g6,M⟩
 ·subst t
  exact ⟨none,0,o,aO _,aL _,fun h=>absurd h (by simp)⟩
 ·refine ⟨_,n,by rw[aH];exact o,by rw[aH];exact K,L,fun _=>⟨g,0,rfl,fun j y D=> ?_⟩⟩
  rw[bn] at D
  obtain ⟨z,k,rfl⟩:=cA.1 D
  obtain ⟨wN,w1,w2⟩:=X z (W z (ae k))
  refine ⟨[hdV z],w2.kp (w1.kp fun I B=>F I (.inl B)),fun b u U=> ?_⟩
  obtain ⟨fv,H,Z,o2,o3⟩:=M.get j z k
  have o4:H=[hdV z]:=Z.2
  subst o4
  have m:=o3 b u U
  rw[bc] at m
  split at m
  ·rw[cK (F g (.inr (by rw[J];simp)))]
   simp only[World.cell?,t]
   simpa using m
  ·cases m
end
section
variable {α:Type}[DecidableEq α][Inhabited α]
omit [Inhabited α] in
theorem QgU (y:α):∀l:List α,Zp (l++[y])=Zp l++(if l.getLast? =some y then [] else [y])
 | []=>by simp[Zp]
 | [x]=>by
  by_cases h:x=y
  ·simp[Zp,h]
  ·simp[Zp,h]
 | x::z::l=>by
  have b:=QgU y (z::l)
  have a:(x::z::l).getLast? =(z::l).getLast? :=by simp
  rw[a]
  show (if x=z then Zp ((z::l)++[y]) else x::Zp ((z::l)++[y]))=(if x=z then Zp (z::l) else x::Zp (z::l))++_
  rw[b]
  split <;> simp
omit [Inhabited α] in
end
def QAB (P:Program)(f:FuncId):Prop:=∀(blk cap:Nat) (zs:List Int) (w:World),Sort.Holds (Value.int .i64) w blk 0 zs.toArray→zs.length≤9223372036854775807→zs.length≤cap→
 Calls P f #[.slice (some ⟨blk,0,none⟩) zs.length cap] w fun e w'=>e= .returned (.slice (some ⟨blk,0,none⟩) (Zp zs).length cap)∧∃q,w'=Sort.putRow (Value.int .i64) (Sort.ahead w q) blk 0 (Zp zs++List.replicate (zs.length - (Zp zs).length) 0).toArray
def Qyb (P:Program)(f:FuncId):Prop:=∀w:World,Calls P f #[.slice none 0 0] w fun e w'=>e= .returned (.slice none 0 0)∧w'=w
section
variable {E:TypeId}{e:Ty}{w:World}{f:Hdr→List e.Den}
end
section
variable {A:Amb}{P:Program}{s:St}{Q:Exit→St→Prop}{c:Code}
theorem QAr {x:Operand}{p:Nat}{E:TypeId}{e:Ty}{vs:List Hdr}{f:Hdr→List e.Den}{v:Hdr}(o:Evl A s x (.dat .vl v))(h:s.tab.ent p=some (.pl true (.sl E e) vs f))(hv:v∈vs):EvB A s x (false,[.dat (.sl E e) (f v)]):=fun b a w r=>by
 obtain ⟨_,l⟩:=r.cx.en p _ h
 have j:Rd b.N .vl w [a.eval x] v:=o b a w r
 have k:[a.eval x]=[hdV v]:=j.rep
 obtain ⟨i,q,t⟩:=Qd2 l v hv
 refine ⟨_,rfl,?_⟩
 have m:Own (.sl E e) w i [a.eval x] (f v):=by rw[k];exact q
 exact m.rd fun g n=>r.cx.lt ⟨_,h⟩ g (t g n)
end
section
variable {A:Amb}{P:Program}{s:St}{f:FuncId}{xs:List Operand}{tys:Array TypeId}{args:List (Bool×List LV)}{d:Nat}{ty:TypeId}{pos:String}{af:Array Edge}{g:Option (Nat×Bool)}{pv:PV}
end
def ltP:List Int→List Int→Bool
 | [],[]=>false
 | [],_::_=>true
 | _::_,[]=>false
 | x::a,y::b=>if x<y then true else if y<x then false else ltP a b
def QyK (x y:Int):Int:=if x<y then -1 else if y<x then 1 else 0
def QAZ:List Int→List Int→Int
 | [],[]=>0
 | [],_::_=> -1
 | _::_,[]=>1
 | x::a,y::b=>if QyK x y=0 then QAZ a b else QyK x y
end Go.Proofs.YtjfpbcmfbnnooaaGreat
