/- Walks over abstract states: distances. -/
import Derived.Test.YtndabgcpnmeeoaaGreatPWz
set_option linter.unusedSimpArgs false
set_option linter.unusedVariables false
set_option linter.unusedSectionVars false
namespace Go.Proofs.YtndabgcpnmeeoaaGreat
open Go.RowKit
set_option maxRecDepth 100000
set_option maxHeartbeats 4000000
def QcR (l:List (List Int))(e:Int×Int):List (List Int):=l.modify e.1.toNat (· ++[e.2])
def Q9 (n:Nat)(es:List (Int×Int)):List (List Int):=es.foldl QcR (List.replicate n [])
def bfT (o:Int):List Int→List Int×List Int→List Int×List Int
 | [],st=>st
 | t :: ts,st=>if (st.1[t.toNat]?).getD 0 < 0 then bfT o ts (st.1.set t.toNat ((st.1[o.toNat]?).getD 0+1),st.2++[t]) else bfT o ts st
def bfK (nx:List (List Int)):Nat→Nat→List Int×List Int→List Int
 | 0,_,st=>st.1
 | f+1,k,st=>match st.2[k]? with
  | none=>st.1
  | some o=>bfK nx f (k+1) (bfT o ((nx[o.toNat]?).getD []) st)
def QaC (n:Nat)(es:List (Int×Int)):List Int:=bfK (Q9 n es) (n+1) 0 ((List.replicate n (-1)).set 0 0,[0])
def Qg6 (l:List Int):Nat:=(l.filter (· < 0)).length
structure BI (n:Nat) (es:List (Int×Int)) (st:List Int×List Int):Prop where
  len:st.1.length=n
  cnt:Qg6 st.1+st.2.length=n
  q:∀x∈st.2,(0≤x∧x < n)∧Rch es x∧∃v,st.1[x.toNat]? =some v∧0≤v
  nn:∀(i:Nat) v,st.1[i]? =some v→0≤v→(i:Int)∈st.2
  rng:∀v∈st.1, -1≤v∧v≤(st.2.length:Int)
section
variable {n k i f:Nat}{es:List (Int×Int)}{e:Int×Int}{l ts ys q out:List Int}{o t c w:Int}{nx:List (List Int)}{st:List Int×List Int}
theorem Qn7 {α:Type _}{l:List α}{i:Nat}{x:α}{g:α→α}(h:l[i]? =some x):l.set i (g x)=l.modify i g:=by
 apply bV
 intro j
 rw[List.getElem?_modify]
 by_cases e:i=j
 ·subst e; rw[aM (ai.1 h).1,h]; simp
 ·rw[aX e]; simp[e]
theorem Qqw {l:List (List Int)}:(es.foldl QcR l).length=l.length:=by
 induction es generalizing l with
 | nil=>rfl
 | cons e es a=>rw[aW,a]; simp[QcR]
theorem Xa:(Q9 n es).length=n:=by unfold Q9; rw[Qqw]; simp
theorem QgD (a:es[k]? =some e)(b:(Q9 n (es.take k))[e.1.toNat]? =some ys):(Q9 n (es.take k)).set e.1.toNat (ys++[e.2])=Q9 n (es.take (k+1)):=by
 rw[Qn7 (g:=(· ++[e.2])) b,QO a]
 simp[Q9,bm,QcR]
theorem QhZ {l:List (List Int)}{i:Nat}{t:Int}(g:∀e∈es,0≤e.1):t∈((es.foldl QcR l)[i]?).getD []↔t∈(l[i]?).getD []∨(i < l.length∧((i:Int),t)∈es):=by
 induction es generalizing l with
 | nil=>simp
 | cons e es r=>
  rw[aW,r (fun e m=>g e (ay _ m))]
  have s:=g e (az ..)
  have p:(QcR l e).length=l.length:=by simp[QcR]
  rw[p]
  have j:t∈((QcR l e)[i]?).getD []↔t∈(l[i]?).getD []∨(i < l.length∧((i:Int),t)=e):=by
   unfold QcR
   rw[List.getElem?_modify]
   by_cases b:e.1.toNat=i
   ·cases h:l[i]? with
    | none=>
     have:=List.getElem?_eq_none_iff.1 h
     simp[b]
     intro d; omega
    | some x=>
     have:=(ai.1 h).1
     simp[b,this]
     have:((i:Int),t)=e↔t=e.2:=⟨fun h=>by rw[← h],fun h=>Prod.ext (by show (i:Int)=e.1; omega) h⟩
     rw[this]
   ·simp[b]
    intro _ d
    exact absurd (show e.1.toNat=i by rw[← d]; rfl) b
  rw[j,aK]
  constructor
  ·rintro ((h | ⟨h,a⟩) | ⟨h,a⟩)
   ·exact .inl h
   ·exact .inr ⟨h, .inl a⟩
   ·exact .inr ⟨h, .inr a⟩
  ·rintro (h | ⟨h,a | a⟩)
   ·exact .inl (.inl h)
   ·exact .inl (.inr ⟨h,a⟩)
   ·exact .inr ⟨h,a⟩
theorem Qic {i:Nat}(g:∀e∈es,InE n e)(a:(Q9 n es)[i]? =some ys):t∈ys↔((i:Int),t)∈es:=by
 have h:=QhZ (l:=List.replicate n []) (i:=i) (t:=t) (es:=es) (fun e b=>(g e b).1.1)
 have d:i < n:=by have:=(ai.1 a).1; rwa [Xa] at this
 change t∈((Q9 n es)[i]?).getD []↔_ at h
 rw[a] at h
 simpa [d] using h
theorem KU {i:Nat}(a:(Q9 n es)[i]? =some ys):ys.length≤es.length:=by
 have:∀(l:List (List Int)) (i:Nat) (ys:List Int),(es.foldl QcR l)[i]? =some ys→ys.length≤((l[i]?).getD []).length+es.length:=by
  clear a
  induction es with
  | nil=>intro l i ys h; simp at h; simp[h]
  | cons e es d=>
   intro l i ys h
   rw[aW] at h
   have:=d _ _ _ h
   have j:(((QcR l e)[i]?).getD []).length≤((l[i]?).getD []).length+1:=by
    unfold QcR
    rw[List.getElem?_modify]
    cases m:l[i]? with
    | none=>simp
    | some x=>by_cases b:e.1.toNat=i <;> simp[b]
   rw[au]; omega
 have h:=this _ _ _ a
 have g:(((List.replicate n ([]:List Int))[i]?).getD []).length=0:=by
  rw[bS]; split <;> rfl
 omega
theorem Qt8 (g:ts[i]? =some t)(a:out[t.toNat]? =some c)(b:c < 0)(d:out[o.toNat]? =some w):bfT o (ts.drop i) (out,q)=bfT o (ts.drop (i+1)) (out.set t.toNat (w+1),q++[t]):=by
 rw[ZB g,bfT]
 simp[a,d,b]
theorem QrW (d:ts[i]? =some t)(a:out[t.toNat]? =some c)(b:¬c < 0):bfT o (ts.drop i) (out,q)=bfT o (ts.drop (i+1)) (out,q):=by
 rw[ZB d,bfT]
 simp only[a,aw,if_neg b]
theorem Qt7 (h:ts.length≤i):bfT o (ts.drop i) st=st:=by rw[bn h,bfT]
theorem QvE (a:q[k]? =some o)(b:nx[o.toNat]? =some ts)(d:k < n+1):bfK nx (n+1 - k) k (out,q)=bfK nx (n+1 - (k+1)) (k+1) (bfT o (ts.drop 0) (out,q)):=by
 rw[show n+1 - k=(n+1 - (k+1))+1 by omega,bfK]
 simp[a,b]
theorem Qt6 (h:q.length≤k):bfK nx f k (out,q)=out:=by
 cases f with
 | zero=>rfl
 | succ f=>rw[bfK]; simp[bG h]
theorem Qky {l:List Int}(h:l[i]? =some c)(a:c < 0)(d:0≤w):Qg6 (l.set i w)+1=Qg6 l:=by
 induction l generalizing i with
 | nil=>simp at h
 | cons x l b=>
  cases i with
  | zero=>
   simp only[bk,bi] at h
   subst h
   simp[Qg6,a,show¬w < 0 by omega]
  | succ i=>
   have:=b (i:=i) (by simpa using h)
   simp only[Qg6,cG,List.filter_cons] at this ⊢
   split <;> simp_all
theorem BI.step (h:BI n es (out,q))(L:∀e∈es,InE n e)(D:o∈q)(C:(o,t)∈es)(B:out[t.toNat]? =some c)(K:c < 0)(E:out[o.toNat]? =some w):BI n es (out.set t.toNat (w+1),q++[t]):=by
 obtain ⟨H,y,s,I,z⟩:=h
 have M:0≤w:=by
  obtain ⟨_,_,v,a,m⟩:=s o D
  have a:out[o.toNat]? =some v:=a
  rw[E] at a; cases a; exact m
 have u:=z w (ah E)
 have p:=(ai.1 B).1
 obtain ⟨_,b,d⟩:=L _ C
 have b:0≤t:=b
 have d:t < (n:Int):=d
 refine ⟨by simpa using H, ?_, ?_, ?_, ?_⟩
 ·have a:=Qky B K (show 0≤w+1 by omega)
  have y:Qg6 out+q.length=n:=y
  show Qg6 (out.set t.toNat (w+1))+(q++[t]).length=n
  rw[aj,List.length_singleton]; omega
 ·intro x j
  show (0≤x∧x < n)∧Rch es x∧∃v,(out.set t.toNat (w+1))[x.toNat]? =some v∧0≤v
  rcases aP.1 j with j | j
  ·obtain ⟨a,m,v,A,J⟩:=s x j
   refine ⟨a,m, ?_⟩
   by_cases r:t.toNat=x.toNat
   ·exact ⟨w+1,by rw[← r,aM p],by omega⟩
   ·exact ⟨v,by rw[aX r]; exact A,J⟩
  ·rw[aS] at j
   subst j
   exact ⟨⟨b,d⟩, .step (s o D).2.1 C,w+1,aM p,by omega⟩
 ·intro i v g G
  have g:(out.set t.toNat (w+1))[i]? =some v:=g
  show (i:Int)∈q++[t]
  by_cases r:t.toNat=i
  ·exact aP.2 (.inr (by rw[aS]; omega))
  ·rw[aX r] at g
   exact aP.2 (.inl (I i v g G))
 ·intro v g
  show -1≤v∧v≤((q++[t]).length:Int)
  rw[aj,List.length_singleton]
  have F:w≤(q.length:Int):=u.2
  rcases cr g with a | a
  ·have m:=z v a
   have A:v≤(q.length:Int):=m.2
   omega
  ·omega
theorem BI.q_le (h:BI n es (out,q)):q.length≤n:=by have:=h.cnt; simp only at this; omega
theorem BI.at_ (h:BI n es (out,q))(a:q[k]? =some o):(0≤o∧o < n)∧o∈q:=⟨(h.q o (ah a)).1,ah a⟩
theorem QiK (p:∀e∈es,InE n e):∀(ts:List Int) (st:List Int×List Int),BI n es st→o∈st.2→(∀t∈ts,(o,t)∈es)→BI n es (bfT o ts st)∧(∃r,(bfT o ts st).2=st.2++r)∧∀t∈ts,t∈(bfT o ts st).2
 | [],st,h,_,_=>⟨h,⟨[],by simp[bfT]⟩,fun t g=>by cases g⟩
 | t :: ts,st,h,ho,he=>by
  have d:=he t (az ..)
  obtain ⟨_,j,m⟩:=p _ d
  have j:0≤t:=j
  have m:t < (n:Int):=m
  obtain ⟨c,v⟩:∃c,st.1[t.toNat]? =some c:=⟨_,ae (by rw[h.len]; omega)⟩
  obtain ⟨w,z,_⟩:=(h.q o ho).2.2
  rw[bfT,v,z]
  simp only[aw]
  split
  ·rename_i y
   have A:=BI.step (out:=st.1) (q:=st.2) h p ho d v y z
   obtain ⟨s,⟨r,b⟩,u⟩:=QiK p ts _ A (aP.2 (.inl ho)) (fun t g=>he t (ay _ g))
   refine ⟨s,⟨[t]++r,by rw[b]; simp⟩,fun x a=> ?_⟩
   rcases aK.1 a with rfl | a
   ·rw[b]; simp
   ·exact u x a
  ·rename_i y
   obtain ⟨s,⟨r,b⟩,u⟩:=QiK p ts st h ho (fun t g=>he t (ay _ g))
   refine ⟨s,⟨r,b⟩,fun x a=> ?_⟩
   rcases aK.1 a with rfl | a
   ·have:=h.nn _ _ v (by omega)
    rw[show ((x.toNat:Nat):Int)=x by omega] at this
    rw[b]; exact aP.2 (.inl this)
   ·exact u x a
theorem QoH (s:∀e∈es,InE n e):∀(f k:Nat) (st:List Int×List Int),BI n es st→n+1≤f+k→k≤st.2.length→(∀j o,j < k→st.2[j]? =some o→∀t,(o,t)∈es→t∈st.2)→
 ∃r,BI n es (bfK (Q9 n es) f k st,st.2++r)∧∀o∈st.2++r,∀t,(o,t)∈es→t∈st.2++r
 | 0,k,st,h,hf,hk,_=>by have:=BI.q_le (out:=st.1) (q:=st.2) h; omega
 | f+1,k,st,h,hf,hk,hcl=>by
  rw[bfK]
  cases m:st.2[k]? with
  | none=>
   refine ⟨[],by simpa using h,fun o d t b=> ?_⟩
   rw[bs] at d ⊢
   obtain ⟨j,p⟩:=aN.1 d
   have H:=(ai.1 p).1
   have I:=List.getElem?_eq_none_iff.1 m
   exact hcl j o (by omega) p t b
  | some o=>
   simp only
   have d:=ah m
   obtain ⟨D,E⟩:=(h.q o d).1
   obtain ⟨ys,v⟩:∃ys,(Q9 n es)[o.toNat]? =some ys:=⟨_,ae (by rw[Xa]; omega)⟩
   rw[v,aw]
   have u:∀t,t∈ys↔(o,t)∈es:=fun t=>by
    have:=Qic (t:=t) s v
    rwa [show ((o.toNat:Nat):Int)=o by omega] at this
   obtain ⟨A,⟨r,g⟩,B⟩:=QiK s ys st h d (fun t b=>(u t).1 b)
   have C:=(ai.1 m).1
   obtain ⟨G,x,y⟩:=QoH s f (k+1) (bfT o ys st) A (by omega) (by rw[g,aj]; omega) (fun j F p a t b=>by
    rw[g] at a ⊢
    rw[bo (by omega)] at a
    by_cases z:j=k
    ·subst z
     rw[m] at a; cases a
     rw[← g]; exact B t ((u t).2 b)
    ·exact aP.2 (.inl (hcl j F (by omega) a t b)))
   rw[g,aO] at x y
   exact ⟨r++G,x,y⟩
theorem BI.start (p:1≤n):BI n es ((List.replicate n (-1)).set 0 0,[0]):=by
 have d:(List.replicate n (-1:Int))[0]? =some (-1):=by rw[bS,if_pos (by omega)]
 refine ⟨by simp, ?_, ?_, ?_, ?_⟩
 ·have g:=Qky (w:=0) d (by decide) (by decide)
  have m:Qg6 (List.replicate n (-1:Int))=n:=by simp[Qg6]
  show Qg6 ((List.replicate n (-1)).set 0 0)+1=n
  omega
 ·intro x j
  rw[aS.1 j]
  exact ⟨⟨by omega,by omega⟩, .zero,0,aM (by simp; omega),by decide⟩
 ·intro i v a g
  have a:((List.replicate n (-1:Int)).set 0 0)[i]? =some v:=a
  by_cases b:0=i
  ·subst b; simp
  ·rw[aX b,bS] at a
   split at a
   ·cases a; omega
   ·cases a
 ·intro v a
  show -1≤v∧v≤1
  rcases cr a with h | h
  ·rw[cJ h]; omega
  ·omega
theorem Qqe (b:1≤n)(d:∀e∈es,InE n e):∃r,BI n es (QaC n es,[0]++r)∧∀o∈[0]++r,∀t,(o,t)∈es→t∈[0]++r:=
 QoH d (n+1) 0 _ (BI.start b) (by omega) (aG _) (fun j o a=>absurd a (bg j))
theorem Qse [Decidable (QdX n es)](B:1≤n)(D:∀e∈es,InE n e):(!((QaC n es).any fun y=>decide (-1=y)))=decide (QdX n es):=by
 obtain ⟨r,h,z⟩:=Qqe B D
 have C:∀u,Rch es u→u∈[0]++r:=fun u E=>by
  induction E with
  | zero=>simp
  | step _ A G=>exact z _ G _ A
 rw[bP,aQ,bO,cB]
 constructor
 ·intro g k b
  have d:k < (QaC n es).length:=by have:=h.len; simp only at this; omega
  have m:=cP d
  have p:=g _ m
  have H:=(h.rng _ m).1
  have s:=h.nn k _ (ae d) (by simp only[aQ] at p; omega)
  exact (h.q _ s).2.1
 ·intro g x F
  obtain ⟨k,b⟩:=aN.1 F
  have d:=(ai.1 b).1
  have j:k < n:=by have:=h.len; simp only at this; omega
  obtain ⟨_,_,v,a,I⟩:=h.q _ (C _ (g k j))
  have a:(QaC n es)[((k:Int)).toNat]? =some v:=a
  rw[show ((k:Int)).toNat=k by omega,b] at a
  cases a
  simp only[aQ]; omega
end
theorem Qr2 {xs:List (List Int)}{i:Nat}{ys:List Int}(h:xs[i]? =some ys):(Zh Qz xs)[i*1+0]? =some (.dat Qz ys):=QaP (e:= .sl 3 .int) (j:=0) h rfl
theorem Qfq {xs:List (List Int)}{i:Nat}{x ys:List Int}(h:xs[i]? =some x):(Zh Qz xs).set (i*1+0) (.dat Qz ys)=Zh Qz (xs.set i ys):=
 (QaQ (e:= .sl 3 .int) (j:=0) (x':=ys) h rfl (by decide)).symm
theorem Qb0 (n:Int)(l:List (Int×Int))(b:Int)(hn:1≤n∧n≤300)(V:∀e∈l,InE n.toNat e)(b7:l.length≤4000)(Q:b=0):FC Tryz.prog 318 [(false,[dI n]),(false,[.dat (.sl 359 (.pr .int .int)) l]),(false,[dI b])] [] 0 (YB 3 .int (QaC n.toNat l)):=by
 refine Qv Tryz.func318 rfl rfl Tryz.ntmps318 fun O_ hO c6 a9 X_ b1 b0=> ?_
 refine acI 0 fun _=> ?_
 refine acI 2 fun _=> ?_
 refine w3 ?_
 apply dW [⟨some 15,lR 0,[ar 0 3 .int ([(-1)])]⟩,io 16 (lI n),⟨some 17,lR 1,[ar 1 3 .int (List.replicate n.toNat (-1))]⟩,io 18 (lI n),⟨some 19,lR 2,[ar 2 123 Qz (List.replicate (n).toNat (Ty.zero Qz))]⟩,io 7 (lR 1),io 8 _] [0,1,0,7,7,24,0]
 refine zz (fun _ d=>ac (dBs 0 (e:= .int) Yk) rfl) ?_
 refine z_ ?_
 refine zz (fun _ d=>ac (dOB 1 (Kc ([(-1)]) n (-1) rfl (by omega)) QmM) rfl) ?_
 refine z_ ?_
 refine zz (fun _ d=>ac (QaM 2 (e:=Qz) (n:=n) (d.v rfl) (d.v rfl) W5 Qpm rfl (by omega) (by omega) (by omega) rfl (d.fr 2 rfl) (nlr rfl)) rfl) ?_
 exact y2
 refine w3 ?_
 refine alL 20 fun _=> ?_
 refine w4 ?_
 refine lp0 l.length (fun k=>⟨[(2,lI b),(6,lf (.val (.slice none 0 0))),(7,lR 1),(8,lR 3),(20,lf (.dat (.sl 359 (.pr .int .int)) l)),(21,lI (l.length:Int)),(22,lI (k:Int))],[ar 1 3 .int (List.replicate n.toNat (-1)),ar 3 123 Qz (Q9 n.toNat (l.take k))]⟩) ?_ fun k _=> ?_
 exact wp [(3,2)] ⟨rfl,(Qe (by simp only[cH]; rfl)),trivial⟩
 refine w4 ?_
 cases O:(decide ((k:Int) < (l.length:Int)))
 have P:=aa O
 refine w3 ?_
 refine XM ?_
 have Z:Q9 n.toNat (l.take k)=Q9 n.toNat l:=by rw[QT (by omega)]
 refine AC.wk (QlQ 8 (q:=3) (e:=Qz) (xs:=Q9 n.toNat (l.take k)) rfl rfl) ?_
 rw[Z]
 have c3:(List.replicate n.toNat (-1:Int)).length=n.toNat:=aA ..
 have c0:=Xa (n:=n.toNat) (es:=l)
 refine w4 ?_
 obtain ⟨x6,a2⟩:=gx (List.replicate n.toNat (-1)) ((b).toNat)
 refine lc (QA (e:= .int) (z':=0) (Qa rfl) rfl a2 rfl (Evl.ev (Qy rfl)) rfl Y6 rfl rfl) ?_
 refine w3 ?_
 refine lc (dBs 4 (e:= .int) Yk) ?_
 refine w7 ?_
 refine QP (fun S T=>∃(k:Nat) (out:List Int) (q:List Int),k≤n.toNat∧S=n.toNat - k∧(QaC n.toNat l=bfK (Q9 n.toNat l) (n.toNat+1 - k) k (out,q))∧(BI n.toNat l (out,q))∧T=⟨[(6,lf (.val (.slice none 0 0))),(7,lR 5),(8,lf (.dat Vz (Q9 n.toNat l))),(11,lR 6),(12,lI (k:Int))],[ar 5 3 .int out,ar 6 3 .int q]⟩) ⟨0,(List.replicate n.toNat (-1)).set ((b).toNat) 0,[b],aG _,rfl,(by rw[Q]; rfl),(by rw[Q]; exact BI.start (by omega)),rfl⟩ ?_ ?_
 exact wp [(5,1),(6,4)] ⟨(Qe (by first | rfl | simp)),(Qe (by first | rfl | simp)),trivial⟩
 rintro S T ⟨k,out,q,b6,b8,hA,U,rfl⟩
 have c2:=U.q_le
 have c1:out.length=n.toNat:=U.len
 refine w7 ?_
 cases C:(decide ((k:Int) < (q.length:Int)))
 have J:=aa C
 refine w7 ?_
 refine Qd<|fo_ hO ?_
 rw[hA,Qt6 (by omega)]
 have J:=ab C
 refine w9 ?_
 obtain ⟨o,r⟩:=gx q k
 have a6:=U.at_ r
 refine w_ ?_
 refine alI 55 fun _=> ?_
 obtain ⟨ts,s⟩:=gx (Q9 n.toNat l) ((o).toNat)
 have c4:=KU s
 have F:∀t∈ts,(o,t)∈l:=fun t ht=>by have:=(Qic V s).1 ht; rwa [show ((o.toNat:Nat):Int)=o by omega] at this
 refine w2 ?_
 refine alL 57 fun _=> ?_
 refine w4 ?_
 refine QP (fun S T=>∃(i:Nat) (a:List Int) (x:List Int),i≤ts.length∧S=ts.length - i∧(QaC n.toNat l=bfK (Q9 n.toNat l) (n.toNat+1 - (k+1)) (k+1) (bfT o (ts.drop i) (a,x)))∧(BI n.toNat l (a,x))∧(x[k]? =some o)∧T=⟨[(6,lf (.val (.slice none 0 0))),(7,lR 7),(8,lf (.dat Vz (Q9 n.toNat l))),(11,lR 8),(12,lI (k:Int)),(45,lI (k:Int)),(47,lI (q.length:Int)),(48,lB true),(51,lf (.dat Vz (Q9 n.toNat l))),(53,lI (k:Int)),(55,lI o),(56,lf (.elt Qz ts 0)),(57,lf (.dat Qz ts)),(58,lI (ts.length:Int)),(59,lI (i:Int))],[ar 7 3 .int a,ar 8 3 .int x]⟩) ⟨0,out,q,aG _,rfl,(hA.trans (QvE r s (by omega))),U,r,rfl⟩ ?_ ?_
 exact wo [(7,5),(8,6)]
 rintro S T ⟨i,a,x,a3,a5,I,g,y,rfl⟩
 have a8:=g.q_le
 have a7:a.length=n.toNat:=g.len
 have a1:=g.at_ y
 have a0:=(ai.1 y).1
 refine w4 ?_
 cases D:(decide ((i:Int) < (ts.length:Int)))
 have K:=aa D
 refine w7 ?_
 refine Qb<|QW ⟨k+1,a,x,by omega,rfl,(by rw[I,Qt7 (by omega)]),g,rfl⟩ (by omega) ?_
 exact wo [(5,7),(6,8)]
 have K:=ab D
 refine w5 ?_
 obtain ⟨u,m⟩:=gx ts i
 obtain ⟨_,h,j⟩:=V _ (F _ (ah m))
 have h:0≤u:=h
 have j:u < (n.toNat:Int):=j
 refine w2 ?_
 refine alI 62 fun _=> ?_
 refine w6 ?_
 obtain ⟨N,G⟩:=gx a ((u).toNat)
 have W: -1≤N∧N≤(x.length:Int):=g.rng _ (ah G)
 refine w_ ?_
 refine alI 66 fun _=> ?_
 refine w2 ?_
 cases E:(decide (N < 0))
 have L:=aa E
 refine w6 ?_
 refine Qb<|QW ⟨i+1,a,x,by omega,rfl,(by (rw[I,QrW m ‹_› ‹_›]; done)),(by exact g),(by exact y),rfl⟩ (by omega) ?_
 exact wo []
 have L:=ab E
 refine w10 ?_
 obtain ⟨B,R⟩:=gx a ((o).toNat)
 have X: -1≤B∧B≤(x.length:Int):=g.rng _ (ah R)
 refine w_ ?_
 refine alI 76 fun _=> ?_
 refine w2 ?_
 refine lc (QA (e:= .int) (z':=B+1) (Qa rfl) rfl G rfl (Qk rfl) rfl Y6 rfl rfl) ?_
 refine w4 ?_
 refine lc (dBs 9 (e:= .int) Yk) ?_
 refine lc (dA 10 XP) ?_
 refine w_ ?_
 refine Qb ?_
 refine w4 ?_
 refine Qb ?_
 refine QW ⟨i+1,(a.set ((u).toNat) (B+1)),(x++([u])),by omega,rfl,(by (rw[I,Qt8 m ‹_› ‹_› ‹_›]; done)),(by exact g.step V a1.2 (F _ (ah m)) ‹_› ‹_› ‹_›),(by (rw[bo a0]; exact y)),rfl⟩ (by omega) ?_
 exact wp [(8,10)] ⟨(Qe (by first | rfl | simp)),(Qe (by first | rfl | simp)),trivial⟩
 have P:=ab O
 refine w5 ?_
 obtain ⟨e,H⟩:=gx l k
 refine w2 ?_
 refine lc (xal 11 (.pr .int .int) QeU) ?_
 refine w2 ?_
 have Y:=V _ (ah H)
 have b9:=Xa (n:=n.toNat) (es:=l.take k)
 obtain ⟨⟨b2,b3⟩,b4,b5⟩:=Y
 obtain ⟨ys,A⟩:=gx (Q9 n.toNat (l.take k)) e.1.toNat
 have c5:=KU A
 have a4:(l.take k).length≤l.length:=by simp only[ao]; omega
 have z:=Qr2 A
 have M:e.1.toNat*1+0 < (Zh Qz (Q9 n.toNat (l.take k))).length:=by rw[Ui]; show e.1.toNat*1+0 < (Q9 n.toNat (l.take k)).length*1; omega
 refine AC.wk (QiF (q:=3) rfl (by omega))<|AC.wk (H0 12 (q:=3) (p:=e.1.toNat*1+0) (E':=3) (e':= .int) (ys:=ys) rfl (z) (Fresh.of rfl) (aD rfl)) ?_
 apply dV (i6 26 _ _ _ _ _ _ (io 32 (lf (.ept 3 1 ((e.1).toNat) 0)) :: io 33 (lR 12) :: i2 34 _ _ [⟨some 36,lR 13,[ar 13 3 .int ([e.2])]⟩,⟨some 37,lR 14,[ar 14 3 .int (ys++([e.2])),(12,none),(13,none)]⟩,io 38 (lf (.ept 3 1 ((e.1).toNat) 0)),⟨none,lf (.val undef),[(3,some (.obx 123 1 ((Q9 n.toNat (l.take k)).length) (Zh Qz (Q9 n.toNat (l.take k))) [((e.1).toNat*1+0, .ref 14),(e.1.toNat*1+0, .ref 12)]))]⟩])) [0,1,1,7,15,15,7,7,255,255,255,7,0,0]
 refine z6 ?_
 refine zz (fun _ d=>ac (Wa (d.v rfl) (d.en 3 rfl) (d.v rfl) W5 Xh rfl (by omega) (by omega)) rfl) ?_
 refine zz (fun _ d=>ac (K7 (d.v rfl) (d.n 3 rfl) (show (ovr _ _)[e.1.toNat*1+0]? =some (.ref 12) from by simp only[ovr,bN,ap,M,z,eq_self,if_true,if_false,↓reduceIte]) (d.n 12 rfl) Xh rfl) rfl) ?_
 refine z2 ?_
 refine zz (fun _ d=>ac (dBs 13 (e:= .int) Yk) rfl) ?_
 refine zz (fun _ d=>ac (dA 14 XP) rfl) ?_
 refine zz (fun _ d=>ac (Wa (d.v rfl) (d.en 3 rfl) (d.v rfl) W5 Xh rfl (by omega) (by omega)) rfl) ?_
 refine zz (fun _ d=>ac (QdM (t:=12) (d.v rfl) (d.n 3 rfl) (show (ovr _ _)[e.1.toNat*1+0]? =some (.ref 12) from by simp only[ovr,bN,ap,M,z,eq_self,if_true,if_false,↓reduceIte]) (d.v rfl) (d.n 14 rfl) Xh) rfl) ?_
 exact zN
 refine w_ ?_
 refine AC.wk (QbH (q:=3) (t:=14) (p:=e.1.toNat*1+0) rfl (by simp only[ovr,bN,ap,M,z,eq_self,if_true,if_false,↓reduceIte]) rfl) ?_
 refine AC.wk (Qfg (q:=3) (e:=Qz) ((Q9 n.toNat (l.take k)).set e.1.toNat (ys++[e.2])) rfl (by simp only[ap]) (by simp only[ovr,cA]; exact Qfq A)) ?_
 refine w3 ?_
 refine Qb ?_
 refine l0_ ?_
 exact wp [] ⟨rfl,(Qe (QgD H A)),trivial⟩
end Go.Proofs.YtndabgcpnmeeoaaGreat
namespace Go.Proofs.YtndabgcpnmeeoaaGreat
open Go.RowKit
set_option maxRecDepth 100000
set_option maxHeartbeats 4000000
section
variable {c:DSg}{a:DAr}{x y:ByteArray}{k:Nat}
theorem QoA (h:¬(0≤a.1∧a.1≤(c.2.1.length:Int) - 1)):¬XI c a:=fun g=>h g.1
theorem QoB (h:¬(0≤a.2.2.2∧a.2.2.2≤(c.2.1.length:Int) - 1)):¬XI c a:=fun g=>h g.2.1
theorem QoC (h:¬U7 (c.1.length:Int) (a.2.1,a.2.2.1)):¬XI c a:=fun g=>h g.2.2.1
theorem QoD (b:c.2.1[a.1.toNat]? =some x)(d:c.2.1[a.2.2.2.toNat]? =some y)(h:¬Fit a x y):¬XI c a:=fun g=>h (by have:=g.2.2.2; rwa [Vn b,Vn d] at this)
theorem QvD (b:0≤a.1∧a.1≤(c.2.1.length:Int) - 1)(d:0≤a.2.2.2∧a.2.2.2≤(c.2.1.length:Int) - 1)(e:U7 (c.1.length:Int) (a.2.1,a.2.2.1))(f:c.2.1[a.1.toNat]? =some x)(g:c.2.1[a.2.2.2.toNat]? =some y)(h:Fit a x y):XI c a:=
 ⟨b,d,e,by rw[Vn f,Vn g]; exact h⟩
end
theorem ZR (c:Zi)[∀c,Decidable (SgOk c)]:FC Tryz.prog 181 [(true,[.dat Ql c.1, .dat Qo c.2.1, .dat Qw c.2.2])] [] 0 (QY (lB (decide (SgOk c)))):=by
 classical
 refine Qv Tryz.func181 rfl rfl Tryz.ntmps181 fun Y p X U Z W V=> ?_
 refine w_ ?_
 refine xbx 0 ?_
 refine w6 ?_
 refine lc (dK (Qbf c.1) Qmh) ?_
 refine w2 ?_
 cases E:(decide (XN c.1))
 have F:=aa E
 refine w16 ?_
 refine w_ ?_
 refine Qd<|fqB p ?_
 exact Qtk ‹_›
 have F:=ab E
 refine w2 ?_
 refine alL 14 fun _=> ?_
 refine w_ ?_
 refine lgy rfl rfl (dK (Zm (c.2.1.length:Int) 1 300) Ym) ?_
 refine w3 ?_
 cases G:(decide (1≤(c.2.1.length:Int)∧(c.2.1.length:Int)≤300))
 have H:=aa G
 refine w10 ?_
 refine Qd<|fqB p ?_
 exact Qtl ‹_›
 have H:=ab G
 refine w2 ?_
 refine alL 21 fun _=> ?_
 refine w4 ?_
 refine cd_ (fun _ _=> ?_) fun _ _=> ?_
 refine w4 ?_
 refine alL 26 fun _=> ?_
 refine w8 ?_
 refine alL 30 fun _=> ?_
 refine w4 ?_
 refine lpK c.2.1.length (fun k=>∀j,j < k→∀x,c.2.1[j]? =some x→Xc x (c.1.length:Int)) (fun k=>⟨[(1,lP 0 0),(3,lI ((c.2.1.length:Int) - 1)),(30,lf (.dat Qo c.2.1)),(31,lI (c.2.1.length:Int)),(32,lI (k:Int))],[bx 0 28 [.dat Ql c.1, .dat Qo c.2.1, .dat Qw c.2.2]]⟩) ((fun j S=>absurd S (bg j))) ?_ fun k _ D=> ?_
 exact wo []
 refine w4 ?_
 cases I:(decide ((k:Int) < (c.2.1.length:Int)))
 have J:=aa I
 refine w7 ?_
 refine alL 44 fun _=> ?_
 refine w4 ?_
 refine lpK c.2.2.length (fun i=>∀j,j < i→∀a,c.2.2[j]? =some a→XI c a) (fun i=>⟨[(1,lP 0 0),(3,lI ((c.2.1.length:Int) - 1)),(44,lf (.dat Qw c.2.2)),(45,lI (c.2.2.length:Int)),(46,lI (i:Int))],[bx 0 28 [.dat Ql c.1, .dat Qo c.2.1, .dat Qw c.2.2]]⟩) ((fun j S=>absurd S (bg j))) ?_ fun i _ Q=> ?_
 exact wo []
 refine w4 ?_
 cases q:(decide ((i:Int) < (c.2.2.length:Int)))
 have t:=aa q
 refine w3 ?_
 apply dW (i5 92 _ _ _ _ _ [io 97 (lf (.dat (.sl 359 (.pr .int .int)) (Z2 c.2.2))),io 98 (lf (.dat Qz (QaC (c.2.1.length:Int).toNat (Z2 c.2.2)))),io 99 (lB ((QaC (c.2.1.length:Int).toNat (Z2 c.2.2)).any (fun y=>decide ((-1)=y)))),io 100 _,io 2 _]) [0,0,0,7,7,7,0,0,0,0]
 refine z5 ?_
 refine zz (fun _ b=>ac (dK (Qc2 c.2.2 (by omega)).frozen QmL) rfl) ?_
 refine zz (fun _ b=>ac (dK (Qb0 (c.2.1.length:Int) (Z2 c.2.2) 0 (by omega) (QgU (fun a R=>XC (Xq Q (by omega) a R))) (by simp only[Z2,aF]; omega) rfl).frozen QmK) rfl) ?_
 refine zz (fun _ b=>ac (dK (Xs (QaC (c.2.1.length:Int).toNat (Z2 c.2.2)) (-1)) QfD) rfl) ?_
 exact y2
 refine Qd<|fqB p ?_
 exact (Qse (by omega) (QgU (fun a R=>XC (Xq Q (by omega) a R)))).trans (Qtj ‹_› ‹_› ‹_› (Xq D (by omega)) (Xq Q (by omega)))
 have t:=ab q
 refine w5 ?_
 obtain ⟨ar,f⟩:=gx c.2.2 i
 refine w2 ?_
 refine lc (xal 1 QD QU) ?_
 refine w2 ?_
 cases d:(decide (0≤ar.1∧ar.1≤((c.2.1.length:Int) - 1)))
 have u:=aa d
 apply dW (i3 50 _ _ _ (io 53 (lB false) :: i9 54 _ _ _ _ _ _ _ _ _ (i9 63 _ _ _ _ _ _ _ _ _ (i9 72 _ _ _ _ _ _ _ _ _ (i9 81 _ _ _ _ _ _ _ _ _ [io 90 _]))))) [0,0,3,0,0,0,0,0,192,0,0,0,0,0,0,24576,24576,0,253952,253952,253952,0,0,0,0,0,33554432,33554432,234881024,234881024,33554432,33554432,4261412864,4261412864,17146314752,17146314752,4261412864,4261412864,0,0,0]
 refine z3 ?_
 refine zz (fun _ b=>ac (QH (d) (dK (Zm ar.1 0 ((c.2.1.length:Int) - 1)) Ym)) rfl) ?_
 refine z16 ?_
 refine z16 ?_
 exact y5
 refine w4 ?_
 refine Qd<|fqB p ?_
 exact QgQ f (by first | exact QoA ‹_› | exact QoB ‹_› | exact QoC ‹_› | exact QoD (x:=l) (y:=m) ‹_› ‹_› ‹_›)
 have u:=ab d
 cases e:(decide (0≤ar.2.2.2∧ar.2.2.2≤((c.2.1.length:Int) - 1)))
 have v:=aa e
 apply dW (i3 50 _ _ _ (io 53 (lB true) :: i5 54 _ _ _ _ _ (io 59 (lB false) :: i9 60 _ _ _ _ _ _ _ _ _ (i9 69 _ _ _ _ _ _ _ _ _ (i9 78 _ _ _ _ _ _ _ _ _ (i4 87 _ _ _ _ [])))))) [0,0,3,0,0,0,0,0,192,0,0,0,0,0,0,24576,24576,0,253952,253952,253952,0,0,0,0,0,33554432,33554432,234881024,234881024,33554432,33554432,4261412864,4261412864,17146314752,17146314752,4261412864,4261412864,0,0,0]
 refine z3 ?_
 refine zz (fun _ b=>ac (QH (d) (dK (Zm ar.1 0 ((c.2.1.length:Int) - 1)) Ym)) rfl) ?_
 refine z5 ?_
 refine zz (fun _ b=>day rfl (b.k rfl) (QH (e) (dK (Zm ar.2.2.2 0 ((c.2.1.length:Int) - 1)) Ym)) rfl) ?_
 refine z16 ?_
 exact y15
 refine w4 ?_
 refine Qd<|fqB p ?_
 exact QgQ f (by first | exact QoA ‹_› | exact QoB ‹_› | exact QoC ‹_› | exact QoD (x:=l) (y:=m) ‹_› ‹_› ‹_›)
 have v:=ab e
 cases g:(decide (U7 (c.1.length:Int) (ar.2.1,ar.2.2.1)))
 have z:=aa g
 apply dW (i3 50 _ _ _ (io 53 (lB true) :: i5 54 _ _ _ _ _ (io 59 (lB true) :: i7 60 _ _ _ _ _ _ _ (io 67 (ag [dI ar.2.1,dB ar.2.2.1]) :: i3 68 _ _ _ (io 71 (lB false) :: i9 72 _ _ _ _ _ _ _ _ _ (i9 81 _ _ _ _ _ _ _ _ _ [io 90 _])))))) [0,0,3,0,0,0,0,0,192,0,0,0,0,0,0,24576,24576,0,253952,253952,253952,0,0,0,0,0,33554432,33554432,234881024,234881024,33554432,33554432,4261412864,4261412864,17146314752,17146314752,4261412864,4261412864,0,0,0]
 refine z3 ?_
 refine zz (fun _ b=>ac (QH (d) (dK (Zm ar.1 0 ((c.2.1.length:Int) - 1)) Ym)) rfl) ?_
 refine z5 ?_
 refine zz (fun _ b=>day rfl (b.k rfl) (QH (e) (dK (Zm ar.2.2.2 0 ((c.2.1.length:Int) - 1)) Ym)) rfl) ?_
 refine z7 ?_
 refine zz (fun _ b=>day rfl (b.k rfl) (Qi VB ⟨_,_,rfl,(b.w rfl),⟨_,_,rfl,(b.w rfl),rfl⟩⟩ (ak.1 rfl) rfl rfl) rfl) ?_
 refine z3 ?_
 refine zz (fun _ b=>day rfl (b.k rfl) (QH (g) (dK (Hu (ar.2.1,ar.2.2.1) (c.1.length:Int) (by have:=(‹XN c.1›).2.2; omega)) QfF)) rfl) ?_
 refine z16 ?_
 exact y3
 refine w4 ?_
 refine Qd<|fqB p ?_
 exact QgQ f (by first | exact QoA ‹_› | exact QoB ‹_› | exact QoC ‹_› | exact QoD (x:=l) (y:=m) ‹_› ‹_› ‹_›)
 have z:=ab g
 obtain ⟨l,M⟩:=gx c.2.1 ((ar.1).toNat)
 have O:Xc l (c.1.length:Int)→l.size=c.1.length:=fun h=>by have:=h.2; omega
 have K:c.2.1.length≤k→l.size=c.1.length:=fun h=>O (Xq D h _ (ah M))
 obtain ⟨m,N⟩:=gx c.2.1 ((ar.2.2.2).toNat)
 have P:Xc m (c.1.length:Int)→m.size=c.1.length:=fun h=>by have:=h.2; omega
 have L:c.2.1.length≤k→m.size=c.1.length:=fun h=>P (Xq D h _ (ah N))
 apply dW (i3 50 _ _ _ (io 53 (lB true) :: i5 54 _ _ _ _ _ (io 59 (lB true) :: i7 60 _ _ _ _ _ _ _ (io 67 (ag [dI ar.2.1,dB ar.2.2.1]) :: i3 68 _ _ _ (io 71 (lB true) :: i9 72 _ _ _ _ _ _ _ _ _ (i7 81 _ _ _ _ _ _ _ (io 88 (lB (decide (Fit ar l m))) :: i2 89 _ _ []))))))) [0,0,3,0,0,0,0,0,192,0,0,0,0,0,0,24576,24576,0,253952,253952,253952,0,0,0,0,0,33554432,33554432,234881024,234881024,33554432,33554432,4261412864,4261412864,17146314752,17146314752,4261412864,4261412864,0,0,0]
 refine z3 ?_
 refine zz (fun _ b=>ac (QH (d) (dK (Zm ar.1 0 ((c.2.1.length:Int) - 1)) Ym)) rfl) ?_
 refine z5 ?_
 refine zz (fun _ b=>day rfl (b.k rfl) (QH (e) (dK (Zm ar.2.2.2 0 ((c.2.1.length:Int) - 1)) Ym)) rfl) ?_
 refine z7 ?_
 refine zz (fun _ b=>day rfl (b.k rfl) (Qi VB ⟨_,_,rfl,(b.w rfl),⟨_,_,rfl,(b.w rfl),rfl⟩⟩ (ak.1 rfl) rfl rfl) rfl) ?_
 refine z3 ?_
 refine zz (fun _ b=>day rfl (b.k rfl) (QH (g) (dK (Hu (ar.2.1,ar.2.2.1) (c.1.length:Int) (by have:=(‹XN c.1›).2.2; omega)) QfF)) rfl) ?_
 refine z16 ?_
 refine zz (fun _ b=>day rfl (b.k rfl) (dK (Qb1 ar l m (by have:=K (by omega); have:=L (by omega); omega)) QmJ) rfl) ?_
 exact y2
 cases r:(decide (Fit ar l m))
 have A:=aa r
 refine w4 ?_
 refine Qd<|fqB p ?_
 exact QgQ f (by first | exact QoA ‹_› | exact QoB ‹_› | exact QoC ‹_› | exact QoD (x:=l) (y:=m) ‹_› ‹_› ‹_›)
 have A:=ab r
 refine w6 ?_
 refine Qb ?_
 refine lK_ ((Yw Q f (QvD ‹_› ‹_› ‹_› (x:=l) (y:=m) ‹_› ‹_› ‹_›))) ?_
 exact wo []
 have J:=ab I
 refine w5 ?_
 obtain ⟨o,n⟩:=gx c.2.1 k
 have C:Xc o (c.1.length:Int)→o.size=c.1.length:=fun h=>by have:=h.2; omega
 have T:c.2.1.length≤k→o.size=c.1.length:=fun h=>C (Xq D h _ (ah n))
 refine w8 ?_
 refine alL 38 fun _=> ?_
 refine w_ ?_
 refine lc (dK (Qf3 o (c.1.length:Int)) QmI) ?_
 refine w2 ?_
 cases s:(decide (Xc o (c.1.length:Int)))
 have B:=aa s
 refine w4 ?_
 refine Qd<|fqB p ?_
 exact Qtn n ‹_›
 have B:=ab s
 refine w6 ?_
 refine Qb ?_
 refine lK_ ((Yw D n ‹_›)) ?_
 exact wo []
 refine w3 ?_
 refine Qd<|fqB p ?_
 exact Qtm ‹_›
end Go.Proofs.YtndabgcpnmeeoaaGreat
