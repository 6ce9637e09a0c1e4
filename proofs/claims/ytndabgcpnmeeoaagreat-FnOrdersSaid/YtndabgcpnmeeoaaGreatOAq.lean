/- Abstract states: append, make, elements of one's own slices, parts of slices and texts. No program is named here. -/
import Derived.Test.YtndabgcpnmeeoaaGreatOAp
set_option linter.unusedSimpArgs false
set_option linter.unusedVariables false
set_option linter.unusedSectionVars false
namespace Go.Proofs.YtndabgcpnmeeoaaGreat
open Go.RowKit
section
variable {E:TypeId}{e:Ty}{w:World}{P:Program}
def QqH (w:World)(e:Ty)(u:Value)(ys:List e.Den)(fn:List Nat):Prop:=
 (∃c,u= .slice none 0 c∧ys=[]∧fn=[])∨∃ad c news,u= .slice (some ad) ys.length c∧OwnL (Own e w) fn news ys∧∀j u,news[j]? =some u→w.cell? (ad.add j)=some u
theorem QbO (t ty:TypeId)(V:P.underlying t=some (.slice E))(he:ElemInfo P E e){fp fn:List Nat}{v u:Value}{xs ys:List e.Den}(O:Own (.sl E e) w fp [v] xs)(H:fp.Nodup)
 (hs:QqH w e u ys fn) (n2:fn.Nodup) (hdj:∀g∈fp,g∉fn) (hlt:∀g∈fn,g < w.heap.size) (hb:xs.length+ys.length≤1073741824):
 ∃M w' l,(Builtin.append_ #[t,t] ty #[v,u]).run P w= .ok M w'∧Own (.sl E e) w' l [M] (xs++ys)∧l.Nodup∧(∀g∈l,g∈fp∨g∈fn∨w.heap.size≤g)∧Grw w w'∧∀g,g < w.heap.size→g∉fp→w'.heap[g]? =w.heap[g]? :=by
 obtain ⟨cs,fps,r1,r2,Y⟩:=O.row
 obtain ⟨i,z,W,i2,i3,i4,i5⟩:=he
 rcases hs with ⟨c,rfl,rfl,rfl⟩ | ⟨ad,c,q,rfl,X,Z⟩
 ·have L:(Builtin.append_ #[t,t] ty #[v, .slice none 0 c]).run P w= .ok v w:=by
   rcases r1.2 with ⟨rfl,m⟩ | ⟨g,a0,a6,rfl,_,a7,S,_⟩
   ·simp[Builtin.append_,run_underlying V,sizeOf,typeInfo,W,Builtin.lenOf,Builtin.firstCells]
   ·simp[Builtin.append_,run_underlying V,sizeOf,typeInfo,W,Builtin.lenOf,Builtin.firstCells,S,storeCells]
  exact ⟨v,w,fp,L,by rw[bG]; exact O,H,fun g j=> .inl j,QV w,fun _ _ _=>rfl⟩
 ·have Q:(xs.length+ys.length)*i.bytes≤140737488355328:=by
   calc (xs.length+ys.length)*i.bytes≤1073741824*65536:=Nat.mul_le_mul (by omega) i4
    _≤140737488355328:=by decide
  obtain ⟨M,w',a1,a2,r,a4,F⟩:=run_append_own_at (P:=P) (w:=w) 0 t ty E i z e.wd i.bytes V W i2 i3 rfl i5 (VV e) v xs.length cs r1 ad ys.length c q (by exact X.len) Z (OwnL.one (fp:=[]) X) (by unfold maxLen; omega) Q (aP _)
  have D:∀g,v.ownBlock=some g→g∈fp:=fun g j=>by
   rcases Y with ⟨m,_⟩ | ⟨N,m,G⟩
   ·rw[m] at j; cases j
   ·rw[m] at j; cases j; rw[G]; exact aw ..
  have k:∀g∈fps,g∈fp∧v.ownBlock≠some g:=fun g j=>by
   rcases Y with ⟨_,_,m⟩ | ⟨N,m,G⟩
   ·rw[m] at j; cases j
   ·rw[G] at H ⊢
    refine ⟨ax _ j, ?_⟩
    rw[m]
    rintro o
    cases o
    exact (bj.1 H).1 j
  have I:∀g∈fn,v.ownBlock≠some g:=fun g j o=>hdj g (D g o) j
  have J:∀g∈fp,g < w.heap.size:=Own.lt O
  have K:(fps++fn).Nodup:=by
   have B:fps.Nodup:=by
    rcases Y with ⟨_,_,m⟩ | ⟨N,m,G⟩
    ·rw[m]; exact bL
    ·rw[G] at H; exact (bj.1 H).2
   exact aT.2 ⟨B,n2,fun a ha b hb e=>by subst e; exact hdj a (k a ha).1 hb⟩
  have k1:OwnL (Own e w') fps cs xs:=r2.mono fun f c x B U=>U.keep fun g j=>r.block g (J g (k g (B g j)).1) fun o=>(k g (B g j)).2 o.symm
  have k2:OwnL (Own e w') fn q ys:=X.mono fun f c x B U=>U.keep fun g j=>r.block g (hlt g (B g j)) fun o=>I g (B g j) o.symm
  obtain ⟨l,o1,o2⟩:=QkF (by rw[ae]) a2 (k1.append k2)
  have C:∀g,M.ownBlock=some g→(v.ownBlock=some g)∨g=w.heap.size:=fun g j=>by
   rcases F with F | F
   ·exact .inl (by rw[← F]; exact j)
   ·rw[j] at F; cases F; exact .inr rfl
  refine ⟨M,w',l,a1,o1, ?_, ?_,⟨r.os,r.tape,r.output,r.size⟩,fun g j hx=>r.block g j fun o=>hx (D g o.symm)⟩
  ·rcases o2 with ⟨_,rfl⟩ | ⟨g,j,rfl⟩
   ·exact K
   ·refine bj.2 ⟨fun p=> ?_,K⟩
    rcases aG.1 p with p | p
    ·rcases C g j with h | h
     ·exact (k g p).2 h
     ·have:=J g (k g p).1; omega
    ·rcases C g j with h | h
     ·exact I g p h
     ·have:=hlt g p; omega
  ·have n:∀g∈fps++fn,g∈fp∨g∈fn∨w.heap.size≤g:=fun g p=>(aG.1 p).elim (fun h=> .inl (k g h).1) fun h=> .inr (.inl h)
   intro g j
   rcases o2 with ⟨_,rfl⟩ | ⟨N,R,rfl⟩
   ·exact n g j
   ·rcases aE.1 j with rfl | j
    ·rcases C g R with h | h
     ·exact .inl (D g h)
     ·exact .inr (.inr (by omega))
    ·exact n g j
theorem Rep.srcOk {u:Value}{ys:List e.Den}(i:Rep (.sl E e) w [u] ys)(n:e.flat=true):QqH w e u ys []:=by
 obtain ⟨A,c,rfl,_,_⟩:=i.slv
 obtain ⟨_,h⟩:=i.src (M:=0) n
 rcases h with ⟨rfl,f⟩ | ⟨j,a,rfl,⟨b,k,o,l⟩,m⟩
 ·exact .inl ⟨c,by rw[f],bu f,rfl⟩
 ·have:b=[]:=by
   cases b with
   | nil=>rfl
   | cons g gs=>have:=l g (aw ..); omega
  subst this
  exact .inr ⟨j,c,a,rfl,k,m⟩
theorem Own.srcOk {fp:List Nat}{u:Value}{ys:List e.Den}(h:Own (.sl E e) w fp [u] ys):∃fn,QqH w e u ys fn∧∃r,fp=r++fn:=by
 rcases h with ⟨rfl,h,i⟩ | ⟨g,b,f,fps,rfl,c,k,m,n,o,l⟩
 ·subst i
  simp only[aD,and_true] at h
  exact ⟨[], .inl ⟨0,h,rfl,rfl⟩,[],rfl⟩
 ·simp only[aD,and_true] at c
  refine ⟨fps, .inr ⟨_,b,_,c,l,fun j u a=> ?_⟩,[g],rfl⟩
  rw[Addr.add_lit,cd]
  rw[bw] at a
  split at a
  ·simp only[World.cell?,k]
   simpa using a
  ·cases a
end
section
variable {A:Amb}{P:Program}{s:St}{x y:Operand}{d:Nat}{T T' ty:TypeId}{pos:String}{af:Array Edge}{g:Option (Nat×Bool)}
def Qej (A:Amb)(s:St)(x:Operand)(t:Ty)(z:t.Den):Prop:=∀gh a w,Rg A s gh a w→Rep t w [a.eval x] z
theorem Evl.rep {t:Ty}{z:t.Den}(h:Evl A s x (.dat t z)):Qej A s x t z:=fun b a w r=>Rd.rep (h b a w r)
theorem U1 {q:Nat}{E:TypeId}{e:Ty}{xs:List e.Den}(h:Evl A s x (.ref q))(c:s.tab.ent q=some (.arr E e xs)):Qej A s x (.sl E e) xs:=fun b a w r=>by
 rw[show a.eval x=b.h q from h b a w r ⟨_,c⟩]
 exact Own.rep (r.cx.en q _ c)
theorem QbU {o:Oper}{a:Act}{w w':World}{v:Value}{K:Act→World→Prop}{Q:Exit→Act→World→Prop}(b:o.op= .call {callee:= .builtin .append,args:= #[x,y],argTypes:= #[T,T]})
 (hr:(Builtin.append_ #[T,T] o.type #[a.eval x,a.eval y]).run P w= .ok v w') (next:K (a.put o.dst v) w'):o.wp P a w K Q:=by
 unfold Oper.wp execOp
 simp only[b,resolve,invoke,builtin,dY,Sem.run_pure,aI,dQ,aU,dL,hr]
 exact next
theorem QiW (t:Nat){q q2:Nat}{E:TypeId}{e:Ty}{xs ys:List e.Den}(u:Evl A s x (.ref q))(k:s.tab.ent q=some (.arr E e xs))(H:Evl A s y (.ref q2))(b:s.tab.ent q2=some (.arr E e ys))(m:Nat.beq q q2=false)
 (hT:P.underlying T=some (.slice E)) (hE:Wt P E e.wd=true) (hb:xs.length+ys.length≤1073741824) (hn:Nat.blt d A.n=true) (hfr:Fresh s t) (hk0:A.k0≤t):
 Does A P ⟨some d, .call {callee:= .builtin .append,args:= #[x,y],argTypes:= #[T,T]},ty,pos,af,g⟩ s (s.mk_ d t [q,q2] E e (xs++ys)):=fun a w K Q r G=>by
 obtain ⟨c,r⟩:=r
 have o:q≠q2:=fun h=>by rw[h,dq] at m; cases m
 have D:Own (.sl E e) w (c.f q) [c.h q] xs:=r.cx.en q _ k
 have v:Own (.sl E e) w (c.f q2) [c.h q2] ys:=r.cx.en q2 _ b
 obtain ⟨B,F,R,z⟩:=v.srcOk
 have j:∀g∈B,g∈c.f q2:=fun g i=>by rw[z]; exact aN _ i
 have l:=r.cx.nd q2 ⟨_,b⟩
 rw[z] at l
 obtain ⟨S,U,C,I,J,L,M,N,O⟩:=QbO (P:=P) T ty hT (QdG hE) D (r.cx.nd q ⟨_,k⟩) F (aT.1 l).2.1 (fun g i p=>r.cx.dj q q2 ⟨_,k⟩ ⟨_,b⟩ o g i (j g p)) (fun g i=>Own.lt v g (j g i)) hb
 refine QbU rfl (by rw[show a.eval x=c.h q from u c a w r ⟨_,k⟩,show a.eval y=c.h q2 from H c a w r ⟨_,b⟩]; exact I) (G _ _ (r.make_put t hfr hk0 [q,q2] (by simp only[aE,dc,or_false]; rintro _ (rfl | rfl); exact ⟨_,k⟩; exact ⟨_,b⟩) N (fun g i u=>O g i (u q (by simp))) J L (fun g i=> ?_) hn))
 rcases M g i with h | h | h
 ·exact .inr ⟨q,by simp,h⟩
 ·exact .inr ⟨q2,by simp,j g h⟩
 ·exact .inl h
theorem QI (t:Nat){q:Nat}{E:TypeId}{e:Ty}{xs ys:List e.Den}(j:Evl A s x (.ref q))(c:s.tab.ent q=some (.arr E e xs))(p:Qej A s y (.sl E e) ys)(o:e.flat=true)
 (hT:P.underlying T=some (.slice E)) (hE:Wt P E e.wd=true) (hb:xs.length+ys.length≤1073741824) (hn:Nat.blt d A.n=true) (hfr:Fresh s t) (hk0:A.k0≤t):
 Does A P ⟨some d, .call {callee:= .builtin .append,args:= #[x,y],argTypes:= #[T,T]},ty,pos,af,g⟩ s (s.mk_ d t [q] E e (xs++ys)):=fun a w K Q r m=>by
 obtain ⟨b,r⟩:=r
 have l:Own (.sl E e) w (b.f q) [b.h q] xs:=r.cx.en q _ c
 obtain ⟨F,G,k,u,v,z,B,C,D⟩:=QbO (P:=P) T ty hT (QdG hE) l (r.cx.nd q ⟨_,c⟩) ((p b a w r).srcOk o) bL (by simp) (by simp) hb
 refine QbU rfl (by rw[show a.eval x=b.h q from j b a w r ⟨_,c⟩]; exact u) (m _ _ (r.make_put t hfr hk0 [q] (by simp only[aE,dc,or_false]; rintro _ rfl; exact ⟨_,c⟩) C (fun g i j=>D g i (j q (by simp))) v z (fun g i=> ?_) hn))
 rcases B g i with h | h | h
 ·exact .inr ⟨q,by simp,h⟩
 ·cases h
 ·exact .inl h
theorem Qc2 (z:List Value)(n:Nat)(k:0 < z.length):(madeCells z.toArray (n*z.length)).toList=(List.replicate n z).flatten:=by
 apply bF
 intro i
 induction n generalizing i with
 | zero=>simp[madeCells]
 | succ n f=>
  simp only[madeCells,dy,Array.toList_range,bo] at f ⊢
  rw[List.replicate_succ',List.flatten_append]
  by_cases c:i < n*z.length
  ·have b:=f i
   rw[List.getElem?_range c] at b
   rw[List.getElem?_range (by rw[bT]; omega),bf (by simpa using c),← b]
  ·rw[bk (by simp; omega)]
   simp only[List.length_flatten,List.map_replicate,List.sum_replicate_nat,List.flatten_cons,List.flatten_nil,bG]
   by_cases a:i < (n+1)*z.length
   ·rw[List.getElem?_range a]
    rw[bT,dn] at a
    have h:i % z.length=i - n*z.length:=by
     have:i=(i - n*z.length)+z.length*n:=by have:=Nat.mul_comm n z.length; omega
     conv=>lhs; rw[this]
     rw[Nat.add_mul_mod_self_left,dM (by omega)]
    have j:i - n*z.length < z.length:=by omega
    simp[h,j]
   ·rw[bp (by simpa using a)]
    rw[bT,dn] at a
    rw[bp (by omega)]
    rfl
theorem OwnL.zeros (e:Ty)(w:World)(n:Nat):OwnL (Own e w) [] (List.replicate n e.zeros).flatten (List.replicate n e.zero):=by
 induction n with
 | zero=>exact ⟨rfl,rfl⟩
 | succ n a=>exact ⟨[],[],e.zeros,_,rfl,by simp[List.replicate_succ],ZL e w,a⟩
theorem U0 (t:Nat){E:TypeId}{e:Ty}{n:Nat}{z:Value}{b:Nat}(p:Evl A s x (dI n))(q:Evl A s y (dI n))(l:P.underlying T=some (.slice E))(hi:(P.info? E).map (fun i=>(i.zero,i.size,i.bytes))=some (some z,e.wd,b))
 (hz:z.cells.toList=e.zeros) (hb:b*n≤281474976710656) (hm:n≤1073741824) (hn:Nat.blt d A.n=true) (hfr:Fresh s t) (hk0:A.k0≤t):Does A P ⟨some d, .makeSlice T x y,ty,pos,af,g⟩ s (s.mk_ d t [] E e (List.replicate n e.zero)):=fun a w K Q r k=>by
 obtain ⟨u,r⟩:=r
 have c:e.zeros.length=e.wd:=(ZL e w).len
 have j:=QmO (P:=P) T E z e.wd b l hi n hb (by omega) w
 have m:z.cells=e.zeros.toArray:=by rw[← hz]
 have h:(execOp a.eval ⟨some d, .makeSlice T x y,ty,pos,af,g⟩).run P w= .ok (.value (.slice (some ⟨w.heap.size,0,none⟩) n n)) (w.alloc (.cells (madeCells z.cells (n*e.wd)) E)):=by
  simp only[execOp,p.i r,q.i r,ay,j]
  simp
 unfold Oper.wp
 rw[h,Oper.upon_value]
 refine k _ _ (r.make_put (d:=d) (w':=w.alloc (.cells (madeCells z.cells (n*e.wd)) E)) t hfr hk0 [] (by simp) ⟨rfl,rfl,rfl,by simp⟩ (fun g o _=>Below.heap_alloc w _ g o) (hv:= .slice (some ⟨w.heap.size,0,none⟩) n n) (fp:=[w.heap.size]) (E:=E) (e:=e) (xs:=List.replicate n e.zero) ?_ (by simp) (by simp) hn)
 refine .inr ⟨w.heap.size,n,_,[],rfl,by simp,heap_alloc_new w _,by simp,by unfold maxLen; omega,size_madeCells _ _, ?_⟩
 have f:=Qc2 e.zeros n (by rw[c]; exact VV e)
 rw[c,← m] at f
 rw[f,aF,aJ (by simp[c])]
 exact OwnL.zeros e _ n
theorem OwnL.parts {e:Ty}{w:World}:∀{xs:List e.Den} {fp:List Nat} {cs:List Value} {i:Nat} {x:e.Den},OwnL (Own e w) fp cs xs→xs[i]? =some x→
 ∃k q l j p o,fp=k++(q++l)∧cs=j++(p++o)∧j.length=i*e.wd∧Own e w q p x∧
  ∀w' b a y,(∀g,g∈k∨g∈l→w'.heap[g]? =w.heap[g]?)→Own e w' b a y→OwnL (Own e w') (k++(b++l)) (j++(a++o)) (xs.set i y)
 | [],_,_,_,_,_,h=>by simp at h
 | x0 :: xs,_,_,i,x,⟨f1,f2,c1,c2,h1,h2,h3,h4⟩,hx=>by
  cases i with
  | zero=>
   simp at hx
   subst hx
   refine ⟨[],f1,f2,[],c1,c2,h1,h2,by simp,h3,fun w' b a y r n=>⟨b,f2,a,c2,rfl,rfl,n,h4.mono fun f c x t n=>n.keep fun g m=>r g (.inr (t g m))⟩⟩
  | succ i=>
   obtain ⟨k,q,l,j,p,o,u,v,z,B,C⟩:=OwnL.parts h4 (by simpa using hx)
   refine ⟨f1++k,q,l,c1++j,p,o,by rw[h1,u,aK],by rw[h2,v,aK],by rw[ae,h3.len,z,bT]; omega,B,fun w' b a y r n=> ?_⟩
   exact ⟨f1,_,c1,_,by rw[aK],by rw[aK],h3.keep fun g m=>r g (.inl (aH _ m)),C w' b a y (fun g m=>r g (m.imp (aN _) id)) n⟩
theorem Qch {gh:Gh}{a:Act}{w:World}(r:Rg A s gh a w){q i:Nat}{E:TypeId}{e:Ty}{xs:List e.Den}{z:e.Den}(G:s.tab.ent q=some (.arr E e xs))(p:xs[i]? =some z){g n c:Nat}(H:gh.h q= .slice (some ⟨g,0,none⟩) n c):
 ∃cur l k,gh.f q=g :: l∧w.heap[g]? =some (.cells cur E (0,0))∧xs.length*e.wd≤cur.size∧Rep e w k z∧(∀j u,k[j]? =some u→w.cell? ⟨g,i*e.wd+j,none⟩=some u):=by
 have F:Own (.sl E e) w (gh.f q) [gh.h q] xs:=r.cx.en q _ G
 rcases F with ⟨_,_,h⟩ | ⟨b,t,cur,fps,v,m,o,B,L,C,D⟩
 ·subst h; simp at p
 ·rw[H] at m
  simp only[aD,Value.slice.injEq,bC,Addr.mk.injEq,and_true] at m
  obtain ⟨rfl,_,_⟩:=m
  obtain ⟨f,k,J,_,K⟩:=D.get i z p
  refine ⟨cur,fps,k,v,o,by rw[C]; exact cA _ B,J.rep,fun j u I=> ?_⟩
  have:=K j u I
  rw[bw] at this
  split at this
  ·simp only[World.cell?,o]
   simpa using this
  ·cases this
theorem Zi {q i j n:Nat}{E:TypeId}{e t:Ty}{xs:List e.Den}{z:e.Den}{h:t.Den}(G:Evl A s x (.ept q e.wd i j))(f:s.tab.ent q=some (.arr E e xs))(H:xs[i]? =some z)(F:e.flat=true)(C:tsh P T=some (false,n))
 (hl:(leaves e z)[j]? =some (.dat t h)) (hn:Nat.blt d A.n=true):Does A P ⟨some d, .load T x,ty,pos,af,g⟩ s (s.put d (lf (.dat t h))):=
 Qi rfl hn fun b a w r=>by
  obtain ⟨g,m,c,o,p⟩:=G b a w r ⟨_,f⟩
  obtain ⟨k,l,K,L,M,N,I,J⟩:=Qch r f H o
  obtain ⟨v,u,B⟩:=(Rd.leaves (al:=s.tab.al) (gh:=b) (w:=w) (I.rd0 F)).nth hl
  refine ⟨v, ?_,_,rfl,B⟩
  have D:=J j v u
  simp only[execOp,p,Instr.loadAt,Instr.sureAddr,ay,bl,aI,Z3 C _ v D]
theorem Qi4 {q i j n:Nat}{E:TypeId}{e:Ty}{xs:List e.Den}{z:e.Den}(I:Evl A s x (.ept q e.wd i j))(l:s.tab.ent q=some (.arr E e xs))(J:xs[i]? =some z)(F:e.flat=true)(D:tsh P T=some (true,n))
 (hl:Nat.ble (j+n) e.wd=true) (hn:Nat.blt d A.n=true):Does A P ⟨some d, .load T x,ty,pos,af,g⟩ s (s.put d (ag (((leaves e z).drop j).take n))):=
 Qi rfl hn fun f a w r=>by
  obtain ⟨g,m,c,v,B⟩:=I f a w r ⟨_,l⟩
  obtain ⟨p,t,k,M,N,O,o,L⟩:=Qch r l J v
  have C:=((Rd.leaves (al:=s.tab.al) (gh:=f) (w:=w) (o.rd0 F)).drop j).take n
  have G:=aA hl
  have h:=o.len
  refine ⟨.agg ((k.drop j).take n).toArray, ?_,_,rfl,C⟩
  ·have H:=XZ (w:=w) D g (i*e.wd+j) ((k.drop j).take n) (by rw[ao,aW,h]; omega) fun K u b=>by
    rw[bw] at b
    split at b
    ·rw[cw] at b
     rw[bV]
     exact L (j+K) u b
    ·cases b
   simp only[execOp,B,Instr.loadAt,Instr.sureAddr,ay,bl,aI,H]
theorem UJ {e:Ty}{w:World}:∀{fp:List Nat} {cs:List Value} {x:e.Den},e.flat=true→Own e w fp cs x→fp=[]:=by
 induction e with
 | int=>intro fp cs x _ h; exact h.1
 | bool=>intro fp cs x _ h; exact h.1
 | str=>intro fp cs x _ h; exact h.1
 | u8=>intro fp cs x _ h; exact h.1
 | vl=>intro fp cs x _ h; exact h.1
 | sl E e q=>intro fp cs x c; cases c
 | pr a b f i=>
  intro fp cs x c h
  obtain ⟨n,o,l,r,j,p,k,m⟩:=h
  have c:(a.flat&&b.flat)=true:=c
  rw[aM] at c
  rw[j,f c.1 k,i c.2 m]
  rfl
theorem Qz {q i j:Nat}{E:TypeId}{e:Ty}{xs:List e.Den}{z z':e.Den}{ls:List LV}{b:Bool}(hx:Evl A s x (.ept q e.wd i j))(G:s.tab.ent q=some (.arr E e xs))(Y:xs[i]? =some z)(S:e.flat=true)
 (hy:Ev A s y (b,ls)) (hk:QW s.tab ls=true) (hT:tsh P T=some (b,ls.length)) (hl:Nat.ble (j+ls.length) e.wd=true) (hs:leaves e z'=splice (leaves e z) j ls):
 Does A P ⟨none, .store T x y,ty,pos,af,g⟩ s ⟨s.tm,(q,some (.arr E e (xs.set i z'))) :: s.tab⟩:=fun a w K Q r hK=>by
 obtain ⟨D,r⟩:=r
 obtain ⟨g,m,c,J,h2⟩:=hx D a w r ⟨_,G⟩
 have hO:Own (.sl E e) w (D.f q) [D.h q] xs:=r.cx.en q _ G
 rcases hO with ⟨_,_,h⟩ | ⟨p,a2,t,fps,p2,p3,p4,p5,p6,p7,p8⟩
 ·subst h; simp at Y
 rw[J] at p3
 simp only[aD,Value.slice.injEq,bC,Addr.mk.injEq,and_true] at p3
 obtain ⟨rfl,rfl,rfl⟩:=p3
 have hv:=hy D a w r
 obtain ⟨k,h7,M⟩:=CmR.cells hv fun hb=>by
  subst hb
  obtain ⟨l,rfl,J⟩:=hv
  simp only[QW,dt] at hk
  obtain ⟨h3,h4⟩:=VO hk
  exact J.oneCell h4 h3 fun q ⟨e,G⟩=>(r.cx.en q e G).oneCell
 have h9:k.length=ls.length:=M.len
 have a4:=aA hl
 have H:=(ah.1 Y).1
 obtain ⟨fa,fi,fb,v,n,u,k1,k2,Z,k4,k5⟩:=OwnL.parts p8 Y
 have a3:=k4.len
 have U:=UJ S k4
 subst U
 have a1:i*e.wd+e.wd≤xs.length*e.wd:=by
  calc i*e.wd+e.wd=(i+1)*e.wd:=by rw[bT,dn]
   _≤xs.length*e.wd:=cA _ H
 have a0:xs.length*e.wd≤t.size:=by rw[p7]; exact cA _ p5
 have L:=Ja (P:=P) (w:=w) (b:=g) (o:=i*e.wd+j) hT (a.eval y) k h7 h9 p4 (by omega) (M.oneCells r.cx hk)
 have e0:(execOp a.eval ⟨none, .store T x y,ty,pos,af,‹_›⟩).run P w= .ok .skip (WI w g (i*e.wd+j) k):=by
  simp only[execOp,h2,Instr.storeAt,Instr.sureAddr,ay,bl,aI,L]
 unfold Oper.wp
 rw[e0,Oper.upon_skip]
 obtain ⟨B,m1,m2,m3⟩:=Uo g E (0,0) k w (i*e.wd+j) t p4 (by omega)
 have C:∀p,p≠g→(WI w g (i*e.wd+j) k).heap[p]? =w.heap[p]? :=fun p h=>YW _ _ _ _ _ h
 have hN:(g :: fps).Nodup:=by rw[← p2]; exact r.cx.nd q ⟨_,G⟩
 have W:∀p∈fps,p≠g:=fun p F h=>(bj.1 hN).1 (h▸F)
 have R:Own e (WI w g (i*e.wd+j) k) [] (n.take j++k++n.drop (j+k.length)) z':=by
  have q1:LVs s.tab.al D w (leaves e z) n:=Rd.leaves (k4.rep.rd0 S)
  have q2:=q1.splice M (off:=j)
  rw[← hs] at q2
  exact (LVs.rd q2).rep.own0 S
 have I:=k5 _ [] _ z' (fun p F=>C p (W p (by rw[k1]; rcases F with F | F <;> simp[F]))) R
 refine hK _ _ ⟨D,r.mod G (Ky _ _ _ _) (fun p _ V=>C p fun h=>V (by rw[p2,h]; simp)) (.inr ⟨g,c,B,fps,p2, ?_,m1,by simpa using p5,p6,by rw[m2]; exact p7, ?_⟩)⟩
 ·rw[J]; simp
 ·rw[au]
  have e2:B.toList.take (xs.length*e.wd)=v++((n.take j++k++n.drop (j+k.length))++u):=by
   rw[m3]
   have e3:t.toList=v++(n++u)++t.toList.drop (xs.length*e.wd):=by rw[← k2,bR]
   have O:(v++(n++u)).length=xs.length*e.wd:=by rw[← k2]; simp; omega
   have N:u.length=xs.length*e.wd - (i*e.wd+e.wd):=by simp only[ae] at O; omega
   generalize t.toList.drop (xs.length*e.wd)=rest at e3
   rw[e3]
   have t1:(v++(n++u)++rest).take (i*e.wd+j)=v++n.take j:=by
    rw[aK,aK,← Z,List.take_length_add_append,List.take_append_of_le_length (by omega)]
   have t2:(v++(n++u)++rest).drop (i*e.wd+j+k.length)=n.drop (j+k.length)++(u++rest):=by
    rw[aK,aK,← Z,bV,List.drop_length_add_append,List.drop_append_of_le_length (by omega)]
   rw[t1,t2]
   have X:(v++((n.take j++k++n.drop (j+k.length))++u)).length=xs.length*e.wd:=by
    simp only[ae,ao,aW,Z,N]
    omega
   rw[show v++List.take j n++k++(List.drop (j+k.length) n++(u++rest))=(v++((n.take j++k++n.drop (j+k.length))++u))++rest by simp,← X,dF]
  rw[e2,k1]
  exact I
def opI (A:Amb)(s:St):Option Operand→Option Int→Prop
 | none,none=>True
 | some x,some n=>Evl A s x (dI n)
 | _,_=>False
theorem opI.ev {o:Option Operand}{n:Option Int}(h:opI A s o n){gh:Gh}{a:Act}{w:World}(r:Rg A s gh a w):o.map a.eval=n.map (Value.int .i64):=by
 cases o <;> cases n <;> first | rfl | exact h.elim | (simp only[dl]; rw[Evl.i h r])
theorem VA {b:Bool}{len a:Nat}{lo hi:Option Int}{w:World}(h0:0≤lo.getD 0)(c:lo.getD 0≤hi.getD len)(f:hi.getD len≤len)(i:len≤a):
 (Instr.sliceBounds b len a (lo.map (Value.int .i64)) (hi.map (Value.int .i64)) none).run P w= .ok ((lo.getD 0).toNat,(hi.getD len).toNat,a) w:=by
 cases lo <;> cases hi <;> simp only[ak,aj] at h0 c f <;> simp only[Instr.sliceBounds,dC,dl,Instr.sliceBound,asIntOf,ay,bl,aI,Go.Sem.run_ite]
 ·simp
 ·rw[if_pos (by omega)]; simp
 ·rw[if_pos (by omega)]; simp
 ·rename_i l h
  rw[if_pos (by omega)]
  simp only[aI,bl,ay,Go.Sem.run_ite]
  rw[if_pos (by omega)]
  simp
theorem Zd {m:ByteArray}{lo hi:Option Operand}{l h:Option Int}(f:Evl A s x (dS m))(c:opI A s lo l)(b:opI A s hi h)(j:P.underlying T=some .string)(k:Nat.blt d A.n=true)
 (h0:0≤l.getD 0) (h1:l.getD 0≤h.getD m.size) (h2:h.getD m.size≤m.size):Does A P ⟨some d, .slice T x lo hi none,ty,pos,af,g⟩ s (s.put d (lf (dS (m.extract (l.getD 0).toNat (h.getD m.size).toNat)))):=
 Qi rfl k fun i a w r=>by
  refine ⟨_, ?_,_,rfl,QhF (x:=m.extract (l.getD 0).toNat (h.getD m.size).toNat) ?_⟩
  ·simp only[execOp,f.st r,c.ev r,b.ev r,dC,Instr.sliceAt,Instr.slice,ay,run_underlying j,aI]
   simp[VA h0 h1 h2 (aL _)]
  ·have:=(LVR.str (f i a w r)).2
   simp only[ba]
   omega
theorem Rep.part {E:TypeId}{e:Ty}{w:World}{B:Option Addr}{c:Nat}{xs:List e.Den}(h:Rep (.sl E e) w [.slice B xs.length c] xs){lo hi:Nat}(z:lo≤hi)(C:hi≤xs.length):
 Rep (.sl E e) w [.slice (if c=lo then B else B.map (·.add (lo*e.wd))) (hi - lo) (c - lo)] ((xs.take hi).drop lo):=by
 obtain ⟨t,v,k,F,G,n⟩:=h
 simp only[aD,Value.slice.injEq,and_true,true_and] at k
 obtain ⟨rfl,rfl⟩:=k
 have m:((xs.take hi).drop lo).length=hi - lo:=by simp; omega
 refine ⟨_,c - lo,by rw[m],by omega,by omega,fun D=> ?_⟩
 obtain ⟨b,o,rfl,p⟩:=n (by omega)
 rw[if_neg (by omega)]
 refine ⟨b,o+lo*e.wd,by simp[Addr.add_lit],fun i x a=> ?_⟩
 rw[cw,bw] at a
 split at a
 ·obtain ⟨f,q,r⟩:=p _ x a
  refine ⟨f,q,fun j u l=> ?_⟩
  rw[← r j u l]
  congr 2
  rw[bT]; omega
 ·cases a
theorem Yr {E:TypeId}{e:Ty}{xs:List e.Den}{lo hi:Option Operand}{l h:Option Int}{k:Bool}(v:Evl A s x (.dat (.sl E e) xs))(i:opI A s lo l)(f:opI A s hi h){E':TypeId}(q:P.underlying T=some (.slice E'))(o:tsh P E'=some (k,e.wd))(t:Nat.blt d A.n=true)
 (h0:0≤l.getD 0) (h1:l.getD 0≤h.getD xs.length) (h2:h.getD xs.length≤xs.length):Does A P ⟨some d, .slice T x lo hi none,ty,pos,af,g⟩ s (s.put d (lf (.dat (.sl E e) ((xs.take (h.getD xs.length).toNat).drop (l.getD 0).toNat)))):=
 Qi rfl t fun m a w r=>by
  obtain ⟨C,p,b⟩:=v m a w r
  obtain ⟨B,c,j,z,D⟩:=b.slv
  rw[j] at b
  have u:=b.part (lo:=(l.getD 0).toNat) (hi:=(h.getD xs.length).toNat) (by omega) (by omega)
  refine ⟨_, ?_,_,rfl,C,p,u⟩
  simp only[execOp,j,i.ev r,f.ev r,dC,Instr.sliceAt,Instr.slice,ay,run_underlying q,aI,VA h0 h1 h2 z,Xr o]
  simp
end
end Go.Proofs.YtndabgcpnmeeoaaGreat
