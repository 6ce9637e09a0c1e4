/- Abstract states: append, make, elements of one's own slices, parts of slices and texts. No program is named here. -/
import Derived.Test.YtnakmhfjafecpaaGreatAp
set_option linter.unusedSimpArgs false
set_option linter.unusedVariables false
set_option linter.unusedSectionVars false
namespace Go.Proofs.YtnakmhfjafecpaaGreat
open Go.RowKit
section
variable {E:TypeId}{e:Ty}{w:World}{P:Program}
def QlC (w:World)(e:Ty)(u:Value)(ys:List e.Den)(fn:List Nat):Prop:=
  (∃c,u= .slice none 0 c∧ys=[]∧fn=[])∨∃ad c news,u= .slice (some ad) ys.length c∧OwnL (Own e w) fn news ys∧∀j u,news[j]? =some u→w.cell? (ad.add j)=some u
theorem Qf6 (t ty:TypeId)(ht:P.underlying t=some (.slice E))(he:ElemInfo P E e){fp fn:List Nat}{v u:Value}{xs ys:List e.Den}(h1:Own (.sl E e) w fp [v] xs)(h2:fp.Nodup)
    (hs:QlC w e u ys fn) (n2:fn.Nodup) (hdj:∀g∈fp,g∉fn) (hlt:∀g∈fn,g < w.heap.size) (hb:xs.length+ys.length≤1073741824):
    ∃v' w' fp',(Builtin.append_ #[t,t] ty #[v,u]).run P w= .ok v' w'∧Own (.sl E e) w' fp' [v'] (xs++ys)∧fp'.Nodup∧(∀g∈fp',g∈fp∨g∈fn∨w.heap.size≤g)∧Grw w w'∧∀g,g < w.heap.size→g∉fp→w'.heap[g]? =w.heap[g]? :=by
  obtain ⟨cs,fps,r1,r2,r3⟩:=h1.row
  obtain ⟨i,z,i1,i2,i3,i4,i5⟩:=he
  rcases hs with ⟨c,rfl,rfl,rfl⟩ | ⟨ad,c,news,rfl,n1,src⟩
  · have hrun:(Builtin.append_ #[t,t] ty #[v, .slice none 0 c]).run P w= .ok v w:=by
      rcases r1.2 with ⟨rfl,h0⟩ | ⟨g,cap,cur,rfl,_,hgg,hnc,_⟩
      · simp[Builtin.append_,run_underlying ht,sizeOf,typeInfo,i1,Builtin.lenOf,Builtin.firstCells]
      · simp[Builtin.append_,run_underlying ht,sizeOf,typeInfo,i1,Builtin.lenOf,Builtin.firstCells,hnc,storeCells]
    exact ⟨v,w,fp,hrun,by rw[List.append_nil]; exact h1,h2,fun g hg=> .inl hg,ZO w,fun _ _ _=>rfl⟩
  · have hbm:(xs.length+ys.length)*i.bytes≤140737488355328:=by
      calc (xs.length+ys.length)*i.bytes≤1073741824*65536:=Nat.mul_le_mul (by omega) i4
        _≤140737488355328:=by decide
    obtain ⟨v',w',a1,a2,a3,a4,a5⟩:=run_append_own_at (P:=P) (w:=w) 0 t ty E i z e.wd i.bytes ht i1 i2 i3 rfl i5 (Vm e) v xs.length cs r1 ad ys.length c news (by exact n1.len) src (OwnL.one (fp:=[]) n1) (by unfold maxLen; omega) hbm (Nat.zero_le _)
    have hvb:∀g,v.ownBlock=some g→g∈fp:=fun g hg=>by
      rcases r3 with ⟨h0,_⟩ | ⟨g',h0,h'⟩
      · rw[h0] at hg; cases hg
      · rw[h0] at hg; cases hg; rw[h']; exact List.mem_cons_self ..
    have hfps:∀g∈fps,g∈fp∧v.ownBlock≠some g:=fun g hg=>by
      rcases r3 with ⟨_,_,h0⟩ | ⟨g',h0,h'⟩
      · rw[h0] at hg; cases hg
      · rw [h'] at h2 ⊢
        refine ⟨List.mem_cons_of_mem _ hg, ?_⟩
        rw[h0]
        rintro h9
        cases h9
        exact (List.nodup_cons.1 h2).1 hg
    have hfn:∀g∈fn,v.ownBlock≠some g:=fun g hg h9=>hdj g (hvb g h9) hg
    have hlp:∀g∈fp,g < w.heap.size:=Own.lt h1
    have hnd:(fps++fn).Nodup:=by
      have hf:fps.Nodup:=by
        rcases r3 with ⟨_,_,h0⟩ | ⟨g',h0,h'⟩
        · rw[h0]; exact List.nodup_nil
        · rw[h'] at h2; exact (List.nodup_cons.1 h2).2
      exact List.nodup_append.2 ⟨hf,n2,fun a ha b hb e=>by subst e; exact hdj a (hfps a ha).1 hb⟩
    have k1:OwnL (Own e w') fps cs xs:=r2.mono fun f c x hf ho=>ho.keep fun g hg=>a3.block g (hlp g (hfps g (hf g hg)).1) fun h9=>(hfps g (hf g hg)).2 h9.symm
    have k2:OwnL (Own e w') fn news ys:=n1.mono fun f c x hf ho=>ho.keep fun g hg=>a3.block g (hlt g (hf g hg)) fun h9=>hfn g (hf g hg) h9.symm
    obtain ⟨fp',o1,o2⟩:=Qg3 (by rw[List.length_append]) a2 (k1.append k2)
    have hin:∀g,v'.ownBlock=some g→(v.ownBlock=some g)∨g=w.heap.size:=fun g hg=>by
      rcases a5 with a5 | a5
      · exact .inl (by rw[← a5]; exact hg)
      · rw[hg] at a5; cases a5; exact .inr rfl
    refine ⟨v',w',fp',a1,o1, ?_, ?_,⟨a3.os,a3.tape,a3.output,a3.size⟩,fun g hg hx=>a3.block g hg fun h9=>hx (hvb g h9.symm)⟩
    · rcases o2 with ⟨_, rfl⟩ | ⟨g, hg, rfl⟩
      · exact hnd
      · refine List.nodup_cons.2 ⟨fun hi => ?_, hnd⟩
        rcases List.mem_append.1 hi with hi | hi
        · rcases hin g hg with h | h
          · exact (hfps g hi).2 h
          · have:=hlp g (hfps g hi).1; omega
        · rcases hin g hg with h | h
          · exact hfn g hi h
          · have:=hlt g hi; omega
    · have hrest : ∀ g ∈ fps ++ fn, g ∈ fp ∨ g ∈ fn ∨ w.heap.size ≤ g := fun g hi => (List.mem_append.1 hi).elim (fun h => .inl (hfps g h).1) fun h => .inr (.inl h)
      intro g hg
      rcases o2 with ⟨_,rfl⟩ | ⟨g',hg',rfl⟩
      · exact hrest g hg
      · rcases List.mem_cons.1 hg with rfl | hg
        · rcases hin g hg' with h | h
          · exact .inl (hvb g h)
          · exact .inr (.inr (by omega))
        · exact hrest g hg
theorem Rep.srcOk {u:Value}{ys:List e.Den}(hr:Rep (.sl E e) w [u] ys)(hf:e.flat=true):QlC w e u ys []:=by
  obtain ⟨A,c,rfl,_,_⟩:=hr.slv
  obtain ⟨_,h⟩:=hr.src (M:=0) hf
  rcases h with ⟨rfl,h0⟩ | ⟨ad,news,rfl,⟨fn,h1,h2,h3⟩,h4⟩
  · exact .inl ⟨c,by rw[h0],List.eq_nil_of_length_eq_zero h0,rfl⟩
  · have:fn=[]:=by
      cases fn with
      | nil=>rfl
      | cons g gs=>have:=h3 g (List.mem_cons_self ..); omega
    subst this
    exact .inr ⟨ad,c,news,rfl,h1,h4⟩
theorem Own.srcOk {fp:List Nat}{u:Value}{ys:List e.Den}(h:Own (.sl E e) w fp [u] ys):∃fn,QlC w e u ys fn∧∃r,fp=r++fn:=by
  rcases h with ⟨rfl,h,h'⟩ | ⟨g,cap,cur,fps,rfl,h1,h2,h3,h4,h5,h6⟩
  · subst h'
    simp only[List.cons.injEq,and_true] at h
    exact ⟨[], .inl ⟨0,h,rfl,rfl⟩,[],rfl⟩
  · simp only [List.cons.injEq, and_true] at h1
    refine ⟨fps, .inr ⟨_,cap,_,h1,h6,fun j u hj=> ?_⟩,[g],rfl⟩
    rw[Addr.add_lit,Nat.zero_add]
    rw[List.getElem?_take] at hj
    split at hj
    · simp only [World.cell?, h2]
      simpa using hj
    · cases hj
end
section
variable {A:Amb}{P:Program}{s:St}{x y:Operand}{d:Nat}{T T' ty:TypeId}{pos:String}{af:Array Edge}{g:Option (Nat×Bool)}
def Qd7 (A:Amb)(s:St)(x:Operand)(t:Ty)(z:t.Den):Prop:=∀gh a w,Rg A s gh a w→Rep t w [a.eval x] z
theorem Evl.rep {t:Ty}{z:t.Den}(h:Evl A s x (.dat t z)):Qd7 A s x t z:=fun gh a w r=>Rd.rep (h gh a w r)
theorem Xd {q:Nat}{E:TypeId}{e:Ty}{xs:List e.Den}(h:Evl A s x (.ref q))(he:s.tab.ent q=some (.arr E e xs)):Qd7 A s x (.sl E e) xs:=fun gh a w r=>by
  rw[show a.eval x=gh.h q from h gh a w r ⟨_,he⟩]
  exact Own.rep (r.cx.en q _ he)
theorem Qgm {o:Oper}{a:Act}{w w':World}{v:Value}{K:Act→World→Prop}{Q:Exit→Act→World→Prop}(ho:o.op= .call {callee:= .builtin .append,args:= #[x,y],argTypes:= #[T,T]})
    (hr:(Builtin.append_ #[T,T] o.type #[a.eval x,a.eval y]).run P w= .ok v w') (next:K (a.put o.dst v) w'):o.wp P a w K Q:=by
  unfold Oper.wp execOp
  simp only[ho,resolve,invoke,builtin,Sem.run_bind,Sem.run_pure,Result.andThen_ok,List.map_toArray,List.map_cons,List.map_nil,hr]
  exact next
theorem Q0 (t:Nat){q q2:Nat}{E:TypeId}{e:Ty}{xs ys:List e.Den}(hx:Evl A s x (.ref q))(he:s.tab.ent q=some (.arr E e xs))(hy:Evl A s y (.ref q2))(he2:s.tab.ent q2=some (.arr E e ys))(hne:Nat.beq q q2=false)
    (hT:P.underlying T=some (.slice E)) (hE:Vx P E e.wd=true) (hb:xs.length+ys.length≤1073741824) (hn:Nat.blt d A.n=true) (hfr:Fresh s t) (hk0:A.k0≤t):
    Does A P ⟨some d, .call {callee:= .builtin .append,args:= #[x,y],argTypes:= #[T,T]},ty,pos,af,g⟩ s (s.mk_ d t [q,q2] E e (xs++ys)):=fun a w K Q r hK=>by
  obtain ⟨gh,r⟩:=r
  have hne':q≠q2:=fun h=>by rw[h,Nat.beq_refl] at hne; cases hne
  have h1:Own (.sl E e) w (gh.f q) [gh.h q] xs:=r.cx.en q _ he
  have h2:Own (.sl E e) w (gh.f q2) [gh.h q2] ys:=r.cx.en q2 _ he2
  obtain ⟨fn,h3,rr,h4⟩:=h2.srcOk
  have hin:∀g∈fn,g∈gh.f q2:=fun g hg=>by rw[h4]; exact List.mem_append_right _ hg
  have hnd:=r.cx.nd q2 ⟨_,he2⟩
  rw[h4] at hnd
  obtain ⟨v',w',fp',k1,k2,k3,k4,k5,k6⟩:=Qf6 (P:=P) T ty hT (QjG hE) h1 (r.cx.nd q ⟨_,he⟩) h3 (List.nodup_append.1 hnd).2.1 (fun g hg hg'=>r.cx.dj q q2 ⟨_,he⟩ ⟨_,he2⟩ hne' g hg (hin g hg')) (fun g hg=>Own.lt h2 g (hin g hg)) hb
  refine Qgm rfl (by rw[show a.eval x=gh.h q from hx gh a w r ⟨_,he⟩,show a.eval y=gh.h q2 from hy gh a w r ⟨_,he2⟩]; exact k1) (hK _ _ (r.make_put t hfr hk0 [q,q2] (by simp only[List.mem_cons,List.not_mem_nil,or_false]; rintro _ (rfl | rfl); exact ⟨_,he⟩; exact ⟨_,he2⟩) k5 (fun g hg hx=>k6 g hg (hx q (by simp))) k2 k3 (fun g hg=> ?_) hn))
  rcases k4 g hg with h | h | h
  · exact .inr ⟨q,by simp,h⟩
  · exact .inr ⟨q2,by simp,hin g h⟩
  · exact .inl h
theorem ZI (t:Nat){q:Nat}{E:TypeId}{e:Ty}{xs ys:List e.Den}(hx:Evl A s x (.ref q))(he:s.tab.ent q=some (.arr E e xs))(hy:Qd7 A s y (.sl E e) ys)(hf:e.flat=true)
    (hT:P.underlying T=some (.slice E)) (hE:Vx P E e.wd=true) (hb:xs.length+ys.length≤1073741824) (hn:Nat.blt d A.n=true) (hfr:Fresh s t) (hk0:A.k0≤t):
    Does A P ⟨some d, .call {callee:= .builtin .append,args:= #[x,y],argTypes:= #[T,T]},ty,pos,af,g⟩ s (s.mk_ d t [q] E e (xs++ys)):=fun a w K Q r hK=>by
  obtain ⟨gh,r⟩:=r
  have h1:Own (.sl E e) w (gh.f q) [gh.h q] xs:=r.cx.en q _ he
  obtain ⟨v',w',fp',k1,k2,k3,k4,k5,k6⟩:=Qf6 (P:=P) T ty hT (QjG hE) h1 (r.cx.nd q ⟨_,he⟩) ((hy gh a w r).srcOk hf) List.nodup_nil (by simp) (by simp) hb
  refine Qgm rfl (by rw[show a.eval x=gh.h q from hx gh a w r ⟨_,he⟩]; exact k1) (hK _ _ (r.make_put t hfr hk0 [q] (by simp only[List.mem_cons,List.not_mem_nil,or_false]; rintro _ rfl; exact ⟨_,he⟩) k5 (fun g hg hx=>k6 g hg (hx q (by simp))) k2 k3 (fun g hg=> ?_) hn))
  rcases k4 g hg with h | h | h
  · exact .inr ⟨q,by simp,h⟩
  · cases h
  · exact .inl h
theorem Qbc (z:List Value)(n:Nat)(hz:0 < z.length):(madeCells z.toArray (n*z.length)).toList=(List.replicate n z).flatten:=by
  apply List.ext_getElem?
  intro i
  induction n generalizing i with
  | zero=>simp[madeCells]
  | succ n ih=>
    simp only[madeCells,Array.toList_map,Array.toList_range,List.getElem?_map] at ih ⊢
    rw[List.replicate_succ',List.flatten_append]
    by_cases hi:i < n*z.length
    · have h1 := ih i
      rw[List.getElem?_range hi] at h1
      rw[List.getElem?_range (by rw[Nat.add_mul]; omega),List.getElem?_append_left (by simpa using hi),← h1]
    · rw [List.getElem?_append_right (by simp; omega)]
      simp only[List.length_flatten,List.map_replicate,List.sum_replicate_nat,List.flatten_cons,List.flatten_nil,List.append_nil]
      by_cases hi2:i < (n+1)*z.length
      · rw [List.getElem?_range hi2]
        rw[Nat.add_mul,Nat.one_mul] at hi2
        have e1:i % z.length=i - n*z.length:=by
          have:i=(i - n*z.length)+z.length*n:=by have:=Nat.mul_comm n z.length; omega
          conv=>lhs; rw[this]
          rw[Nat.add_mul_mod_self_left,Nat.mod_eq_of_lt (by omega)]
        have e2:i - n*z.length < z.length:=by omega
        simp[e1,e2]
      · rw [List.getElem?_eq_none (by simpa using hi2)]
        rw[Nat.add_mul,Nat.one_mul] at hi2
        rw[List.getElem?_eq_none (by omega)]
        rfl
theorem OwnL.zeros (e:Ty)(w:World)(n:Nat):OwnL (Own e w) [] (List.replicate n e.zeros).flatten (List.replicate n e.zero):=by
  induction n with
  | zero=>exact ⟨rfl,rfl⟩
  | succ n ih=>exact ⟨[],[],e.zeros,_,rfl,by simp[List.replicate_succ],Yg e w,ih⟩
theorem Vo (t:Nat){E:TypeId}{e:Ty}{n:Nat}{z:Value}{bytes:Nat}(hx:Evl A s x (dI n))(hy:Evl A s y (dI n))(hT:P.underlying T=some (.slice E))(hi:(P.info? E).map (fun i=>(i.zero,i.size,i.bytes))=some (some z,e.wd,bytes))
    (hz:z.cells.toList=e.zeros) (hb:bytes*n≤281474976710656) (hm:n≤1073741824) (hn:Nat.blt d A.n=true) (hfr:Fresh s t) (hk0:A.k0≤t):Does A P ⟨some d, .makeSlice T x y,ty,pos,af,g⟩ s (s.mk_ d t [] E e (List.replicate n e.zero)):=fun a w K Q r hK=>by
  obtain ⟨gh,r⟩:=r
  have hzl:e.zeros.length=e.wd:=(Yg e w).len
  have h1:=Ka (P:=P) T E z e.wd bytes hT hi n hb (by omega) w
  have hc:z.cells=e.zeros.toArray:=by rw[← hz]
  have e0:(execOp a.eval ⟨some d, .makeSlice T x y,ty,pos,af,g⟩).run P w= .ok (.value (.slice (some ⟨w.heap.size,0,none⟩) n n)) (w.alloc (.cells (madeCells z.cells (n*e.wd)) E)):=by
    simp only[execOp,hx.i r,hy.i r,Go.Sem.run_bind,h1]
    simp
  unfold Oper.wp
  rw[e0,Oper.upon_value]
  refine hK _ _ (r.make_put (d:=d) (w':=w.alloc (.cells (madeCells z.cells (n*e.wd)) E)) t hfr hk0 [] (by simp) ⟨rfl,rfl,rfl,by simp⟩ (fun g hg _=>Below.heap_alloc w _ g hg) (hv:= .slice (some ⟨w.heap.size,0,none⟩) n n) (fp:=[w.heap.size]) (E:=E) (e:=e) (xs:=List.replicate n e.zero) ?_ (by simp) (by simp) hn)
  refine .inr ⟨w.heap.size,n,_,[],rfl,by simp,heap_alloc_new w _,by simp,by unfold maxLen; omega,size_madeCells _ _, ?_⟩
  have h2:=Qbc e.zeros n (by rw[hzl]; exact Vm e)
  rw[hzl,← hc] at h2
  rw[h2,List.length_replicate,List.take_of_length_le (by simp[hzl])]
  exact OwnL.zeros e _ n
theorem OwnL.parts {e:Ty}{w:World}:∀{xs:List e.Den} {fp:List Nat} {cs:List Value} {i:Nat} {x:e.Den},OwnL (Own e w) fp cs xs→xs[i]? =some x→
    ∃fa fi fb ca ci cb,fp=fa++(fi++fb)∧cs=ca++(ci++cb)∧ca.length=i*e.wd∧Own e w fi ci x∧
      ∀w' fi' ci' y,(∀g,g∈fa∨g∈fb→w'.heap[g]? =w.heap[g]?)→Own e w' fi' ci' y→OwnL (Own e w') (fa++(fi'++fb)) (ca++(ci'++cb)) (xs.set i y)
  | [],_,_,_,_,_,h=>by simp at h
  | x0 :: xs,_,_,i,x,⟨f1,f2,c1,c2,h1,h2,h3,h4⟩,hx=>by
    cases i with
    | zero=>
      simp at hx
      subst hx
      refine ⟨[],f1,f2,[],c1,c2,h1,h2,by simp,h3,fun w' fi' ci' y hk ho=>⟨fi',f2,ci',c2,rfl,rfl,ho,h4.mono fun f c x hf ho=>ho.keep fun g hg=>hk g (.inr (hf g hg))⟩⟩
    | succ i=>
      obtain ⟨fa,fi,fb,ca,ci,cb,k1,k2,k3,k4,k5⟩:=OwnL.parts h4 (by simpa using hx)
      refine ⟨f1++fa,fi,fb,c1++ca,ci,cb,by rw[h1,k1,List.append_assoc],by rw[h2,k2,List.append_assoc],by rw[List.length_append,h3.len,k3,Nat.add_mul]; omega,k4,fun w' fi' ci' y hk ho=> ?_⟩
      exact ⟨f1,_,c1,_,by rw[List.append_assoc],by rw[List.append_assoc],h3.keep fun g hg=>hk g (.inl (List.mem_append_left _ hg)),k5 w' fi' ci' y (fun g hg=>hk g (hg.imp (List.mem_append_right _) id)) ho⟩
theorem Qeh {gh:Gh}{a:Act}{w:World}(r:Rg A s gh a w){q i:Nat}{E:TypeId}{e:Ty}{xs:List e.Den}{z:e.Den}(he:s.tab.ent q=some (.arr E e xs))(hz:xs[i]? =some z){g n c:Nat}(hh:gh.h q= .slice (some ⟨g,0,none⟩) n c):
    ∃cur fpr ds,gh.f q=g :: fpr∧w.heap[g]? =some (.cells cur E (0,0))∧xs.length*e.wd≤cur.size∧Rep e w ds z∧(∀j u,ds[j]? =some u→w.cell? ⟨g,i*e.wd+j,none⟩=some u):=by
  have hO:Own (.sl E e) w (gh.f q) [gh.h q] xs:=r.cx.en q _ he
  rcases hO with ⟨_,_,h⟩ | ⟨b,cap,cur,fps,h2,h3,h4,h5,h6,h7,h8⟩
  · subst h; simp at hz
  · rw [hh] at h3
    simp only[List.cons.injEq,Value.slice.injEq,Option.some.injEq,Addr.mk.injEq,and_true] at h3
    obtain ⟨rfl,_,_⟩:=h3
    obtain ⟨f,ds,k1,_,k3⟩:=h8.get i z hz
    refine ⟨cur,fps,ds,h2,h4,by rw[h7]; exact Nat.mul_le_mul_right _ h5,k1.rep,fun j u hj=> ?_⟩
    have:=k3 j u hj
    rw[List.getElem?_take] at this
    split at this
    · simp only [World.cell?, h4]
      simpa using this
    · cases this
theorem Q7 {q i j n:Nat}{E:TypeId}{e t:Ty}{xs:List e.Den}{z:e.Den}{y':t.Den}(hx:Evl A s x (.ept q e.wd i j))(he:s.tab.ent q=some (.arr E e xs))(hz:xs[i]? =some z)(hf:e.flat=true)(hT:tsh P T=some (false,n))
    (hl:(leaves e z)[j]? =some (.dat t y')) (hn:Nat.blt d A.n=true):Does A P ⟨some d, .load T x,ty,pos,af,g⟩ s (s.put d (lf (.dat t y'))):=
  Qu rfl hn fun gh a w r=>by
    obtain ⟨g,m,c,h1,h2⟩:=hx gh a w r ⟨_,he⟩
    obtain ⟨cur,fpr,ds,k1,k2,k3,k4,k5⟩:=Qeh r he hz h1
    obtain ⟨v,h5,h6⟩:=(Rd.leaves (al:=s.tab.al) (gh:=gh) (w:=w) (k4.rd0 hf)).nth hl
    refine ⟨v, ?_,_,rfl,h6⟩
    have hc:=k5 j v h5
    simp only[execOp,h2,Instr.loadAt,Instr.sureAddr,Go.Sem.run_bind,Go.Sem.run_pure,Result.andThen_ok,XU hT _ v hc]
theorem W2 {q i j n:Nat}{E:TypeId}{e:Ty}{xs:List e.Den}{z:e.Den}(hx:Evl A s x (.ept q e.wd i j))(he:s.tab.ent q=some (.arr E e xs))(hz:xs[i]? =some z)(hf:e.flat=true)(hT:tsh P T=some (true,n))
    (hl:Nat.ble (j+n) e.wd=true) (hn:Nat.blt d A.n=true):Does A P ⟨some d, .load T x,ty,pos,af,g⟩ s (s.put d (ag (((leaves e z).drop j).take n))):=
  Qu rfl hn fun gh a w r=>by
    obtain ⟨g,m,c,h1,h2⟩:=hx gh a w r ⟨_,he⟩
    obtain ⟨cur,fpr,ds,k1,k2,k3,k4,k5⟩:=Qeh r he hz h1
    have h5:=((Rd.leaves (al:=s.tab.al) (gh:=gh) (w:=w) (k4.rd0 hf)).drop j).take n
    have hle:=Nat.le_of_ble_eq_true hl
    have hds:=k4.len
    refine ⟨.agg ((ds.drop j).take n).toArray, ?_,_,rfl,h5⟩
    · have hr:=XR (w:=w) hT g (i*e.wd+j) ((ds.drop j).take n) (by rw[List.length_take,List.length_drop,hds]; omega) fun j' u hj=>by
        rw[List.getElem?_take] at hj
        split at hj
        · rw [List.getElem?_drop] at hj
          rw[Nat.add_assoc]
          exact k5 (j+j') u hj
        · cases hj
      simp only[execOp,h2,Instr.loadAt,Instr.sureAddr,Go.Sem.run_bind,Go.Sem.run_pure,Result.andThen_ok,hr]
theorem V1 {e:Ty}{w:World}:∀{fp:List Nat} {cs:List Value} {x:e.Den},e.flat=true→Own e w fp cs x→fp=[]:=by
  induction e with
  | int=>intro fp cs x _ h; exact h.1
  | bool=>intro fp cs x _ h; exact h.1
  | str=>intro fp cs x _ h; exact h.1
  | u8=>intro fp cs x _ h; exact h.1
  | vl=>intro fp cs x _ h; exact h.1
  | sl E e ih=>intro fp cs x hf; cases hf
  | pr a b iha ihb=>
    intro fp cs x hf h
    obtain ⟨f1,f2,l,r,h1,h2,h3,h4⟩:=h
    have hf:(a.flat&&b.flat)=true:=hf
    rw[Bool.and_eq_true] at hf
    rw[h1,iha hf.1 h3,ihb hf.2 h4]
    rfl
theorem Q5 {q i j:Nat}{E:TypeId}{e:Ty}{xs:List e.Den}{z z':e.Den}{ls:List LV}{b:Bool}(hx:Evl A s x (.ept q e.wd i j))(he:s.tab.ent q=some (.arr E e xs))(hz:xs[i]? =some z)(hf:e.flat=true)
    (hy:Ev A s y (b,ls)) (hk:Yf s.tab ls=true) (hT:tsh P T=some (b,ls.length)) (hl:Nat.ble (j+ls.length) e.wd=true) (hs:leaves e z'=splice (leaves e z) j ls):
    Does A P ⟨none, .store T x y,ty,pos,af,g⟩ s ⟨s.tm,(q,some (.arr E e (xs.set i z'))) :: s.tab⟩:=fun a w K Q r hK=>by
  obtain ⟨gh,r⟩:=r
  obtain ⟨g,m,c,h1,h2⟩:=hx gh a w r ⟨_,he⟩
  have hO:Own (.sl E e) w (gh.f q) [gh.h q] xs:=r.cx.en q _ he
  rcases hO with ⟨_,_,h⟩ | ⟨g0,cap,cur,fps,p2,p3,p4,p5,p6,p7,p8⟩
  · subst h; simp at hz
  rw[h1] at p3
  simp only[List.cons.injEq,Value.slice.injEq,Option.some.injEq,Addr.mk.injEq,and_true] at p3
  obtain ⟨rfl,rfl,rfl⟩:=p3
  have hv:=hy gh a w r
  obtain ⟨vs,h7,h8⟩:=CmR.cells hv fun hb=>by
    subst hb
    obtain ⟨l,rfl,h1⟩:=hv
    simp only[Yf,Bool.and_true] at hk
    obtain ⟨h3,h4⟩:=VQ hk
    exact h1.oneCell h4 h3 fun q ⟨e,he⟩=>(r.cx.en q e he).oneCell
  have h9:vs.length=ls.length:=h8.len
  have hle:=Nat.le_of_ble_eq_true hl
  have hilt:=(List.getElem?_eq_some_iff.1 hz).1
  obtain ⟨fa,fi,fb,ca,ci,cb,k1,k2,k3,k4,k5⟩:=OwnL.parts p8 hz
  have hci:=k4.len
  have hfi:=V1 hf k4
  subst hfi
  have hrow:i*e.wd+e.wd≤xs.length*e.wd:=by
    calc i*e.wd+e.wd=(i+1)*e.wd:=by rw[Nat.add_mul,Nat.one_mul]
      _≤xs.length*e.wd:=Nat.mul_le_mul_right _ hilt
  have hcap:xs.length*e.wd≤cur.size:=by rw[p7]; exact Nat.mul_le_mul_right _ p5
  have h10:=UY (P:=P) (w:=w) (b:=g) (o:=i*e.wd+j) hT (a.eval y) vs h7 h9 p4 (by omega) (h8.oneCells r.cx hk)
  have e0:(execOp a.eval ⟨none, .store T x y,ty,pos,af,‹_›⟩).run P w= .ok .skip (Wg w g (i*e.wd+j) vs):=by
    simp only[execOp,h2,Instr.storeAt,Instr.sureAddr,Go.Sem.run_bind,Go.Sem.run_pure,Result.andThen_ok,h10]
  unfold Oper.wp
  rw[e0,Oper.upon_skip]
  obtain ⟨cur',m1,m2,m3⟩:=Ue g E (0,0) vs w (i*e.wd+j) cur p4 (by omega)
  have hoth:∀g0,g0≠g→(Wg w g (i*e.wd+j) vs).heap[g0]? =w.heap[g0]? :=fun g0 h=>Xs _ _ _ _ _ h
  have hN:(g :: fps).Nodup:=by rw[← p2]; exact r.cx.nd q ⟨_,he⟩
  have hgf:∀g0∈fps,g0≠g:=fun g0 h0 h=>(List.nodup_cons.1 hN).1 (h▸h0)
  have hel:Own e (Wg w g (i*e.wd+j) vs) [] (ci.take j++vs++ci.drop (j+vs.length)) z':=by
    have q1:LVs s.tab.al gh w (leaves e z) ci:=Rd.leaves (k4.rep.rd0 hf)
    have q2:=q1.splice h8 (off:=j)
    rw[← hs] at q2
    exact (LVs.rd q2).rep.own0 hf
  have hnew:=k5 _ [] _ z' (fun g0 h0=>hoth g0 (hgf g0 (by rw[k1]; rcases h0 with h0 | h0 <;> simp[h0]))) hel
  refine hK _ _ ⟨gh,r.mod he (Ky _ _ _ _) (fun g0 _ hg0=>hoth g0 fun h=>hg0 (by rw[p2,h]; simp)) (.inr ⟨g,c,cur',fps,p2, ?_,m1,by simpa using p5,p6,by rw[m2]; exact p7, ?_⟩)⟩
  · rw[h1]; simp
  · rw [List.length_set]
    have e2:cur'.toList.take (xs.length*e.wd)=ca++((ci.take j++vs++ci.drop (j+vs.length))++cb):=by
      rw[m3]
      have e3:cur.toList=ca++(ci++cb)++cur.toList.drop (xs.length*e.wd):=by rw[← k2,List.take_append_drop]
      have hcl:(ca++(ci++cb)).length=xs.length*e.wd:=by rw[← k2]; simp; omega
      have hcb:cb.length=xs.length*e.wd - (i*e.wd+e.wd):=by simp only[List.length_append] at hcl; omega
      generalize cur.toList.drop (xs.length*e.wd)=rest at e3
      rw[e3]
      have t1:(ca++(ci++cb)++rest).take (i*e.wd+j)=ca++ci.take j:=by
        rw[List.append_assoc,List.append_assoc,← k3,List.take_length_add_append,List.take_append_of_le_length (by omega)]
      have t2:(ca++(ci++cb)++rest).drop (i*e.wd+j+vs.length)=ci.drop (j+vs.length)++(cb++rest):=by
        rw[List.append_assoc,List.append_assoc,← k3,Nat.add_assoc,List.drop_length_add_append,List.drop_append_of_le_length (by omega)]
      rw[t1,t2]
      have hl2:(ca++((ci.take j++vs++ci.drop (j+vs.length))++cb)).length=xs.length*e.wd:=by
        simp only[List.length_append,List.length_take,List.length_drop,k3,hcb]
        omega
      rw[show ca++List.take j ci++vs++(List.drop (j+vs.length) ci++(cb++rest))=(ca++((ci.take j++vs++ci.drop (j+vs.length))++cb))++rest by simp,← hl2,List.take_left]
    rw[e2,k1]
    exact hnew
def opI (A:Amb)(s:St):Option Operand→Option Int→Prop
  | none,none=>True
  | some x,some n=>Evl A s x (dI n)
  | _,_=>False
theorem opI.ev {o:Option Operand}{n:Option Int}(h:opI A s o n){gh:Gh}{a:Act}{w:World}(r:Rg A s gh a w):o.map a.eval=n.map (Value.int .i64):=by
  cases o <;> cases n <;> first | rfl | exact h.elim | (simp only[Option.map_some]; rw[Evl.i h r])
theorem Kf {b:Bool}{len cap:Nat}{lo hi:Option Int}{w:World}(h0:0≤lo.getD 0)(h1:lo.getD 0≤hi.getD len)(h2:hi.getD len≤len)(hc:len≤cap):
    (Instr.sliceBounds b len cap (lo.map (Value.int .i64)) (hi.map (Value.int .i64)) none).run P w= .ok ((lo.getD 0).toNat,(hi.getD len).toNat,cap) w:=by
  cases lo <;> cases hi <;> simp only[Option.getD_none,Option.getD_some] at h0 h1 h2 <;> simp only[Instr.sliceBounds,Option.map_none,Option.map_some,Instr.sliceBound,asIntOf,Go.Sem.run_bind,Go.Sem.run_pure,Result.andThen_ok,Go.Sem.run_ite]
  · simp
  · rw[if_pos (by omega)]; simp
  · rw[if_pos (by omega)]; simp
  · rename_i l h
    rw[if_pos (by omega)]
    simp only[Result.andThen_ok,Go.Sem.run_pure,Go.Sem.run_bind,Go.Sem.run_ite]
    rw[if_pos (by omega)]
    simp
theorem Qbe {m:ByteArray}{lo hi:Option Operand}{l h:Option Int}(hx:Evl A s x (dS m))(hlo:opI A s lo l)(hhi:opI A s hi h)(hT:P.underlying T=some .string)(hn:Nat.blt d A.n=true)
    (h0:0≤l.getD 0) (h1:l.getD 0≤h.getD m.size) (h2:h.getD m.size≤m.size):Does A P ⟨some d, .slice T x lo hi none,ty,pos,af,g⟩ s (s.put d (lf (dS (m.extract (l.getD 0).toNat (h.getD m.size).toNat)))):=
  Qu rfl hn fun gh a w r=>by
    refine ⟨_, ?_,_,rfl,Qe7 (x:=m.extract (l.getD 0).toNat (h.getD m.size).toNat) ?_⟩
    · simp only [execOp, hx.st r, hlo.ev r, hhi.ev r, Option.map_none, Instr.sliceAt, Instr.slice, Go.Sem.run_bind, run_underlying hT, Result.andThen_ok]
      simp[Kf h0 h1 h2 (Nat.le_refl _)]
    · have := (LVR.str (hx gh a w r)).2
      simp only[ByteArray.size_extract]
      omega
theorem Rep.part {E:TypeId}{e:Ty}{w:World}{B:Option Addr}{c:Nat}{xs:List e.Den}(h:Rep (.sl E e) w [.slice B xs.length c] xs){lo hi:Nat}(h1:lo≤hi)(h2:hi≤xs.length):
    Rep (.sl E e) w [.slice (if c=lo then B else B.map (·.add (lo*e.wd))) (hi - lo) (c - lo)] ((xs.take hi).drop lo):=by
  obtain ⟨A',c',k,k1,k2,k3⟩:=h
  simp only[List.cons.injEq,Value.slice.injEq,and_true,true_and] at k
  obtain ⟨rfl,rfl⟩:=k
  have hl:((xs.take hi).drop lo).length=hi - lo:=by simp; omega
  refine ⟨_,c - lo,by rw[hl],by omega,by omega,fun hp=> ?_⟩
  obtain ⟨b,o,rfl,k4⟩:=k3 (by omega)
  rw[if_neg (by omega)]
  refine ⟨b,o+lo*e.wd,by simp[Addr.add_lit],fun i x hx=> ?_⟩
  rw[List.getElem?_drop,List.getElem?_take] at hx
  split at hx
  · obtain ⟨ds, k5, k6⟩ := k4 _ x hx
    refine ⟨ds,k5,fun j u hj=> ?_⟩
    rw[← k6 j u hj]
    congr 2
    rw[Nat.add_mul]; omega
  · cases hx
end
end Go.Proofs.YtnakmhfjafecpaaGreat
