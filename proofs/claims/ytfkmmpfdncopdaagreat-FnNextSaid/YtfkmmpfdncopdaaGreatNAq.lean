/- Abstract states: stores; slices of one's own: made, built, appended to, written. No program is named here. -/
import Derived.Test.YtfkmmpfdncopdaaGreatNAm
set_option linter.unusedSimpArgs false
set_option linter.unusedVariables false
set_option linter.unusedSectionVars false
namespace Go.Proofs.YtfkmmpfdncopdaaGreat
open Go.RowKit
def splice (cs:List LV)(off:Nat)(ls:List LV):List LV:=cs.take off++ls++cs.drop (off+ls.length)
theorem LVs.splice {al:Nat→Prop}{gh:Gh}{w:World}{cs ls:List LV}{us vs:List Value}{off:Nat}(h:LVs al gh w cs us)(k:LVs al gh w ls vs):LVs al gh w (Go.Proofs.YtfkmmpfdncopdaaGreat.splice cs off ls) (us.take off++vs++us.drop (off+vs.length)):=by
  rw[k.len]
  exact ((h.take off).app k).app (h.drop _)
section
variable {A:Amb}{P:Program}{s:St}{x y:Operand}{d:Nat}{T T' ty:TypeId}{pos:String}{af:Array Edge}{g:Option (Nat×Bool)}
theorem Rg.mod {gh:Gh}{a:Act}{w w':World}(r:Rg A s gh a w){q:Nat}{e0 e:Ent}(he:s.tab.ent q=some e0)(hg:Grw w w')(hb:∀g,g < w.heap.size→g∉gh.f q→w'.heap[g]? =w.heap[g]?)
    (hE:EntR s.tab.al gh w' q e):Rg A ⟨s.tm,(q,some e) :: s.tab⟩ gh a w':=by
  have hal:∀q',Tab.al ((q,some e) :: s.tab) q'↔s.tab.al q':=fun q'=>by
    unfold Tab.al
    rw[Qh]
    by_cases h:q'=q
    · subst h; simp[he]
    · rw[if_neg h]
  have hq:s.tab.al q:=⟨e0,he⟩
  have hNk:∀g,gh.N g→gh.N g∧w'.heap[g]? =w.heap[g]? :=fun g hN=>⟨hN,hb g (r.cx.nl g hN) fun h=>r.cx.no q hq g h hN⟩
  refine r.step ⟨fun q' e' h=> ?_,fun q1 q2 h1 h2=>r.cx.dj q1 q2 ((hal _).1 h1) ((hal _).1 h2),fun q' h=>r.cx.nd q' ((hal _).1 h),fun q' h=>r.cx.no q' ((hal _).1 h),fun g hN=>bh (r.cx.nl g hN) hg.size⟩
    (fun q' h=> .inl ⟨(hal _).1 h,rfl,fun _=>rfl⟩) hNk hg (fun g hlt hx=>hb g hlt (hx q hq)) (fun g h=> .inl h) (fun q' h g hg'=> .inr ⟨q',(hal _).1 h,hg'⟩)
  · rw [Qh] at h
    by_cases h1:q'=q
    · rw [if_pos h1] at h
      cases h
      subst h1
      exact hE.mono (fun r' _ h=>⟨(hal _).1 h,rfl⟩) (fun g h=>⟨h,rfl⟩) rfl rfl fun _ _=>rfl
    · rw [if_neg h1] at h
      exact (r.cx.en q' e' h).mono (fun r' _ h=>⟨(hal _).1 h,rfl⟩) hNk rfl rfl fun g hg'=>hb g (r.cx.lt ⟨e',h⟩ g hg') fun h2=>r.cx.dj q' q ⟨e',h⟩ hq h1 g hg' h2
theorem Vj (w:World)(g off:Nat)(vs:List Value):Grw w (Xs w g off vs):=by
  induction vs generalizing w off with
  | nil=>exact ZE w
  | cons v vs ih=>
    have h:Grw w (w.setCell ⟨g,off,none⟩ v):=⟨rfl,rfl,rfl,by simp[World.setCell]⟩
    exact h.trans (ih _ _)
theorem Zf {q off:Nat}{E:TypeId}{cs ls:List LV}{b:Bool}(hx:Evl A s x (.ptr q off))(he:s.tab.ent q=some (.box E cs))(hy:Ev A s y (b,ls))(hk:Q6 s.tab ls=true)(hT:tsh P T=some (b,ls.length))
    (hl:Nat.ble (off+ls.length) cs.length=true):Does A P ⟨none, .store T x y,ty,pos,af,g⟩ s ⟨s.tm,(q,some (.box E (splice cs off ls))) :: s.tab⟩:=fun a w K Q r hK=>by
  obtain ⟨gh,r⟩:=r
  obtain ⟨g,h1,h2⟩:=hx gh a w r ⟨_,he⟩
  obtain ⟨g',cur,h3,h4,h5,h6⟩:=r.cx.en q _ he
  rw[h1] at h3
  cases h3
  have hv:=hy gh a w r
  obtain ⟨vs,h7,h8⟩:=CmR.cells hv fun hb=>by
    subst hb
    obtain ⟨l,rfl,h1⟩:=hv
    simp only[Q6,cU] at hk
    obtain ⟨h3,h4⟩:=Wc hk
    exact h1.oneCell h4 h3 fun q ⟨e,he⟩=>(r.cx.en q e he).oneCell
  have h9:vs.length=ls.length:=h8.len
  have hle:=aG hl
  have hcl:cur.size=cs.length:=by have:=h6.len; simpa using this
  have h10:=V5 (P:=P) (w:=w) (b:=g) (o:=off) hT (a.eval y) vs h7 h9 h5 (by omega) (h8.oneCells r.cx hk)
  have e:(execOp a.eval ⟨none, .store T x y,ty,pos,af,‹_›⟩).run P w= .ok .skip (Xs w g off vs):=by
    simp only[execOp,h2,Instr.storeAt,Instr.sureAddr,aw,b5,aH,h10]
  unfold Oper.wp
  rw[e,Oper.upon_skip]
  obtain ⟨cur',k1,k2,k3⟩:=Ww g E (0,0) vs w off cur h5 (by omega)
  have hNk:∀g0,gh.N g0→gh.N g0∧(Xs w g off vs).heap[g0]? =w.heap[g0]? :=fun g0 hN=>⟨hN,Yp _ _ _ _ _ fun h=>r.cx.no q ⟨_,he⟩ g0 (by rw[h4,h]; simp) hN⟩
  refine hK _ _ ⟨gh,r.mod he (Vj _ _ _ _) (fun g0 _ hg0=>Yp _ _ _ _ _ fun h=>hg0 (by rw[h4,h]; simp)) ⟨g,cur',h1,h4,k1, ?_⟩⟩
  rw[k3]
  exact (h6.splice h8).mono (fun _ _ h=>⟨h,rfl⟩) hNk
@[reducible] def Uc:List Nat→Tab
  | []=>[]
  | q :: qs=>(q,none) :: Uc qs
theorem Hk (used:List Nat)(T:Tab)(q:Nat):Tab.ent (Uc used++T) q=if q∈used then none else T.ent q:=by
  induction used with
  | nil=>simp[Uc]
  | cons u us ih=>
    simp only[Uc,cJ,Qh,ih,aE]
    by_cases h:q=u <;> simp[h]
theorem Rg.make {gh:Gh}{a:Act}{w w':World}(r:Rg A s gh a w)(t:Nat)(hfr:Fresh s t)(hk0:A.k0≤t)(used:List Nat)(hu:∀q∈used,s.tab.al q)(hg:Grw w w')(hb:∀g,g < w.heap.size→(∀q∈used,g∉gh.f q)→w'.heap[g]? =w.heap[g]?)
    {E:TypeId} {e:Ty} {xs:List e.Den} {hv:Value} {fp:List Nat} (hE:Own (.sl E e) w' fp [hv] xs) (hnd:fp.Nodup) (hfp:∀g∈fp,w.heap.size≤g∨∃q∈used,g∈gh.f q):
    Rg A ⟨s.tm,(t,some (.arr E e xs)) :: (Uc used++s.tab)⟩ ⟨fun q=>if q=t then hv else gh.h q,fun q=>if q=t then fp else gh.f q,gh.N⟩ a w':=by
  have hal:∀q,Tab.al ((t,some (.arr E e xs)) :: (Uc used++s.tab)) q→q=t∨(q≠t∧s.tab.al q∧q∉used):=fun q h=>by
    by_cases h1:q=t
    · exact .inl h1
    · unfold Tab.al at h
      rw[Qh,if_neg h1,Hk] at h
      by_cases h2:q∈used
      · rw[if_pos h2] at h; obtain ⟨_,h⟩:=h; cases h
      · rw[if_neg h2] at h; exact .inr ⟨h1,h,h2⟩
  have hNk:∀g,gh.N g→gh.N g∧w'.heap[g]? =w.heap[g]? :=fun g hN=>⟨hN,hb g (r.cx.nl g hN) fun q hq h=>r.cx.no q (hu q hq) g h hN⟩
  have hold:∀q,s.tab.al q→q∉used→∀g∈gh.f q,w'.heap[g]? =w.heap[g]? :=fun q hq hn g hg'=>hb g (r.cx.lt hq g hg') fun q' hq' h=>r.cx.dj q q' hq (hu q' hq') (fun h=>hn (h▸hq')) g hg' h
  refine r.step ⟨fun q e' h=> ?_,fun q q' h1 h2 hne g hg1 hg2=> ?_,fun q h=> ?_,fun q h g hg1 hN=> ?_,fun g hN=>bh (r.cx.nl g hN) hg.size⟩ (fun q h=> ?_) hNk hg
    (fun g hlt' hx=>hb g hlt' fun q hq=>hx q (hu q hq)) (fun g h=> .inl h) (fun q h g hg1=> ?_)
  · rw [Qh] at h
    by_cases h1:q=t
    · rw [if_pos h1] at h
      cases h
      subst h1
      simpa [EntR] using hE
    · rw [if_neg h1, Hk] at h
      by_cases h2:q∈used
      · rw[if_pos h2] at h; cases h
      · rw [if_neg h2] at h
        refine (r.cx.en q e' h).mono (fun r' hr' h'=> ?_) hNk (by simp[h1]) (by simp[h1]) (hold q ⟨e',h⟩ h2)
        rcases hal r' h' with h3 | ⟨h3,h4,_⟩
        · exact absurd (h3▸hr') (hfr.en q e' h)
        · exact ⟨h4,by simp[h3]⟩
  · rcases hal q h1 with h1 | ⟨h1, k1, u1⟩ <;> rcases hal q' h2 with h2 | ⟨h2, k2, u2⟩
    · exact hne (h1.trans h2.symm)
    · subst h1
      simp only[if_true] at hg1
      simp only[if_neg h2] at hg2
      rcases hfp g hg1 with h | ⟨q2,h,h3⟩
      · have:=r.cx.lt k2 g hg2; omega
      · exact r.cx.dj q' q2 k2 (hu q2 h) (fun h=>u2 (by rw[h]; assumption)) g hg2 h3
    · subst h2
      simp only[if_true] at hg2
      simp only[if_neg h1] at hg1
      rcases hfp g hg2 with h | ⟨q2,h,h3⟩
      · have:=r.cx.lt k1 g hg1; omega
      · exact r.cx.dj q q2 k1 (hu q2 h) (fun h=>u1 (by rw[h]; assumption)) g hg1 h3
    · simp only [if_neg h1] at hg1
      simp only[if_neg h2] at hg2
      exact r.cx.dj q q' k1 k2 hne g hg1 hg2
  · rcases hal q h with h | ⟨h, k, _⟩
    · simpa [h] using hnd
    · simp only[if_neg h]; exact r.cx.nd q k
  · rcases hal q h with h | ⟨h, k, _⟩
    · simp only [h, if_true] at hg1
      rcases hfp g hg1 with h2 | ⟨q2,h2,h3⟩
      · have:=r.cx.nl g hN; omega
      · exact r.cx.no q2 (hu q2 h2) g h3 hN
    · simp only [if_neg h] at hg1
      exact r.cx.no q k g hg1 hN
  · rcases hal q h with h | ⟨h, k, _⟩
    · exact .inr ⟨h▸hfr,h▸hk0⟩
    · exact .inl ⟨k,by simp[h],fun _=>by simp[h]⟩
  · rcases hal q h with h | ⟨h, k, _⟩
    · simp only [h, if_true] at hg1
      rcases hfp g hg1 with h2 | ⟨q2,h2,h3⟩
      · exact .inl h2
      · exact .inr ⟨q2,hu q2 h2,h3⟩
    · simp only [if_neg h] at hg1
      exact .inr ⟨q,k,hg1⟩
@[reducible] def St.mk_ (s:St) (d t:Nat) (used:List Nat) (E:TypeId) (e:Ty) (xs:List e.Den):St:=⟨(d,lf (.ref t)) :: s.tm,(t,some (.arr E e xs)) :: (Uc used++s.tab)⟩
theorem Rg.make_put {gh:Gh}{a:Act}{w w':World}(r:Rg A s gh a w)(t:Nat)(hfr:Fresh s t)(hk0:A.k0≤t)(used:List Nat)(hu:∀q∈used,s.tab.al q)(hg:Grw w w')(hb:∀g,g < w.heap.size→(∀q∈used,g∉gh.f q)→w'.heap[g]? =w.heap[g]?)
    {E:TypeId} {e:Ty} {xs:List e.Den} {hv:Value} {fp:List Nat} (hE:Own (.sl E e) w' fp [hv] xs) (hnd:fp.Nodup) (hfp:∀g∈fp,w.heap.size≤g∨∃q∈used,g∈gh.f q) (hd:Nat.blt d A.n=true):
    R A (s.mk_ d t used E e xs) (a.put (some d) hv) w':=
  ⟨_,(r.make t hfr hk0 used hu hg hb hE hnd hfp).put (aG hd) (pv:=lf (.ref t)) ⟨_,rfl,fun _=>by simp⟩⟩
def Abs (T:Tab):(t:Ty)→List LV→t.Den→List Nat→Prop
  | .int,ls,x,used=>ls=[.dat .int x]∧used=[]
  | .bool,ls,x,used=>ls=[.dat .bool x]∧used=[]
  | .str,ls,x,used=>ls=[.dat .str x]∧used=[]
  | .u8,ls,x,used=>ls=[.dat .u8 x]∧used=[]
  | .vl,ls,x,used=>ls=[.dat .vl x]∧used=[]
  | .sl E e,ls,xs,used=>(∃q,ls=[.ref q]∧T.ent q=some (.arr E e xs)∧used=[q])∨(ls=[.val (.slice none 0 0)]∧xs=[]∧used=[])
  | .pr a b,ls,x,used=>∃l1 l2 x1 x2 u1 u2,ls=l1++l2∧x=(x1,x2)∧Abs T a l1 x1 u1∧Abs T b l2 x2 u2∧used=u1++u2
def fps (f:Nat→List Nat):List Nat→List Nat
  | []=>[]
  | q :: qs=>f q++fps f qs
theorem Qi3 (f:Nat→List Nat)(a b:List Nat):fps f (a++b)=fps f a++fps f b:=by
  induction a with
  | nil=>rfl
  | cons q qs ih=>simp[fps,ih]
theorem QeP {f:Nat→List Nat}{l:List Nat}{g:Nat}:g∈fps f l↔∃q∈l,g∈f q:=by
  induction l with
  | nil=>simp[fps]
  | cons q qs ih=>simp[fps,ih]
theorem Qkw {T:Tab}{gh:Gh}{w:World}(cx:Cx T gh w){l:List Nat}(h:l.Nodup)(hal:∀q∈l,T.al q):(fps gh.f l).Nodup:=by
  induction l with
  | nil=>exact bt
  | cons q qs ih=>
    obtain ⟨h1,h2⟩:=bl.1 h
    refine b9.2 ⟨cx.nd q (hal q (az ..)),ih h2 fun r hr=>hal r (ax _ hr),fun a ha b hb e=> ?_⟩
    subst e
    obtain ⟨r,hr,hg⟩:=QeP.1 hb
    exact cx.dj q r (hal q (az ..)) (hal r (ax _ hr)) (fun e=>h1 (e▸hr)) a ha hg
theorem Abs.own {T:Tab}{gh:Gh}{w:World}(cx:Cx T gh w):∀{t:Ty} {ls:List LV} {x:t.Den} {used:List Nat} {vs:List Value},Abs T t ls x used→LVs T.al gh w ls vs→Own t w (fps gh.f used) vs x∧∀q∈used,T.al q
  | .int,_,_,_,_,⟨rfl,rfl⟩,h=>⟨(LVs.rd (t:= .int) h).rep.own0 rfl,by simp⟩
  | .bool,_,_,_,_,⟨rfl,rfl⟩,h=>⟨(LVs.rd (t:= .bool) h).rep.own0 rfl,by simp⟩
  | .str,_,_,_,_,⟨rfl,rfl⟩,h=>⟨(LVs.rd (t:= .str) h).rep.own0 rfl,by simp⟩
  | .u8,_,_,_,_,⟨rfl,rfl⟩,h=>⟨(LVs.rd (t:= .u8) h).rep.own0 rfl,by simp⟩
  | .vl,_,_,_,_,⟨rfl,rfl⟩,h=>⟨(LVs.rd (t:= .vl) h).rep.own0 rfl,by simp⟩
  | .sl E e,_,xs,_,_,h,k=>by
    rcases h with ⟨q,rfl,h2,rfl⟩ | ⟨rfl,rfl,rfl⟩
    · obtain ⟨v, vs', rfl, k1, k2⟩ := k
      rw[show vs'=[] from k2,show v=gh.h q from k1 ⟨_,h2⟩]
      have:=cx.en q _ h2
      exact ⟨by simpa [fps,EntR] using this,by simpa using ⟨_,h2⟩⟩
    · obtain ⟨v, vs', rfl, k1, k2⟩ := k
      rw[show vs'=[] from k2,show v=_ from k1]
      exact ⟨.inl ⟨rfl,rfl,rfl⟩,by simp⟩
  | .pr a b,_,_,_,_,⟨l1,l2,x1,x2,u1,u2,rfl,rfl,h1,h2,rfl⟩,k=>by
    obtain ⟨v1,v2,rfl,k1,k2⟩:=Qd3 k
    obtain ⟨m1,n1⟩:=Abs.own cx h1 k1
    obtain ⟨m2,n2⟩:=Abs.own cx h2 k2
    exact ⟨⟨_,_,v1,v2,Qi3 ..,rfl,m1,m2⟩,fun q hq=>(aK.1 hq).elim (n1 q) (n2 q)⟩
def AbsL (T:Tab)(e:Ty):List (Bool×List LV)→List e.Den→List Nat→Prop
  | [],xs,used=>xs=[]∧used=[]
  | c :: cs,xs,used=>∃x xs' u1 u2,xs=x :: xs'∧Abs T e c.2 x u1∧AbsL T e cs xs' u2∧used=u1++u2
def EvL (A:Amb)(s:St):List Operand→List (Bool×List LV)→Prop
  | [],cs=>cs=[]
  | x :: xs,cs=>∃c cs',cs=c :: cs'∧Ev A s x c∧EvL A s xs cs'
theorem EvL.cms {xs:List Operand}{cs:List (Bool×List LV)}(h:EvL A s xs cs){gh:Gh}{a:Act}{w:World}(r:Rg A s gh a w):CmsR s.tab.al gh w cs (xs.map a.eval):=by
  induction xs generalizing cs with
  | nil=>rw[show cs=[] from h]; rfl
  | cons x xs ih=>obtain ⟨c,cs',rfl,h1,h2⟩:=h; exact ⟨_,_,rfl,h1 gh a w r,ih h2⟩
def QnE (v:Value):List Value:=v.cells.toList
theorem AbsL.own {T:Tab}{gh:Gh}{w:World}(cx:Cx T gh w){e:Ty}:∀{cs:List (Bool×List LV)} {xs:List e.Den} {used:List Nat} {vs:List Value},AbsL T e cs xs used→CmsR T.al gh w cs vs→
    (∀v∈vs,∀b ls,(b,ls)∈cs→True)→(∀c∈cs,Q6 T c.2=true)→OwnL (Own e w) (fps gh.f used) (vs.flatMap fun v=>v.cells.toList) xs∧(∀q∈used,T.al q)∧(∀v∈vs,v.cells.size=e.wd)∧vs.length=xs.length
  | [],_,_,_,⟨rfl,rfl⟩,h,_,_=>by rw[show _=[] from h]; exact ⟨⟨rfl,rfl⟩,by simp,by simp,rfl⟩
  | c :: cs,_,_,_,⟨x,xs',u1,u2,rfl,h1,h2,rfl⟩,⟨v,vs',hv,k1,k2⟩,_,hok=>by
    subst hv
    obtain ⟨m1,m2,m3,m4⟩:=AbsL.own cx h2 k2 (fun _ _ _ _ _=>trivial) fun c hc=>hok c (ax _ hc)
    have hc:=hok c (az ..)
    obtain ⟨b,ls⟩:=c
    obtain ⟨us,p1,p2⟩:=CmR.cells k1 fun hb=>by
      subst hb
      obtain ⟨l,rfl,q1⟩:=k1
      simp only[Q6,cU] at hc
      obtain ⟨h3,h4⟩:=Wc hc
      exact q1.oneCell h4 h3 fun q ⟨e,he⟩=>(cx.en q e he).oneCell
    obtain ⟨n1,n2⟩:=Abs.own cx h1 p2
    refine ⟨⟨_,_,us,_,Qi3 ..,by simp[p1],n1,m1⟩,fun q hq=>(aK.1 hq).elim (n2 q) (m2 q),fun u hu=> ?_,by simp[m4]⟩
    rcases aE.1 hu with rfl | hu
    · rw[p1]; simpa using n1.len
    · exact m3 u hu
theorem Qdo (vs:List Value):∀(o:Nat) (cs:Array Value) (k:Nat),o+k+vs.length≤cs.size→
    ((vs.zipIdx k).foldl (fun (cs:Array Value) (p:Value×Nat)=>cs.setIfInBounds (o+p.2) p.1) cs).toList=cs.toList.take (o+k)++vs++cs.toList.drop (o+k+vs.length):=by
  induction vs with
  | nil=>intro o cs k _; simp
  | cons v vs ih=>
    intro o cs k hl
    simp only[au] at hl
    rw[List.zipIdx_cons,bu,ih o _ (k+1) (by simp; omega)]
    have hlt:o+k < cs.toList.length:=by simp; omega
    simp only[Array.toList_setIfInBounds,au]
    rw[show o+(k+1)=o+k+1 by omega,List.drop_set_of_lt (by omega)]
    have:(cs.toList.set (o+k) v).take (o+k+1)=cs.toList.take (o+k)++[v]:=by
      rw[bN (by simpa using hlt),List.take_set_of_le (aO _)]
      simp
    rw[this,show o+k+1+vs.length=o+k+(vs.length+1) by omega]
    simp
theorem QhQ (wd:Nat):∀(vs:List Value) (k:Nat) (cs:Array Value),(∀v∈vs,v.cells.size=wd)→cs.size=(k+vs.length)*wd→
    ∃cs',Instr.fill (fun i=>some (i*wd,wd)) cs ((vs.zipIdx k).map fun p=>(p.2,p.1))=some cs'∧cs'.toList=cs.toList.take (k*wd)++vs.flatMap fun v=>v.cells.toList:=by
  intro vs
  induction vs with
  | nil=>intro k cs _ hs; exact ⟨cs,rfl,by simp at hs ⊢; rw[← hs]; exact (aU (by simp)).symm⟩
  | cons v vs ih=>
    intro k cs hv hs
    simp only[au] at hs
    have h1:=hv v (az ..)
    have hfit:k*wd+v.cells.size≤cs.size:=by
      rw[hs,h1,show k+(vs.length+1)=k+1+vs.length by omega,bD,bD,cN]
      omega
    have h2:=Qdo v.cells.toList (k*wd) cs 0 (by simpa using hfit)
    generalize hF:List.foldl (fun (cs:Array Value) (p:Value×Nat)=>cs.setIfInBounds (k*wd+p.2) p.1) cs (v.cells.toList.zipIdx 0)=F at h2
    have hsz:F.size=(k+1+vs.length)*wd:=by
      have:F.toList.length=cs.toList.length:=by rw[h2]; simp; omega
      rw[show F.size=F.toList.length by simp,this]
      simp[hs]
      congr 1; omega
    obtain ⟨cs',h3,h4⟩:=ih (k+1) F (fun u hu=>hv u (ax _ hu)) hsz
    refine ⟨cs', ?_, ?_⟩
    · rw [List.zipIdx_cons, bg, Instr.fill]
      have hcond:(decide (v.cells.size≠wd)||decide (k*wd+v.cells.size > cs.size))=false:=by
        simp only[cV,decide_eq_false_iff_not,ne_eq,Decidable.not_not,Nat.not_lt]
        exact ⟨h1,by omega⟩
      have hF2:v.cells.zipIdx.foldl (fun cs (x:Value×Nat)=>match x with | (c,j)=>cs.setIfInBounds (k*wd+j) c) cs=F:=by
        rw[← hF,← Array.foldl_toList,Array.toList_zipIdx]
      show (if (decide (v.cells.size≠wd)||decide (k*wd+v.cells.size > cs.size))=true then none else Instr.fill _ (v.cells.zipIdx.foldl (fun cs (x:Value×Nat)=>match x with | (c,j)=>cs.setIfInBounds (k*wd+j) c) cs) _)=some cs'
      rw[hcond,hF2]
      exact h3
    · rw [h4, h2, show (k + 1) * wd = k * wd + wd by rw [bD, cN]]
      have hl:(cs.toList.take (k*wd+0)++v.cells.toList).length=k*wd+wd:=by
        simp[h1]; omega
      rw[← hl,d6]
      simp
theorem X7 (t:Nat){E:TypeId}{e:Ty}{n:Nat}{parts:Array (Nat×Operand)}{css:List (Bool×List LV)}{xs:List e.Den}{used:List Nat}{bb:Bool}{z:Value}(hT:P.underlying T=some (.slice E))(hE:tsh P E=some (bb,e.wd))
    (hz:zer P E=some z) (hpn:parts.toList.map (·.1)=List.range n) (hv:EvL A s (parts.toList.map (·.2)) css) (hok:∀c∈css,Q6 s.tab c.2=true) (hab:AbsL s.tab e css xs used) (hun:used.Nodup) (hsz:Nat.ble (n*e.wd) 16777216=true) (hn:Nat.blt d A.n=true) (hfr:Fresh s t) (hk0:A.k0≤t):
    Does A P ⟨some d, .buildSlice T n parts,ty,pos,af,g⟩ s (s.mk_ d t used E e xs):=fun a w K Q r hK=>by
  obtain ⟨gh,r⟩:=r
  have hvs:=hv.cms r
  obtain ⟨h1,h2,h3,h4⟩:=hab.own r.cx hvs (fun _ _ _ _ _=>trivial) hok
  generalize hV:(parts.toList.map (·.2)).map a.eval=vs at*
  have hvn:vs.length=n:=by
    have:=congrArg List.length hpn
    rw[← hV]
    simpa using this
  have hpar:(parts.map fun p=>(p.1,a.eval p.2)).toList=(vs.zipIdx 0).map fun p=>(p.2,p.1):=by
    rw[cW]
    apply bA
    intro i
    have e1:=congrArg (fun l=>l[i]?) hpn
    have e2:=congrArg (fun l=>l[i]?) hV
    simp only[bq] at e1 e2 ⊢
    rw[List.getElem?_zipIdx]
    cases hp:parts.toList[i]? with
    | none=>
      have h0:vs[i]? =none:=by rw[hp] at e2; exact e2.symm
      simp[h0]
    | some p=>
      rw[hp] at e1 e2
      simp only[cM] at e1 e2
      rw[← e2]
      have:p.1=i:=by
        have hi:=(ah.1 e1.symm)
        obtain ⟨hi,hi2⟩:=hi
        rw[List.getElem_range] at hi2
        exact hi2.symm
      simp[this]
  obtain ⟨cs',k1,k2⟩:=QhQ e.wd vs 0 ((Array.range (n*e.wd)).map (((if n*e.wd=0 then #[] else z.cells):Array Value)[· % ((if n*e.wd=0 then #[] else z.cells):Array Value).size]!)) h3 (by simp[hvn])
  have hrun:(execOp a.eval ⟨some d, .buildSlice T n parts,ty,pos,af,g⟩).run P w= .ok (.value (.slice (some ⟨w.heap.size,0,none⟩) n n)) (w.alloc (.cells cs' E)):=by
    have hle:=aG hsz
    have hngt:¬(n*e.wd > 2 ^ 24):=by omega
    simp only[execOp,Instr.buildSlice,aw,run_underlying hT,aH,Yu hE]
    rw[if_neg hngt]
    by_cases h0:n*e.wd=0
    · rw [if_pos h0] at k1 ⊢
      simp only[b5,aH,aw]
      rw[hpar,k1]
      simp[newRow,aw]
    · rw [if_neg h0] at k1 ⊢
      simp only[b5,aH,aw,XT hz]
      rw[hpar,k1]
      simp[newRow,aw]
  unfold Oper.wp
  rw[hrun,Oper.upon_value]
  have hlen:cs'.size=n*e.wd:=by
    have:cs'.toList.length=xs.length*e.wd:=by rw[k2]; simpa using h1.len
    rw[show cs'.size=cs'.toList.length by simp,this,← h4,hvn]
  have hbl:∀g,g < w.heap.size→(w.alloc (.cells cs' E)).heap[g]? =w.heap[g]? :=fun g hg=>Below.heap_alloc w _ g hg
  have hmax:n≤maxLen:=by
    have hw:=XD e
    have hle:=aG hsz
    have:n*1≤n*e.wd:=Nat.mul_le_mul_left _ hw
    unfold maxLen; omega
  have hul:∀g∈fps gh.f used,g < w.heap.size:=fun g hg=>by
    obtain ⟨q,hq,hg⟩:=QeP.1 hg
    exact r.cx.lt (h2 q hq) g hg
  have hxn:xs.length=n:=by omega
  refine hK _ _ (r.make_put (d:=d) (w':=w.alloc (.cells cs' E)) t hfr hk0 used h2 ⟨rfl,rfl,rfl,by simp⟩ (fun g hg _=>hbl g hg) (hv:= .slice (some ⟨w.heap.size,0,none⟩) n n) (fp:=w.heap.size :: fps gh.f used) (E:=E) (xs:=xs) (e:=e) ?_ ?_ ?_ hn)
  · refine .inr ⟨w.heap.size, n, cs', _, rfl, by rw [hxn], heap_alloc_new w _, by omega, hmax, hlen, ?_⟩
    rw[hxn,← hlen,show cs'.size=cs'.toList.length by simp,db,k2]
    simp only[Nat.zero_mul,List.take_zero,cP]
    exact h1.mono fun f c x hf ho=>ho.keep fun g hg=>hbl g (hul g (hf g hg))
  · exact bl.2 ⟨fun h=>by have:=hul _ h; omega,Qkw r.cx hun h2⟩
  · intro g hg
    rcases aE.1 hg with rfl | hg
    · exact .inl (aO _)
    · exact .inr (QeP.1 hg)
end
end Go.Proofs.YtfkmmpfdncopdaaGreat
namespace Go.Proofs.YtfkmmpfdncopdaaGreat
open Go.RowKit
section
variable {E:TypeId}{e:Ty}{w:World}{P:Program}
def QmP (w:World)(e:Ty)(u:Value)(ys:List e.Den)(fn:List Nat):Prop:=
  (∃c,u= .slice none 0 c∧ys=[]∧fn=[])∨∃ad c news,u= .slice (some ad) ys.length c∧OwnL (Own e w) fn news ys∧∀j u,news[j]? =some u→w.cell? (ad.add j)=some u
theorem Qb7 (t ty:TypeId)(ht:P.underlying t=some (.slice E))(he:ElemInfo P E e){fp fn:List Nat}{v u:Value}{xs ys:List e.Den}(h1:Own (.sl E e) w fp [v] xs)(h2:fp.Nodup)
    (hs:QmP w e u ys fn) (n2:fn.Nodup) (hdj:∀g∈fp,g∉fn) (hlt:∀g∈fn,g < w.heap.size) (hb:xs.length+ys.length≤1073741824):
    ∃v' w' fp',(Builtin.append_ #[t,t] ty #[v,u]).run P w= .ok v' w'∧Own (.sl E e) w' fp' [v'] (xs++ys)∧fp'.Nodup∧(∀g∈fp',g∈fp∨g∈fn∨w.heap.size≤g)∧Grw w w'∧∀g,g < w.heap.size→g∉fp→w'.heap[g]? =w.heap[g]? :=by
  obtain ⟨cs,fps,r1,r2,r3⟩:=h1.row
  obtain ⟨i,z,i1,i2,i3,i4,i5⟩:=he
  rcases hs with ⟨c,rfl,rfl,rfl⟩ | ⟨ad,c,news,rfl,n1,src⟩
  · have hrun:(Builtin.append_ #[t,t] ty #[v, .slice none 0 c]).run P w= .ok v w:=by
      rcases r1.2 with ⟨rfl,h0⟩ | ⟨g,cap,cur,rfl,_,hgg,hnc,_⟩
      · simp[Builtin.append_,run_underlying ht,sizeOf,typeInfo,i1,Builtin.lenOf,Builtin.firstCells]
      · simp[Builtin.append_,run_underlying ht,sizeOf,typeInfo,i1,Builtin.lenOf,Builtin.firstCells,hnc,storeCells]
    exact ⟨v,w,fp,hrun,by rw[bF]; exact h1,h2,fun g hg=> .inl hg,ZE w,fun _ _ _=>rfl⟩
  · have hbm:(xs.length+ys.length)*i.bytes≤140737488355328:=by
      calc (xs.length+ys.length)*i.bytes≤1073741824*65536:=Nat.mul_le_mul (by omega) i4
        _≤140737488355328:=by decide
    obtain ⟨v',w',a1,a2,a3,a4,a5⟩:=run_append_own_at (P:=P) (w:=w) 0 t ty E i z e.wd i.bytes ht i1 i2 i3 rfl i5 (XD e) v xs.length cs r1 ad ys.length c news (by exact n1.len) src (OwnL.one (fp:=[]) n1) (by unfold maxLen; omega) hbm (aR _)
    have hvb:∀g,v.ownBlock=some g→g∈fp:=fun g hg=>by
      rcases r3 with ⟨h0,_⟩ | ⟨g',h0,h'⟩
      · rw[h0] at hg; cases hg
      · rw[h0] at hg; cases hg; rw[h']; exact az ..
    have hfps:∀g∈fps,g∈fp∧v.ownBlock≠some g:=fun g hg=>by
      rcases r3 with ⟨_,_,h0⟩ | ⟨g',h0,h'⟩
      · rw[h0] at hg; cases hg
      · rw [h'] at h2 ⊢
        refine ⟨ax _ hg, ?_⟩
        rw[h0]
        rintro h9
        cases h9
        exact (bl.1 h2).1 hg
    have hfn:∀g∈fn,v.ownBlock≠some g:=fun g hg h9=>hdj g (hvb g h9) hg
    have hlp:∀g∈fp,g < w.heap.size:=Own.lt h1
    have hnd:(fps++fn).Nodup:=by
      have hf:fps.Nodup:=by
        rcases r3 with ⟨_,_,h0⟩ | ⟨g',h0,h'⟩
        · rw[h0]; exact bt
        · rw[h'] at h2; exact (bl.1 h2).2
      exact b9.2 ⟨hf,n2,fun a ha b hb e=>by subst e; exact hdj a (hfps a ha).1 hb⟩
    have k1:OwnL (Own e w') fps cs xs:=r2.mono fun f c x hf ho=>ho.keep fun g hg=>a3.block g (hlp g (hfps g (hf g hg)).1) fun h9=>(hfps g (hf g hg)).2 h9.symm
    have k2:OwnL (Own e w') fn news ys:=n1.mono fun f c x hf ho=>ho.keep fun g hg=>a3.block g (hlt g (hf g hg)) fun h9=>hfn g (hf g hg) h9.symm
    obtain ⟨fp',o1,o2⟩:=Qcj (by rw[ai]) a2 (k1.append k2)
    have hin:∀g,v'.ownBlock=some g→(v.ownBlock=some g)∨g=w.heap.size:=fun g hg=>by
      rcases a5 with a5 | a5
      · exact .inl (by rw[← a5]; exact hg)
      · rw[hg] at a5; cases a5; exact .inr rfl
    refine ⟨v',w',fp',a1,o1, ?_, ?_,⟨a3.os,a3.tape,a3.output,a3.size⟩,fun g hg hx=>a3.block g hg fun h9=>hx (hvb g h9.symm)⟩
    · rcases o2 with ⟨_, rfl⟩ | ⟨g, hg, rfl⟩
      · exact hnd
      · refine bl.2 ⟨fun hi => ?_, hnd⟩
        rcases aK.1 hi with hi | hi
        · rcases hin g hg with h | h
          · exact (hfps g hi).2 h
          · have:=hlp g (hfps g hi).1; omega
        · rcases hin g hg with h | h
          · exact hfn g hi h
          · have:=hlt g hi; omega
    · have hrest : ∀ g ∈ fps ++ fn, g ∈ fp ∨ g ∈ fn ∨ w.heap.size ≤ g := fun g hi => (aK.1 hi).elim (fun h => .inl (hfps g h).1) fun h => .inr (.inl h)
      intro g hg
      rcases o2 with ⟨_,rfl⟩ | ⟨g',hg',rfl⟩
      · exact hrest g hg
      · rcases aE.1 hg with rfl | hg
        · rcases hin g hg' with h | h
          · exact .inl (hvb g h)
          · exact .inr (.inr (by omega))
        · exact hrest g hg
theorem Rep.srcOk {u:Value}{ys:List e.Den}(hr:Rep (.sl E e) w [u] ys)(hf:e.flat=true):QmP w e u ys []:=by
  obtain ⟨A,c,rfl,_,_⟩:=hr.slv
  obtain ⟨_,h⟩:=hr.src (M:=0) hf
  rcases h with ⟨rfl,h0⟩ | ⟨ad,news,rfl,⟨fn,h1,h2,h3⟩,h4⟩
  · exact .inl ⟨c,by rw[h0],bB h0,rfl⟩
  · have:fn=[]:=by
      cases fn with
      | nil=>rfl
      | cons g gs=>have:=h3 g (az ..); omega
    subst this
    exact .inr ⟨ad,c,news,rfl,h1,h4⟩
theorem Own.srcOk {fp:List Nat}{u:Value}{ys:List e.Den}(h:Own (.sl E e) w fp [u] ys):∃fn,QmP w e u ys fn∧∃r,fp=r++fn:=by
  rcases h with ⟨rfl,h,h'⟩ | ⟨g,cap,cur,fps,rfl,h1,h2,h3,h4,h5,h6⟩
  · subst h'
    simp only[aI,and_true] at h
    exact ⟨[], .inl ⟨0,h,rfl,rfl⟩,[],rfl⟩
  · simp only [aI, and_true] at h1
    refine ⟨fps, .inr ⟨_,cap,_,h1,h6,fun j u hj=> ?_⟩,[g],rfl⟩
    rw[Addr.add_lit,bn]
    rw[be] at hj
    split at hj
    · simp only [World.cell?, h2]
      simpa using hj
    · cases hj
end
section
variable {A:Amb}{P:Program}{s:St}{x y:Operand}{d:Nat}{T T' ty:TypeId}{pos:String}{af:Array Edge}{g:Option (Nat×Bool)}
def JT (A:Amb)(s:St)(x:Operand)(t:Ty)(z:t.Den):Prop:=∀gh a w,Rg A s gh a w→Rep t w [a.eval x] z
theorem Evl.rep {t:Ty}{z:t.Den}(h:Evl A s x (.dat t z)):JT A s x t z:=fun gh a w r=>Rd.rep (h gh a w r)
theorem Qch {q:Nat}{E:TypeId}{e:Ty}{xs:List e.Den}(h:Evl A s x (.ref q))(he:s.tab.ent q=some (.arr E e xs)):JT A s x (.sl E e) xs:=fun gh a w r=>by
  rw[show a.eval x=gh.h q from h gh a w r ⟨_,he⟩]
  exact Own.rep (r.cx.en q _ he)
theorem QcH {o:Oper}{a:Act}{w w':World}{v:Value}{K:Act→World→Prop}{Q:Exit→Act→World→Prop}(ho:o.op= .call {callee:= .builtin .append,args:= #[x,y],argTypes:= #[T,T]})
    (hr:(Builtin.append_ #[T,T] o.type #[a.eval x,a.eval y]).run P w= .ok v w') (next:K (a.put o.dst v) w'):o.wp P a w K Q:=by
  unfold Oper.wp execOp
  simp only[ho,resolve,invoke,builtin,di,Sem.run_pure,aH,dc,bg,d9,hr]
  exact next
theorem Qfd (t:Nat){q q2:Nat}{E:TypeId}{e:Ty}{xs ys:List e.Den}(hx:Evl A s x (.ref q))(he:s.tab.ent q=some (.arr E e xs))(hy:Evl A s y (.ref q2))(he2:s.tab.ent q2=some (.arr E e ys))(hne:Nat.beq q q2=false)
    (hT:P.underlying T=some (.slice E)) (hE:WG P E e.wd=true) (hb:xs.length+ys.length≤1073741824) (hn:Nat.blt d A.n=true) (hfr:Fresh s t) (hk0:A.k0≤t):
    Does A P ⟨some d, .call {callee:= .builtin .append,args:= #[x,y],argTypes:= #[T,T]},ty,pos,af,g⟩ s (s.mk_ d t [q,q2] E e (xs++ys)):=fun a w K Q r hK=>by
  obtain ⟨gh,r⟩:=r
  have hne':q≠q2:=fun h=>by rw[h,d8] at hne; cases hne
  have h1:Own (.sl E e) w (gh.f q) [gh.h q] xs:=r.cx.en q _ he
  have h2:Own (.sl E e) w (gh.f q2) [gh.h q2] ys:=r.cx.en q2 _ he2
  obtain ⟨fn,h3,rr,h4⟩:=h2.srcOk
  have hin:∀g∈fn,g∈gh.f q2:=fun g hg=>by rw[h4]; exact aT _ hg
  have hnd:=r.cx.nd q2 ⟨_,he2⟩
  rw[h4] at hnd
  obtain ⟨v',w',fp',k1,k2,k3,k4,k5,k6⟩:=Qb7 (P:=P) T ty hT (Qer hE) h1 (r.cx.nd q ⟨_,he⟩) h3 (b9.1 hnd).2.1 (fun g hg hg'=>r.cx.dj q q2 ⟨_,he⟩ ⟨_,he2⟩ hne' g hg (hin g hg')) (fun g hg=>Own.lt h2 g (hin g hg)) hb
  refine QcH rfl (by rw[show a.eval x=gh.h q from hx gh a w r ⟨_,he⟩,show a.eval y=gh.h q2 from hy gh a w r ⟨_,he2⟩]; exact k1) (hK _ _ (r.make_put t hfr hk0 [q,q2] (by simp only[aE,bW,or_false]; rintro _ (rfl | rfl); exact ⟨_,he⟩; exact ⟨_,he2⟩) k5 (fun g hg hx=>k6 g hg (hx q (by simp))) k2 k3 (fun g hg=> ?_) hn))
  rcases k4 g hg with h | h | h
  · exact .inr ⟨q,by simp,h⟩
  · exact .inr ⟨q2,by simp,hin g h⟩
  · exact .inl h
theorem Za (t:Nat){q:Nat}{E:TypeId}{e:Ty}{xs ys:List e.Den}(hx:Evl A s x (.ref q))(he:s.tab.ent q=some (.arr E e xs))(hy:JT A s y (.sl E e) ys)(hf:e.flat=true)
    (hT:P.underlying T=some (.slice E)) (hE:WG P E e.wd=true) (hb:xs.length+ys.length≤1073741824) (hn:Nat.blt d A.n=true) (hfr:Fresh s t) (hk0:A.k0≤t):
    Does A P ⟨some d, .call {callee:= .builtin .append,args:= #[x,y],argTypes:= #[T,T]},ty,pos,af,g⟩ s (s.mk_ d t [q] E e (xs++ys)):=fun a w K Q r hK=>by
  obtain ⟨gh,r⟩:=r
  have h1:Own (.sl E e) w (gh.f q) [gh.h q] xs:=r.cx.en q _ he
  obtain ⟨v',w',fp',k1,k2,k3,k4,k5,k6⟩:=Qb7 (P:=P) T ty hT (Qer hE) h1 (r.cx.nd q ⟨_,he⟩) ((hy gh a w r).srcOk hf) bt (by simp) (by simp) hb
  refine QcH rfl (by rw[show a.eval x=gh.h q from hx gh a w r ⟨_,he⟩]; exact k1) (hK _ _ (r.make_put t hfr hk0 [q] (by simp only[aE,bW,or_false]; rintro _ rfl; exact ⟨_,he⟩) k5 (fun g hg hx=>k6 g hg (hx q (by simp))) k2 k3 (fun g hg=> ?_) hn))
  rcases k4 g hg with h | h | h
  · exact .inr ⟨q,by simp,h⟩
  · cases h
  · exact .inl h
theorem H7 (z:List Value)(n:Nat)(hz:0 < z.length):(madeCells z.toArray (n*z.length)).toList=(List.replicate n z).flatten:=by
  apply bA
  intro i
  induction n generalizing i with
  | zero=>simp[madeCells]
  | succ n ih=>
    simp only[madeCells,cW,Array.toList_range,bq] at ih ⊢
    rw[List.replicate_succ',List.flatten_append]
    by_cases hi:i < n*z.length
    · have h1 := ih i
      rw[List.getElem?_range hi] at h1
      rw[List.getElem?_range (by rw[bD]; omega),bf (by simpa using hi),← h1]
    · rw [bj (by simp; omega)]
      simp only[List.length_flatten,List.map_replicate,List.sum_replicate_nat,List.flatten_cons,List.flatten_nil,bF]
      by_cases hi2:i < (n+1)*z.length
      · rw [List.getElem?_range hi2]
        rw[bD,cN] at hi2
        have e1:i % z.length=i - n*z.length:=by
          have:i=(i - n*z.length)+z.length*n:=by have:=Nat.mul_comm n z.length; omega
          conv=>lhs; rw[this]
          rw[Nat.add_mul_mod_self_left,da (by omega)]
        have e2:i - n*z.length < z.length:=by omega
        simp[e1,e2]
      · rw [bp (by simpa using hi2)]
        rw[bD,cN] at hi2
        rw[bp (by omega)]
        rfl
theorem OwnL.zeros (e:Ty)(w:World)(n:Nat):OwnL (Own e w) [] (List.replicate n e.zeros).flatten (List.replicate n e.zero):=by
  induction n with
  | zero=>exact ⟨rfl,rfl⟩
  | succ n ih=>exact ⟨[],[],e.zeros,_,rfl,by simp[List.replicate_succ],ZB e w,ih⟩
theorem U2 (t:Nat){E:TypeId}{e:Ty}{n:Nat}{z:Value}{bytes:Nat}(hx:Evl A s x (dI n))(hy:Evl A s y (dI n))(hT:P.underlying T=some (.slice E))(hi:(P.info? E).map (fun i=>(i.zero,i.size,i.bytes))=some (some z,e.wd,bytes))
    (hz:z.cells.toList=e.zeros) (hb:bytes*n≤281474976710656) (hm:n≤1073741824) (hn:Nat.blt d A.n=true) (hfr:Fresh s t) (hk0:A.k0≤t):Does A P ⟨some d, .makeSlice T x y,ty,pos,af,g⟩ s (s.mk_ d t [] E e (List.replicate n e.zero)):=fun a w K Q r hK=>by
  obtain ⟨gh,r⟩:=r
  have hzl:e.zeros.length=e.wd:=(ZB e w).len
  have h1:=QgG (P:=P) T E z e.wd bytes hT hi n hb (by omega) w
  have hc:z.cells=e.zeros.toArray:=by rw[← hz]
  have e0:(execOp a.eval ⟨some d, .makeSlice T x y,ty,pos,af,g⟩).run P w= .ok (.value (.slice (some ⟨w.heap.size,0,none⟩) n n)) (w.alloc (.cells (madeCells z.cells (n*e.wd)) E)):=by
    simp only[execOp,hx.i r,hy.i r,aw,h1]
    simp
  unfold Oper.wp
  rw[e0,Oper.upon_value]
  refine hK _ _ (r.make_put (d:=d) (w':=w.alloc (.cells (madeCells z.cells (n*e.wd)) E)) t hfr hk0 [] (by simp) ⟨rfl,rfl,rfl,by simp⟩ (fun g hg _=>Below.heap_alloc w _ g hg) (hv:= .slice (some ⟨w.heap.size,0,none⟩) n n) (fp:=[w.heap.size]) (E:=E) (e:=e) (xs:=List.replicate n e.zero) ?_ (by simp) (by simp) hn)
  refine .inr ⟨w.heap.size,n,_,[],rfl,by simp,heap_alloc_new w _,by simp,by unfold maxLen; omega,size_madeCells _ _, ?_⟩
  have h2:=H7 e.zeros n (by rw[hzl]; exact XD e)
  rw[hzl,← hc] at h2
  rw[h2,aA,aU (by simp[hzl])]
  exact OwnL.zeros e _ n
theorem OwnL.parts {e:Ty}{w:World}:∀{xs:List e.Den} {fp:List Nat} {cs:List Value} {i:Nat} {x:e.Den},OwnL (Own e w) fp cs xs→xs[i]? =some x→
    ∃fa fi fb ca ci cb,fp=fa++(fi++fb)∧cs=ca++(ci++cb)∧ca.length=i*e.wd∧Own e w fi ci x∧
      ∀w' fi' ci' y,(∀g,g∈fa∨g∈fb→w'.heap[g]? =w.heap[g]?)→Own e w' fi' ci' y→OwnL (Own e w') (fa++(fi'++fb)) (ca++(ci'++cb)) (xs.set i y)
  | [],_,_,_,_,_,h=>by simp at h
  | x0 :: xs,_,_,i,x,⟨f1,f2,c1,c2,h1,h2,h3,h4⟩,hx=>by
    cases i with
    | zero=>
      simp at hx
      subst hx
      refine ⟨[],f1,f2,[],c1,c2,h1,h2,by simp,h3,fun w' fi' ci' y hk ho=>⟨fi',f2,ci',c2,rfl,rfl,ho,h4.mono fun f c x hf ho=>ho.keep fun g hg=>hk g (.inr (hf g hg))⟩⟩
    | succ i=>
      obtain ⟨fa,fi,fb,ca,ci,cb,k1,k2,k3,k4,k5⟩:=OwnL.parts h4 (by simpa using hx)
      refine ⟨f1++fa,fi,fb,c1++ca,ci,cb,by rw[h1,k1,aZ],by rw[h2,k2,aZ],by rw[ai,h3.len,k3,bD]; omega,k4,fun w' fi' ci' y hk ho=> ?_⟩
      exact ⟨f1,_,c1,_,by rw[aZ],by rw[aZ],h3.keep fun g hg=>hk g (.inl (aQ _ hg)),k5 w' fi' ci' y (fun g hg=>hk g (hg.imp (aT _) id)) ho⟩
theorem QcZ {gh:Gh}{a:Act}{w:World}(r:Rg A s gh a w){q i:Nat}{E:TypeId}{e:Ty}{xs:List e.Den}{z:e.Den}(he:s.tab.ent q=some (.arr E e xs))(hz:xs[i]? =some z){g n c:Nat}(hh:gh.h q= .slice (some ⟨g,0,none⟩) n c):
    ∃cur fpr ds,gh.f q=g :: fpr∧w.heap[g]? =some (.cells cur E (0,0))∧xs.length*e.wd≤cur.size∧Rep e w ds z∧(∀j u,ds[j]? =some u→w.cell? ⟨g,i*e.wd+j,none⟩=some u):=by
  have hO:Own (.sl E e) w (gh.f q) [gh.h q] xs:=r.cx.en q _ he
  rcases hO with ⟨_,_,h⟩ | ⟨b,cap,cur,fps,h2,h3,h4,h5,h6,h7,h8⟩
  · subst h; simp at hz
  · rw [hh] at h3
    simp only[aI,Value.slice.injEq,bk,Addr.mk.injEq,and_true] at h3
    obtain ⟨rfl,_,_⟩:=h3
    obtain ⟨f,ds,k1,_,k3⟩:=h8.get i z hz
    refine ⟨cur,fps,ds,h2,h4,by rw[h7]; exact bV _ h5,k1.rep,fun j u hj=> ?_⟩
    have:=k3 j u hj
    rw[be] at this
    split at this
    · simp only [World.cell?, h4]
      simpa using this
    · cases this
theorem Z7 {q i j n:Nat}{E:TypeId}{e t:Ty}{xs:List e.Den}{z:e.Den}{y':t.Den}(hx:Evl A s x (.ept q e.wd i j))(he:s.tab.ent q=some (.arr E e xs))(hz:xs[i]? =some z)(hf:e.flat=true)(hT:tsh P T=some (false,n))
    (hl:(leaves e z)[j]? =some (.dat t y')) (hn:Nat.blt d A.n=true):Does A P ⟨some d, .load T x,ty,pos,af,g⟩ s (s.put d (lf (.dat t y'))):=
  Qg rfl hn fun gh a w r=>by
    obtain ⟨g,m,c,h1,h2⟩:=hx gh a w r ⟨_,he⟩
    obtain ⟨cur,fpr,ds,k1,k2,k3,k4,k5⟩:=QcZ r he hz h1
    obtain ⟨v,h5,h6⟩:=(Rd.leaves (al:=s.tab.al) (gh:=gh) (w:=w) (k4.rd0 hf)).nth hl
    refine ⟨v, ?_,_,rfl,h6⟩
    have hc:=k5 j v h5
    simp only[execOp,h2,Instr.loadAt,Instr.sureAddr,aw,b5,aH,Z5 hT _ v hc]
theorem QfK {q i j n:Nat}{E:TypeId}{e:Ty}{xs:List e.Den}{z:e.Den}(hx:Evl A s x (.ept q e.wd i j))(he:s.tab.ent q=some (.arr E e xs))(hz:xs[i]? =some z)(hf:e.flat=true)(hT:tsh P T=some (true,n))
    (hl:Nat.ble (j+n) e.wd=true) (hn:Nat.blt d A.n=true):Does A P ⟨some d, .load T x,ty,pos,af,g⟩ s (s.put d (ag (((leaves e z).drop j).take n))):=
  Qg rfl hn fun gh a w r=>by
    obtain ⟨g,m,c,h1,h2⟩:=hx gh a w r ⟨_,he⟩
    obtain ⟨cur,fpr,ds,k1,k2,k3,k4,k5⟩:=QcZ r he hz h1
    have h5:=((Rd.leaves (al:=s.tab.al) (gh:=gh) (w:=w) (k4.rd0 hf)).drop j).take n
    have hle:=aG hl
    have hds:=k4.len
    refine ⟨.agg ((ds.drop j).take n).toArray, ?_,_,rfl,h5⟩
    · have hr:=Y9 (w:=w) hT g (i*e.wd+j) ((ds.drop j).take n) (by rw[aq,bd,hds]; omega) fun j' u hj=>by
        rw[be] at hj
        split at hj
        · rw [cC] at hj
          rw[bK]
          exact k5 (j+j') u hj
        · cases hj
      simp only[execOp,h2,Instr.loadAt,Instr.sureAddr,aw,b5,aH,hr]
theorem WM {e:Ty}{w:World}:∀{fp:List Nat} {cs:List Value} {x:e.Den},e.flat=true→Own e w fp cs x→fp=[]:=by
  induction e with
  | int=>intro fp cs x _ h; exact h.1
  | bool=>intro fp cs x _ h; exact h.1
  | str=>intro fp cs x _ h; exact h.1
  | u8=>intro fp cs x _ h; exact h.1
  | vl=>intro fp cs x _ h; exact h.1
  | sl E e ih=>intro fp cs x hf; cases hf
  | pr a b iha ihb=>
    intro fp cs x hf h
    obtain ⟨f1,f2,l,r,h1,h2,h3,h4⟩:=h
    have hf:(a.flat&&b.flat)=true:=hf
    rw[aL] at hf
    rw[h1,iha hf.1 h3,ihb hf.2 h4]
    rfl
theorem Qs {q i j:Nat}{E:TypeId}{e:Ty}{xs:List e.Den}{z z':e.Den}{ls:List LV}{b:Bool}(hx:Evl A s x (.ept q e.wd i j))(he:s.tab.ent q=some (.arr E e xs))(hz:xs[i]? =some z)(hf:e.flat=true)
    (hy:Ev A s y (b,ls)) (hk:Q6 s.tab ls=true) (hT:tsh P T=some (b,ls.length)) (hl:Nat.ble (j+ls.length) e.wd=true) (hs:leaves e z'=splice (leaves e z) j ls):
    Does A P ⟨none, .store T x y,ty,pos,af,g⟩ s ⟨s.tm,(q,some (.arr E e (xs.set i z'))) :: s.tab⟩:=fun a w K Q r hK=>by
  obtain ⟨gh,r⟩:=r
  obtain ⟨g,m,c,h1,h2⟩:=hx gh a w r ⟨_,he⟩
  have hO:Own (.sl E e) w (gh.f q) [gh.h q] xs:=r.cx.en q _ he
  rcases hO with ⟨_,_,h⟩ | ⟨g0,cap,cur,fps,p2,p3,p4,p5,p6,p7,p8⟩
  · subst h; simp at hz
  rw[h1] at p3
  simp only[aI,Value.slice.injEq,bk,Addr.mk.injEq,and_true] at p3
  obtain ⟨rfl,rfl,rfl⟩:=p3
  have hv:=hy gh a w r
  obtain ⟨vs,h7,h8⟩:=CmR.cells hv fun hb=>by
    subst hb
    obtain ⟨l,rfl,h1⟩:=hv
    simp only[Q6,cU] at hk
    obtain ⟨h3,h4⟩:=Wc hk
    exact h1.oneCell h4 h3 fun q ⟨e,he⟩=>(r.cx.en q e he).oneCell
  have h9:vs.length=ls.length:=h8.len
  have hle:=aG hl
  have hilt:=(ah.1 hz).1
  obtain ⟨fa,fi,fb,ca,ci,cb,k1,k2,k3,k4,k5⟩:=OwnL.parts p8 hz
  have hci:=k4.len
  have hfi:=WM hf k4
  subst hfi
  have hrow:i*e.wd+e.wd≤xs.length*e.wd:=by
    calc i*e.wd+e.wd=(i+1)*e.wd:=by rw[bD,cN]
      _≤xs.length*e.wd:=bV _ hilt
  have hcap:xs.length*e.wd≤cur.size:=by rw[p7]; exact bV _ p5
  have h10:=V5 (P:=P) (w:=w) (b:=g) (o:=i*e.wd+j) hT (a.eval y) vs h7 h9 p4 (by omega) (h8.oneCells r.cx hk)
  have e0:(execOp a.eval ⟨none, .store T x y,ty,pos,af,‹_›⟩).run P w= .ok .skip (Xs w g (i*e.wd+j) vs):=by
    simp only[execOp,h2,Instr.storeAt,Instr.sureAddr,aw,b5,aH,h10]
  unfold Oper.wp
  rw[e0,Oper.upon_skip]
  obtain ⟨cur',m1,m2,m3⟩:=Ww g E (0,0) vs w (i*e.wd+j) cur p4 (by omega)
  have hoth:∀g0,g0≠g→(Xs w g (i*e.wd+j) vs).heap[g0]? =w.heap[g0]? :=fun g0 h=>Yp _ _ _ _ _ h
  have hN:(g :: fps).Nodup:=by rw[← p2]; exact r.cx.nd q ⟨_,he⟩
  have hgf:∀g0∈fps,g0≠g:=fun g0 h0 h=>(bl.1 hN).1 (h▸h0)
  have hel:Own e (Xs w g (i*e.wd+j) vs) [] (ci.take j++vs++ci.drop (j+vs.length)) z':=by
    have q1:LVs s.tab.al gh w (leaves e z) ci:=Rd.leaves (k4.rep.rd0 hf)
    have q2:=q1.splice h8 (off:=j)
    rw[← hs] at q2
    exact (LVs.rd q2).rep.own0 hf
  have hnew:=k5 _ [] _ z' (fun g0 h0=>hoth g0 (hgf g0 (by rw[k1]; rcases h0 with h0 | h0 <;> simp[h0]))) hel
  refine hK _ _ ⟨gh,r.mod he (Vj _ _ _ _) (fun g0 _ hg0=>hoth g0 fun h=>hg0 (by rw[p2,h]; simp)) (.inr ⟨g,c,cur',fps,p2, ?_,m1,by simpa using p5,p6,by rw[m2]; exact p7, ?_⟩)⟩
  · rw[h1]; simp
  · rw [aD]
    have e2:cur'.toList.take (xs.length*e.wd)=ca++((ci.take j++vs++ci.drop (j+vs.length))++cb):=by
      rw[m3]
      have e3:cur.toList=ca++(ci++cb)++cur.toList.drop (xs.length*e.wd):=by rw[← k2,bI]
      have hcl:(ca++(ci++cb)).length=xs.length*e.wd:=by rw[← k2]; simp; omega
      have hcb:cb.length=xs.length*e.wd - (i*e.wd+e.wd):=by simp only[ai] at hcl; omega
      generalize cur.toList.drop (xs.length*e.wd)=rest at e3
      rw[e3]
      have t1:(ca++(ci++cb)++rest).take (i*e.wd+j)=ca++ci.take j:=by
        rw[aZ,aZ,← k3,List.take_length_add_append,List.take_append_of_le_length (by omega)]
      have t2:(ca++(ci++cb)++rest).drop (i*e.wd+j+vs.length)=ci.drop (j+vs.length)++(cb++rest):=by
        rw[aZ,aZ,← k3,bK,List.drop_length_add_append,List.drop_append_of_le_length (by omega)]
      rw[t1,t2]
      have hl2:(ca++((ci.take j++vs++ci.drop (j+vs.length))++cb)).length=xs.length*e.wd:=by
        simp only[ai,aq,bd,k3,hcb]
        omega
      rw[show ca++List.take j ci++vs++(List.drop (j+vs.length) ci++(cb++rest))=(ca++((ci.take j++vs++ci.drop (j+vs.length))++cb))++rest by simp,← hl2,d6]
    rw[e2,k1]
    exact hnew
def opI (A:Amb)(s:St):Option Operand→Option Int→Prop
  | none,none=>True
  | some x,some n=>Evl A s x (dI n)
  | _,_=>False
theorem opI.ev {o:Option Operand}{n:Option Int}(h:opI A s o n){gh:Gh}{a:Act}{w:World}(r:Rg A s gh a w):o.map a.eval=n.map (Value.int .i64):=by
  cases o <;> cases n <;> first | rfl | exact h.elim | (simp only[cM]; rw[Evl.i h r])
theorem X6 {b:Bool}{len cap:Nat}{lo hi:Option Int}{w:World}(h0:0≤lo.getD 0)(h1:lo.getD 0≤hi.getD len)(h2:hi.getD len≤len)(hc:len≤cap):
    (Instr.sliceBounds b len cap (lo.map (Value.int .i64)) (hi.map (Value.int .i64)) none).run P w= .ok ((lo.getD 0).toNat,(hi.getD len).toNat,cap) w:=by
  cases lo <;> cases hi <;> simp only[ak,aj] at h0 h1 h2 <;> simp only[Instr.sliceBounds,de,cM,Instr.sliceBound,asIntOf,aw,b5,aH,Go.Sem.run_ite]
  · simp
  · rw[if_pos (by omega)]; simp
  · rw[if_pos (by omega)]; simp
  · rename_i l h
    rw[if_pos (by omega)]
    simp only[aH,b5,aw,Go.Sem.run_ite]
    rw[if_pos (by omega)]
    simp
theorem QW {m:ByteArray}{lo hi:Option Operand}{l h:Option Int}(hx:Evl A s x (dS m))(hlo:opI A s lo l)(hhi:opI A s hi h)(hT:P.underlying T=some .string)(hn:Nat.blt d A.n=true)
    (h0:0≤l.getD 0) (h1:l.getD 0≤h.getD m.size) (h2:h.getD m.size≤m.size):Does A P ⟨some d, .slice T x lo hi none,ty,pos,af,g⟩ s (s.put d (lf (dS (m.extract (l.getD 0).toNat (h.getD m.size).toNat)))):=
  Qg rfl hn fun gh a w r=>by
    refine ⟨_, ?_,_,rfl,Qef (x:=m.extract (l.getD 0).toNat (h.getD m.size).toNat) ?_⟩
    · simp only [execOp, hx.st r, hlo.ev r, hhi.ev r, de, Instr.sliceAt, Instr.slice, aw, run_underlying hT, aH]
      simp[X6 h0 h1 h2 (aO _)]
    · have := (LVR.str (hx gh a w r)).2
      simp only[aS]
      omega
theorem Rep.part {E:TypeId}{e:Ty}{w:World}{B:Option Addr}{c:Nat}{xs:List e.Den}(h:Rep (.sl E e) w [.slice B xs.length c] xs){lo hi:Nat}(h1:lo≤hi)(h2:hi≤xs.length):
    Rep (.sl E e) w [.slice (if c=lo then B else B.map (·.add (lo*e.wd))) (hi - lo) (c - lo)] ((xs.take hi).drop lo):=by
  obtain ⟨A',c',k,k1,k2,k3⟩:=h
  simp only[aI,Value.slice.injEq,and_true,true_and] at k
  obtain ⟨rfl,rfl⟩:=k
  have hl:((xs.take hi).drop lo).length=hi - lo:=by simp; omega
  refine ⟨_,c - lo,by rw[hl],by omega,by omega,fun hp=> ?_⟩
  obtain ⟨b,o,rfl,k4⟩:=k3 (by omega)
  rw[if_neg (by omega)]
  refine ⟨b,o+lo*e.wd,by simp[Addr.add_lit],fun i x hx=> ?_⟩
  rw[cC,be] at hx
  split at hx
  · obtain ⟨ds, k5, k6⟩ := k4 _ x hx
    refine ⟨ds,k5,fun j u hj=> ?_⟩
    rw[← k6 j u hj]
    congr 2
    rw[bD]; omega
  · cases hx
theorem WP {E:TypeId}{e:Ty}{xs:List e.Den}{lo hi:Option Operand}{l h:Option Int}{bb:Bool}(hx:Evl A s x (.dat (.sl E e) xs))(hlo:opI A s lo l)(hhi:opI A s hi h){E':TypeId}(hT:P.underlying T=some (.slice E'))(hE:tsh P E'=some (bb,e.wd))(hn:Nat.blt d A.n=true)
    (h0:0≤l.getD 0) (h1:l.getD 0≤h.getD xs.length) (h2:h.getD xs.length≤xs.length):Does A P ⟨some d, .slice T x lo hi none,ty,pos,af,g⟩ s (s.put d (lf (.dat (.sl E e) ((xs.take (h.getD xs.length).toNat).drop (l.getD 0).toNat)))):=
  Qg rfl hn fun gh a w r=>by
    obtain ⟨wN,hS,hR⟩:=hx gh a w r
    obtain ⟨B,c,k1,k2,k3⟩:=hR.slv
    rw[k1] at hR
    have hp:=hR.part (lo:=(l.getD 0).toNat) (hi:=(h.getD xs.length).toNat) (by omega) (by omega)
    refine ⟨_, ?_,_,rfl,wN,hS,hp⟩
    simp only[execOp,k1,hlo.ev r,hhi.ev r,de,Instr.sliceAt,Instr.slice,aw,run_underlying hT,aH,X6 h0 h1 h2 k2,Yu hE]
    simp
end
end Go.Proofs.YtfkmmpfdncopdaaGreat
