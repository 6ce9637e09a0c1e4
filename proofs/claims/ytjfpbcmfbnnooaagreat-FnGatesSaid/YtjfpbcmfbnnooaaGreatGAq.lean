/- Abstract states: stores; slices of one's own: made, built, appended to, written. No program is named here. -/
import Derived.Test.YtjfpbcmfbnnooaaGreatGAm
set_option linter.unusedSimpArgs false
set_option linter.unusedVariables false
set_option linter.unusedSectionVars false
namespace Go.Proofs.YtjfpbcmfbnnooaaGreat
open Go.RowKit
def splice (cs:List LV)(off:Nat)(ls:List LV):List LV:=cs.take off++ls++cs.drop (off+ls.length)
theorem LVs.splice {al:Nat→Prop}{gh:Gh}{w:World}{cs ls:List LV}{us vs:List Value}{off:Nat}(h:LVs al gh w cs us)(k:LVs al gh w ls vs):LVs al gh w (Go.Proofs.YtjfpbcmfbnnooaaGreat.splice cs off ls) (us.take off++vs++us.drop (off+vs.length)):=by
 rw[k.len]
 exact ((h.take off).app k).app (h.drop _)
section
variable {A:Amb}{P:Program}{s:St}{x y:Operand}{d:Nat}{T T' ty:TypeId}{pos:String}{af:Array Edge}{g:Option (Nat×Bool)}
theorem Rg.mod {gh:Gh}{a:Act}{w w':World}(r:Rg A s gh a w){q:Nat}{t e:Ent}(u:s.tab.ent q=some t)(v:Grw w w')(hb:∀g,g<w.heap.size→g∉gh.f q→w'.heap[g]? =w.heap[g]?)
 (hE:EntR s.tab.al gh w' q e):Rg A ⟨s.tm,(q,some e)::s.tab⟩ gh a w':=by
 have b:∀c,Tab.al ((q,some e)::s.tab) c↔s.tab.al c:=fun c=>by
  unfold Tab.al
  rw[Qg]
  by_cases h:c=q
  ·subst h;simp[u]
  ·rw[if_neg h]
 have p:s.tab.al q:=⟨t,u⟩
 have l:∀g,gh.N g→gh.N g∧w'.heap[g]? =w.heap[g]? :=fun g k=>⟨k,hb g (r.cx.nl g k) fun h=>r.cx.no q p g h k⟩
 refine r.step ⟨fun c m h=> ?_,fun B C j n=>r.cx.dj B C ((b _).1 j) ((b _).1 n),fun c h=>r.cx.nd c ((b _).1 h),fun c h=>r.cx.no c ((b _).1 h),fun g k=>ba (r.cx.nl g k) v.size⟩
  (fun c h=> .inl ⟨(b _).1 h,rfl,fun _=>rfl⟩) l v (fun g o z=>hb g o (z q p)) (fun g h=> .inl h) (fun c h g i=> .inr ⟨c,(b _).1 h,i⟩)
 ·rw[Qg] at h
  by_cases j:c=q
  ·rw[if_pos j] at h
   cases h
   subst j
   exact hE.mono (fun D _ h=>⟨(b _).1 h,rfl⟩) (fun g h=>⟨h,rfl⟩) rfl rfl fun _ _=>rfl
  ·rw[if_neg j] at h
   exact (r.cx.en c m h).mono (fun D _ h=>⟨(b _).1 h,rfl⟩) l rfl rfl fun g i=>hb g (r.cx.lt ⟨m,h⟩ g i) fun n=>r.cx.dj c q ⟨m,h⟩ p j g i n
theorem Uf (w:World)(g off:Nat)(vs:List Value):Grw w (XO w g off vs):=by
 induction vs generalizing w off with
 | nil=>exact Zl w
 | cons v vs a=>
  have h:Grw w (w.setCell ⟨g,off,none⟩ v):=⟨rfl,rfl,rfl,by simp[World.setCell]⟩
  exact h.trans (a _ _)
theorem ZA {q off:Nat}{E:TypeId}{cs ls:List LV}{b:Bool}(V:Evl A s x (.ptr q off))(f:s.tab.ent q=some (.box E cs))(W:Ev A s y (b,ls))(C:Zj s.tab ls=true)(O:tsh P T=some (b,ls.length))
 (hl:Nat.ble (off+ls.length) cs.length=true):Does A P ⟨none,.store T x y,ty,pos,af,g⟩ s ⟨s.tm,(q,some (.box E (splice cs off ls)))::s.tab⟩:=fun a w K Q r M=>by
 obtain ⟨k,r⟩:=r
 obtain ⟨g,p,I⟩:=V k a w r ⟨_,f⟩
 obtain ⟨Z,i,t,m,D,F⟩:=r.cx.en q _ f
 rw[p] at t
 cases t
 have H:=W k a w r
 obtain ⟨n,J,v⟩:=CmR.cells H fun R=>by
  subst R
  obtain ⟨l,rfl,p⟩:=H
  simp only[Zj,cW] at C
  obtain ⟨t,m⟩:=WN C
  exact p.oneCell m t fun q ⟨e,f⟩=>(r.cx.en q e f).oneCell
 have L:n.length=ls.length:=v.len
 have U:=aE hl
 have S:i.size=cs.length:=by have:=F.len;simpa using this
 have u:=Vu (P:=P) (w:=w) (b:=g) (o:=off) O (a.eval y) n J L D (by omega) (v.oneCells r.cx C)
 have e:(execOp a.eval ⟨none,.store T x y,ty,pos,af,‹_›⟩).run P w= .ok .skip (XO w g off n):=by
  simp only[execOp,I,Instr.storeAt,Instr.sureAddr,aw,aY,aG,u]
 unfold Oper.wp
 rw[e,Oper.upon_skip]
 obtain ⟨j,X,k2,Y⟩:=W3 g E (0,0) n w off i D (by omega)
 have z:∀c,k.N c→k.N c∧(XO w g off n).heap[c]? =w.heap[c]? :=fun c G=>⟨G,YD _ _ _ _ _ fun h=>r.cx.no q ⟨_,f⟩ c (by rw[m,h];simp) G⟩
 refine M _ _ ⟨k,r.mod f (Uf _ _ _ _) (fun c _ B=>YD _ _ _ _ _ fun h=>B (by rw[m,h];simp)) ⟨g,j,p,m,X,?_⟩⟩
 rw[Y]
 exact (F.splice v).mono (fun _ _ h=>⟨h,rfl⟩) z
@[reducible] def W5:List Nat→Tab
 | []=>[]
 | q::qs=>(q,none)::W5 qs
theorem VD (a:List Nat)(T:Tab)(q:Nat):Tab.ent (W5 a++T) q=if q∈a then none else T.ent q:=by
 induction a with
 | nil=>simp[W5]
 | cons u c b=>
  simp only[W5,cX,Qg,b,aJ]
  by_cases h:q=u <;> simp[h]
theorem Rg.make {gh:Gh}{a:Act}{w w':World}(r:Rg A s gh a w)(t:Nat)(C:Fresh s t)(K:A.k0≤t)(c:List Nat)(u:∀q∈c,s.tab.al q)(Q:Grw w w')(hb:∀g,g<w.heap.size→(∀q∈c,g∉gh.f q)→w'.heap[g]? =w.heap[g]?)
 {E:TypeId} {e:Ty} {xs:List e.Den} {hv:Value} {fp:List Nat} (hE:Own (.sl E e) w' fp [hv] xs) (hnd:fp.Nodup) (hfp:∀g∈fp,w.heap.size≤g∨∃q∈c,g∈gh.f q):
 Rg A ⟨s.tm,(t,some (.arr E e xs))::(W5 c++s.tab)⟩ ⟨fun q=>if q=t then hv else gh.h q,fun q=>if q=t then fp else gh.f q,gh.N⟩ a w':=by
 have l:∀q,Tab.al ((t,some (.arr E e xs))::(W5 c++s.tab)) q→q=t∨(q≠t∧s.tab.al q∧q∉c):=fun q h=>by
  by_cases j:q=t
  ·exact .inl j
  ·unfold Tab.al at h
   rw[Qg,if_neg j,VD] at h
   by_cases i:q∈c
   ·rw[if_pos i] at h;obtain ⟨_,h⟩:=h;cases h
   ·rw[if_neg i] at h;exact .inr ⟨j,h,i⟩
 have B:∀g,gh.N g→gh.N g∧w'.heap[g]? =w.heap[g]? :=fun g p=>⟨p,hb g (r.cx.nl g p) fun q v h=>r.cx.no q (u q v) g h p⟩
 have H:∀q,s.tab.al q→q∉c→∀g∈gh.f q,w'.heap[g]? =w.heap[g]? :=fun q v U g D=>hb g (r.cx.lt v g D) fun z I h=>r.cx.dj q z v (u z I) (fun h=>U (h▸I)) g D h
 refine r.step ⟨fun q J h=> ?_,fun q z j i G g b m=> ?_,fun q h=> ?_,fun q h g b p=> ?_,fun g p=>ba (r.cx.nl g p) Q.size⟩ (fun q h=> ?_) B Q
  (fun g F V=>hb g F fun q v=>V q (u q v)) (fun g h=> .inl h) (fun q h g b=> ?_)
 ·rw[Qg] at h
  by_cases j:q=t
  ·rw[if_pos j] at h
   cases h
   subst j
   simpa [EntR] using hE
  ·rw[if_neg j,VD] at h
   by_cases i:q∈c
   ·rw[if_pos i] at h;cases h
   ·rw[if_neg i] at h
    refine (r.cx.en q J h).mono (fun W L R=> ?_) B (by simp[j]) (by simp[j]) (H q ⟨J,h⟩ i)
    rcases l W R with n|⟨n,S,_⟩
    ·exact absurd (n▸L) (C.en q J h)
    ·exact ⟨S,by simp[n]⟩
 ·rcases l q j with j|⟨j,M,X⟩ <;> rcases l z i with i|⟨i,O,Y⟩
  ·exact G (j.trans i.symm)
  ·subst j
   simp only[if_true] at b
   simp only[if_neg i] at m
   rcases hfp g b with h|⟨o,h,n⟩
   ·have:=r.cx.lt O g m;omega
   ·exact r.cx.dj z o O (u o h) (fun h=>Y (by rw[h];assumption)) g m n
  ·subst i
   simp only[if_true] at m
   simp only[if_neg j] at b
   rcases hfp g m with h|⟨o,h,n⟩
   ·have:=r.cx.lt M g b;omega
   ·exact r.cx.dj q o M (u o h) (fun h=>X (by rw[h];assumption)) g b n
  ·simp only[if_neg j] at b
   simp only[if_neg i] at m
   exact r.cx.dj q z M O G g b m
 ·rcases l q h with h|⟨h,k,_⟩
  ·simpa [h] using hnd
  ·simp only[if_neg h];exact r.cx.nd q k
 ·rcases l q h with h|⟨h,k,_⟩
  ·simp only[h,if_true] at b
   rcases hfp g b with i|⟨o,i,n⟩
   ·have:=r.cx.nl g p;omega
   ·exact r.cx.no o (u o i) g n p
  ·simp only[if_neg h] at b
   exact r.cx.no q k g b p
 ·rcases l q h with h|⟨h,k,_⟩
  ·exact .inr ⟨h▸C,h▸K⟩
  ·exact .inl ⟨k,by simp[h],fun _=>by simp[h]⟩
 ·rcases l q h with h|⟨h,k,_⟩
  ·simp only[h,if_true] at b
   rcases hfp g b with i|⟨o,i,n⟩
   ·exact .inl i
   ·exact .inr ⟨o,u o i,n⟩
  ·simp only[if_neg h] at b
   exact .inr ⟨q,k,b⟩
@[reducible] def St.mk_ (s:St) (d t:Nat) (used:List Nat) (E:TypeId) (e:Ty) (xs:List e.Den):St:=⟨(d,lf (.ref t))::s.tm,(t,some (.arr E e xs))::(W5 used++s.tab)⟩
theorem Rg.make_put {gh:Gh}{a:Act}{w w':World}(r:Rg A s gh a w)(t:Nat)(c:Fresh s t)(h:A.k0≤t)(b:List Nat)(j:∀q∈b,s.tab.al q)(i:Grw w w')(hb:∀g,g<w.heap.size→(∀q∈b,g∉gh.f q)→w'.heap[g]? =w.heap[g]?)
 {E:TypeId} {e:Ty} {xs:List e.Den} {hv:Value} {fp:List Nat} (hE:Own (.sl E e) w' fp [hv] xs) (hnd:fp.Nodup) (hfp:∀g∈fp,w.heap.size≤g∨∃q∈b,g∈gh.f q) (hd:Nat.blt d A.n=true):
 R A (s.mk_ d t b E e xs) (a.put (some d) hv) w':=
 ⟨_,(r.make t c h b j i hb hE hnd hfp).put (aE hd) (pv:=lf (.ref t)) ⟨_,rfl,fun _=>by simp⟩⟩
def Abs (T:Tab):(t:Ty)→List LV→t.Den→List Nat→Prop
 | .int,ls,x,used=>ls=[.dat .int x]∧used=[]
 | .bool,ls,x,used=>ls=[.dat .bool x]∧used=[]
 | .str,ls,x,used=>ls=[.dat .str x]∧used=[]
 | .u8,ls,x,used=>ls=[.dat .u8 x]∧used=[]
 | .vl,ls,x,used=>ls=[.dat .vl x]∧used=[]
 | .sl E e,ls,xs,used=>(∃q,ls=[.ref q]∧T.ent q=some (.arr E e xs)∧used=[q])∨(ls=[.val (.slice none 0 0)]∧xs=[]∧used=[])
 | .pr a b,ls,x,used=>∃l1 l2 x1 x2 u1 u2,ls=l1++l2∧x=(x1,x2)∧Abs T a l1 x1 u1∧Abs T b l2 x2 u2∧used=u1++u2
def fps (f:Nat→List Nat):List Nat→List Nat
 | []=>[]
 | q::qs=>f q++fps f qs
theorem QnG (f:Nat→List Nat)(a b:List Nat):fps f (a++b)=fps f a++fps f b:=by
 induction a with
 | nil=>rfl
 | cons q e c=>simp[fps,c]
theorem QiE {f:Nat→List Nat}{l:List Nat}{g:Nat}:g∈fps f l↔∃q∈l,g∈f q:=by
 induction l with
 | nil=>simp[fps]
 | cons q b a=>simp[fps,a]
theorem QpD {T:Tab}{gh:Gh}{w:World}(j:Cx T gh w){l:List Nat}(h:l.Nodup)(c:∀q∈l,T.al q):(fps gh.f l).Nodup:=by
 induction l with
 | nil=>exact bG
 | cons q u t=>
  obtain ⟨k,m⟩:=bq.1 h
  refine bj.2 ⟨j.nd q (c q (aB ..)),t m fun r i=>c r (aA _ i),fun a n b o e=> ?_⟩
  subst e
  obtain ⟨r,i,p⟩:=QiE.1 o
  exact j.dj q r (c q (aB ..)) (c r (aA _ i)) (fun e=>k (e▸i)) a n p
theorem Abs.own {T:Tab}{gh:Gh}{w:World}(n:Cx T gh w):∀{t:Ty} {ls:List LV} {x:t.Den} {c:List Nat} {vs:List Value},Abs T t ls x c→LVs T.al gh w ls vs→Own t w (fps gh.f c) vs x∧∀q∈c,T.al q
 | .int,_,_,_,_,⟨rfl,rfl⟩,h=>⟨(LVs.rd (t:= .int) h).rep.own0 rfl,by simp⟩
 | .bool,_,_,_,_,⟨rfl,rfl⟩,h=>⟨(LVs.rd (t:= .bool) h).rep.own0 rfl,by simp⟩
 | .str,_,_,_,_,⟨rfl,rfl⟩,h=>⟨(LVs.rd (t:= .str) h).rep.own0 rfl,by simp⟩
 | .u8,_,_,_,_,⟨rfl,rfl⟩,h=>⟨(LVs.rd (t:= .u8) h).rep.own0 rfl,by simp⟩
 | .vl,_,_,_,_,⟨rfl,rfl⟩,h=>⟨(LVs.rd (t:= .vl) h).rep.own0 rfl,by simp⟩
 | .sl E e,_,xs,_,_,h,k=>by
  rcases h with ⟨q,rfl,j,rfl⟩|⟨rfl,rfl,rfl⟩
  ·obtain ⟨v,i,rfl,l,m⟩:=k
   rw[show i=[] from m,show v=gh.h q from l ⟨_,j⟩]
   have:=n.en q _ j
   exact ⟨by simpa [fps,EntR] using this,by simpa using ⟨_,j⟩⟩
  ·obtain ⟨v,i,rfl,l,m⟩:=k
   rw[show i=[] from m,show v=_ from l]
   exact ⟨.inl ⟨rfl,rfl,rfl⟩,by simp⟩
 | .pr a b,_,_,_,_,⟨l1,l2,x1,x2,u1,u2,rfl,rfl,h1,j,rfl⟩,k=>by
  obtain ⟨B,C,rfl,l,m⟩:=QgH k
  obtain ⟨p,u⟩:=Abs.own n h1 l
  obtain ⟨r,z⟩:=Abs.own n j m
  exact ⟨⟨_,_,B,C,QnG ..,rfl,p,r⟩,fun q o=>(aQ.1 o).elim (u q) (z q)⟩
def AbsL (T:Tab)(e:Ty):List (Bool×List LV)→List e.Den→List Nat→Prop
 | [],xs,used=>xs=[]∧used=[]
 | c::cs,xs,used=>∃x xs' u1 u2,xs=x::xs'∧Abs T e c.2 x u1∧AbsL T e cs xs' u2∧used=u1++u2
def EvL (A:Amb)(s:St):List Operand→List (Bool×List LV)→Prop
 | [],cs=>cs=[]
 | x::xs,cs=>∃c cs',cs=c::cs'∧Ev A s x c∧EvL A s xs cs'
theorem EvL.cms {xs:List Operand}{cs:List (Bool×List LV)}(h:EvL A s xs cs){gh:Gh}{a:Act}{w:World}(r:Rg A s gh a w):CmsR s.tab.al gh w cs (xs.map a.eval):=by
 induction xs generalizing cs with
 | nil=>rw[show cs=[] from h];rfl
 | cons x xs i=>obtain ⟨c,b,rfl,e,f⟩:=h;exact ⟨_,_,rfl,e gh a w r,i f⟩
def QtP (v:Value):List Value:=v.cells.toList
theorem AbsL.own {T:Tab}{gh:Gh}{w:World}(j:Cx T gh w){e:Ty}:∀{cs:List (Bool×List LV)} {xs:List e.Den} {a:List Nat} {vs:List Value},AbsL T e cs xs a→CmsR T.al gh w cs vs→
 (∀v∈vs,∀b ls,(b,ls)∈cs→True)→(∀c∈cs,Zj T c.2=true)→OwnL (Own e w) (fps gh.f a) (vs.flatMap fun v=>v.cells.toList) xs∧(∀q∈a,T.al q)∧(∀v∈vs,v.cells.size=e.wd)∧vs.length=xs.length
 | [],_,_,_,⟨rfl,rfl⟩,h,_,_=>by rw[show _=[] from h];exact ⟨⟨rfl,rfl⟩,by simp,by simp,rfl⟩
 | c::cs,_,_,_,⟨x,xs',u1,u2,rfl,h1,h2,rfl⟩,⟨v,vs',hv,k1,k2⟩,_,hok=>by
  subst hv
  obtain ⟨B,C,D,E⟩:=AbsL.own j h2 k2 (fun _ _ _ _ _=>trivial) fun c i=>hok c (aA _ i)
  have i:=hok c (aB ..)
  obtain ⟨b,ls⟩:=c
  obtain ⟨I,n,G⟩:=CmR.cells k1 fun r=>by
   subst r
   obtain ⟨l,rfl,H⟩:=k1
   simp only[Zj,cW] at i
   obtain ⟨o,p⟩:=WN i
   exact H.oneCell p o fun q ⟨e,t⟩=>(j.en q e t).oneCell
  obtain ⟨m,F⟩:=Abs.own j h1 G
  refine ⟨⟨_,_,I,_,QnG ..,by simp[n],m,B⟩,fun q z=>(aQ.1 z).elim (F q) (C q),fun u k=> ?_,by simp[E]⟩
  rcases aJ.1 k with rfl|k
  ·rw[n];simpa using m.len
  ·exact D u k
theorem Qhm (vs:List Value):∀(o:Nat) (cs:Array Value) (k:Nat),o+k+vs.length≤cs.size→
 ((vs.zipIdx k).foldl (fun (cs:Array Value) (p:Value×Nat)=>cs.setIfInBounds (o+p.2) p.1) cs).toList=cs.toList.take (o+k)++vs++cs.toList.drop (o+k+vs.length):=by
 induction vs with
 | nil=>intro o cs k _;simp
 | cons v vs c=>
  intro o cs k b
  simp only[av] at b
  rw[List.zipIdx_cons,bC,c o _ (k+1) (by simp;omega)]
  have a:o+k<cs.toList.length:=by simp;omega
  simp only[Array.toList_setIfInBounds,av]
  rw[show o+(k+1)=o+k+1 by omega,List.drop_set_of_lt (by omega)]
  have:(cs.toList.set (o+k) v).take (o+k+1)=cs.toList.take (o+k)++[v]:=by
   rw[bQ (by simpa using a),List.take_set_of_le (aO _)]
   simp
  rw[this,show o+k+1+vs.length=o+k+(vs.length+1) by omega]
  simp
theorem QaE (a:Nat):∀(vs:List Value) (k:Nat) (cs:Array Value),(∀v∈vs,v.cells.size=a)→cs.size=(k+vs.length)*a→
 ∃b,Instr.fill (fun i=>some (i*a,a)) cs ((vs.zipIdx k).map fun p=>(p.2,p.1))=some b∧b.toList=cs.toList.take (k*a)++vs.flatMap fun v=>v.cells.toList:=by
 intro vs
 induction vs with
 | nil=>intro k cs _ f;exact ⟨cs,rfl,by simp at f ⊢;rw[← f];exact (aP (by simp)).symm⟩
 | cons v vs C=>
  intro k cs q f
  simp only[av] at f
  have l:=q v (aB ..)
  have h:k*a+v.cells.size≤cs.size:=by
   rw[f,l,show k+(vs.length+1)=k+1+vs.length by omega,bK,bK,cJ]
   omega
  have m:=Qhm v.cells.toList (k*a) cs 0 (by simpa using h)
  generalize w:List.foldl (fun (cs:Array Value) (p:Value×Nat)=>cs.setIfInBounds (k*a+p.2) p.1) cs (v.cells.toList.zipIdx 0)=F at m
  have o:F.size=(k+1+vs.length)*a:=by
   have:F.toList.length=cs.toList.length:=by rw[m];simp;omega
   rw[show F.size=F.toList.length by simp,this]
   simp[f]
   congr 1;omega
  obtain ⟨b,r,t⟩:=C (k+1) F (fun u B=>q u (aA _ B)) o
  refine ⟨b,?_,?_⟩
  ·rw[List.zipIdx_cons,bf,Instr.fill]
   have e:(decide (v.cells.size≠a)||decide (k*a+v.cells.size > cs.size))=false:=by
    simp only[de,decide_eq_false_iff_not,ne_eq,Decidable.not_not,Nat.not_lt]
    exact ⟨l,by omega⟩
   have n:v.cells.zipIdx.foldl (fun cs (x:Value×Nat)=>match x with|(c,j)=>cs.setIfInBounds (k*a+j) c) cs=F:=by
    rw[← w,← Array.foldl_toList,Array.toList_zipIdx]
   show (if (decide (v.cells.size≠a)||decide (k*a+v.cells.size > cs.size))=true then none else Instr.fill _ (v.cells.zipIdx.foldl (fun cs (x:Value×Nat)=>match x with|(c,j)=>cs.setIfInBounds (k*a+j) c) cs) _)=some b
   rw[e,n]
   exact r
  ·rw[t,m,show (k+1)*a=k*a+a by rw[bK,cJ]]
   have z:(cs.toList.take (k*a+0)++v.cells.toList).length=k*a+a:=by
    simp[l];omega
   rw[← z,dq]
   simp
theorem W6 (t:Nat){E:TypeId}{e:Ty}{n:Nat}{b:Array (Nat×Operand)}{v:List (Bool×List LV)}{xs:List e.Den}{k:List Nat}{bb:Bool}{z:Value}(hT:P.underlying T=some (.slice E))(hE:tsh P E=some (bb,e.wd))
 (hz:zer P E=some z) (hpn:b.toList.map (·.1)=List.range n) (hv:EvL A s (b.toList.map (·.2)) v) (hok:∀c∈v,Zj s.tab c.2=true) (hab:AbsL s.tab e v xs k) (hun:k.Nodup) (hsz:Nat.ble (n*e.wd) 16777216=true) (hn:Nat.blt d A.n=true) (hfr:Fresh s t) (hk0:A.k0≤t):
 Does A P ⟨some d,.buildSlice T n b,ty,pos,af,g⟩ s (s.mk_ d t k E e xs):=fun a w K Q r hK=>by
 obtain ⟨V,r⟩:=r
 have U:=hv.cms r
 obtain ⟨W,R,h3,h4⟩:=hab.own r.cx U (fun _ _ _ _ _=>trivial) hok
 generalize X:(b.toList.map (·.2)).map a.eval=vs at*
 have J:vs.length=n:=by
  have:=congrArg List.length hpn
  rw[← X]
  simpa using this
 have u:(b.map fun p=>(p.1,a.eval p.2)).toList=(vs.zipIdx 0).map fun p=>(p.2,p.1):=by
  rw[cY]
  apply bM
  intro i
  have M:=congrArg (fun l=>l[i]?) hpn
  have B:=congrArg (fun l=>l[i]?) X
  simp only[bn] at M B ⊢
  rw[List.getElem?_zipIdx]
  cases Z:b.toList[i]? with
  | none=>
   have N:vs[i]? =none:=by rw[Z] at B;exact B.symm
   simp[N]
  | some p=>
   rw[Z] at M B
   simp only[cO] at M B
   rw[← B]
   have:p.1=i:=by
    have Y:=(ai.1 M.symm)
    obtain ⟨Y,D⟩:=Y
    rw[List.getElem_range] at D
    exact D.symm
   simp[this]
 obtain ⟨j,O,k2⟩:=QaE e.wd vs 0 ((Array.range (n*e.wd)).map (((if n*e.wd=0 then #[] else z.cells):Array Value)[· % ((if n*e.wd=0 then #[] else z.cells):Array Value).size]!)) h3 (by simp[J])
 have H:(execOp a.eval ⟨some d,.buildSlice T n b,ty,pos,af,g⟩).run P w= .ok (.value (.slice (some ⟨w.heap.size,0,none⟩) n n)) (w.alloc (.cells j E)):=by
  have S:=aE hsz
  have G:¬(n*e.wd > 2 ^ 24):=by omega
  simp only[execOp,Instr.buildSlice,aw,run_underlying hT,aG,Yw hE]
  rw[if_neg G]
  by_cases N:n*e.wd=0
  ·rw[if_pos N] at O ⊢
   simp only[aY,aG,aw]
   rw[u,O]
   simp[newRow,aw]
  ·rw[if_neg N] at O ⊢
   simp only[aY,aG,aw,XP hz]
   rw[u,O]
   simp[newRow,aw]
 unfold Oper.wp
 rw[H,Oper.upon_value]
 have o:j.size=n*e.wd:=by
  have:j.toList.length=xs.length*e.wd:=by rw[k2];simpa using W.len
  rw[show j.size=j.toList.length by simp,this,← h4,J]
 have C:∀g,g<w.heap.size→(w.alloc (.cells j E)).heap[g]? =w.heap[g]? :=fun g m=>Below.heap_alloc w _ g m
 have F:n≤maxLen:=by
  have hw:=Xw e
  have S:=aE hsz
  have:n*1≤n*e.wd:=Nat.mul_le_mul_left _ hw
  unfold maxLen;omega
 have I:∀g∈fps V.f k,g<w.heap.size:=fun g m=>by
  obtain ⟨q,hq,m⟩:=QiE.1 m
  exact r.cx.lt (R q hq) g m
 have L:xs.length=n:=by omega
 refine hK _ _ (r.make_put (d:=d) (w':=w.alloc (.cells j E)) t hfr hk0 k R ⟨rfl,rfl,rfl,by simp⟩ (fun g m _=>C g m) (hv:= .slice (some ⟨w.heap.size,0,none⟩) n n) (fp:=w.heap.size::fps V.f k) (E:=E) (xs:=xs) (e:=e) ?_ ?_ ?_ hn)
 ·refine .inr ⟨w.heap.size,n,j,_,rfl,by rw[L],heap_alloc_new w _,by omega,F,o,?_⟩
  rw[L,← o,show j.size=j.toList.length by simp,dy,k2]
  simp only[Nat.zero_mul,List.take_zero,db]
  exact W.mono fun f c x hf ho=>ho.keep fun g m=>C g (I g (hf g m))
 ·exact bq.2 ⟨fun h=>by have:=I _ h;omega,QpD r.cx hun R⟩
 ·intro g m
  rcases aJ.1 m with rfl|m
  ·exact .inl (aO _)
  ·exact .inr (QiE.1 m)
end
section
variable {E:TypeId}{e:Ty}{w:World}{P:Program}
def QqN (w:World)(e:Ty)(u:Value)(ys:List e.Den)(fn:List Nat):Prop:=
 (∃c,u= .slice none 0 c∧ys=[]∧fn=[])∨∃ad c news,u= .slice (some ad) ys.length c∧OwnL (Own e w) fn news ys∧∀j u,news[j]? =some u→w.cell? (ad.add j)=some u
theorem QbM (t ty:TypeId)(V:P.underlying t=some (.slice E))(he:ElemInfo P E e){fp fn:List Nat}{v u:Value}{xs ys:List e.Den}(O:Own (.sl E e) w fp [v] xs)(H:fp.Nodup)
 (hs:QqN w e u ys fn) (n2:fn.Nodup) (hdj:∀g∈fp,g∉fn) (hlt:∀g∈fn,g<w.heap.size) (hb:xs.length+ys.length≤1073741824):
 ∃M w' l,(Builtin.append_ #[t,t] ty #[v,u]).run P w= .ok M w'∧Own (.sl E e) w' l [M] (xs++ys)∧l.Nodup∧(∀g∈l,g∈fp∨g∈fn∨w.heap.size≤g)∧Grw w w'∧∀g,g<w.heap.size→g∉fp→w'.heap[g]? =w.heap[g]? :=by
 obtain ⟨cs,fps,r1,r2,Y⟩:=O.row
 obtain ⟨i,z,W,i2,i3,i4,i5⟩:=he
 rcases hs with ⟨c,rfl,rfl,rfl⟩|⟨ad,c,q,rfl,X,Z⟩
 ·have L:(Builtin.append_ #[t,t] ty #[v,.slice none 0 c]).run P w= .ok v w:=by
   rcases r1.2 with ⟨rfl,m⟩|⟨g,a0,a6,rfl,_,a7,S,_⟩
   ·simp[Builtin.append_,run_underlying V,sizeOf,typeInfo,W,Builtin.lenOf,Builtin.firstCells]
   ·simp[Builtin.append_,run_underlying V,sizeOf,typeInfo,W,Builtin.lenOf,Builtin.firstCells,S,storeCells]
  exact ⟨v,w,fp,L,by rw[br];exact O,H,fun g j=> .inl j,Zl w,fun _ _ _=>rfl⟩
 ·have Q:(xs.length+ys.length)*i.bytes≤140737488355328:=by
   calc (xs.length+ys.length)*i.bytes≤1073741824*65536:=cE (by omega) i4
    _≤140737488355328:=by decide
  obtain ⟨M,w',a1,a2,r,a4,F⟩:=run_append_own_at (P:=P) (w:=w) 0 t ty E i z e.wd i.bytes V W i2 i3 rfl i5 (Xw e) v xs.length cs r1 ad ys.length c q (by exact X.len) Z (OwnL.one (fp:=[]) X) (by unfold maxLen;omega) Q (aL _)
  have D:∀g,v.ownBlock=some g→g∈fp:=fun g j=>by
   rcases Y with ⟨m,_⟩|⟨N,m,G⟩
   ·rw[m] at j;cases j
   ·rw[m] at j;cases j;rw[G];exact aB ..
  have k:∀g∈fps,g∈fp∧v.ownBlock≠some g:=fun g j=>by
   rcases Y with ⟨_,_,m⟩|⟨N,m,G⟩
   ·rw[m] at j;cases j
   ·rw[G] at H ⊢
    refine ⟨aA _ j,?_⟩
    rw[m]
    rintro o
    cases o
    exact (bq.1 H).1 j
  have I:∀g∈fn,v.ownBlock≠some g:=fun g j o=>hdj g (D g o) j
  have J:∀g∈fp,g<w.heap.size:=Own.lt O
  have K:(fps++fn).Nodup:=by
   have B:fps.Nodup:=by
    rcases Y with ⟨_,_,m⟩|⟨N,m,G⟩
    ·rw[m];exact bG
    ·rw[G] at H;exact (bq.1 H).2
   exact bj.2 ⟨B,n2,fun a ha b hb e=>by subst e;exact hdj a (k a ha).1 hb⟩
  have k1:OwnL (Own e w') fps cs xs:=r2.mono fun f c x B U=>U.keep fun g j=>r.block g (J g (k g (B g j)).1) fun o=>(k g (B g j)).2 o.symm
  have k2:OwnL (Own e w') fn q ys:=X.mono fun f c x B U=>U.keep fun g j=>r.block g (hlt g (B g j)) fun o=>I g (B g j) o.symm
  obtain ⟨l,o1,o2⟩:=Qep (by rw[ah]) a2 (k1.append k2)
  have C:∀g,M.ownBlock=some g→(v.ownBlock=some g)∨g=w.heap.size:=fun g j=>by
   rcases F with F|F
   ·exact .inl (by rw[← F];exact j)
   ·rw[j] at F;cases F;exact .inr rfl
  refine ⟨M,w',l,a1,o1,?_,?_,⟨r.os,r.tape,r.output,r.size⟩,fun g j hx=>r.block g j fun o=>hx (D g o.symm)⟩
  ·rcases o2 with ⟨_,rfl⟩|⟨g,j,rfl⟩
   ·exact K
   ·refine bq.2 ⟨fun p=> ?_,K⟩
    rcases aQ.1 p with p|p
    ·rcases C g j with h|h
     ·exact (k g p).2 h
     ·have:=J g (k g p).1;omega
    ·rcases C g j with h|h
     ·exact I g p h
     ·have:=hlt g p;omega
  ·have n:∀g∈fps++fn,g∈fp∨g∈fn∨w.heap.size≤g:=fun g p=>(aQ.1 p).elim (fun h=> .inl (k g h).1) fun h=> .inr (.inl h)
   intro g j
   rcases o2 with ⟨_,rfl⟩|⟨N,R,rfl⟩
   ·exact n g j
   ·rcases aJ.1 j with rfl|j
    ·rcases C g R with h|h
     ·exact .inl (D g h)
     ·exact .inr (.inr (by omega))
    ·exact n g j
theorem Rep.srcOk {u:Value}{ys:List e.Den}(i:Rep (.sl E e) w [u] ys)(n:e.flat=true):QqN w e u ys []:=by
 obtain ⟨A,c,rfl,_,_⟩:=i.slv
 obtain ⟨_,h⟩:=i.src (M:=0) n
 rcases h with ⟨rfl,f⟩|⟨j,a,rfl,⟨b,k,o,l⟩,m⟩
 ·exact .inl ⟨c,by rw[f],bi f,rfl⟩
 ·have:b=[]:=by
   cases b with
   | nil=>rfl
   | cons g gs=>have:=l g (aB ..);omega
  subst this
  exact .inr ⟨j,c,a,rfl,k,m⟩
theorem Own.srcOk {fp:List Nat}{u:Value}{ys:List e.Den}(h:Own (.sl E e) w fp [u] ys):∃fn,QqN w e u ys fn∧∃r,fp=r++fn:=by
 rcases h with ⟨rfl,h,i⟩|⟨g,b,f,fps,rfl,c,k,m,n,o,l⟩
 ·subst i
  simp only[aI,and_true] at h
  exact ⟨[],.inl ⟨0,h,rfl,rfl⟩,[],rfl⟩
 ·simp only[aI,and_true] at c
  refine ⟨fps,.inr ⟨_,b,_,c,l,fun j u a=> ?_⟩,[g],rfl⟩
  rw[Addr.add_lit,bw]
  rw[bc] at a
  split at a
  ·simp only[World.cell?,k]
   simpa using a
  ·cases a
end
section
variable {A:Amb}{P:Program}{s:St}{x y:Operand}{d:Nat}{T T' ty:TypeId}{pos:String}{af:Array Edge}{g:Option (Nat×Bool)}
def Qa3 (A:Amb)(s:St)(x:Operand)(t:Ty)(z:t.Den):Prop:=∀gh a w,Rg A s gh a w→Rep t w [a.eval x] z
theorem Evl.rep {t:Ty}{z:t.Den}(h:Evl A s x (.dat t z)):Qa3 A s x t z:=fun b a w r=>Rd.rep (h b a w r)
theorem Qem {q:Nat}{E:TypeId}{e:Ty}{xs:List e.Den}(h:Evl A s x (.ref q))(c:s.tab.ent q=some (.arr E e xs)):Qa3 A s x (.sl E e) xs:=fun b a w r=>by
 rw[show a.eval x=b.h q from h b a w r ⟨_,c⟩]
 exact Own.rep (r.cx.en q _ c)
theorem Hf {o:Oper}{a:Act}{w w':World}{v:Value}{K:Act→World→Prop}{Q:Exit→Act→World→Prop}(b:o.op= .call {callee:= .builtin .append,args:= #[x,y],argTypes:= #[T,T]})
 (hr:(Builtin.append_ #[T,T] o.type #[a.eval x,a.eval y]).run P w= .ok v w') (next:K (a.put o.dst v) w'):o.wp P a w K Q:=by
 unfold Oper.wp execOp
 simp only[b,resolve,invoke,builtin,dE,Sem.run_pure,aG,dC,bf,dH,hr]
 exact next
theorem Qja (t:Nat){q b:Nat}{E:TypeId}{e:Ty}{xs ys:List e.Den}(v:Evl A s x (.ref q))(l:s.tab.ent q=some (.arr E e xs))(I:Evl A s y (.ref b))(c:s.tab.ent b=some (.arr E e ys))(o:Nat.beq q b=false)
 (hT:P.underlying T=some (.slice E)) (hE:X1 P E e.wd=true) (hb:xs.length+ys.length≤1073741824) (hn:Nat.blt d A.n=true) (hfr:Fresh s t) (hk0:A.k0≤t):
 Does A P ⟨some d,.call {callee:= .builtin .append,args:= #[x,y],argTypes:= #[T,T]},ty,pos,af,g⟩ s (s.mk_ d t [q,b] E e (xs++ys)):=fun a w K Q r H=>by
 obtain ⟨i,r⟩:=r
 have p:q≠b:=fun h=>by rw[h,dl] at o;cases o
 have F:Own (.sl E e) w (i.f q) [i.h q] xs:=r.cx.en q _ l
 have z:Own (.sl E e) w (i.f b) [i.h b] ys:=r.cx.en b _ c
 obtain ⟨C,G,S,B⟩:=z.srcOk
 have k:∀g∈C,g∈i.f b:=fun g j=>by rw[B];exact aW _ j
 have m:=r.cx.nd b ⟨_,c⟩
 rw[B] at m
 obtain ⟨U,V,D,J,L,M,N,O,R⟩:=QbM (P:=P) T ty hT (Qbh hE) F (r.cx.nd q ⟨_,l⟩) G (bj.1 m).2.1 (fun g j u=>r.cx.dj q b ⟨_,l⟩ ⟨_,c⟩ p g j (k g u)) (fun g j=>Own.lt z g (k g j)) hb
 refine Hf rfl (by rw[show a.eval x=i.h q from v i a w r ⟨_,l⟩,show a.eval y=i.h b from I i a w r ⟨_,c⟩];exact J) (H _ _ (r.make_put t hfr hk0 [q,b] (by simp only[aJ,bN,or_false];rintro _ (rfl|rfl);exact ⟨_,l⟩;exact ⟨_,c⟩) O (fun g j v=>R g j (v q (by simp))) L M (fun g j=> ?_) hn))
 rcases N g j with h|h|h
 ·exact .inr ⟨q,by simp,h⟩
 ·exact .inr ⟨b,by simp,k g h⟩
 ·exact .inl h
theorem Zi (t:Nat){q:Nat}{E:TypeId}{e:Ty}{xs ys:List e.Den}(j:Evl A s x (.ref q))(c:s.tab.ent q=some (.arr E e xs))(p:Qa3 A s y (.sl E e) ys)(o:e.flat=true)
 (hT:P.underlying T=some (.slice E)) (hE:X1 P E e.wd=true) (hb:xs.length+ys.length≤1073741824) (hn:Nat.blt d A.n=true) (hfr:Fresh s t) (hk0:A.k0≤t):
 Does A P ⟨some d,.call {callee:= .builtin .append,args:= #[x,y],argTypes:= #[T,T]},ty,pos,af,g⟩ s (s.mk_ d t [q] E e (xs++ys)):=fun a w K Q r m=>by
 obtain ⟨b,r⟩:=r
 have l:Own (.sl E e) w (b.f q) [b.h q] xs:=r.cx.en q _ c
 obtain ⟨F,G,k,u,v,z,B,C,D⟩:=QbM (P:=P) T ty hT (Qbh hE) l (r.cx.nd q ⟨_,c⟩) ((p b a w r).srcOk o) bG (by simp) (by simp) hb
 refine Hf rfl (by rw[show a.eval x=b.h q from j b a w r ⟨_,c⟩];exact u) (m _ _ (r.make_put t hfr hk0 [q] (by simp only[aJ,bN,or_false];rintro _ rfl;exact ⟨_,c⟩) C (fun g i j=>D g i (j q (by simp))) v z (fun g i=> ?_) hn))
 rcases B g i with h|h|h
 ·exact .inr ⟨q,by simp,h⟩
 ·cases h
 ·exact .inl h
theorem QcU (z:List Value)(n:Nat)(k:0<z.length):(madeCells z.toArray (n*z.length)).toList=(List.replicate n z).flatten:=by
 apply bM
 intro i
 induction n generalizing i with
 | zero=>simp[madeCells]
 | succ n f=>
  simp only[madeCells,cY,Array.toList_range,bn] at f ⊢
  rw[List.replicate_succ',List.flatten_append]
  by_cases c:i<n*z.length
  ·have b:=f i
   rw[List.getElem?_range c] at b
   rw[List.getElem?_range (by rw[bK];omega),bo (by simpa using c),← b]
  ·rw[bl (by simp;omega)]
   simp only[List.length_flatten,List.map_replicate,List.sum_replicate_nat,List.flatten_cons,List.flatten_nil,br]
   by_cases a:i<(n+1)*z.length
   ·rw[List.getElem?_range a]
    rw[bK,cJ] at a
    have h:i % z.length=i - n*z.length:=by
     have:i=(i - n*z.length)+z.length*n:=by have:=Nat.mul_comm n z.length;omega
     conv=>lhs;rw[this]
     rw[Nat.add_mul_mod_self_left,dx (by omega)]
    have j:i - n*z.length<z.length:=by omega
    simp[h,j]
   ·rw[bD (by simpa using a)]
    rw[bK,cJ] at a
    rw[bD (by omega)]
    rfl
theorem OwnL.zeros (e:Ty)(w:World)(n:Nat):OwnL (Own e w) [] (List.replicate n e.zeros).flatten (List.replicate n e.zero):=by
 induction n with
 | zero=>exact ⟨rfl,rfl⟩
 | succ n a=>exact ⟨[],[],e.zeros,_,rfl,by simp[List.replicate_succ],ZW e w,a⟩
theorem Vy (t:Nat){E:TypeId}{e:Ty}{n:Nat}{z:Value}{b:Nat}(p:Evl A s x (dI n))(q:Evl A s y (dI n))(l:P.underlying T=some (.slice E))(hi:(P.info? E).map (fun i=>(i.zero,i.size,i.bytes))=some (some z,e.wd,b))
 (hz:z.cells.toList=e.zeros) (hb:b*n≤281474976710656) (hm:n≤1073741824) (hn:Nat.blt d A.n=true) (hfr:Fresh s t) (hk0:A.k0≤t):Does A P ⟨some d,.makeSlice T x y,ty,pos,af,g⟩ s (s.mk_ d t [] E e (List.replicate n e.zero)):=fun a w K Q r k=>by
 obtain ⟨u,r⟩:=r
 have c:e.zeros.length=e.wd:=(ZW e w).len
 have j:=QmX (P:=P) T E z e.wd b l hi n hb (by omega) w
 have m:z.cells=e.zeros.toArray:=by rw[← hz]
 have h:(execOp a.eval ⟨some d,.makeSlice T x y,ty,pos,af,g⟩).run P w= .ok (.value (.slice (some ⟨w.heap.size,0,none⟩) n n)) (w.alloc (.cells (madeCells z.cells (n*e.wd)) E)):=by
  simp only[execOp,p.i r,q.i r,aw,j]
  simp
 unfold Oper.wp
 rw[h,Oper.upon_value]
 refine k _ _ (r.make_put (d:=d) (w':=w.alloc (.cells (madeCells z.cells (n*e.wd)) E)) t hfr hk0 [] (by simp) ⟨rfl,rfl,rfl,by simp⟩ (fun g o _=>Below.heap_alloc w _ g o) (hv:= .slice (some ⟨w.heap.size,0,none⟩) n n) (fp:=[w.heap.size]) (E:=E) (e:=e) (xs:=List.replicate n e.zero) ?_ (by simp) (by simp) hn)
 refine .inr ⟨w.heap.size,n,_,[],rfl,by simp,heap_alloc_new w _,by simp,by unfold maxLen;omega,size_madeCells _ _,?_⟩
 have f:=QcU e.zeros n (by rw[c];exact Xw e)
 rw[c,← m] at f
 rw[f,az,aP (by simp[c])]
 exact OwnL.zeros e _ n
theorem OwnL.parts {e:Ty}{w:World}:∀{xs:List e.Den} {fp:List Nat} {cs:List Value} {i:Nat} {x:e.Den},OwnL (Own e w) fp cs xs→xs[i]? =some x→
 ∃k q l j p o,fp=k++(q++l)∧cs=j++(p++o)∧j.length=i*e.wd∧Own e w q p x∧
  ∀w' b a y,(∀g,g∈k∨g∈l→w'.heap[g]? =w.heap[g]?)→Own e w' b a y→OwnL (Own e w') (k++(b++l)) (j++(a++o)) (xs.set i y)
 | [],_,_,_,_,_,h=>by simp at h
 | x0::xs,_,_,i,x,⟨f1,f2,c1,c2,h1,h2,h3,h4⟩,hx=>by
  cases i with
  | zero=>
   simp at hx
   subst hx
   refine ⟨[],f1,f2,[],c1,c2,h1,h2,by simp,h3,fun w' b a y r n=>⟨b,f2,a,c2,rfl,rfl,n,h4.mono fun f c x t n=>n.keep fun g m=>r g (.inr (t g m))⟩⟩
  | succ i=>
   obtain ⟨k,q,l,j,p,o,u,v,z,B,C⟩:=OwnL.parts h4 (by simpa using hx)
   refine ⟨f1++k,q,l,c1++j,p,o,by rw[h1,u,aR],by rw[h2,v,aR],by rw[ah,h3.len,z,bK];omega,B,fun w' b a y r n=> ?_⟩
   exact ⟨f1,_,c1,_,by rw[aR],by rw[aR],h3.keep fun g m=>r g (.inl (aS _ m)),C w' b a y (fun g m=>r g (m.imp (aW _) id)) n⟩
theorem Qha {gh:Gh}{a:Act}{w:World}(r:Rg A s gh a w){q i:Nat}{E:TypeId}{e:Ty}{xs:List e.Den}{z:e.Den}(G:s.tab.ent q=some (.arr E e xs))(p:xs[i]? =some z){g n c:Nat}(H:gh.h q= .slice (some ⟨g,0,none⟩) n c):
 ∃cur l k,gh.f q=g::l∧w.heap[g]? =some (.cells cur E (0,0))∧xs.length*e.wd≤cur.size∧Rep e w k z∧(∀j u,k[j]? =some u→w.cell? ⟨g,i*e.wd+j,none⟩=some u):=by
 have F:Own (.sl E e) w (gh.f q) [gh.h q] xs:=r.cx.en q _ G
 rcases F with ⟨_,_,h⟩|⟨b,t,cur,fps,v,m,o,B,L,C,D⟩
 ·subst h;simp at p
 ·rw[H] at m
  simp only[aI,Value.slice.injEq,bp,Addr.mk.injEq,and_true] at m
  obtain ⟨rfl,_,_⟩:=m
  obtain ⟨f,k,J,_,K⟩:=D.get i z p
  refine ⟨cur,fps,k,v,o,by rw[C];exact cc _ B,J.rep,fun j u I=> ?_⟩
  have:=K j u I
  rw[bc] at this
  split at this
  ·simp only[World.cell?,o]
   simpa using this
  ·cases this
theorem Yt {q i j n:Nat}{E:TypeId}{e t:Ty}{xs:List e.Den}{z:e.Den}{h:t.Den}(G:Evl A s x (.ept q e.wd i j))(f:s.tab.ent q=some (.arr E e xs))(H:xs[i]? =some z)(F:e.flat=true)(C:tsh P T=some (false,n))
 (hl:(leaves e z)[j]? =some (.dat t h)) (hn:Nat.blt d A.n=true):Does A P ⟨some d,.load T x,ty,pos,af,g⟩ s (s.put d (lf (.dat t h))):=
 Qi rfl hn fun b a w r=>by
  obtain ⟨g,m,c,o,p⟩:=G b a w r ⟨_,f⟩
  obtain ⟨k,l,K,L,M,N,I,J⟩:=Qha r f H o
  obtain ⟨v,u,B⟩:=(Rd.leaves (al:=s.tab.al) (gh:=b) (w:=w) (I.rd0 F)).nth hl
  refine ⟨v,?_,_,rfl,B⟩
  have D:=J j v u
  simp only[execOp,p,Instr.loadAt,Instr.sureAddr,aw,aY,aG,Yy C _ v D]
theorem Qjg {q i j n:Nat}{E:TypeId}{e:Ty}{xs:List e.Den}{z:e.Den}(I:Evl A s x (.ept q e.wd i j))(l:s.tab.ent q=some (.arr E e xs))(J:xs[i]? =some z)(F:e.flat=true)(D:tsh P T=some (true,n))
 (hl:Nat.ble (j+n) e.wd=true) (hn:Nat.blt d A.n=true):Does A P ⟨some d,.load T x,ty,pos,af,g⟩ s (s.put d (ag (((leaves e z).drop j).take n))):=
 Qi rfl hn fun f a w r=>by
  obtain ⟨g,m,c,v,B⟩:=I f a w r ⟨_,l⟩
  obtain ⟨p,t,k,M,N,O,o,L⟩:=Qha r l J v
  have C:=((Rd.leaves (al:=s.tab.al) (gh:=f) (w:=w) (o.rd0 F)).drop j).take n
  have G:=aE hl
  have h:=o.len
  refine ⟨.agg ((k.drop j).take n).toArray,?_,_,rfl,C⟩
  ·have H:=XV (w:=w) D g (i*e.wd+j) ((k.drop j).take n) (by rw[ap,aX,h];omega) fun K u b=>by
    rw[bc] at b
    split at b
    ·rw[cZ] at b
     rw[bS]
     exact L (j+K) u b
    ·cases b
   simp only[execOp,B,Instr.loadAt,Instr.sureAddr,aw,aY,aG,H]
theorem UC {e:Ty}{w:World}:∀{fp:List Nat} {cs:List Value} {x:e.Den},e.flat=true→Own e w fp cs x→fp=[]:=by
 induction e with
 | int=>intro fp cs x _ h;exact h.1
 | bool=>intro fp cs x _ h;exact h.1
 | str=>intro fp cs x _ h;exact h.1
 | u8=>intro fp cs x _ h;exact h.1
 | vl=>intro fp cs x _ h;exact h.1
 | sl E e q=>intro fp cs x c;cases c
 | pr a b f i=>
  intro fp cs x c h
  obtain ⟨n,o,l,r,j,p,k,m⟩:=h
  have c:(a.flat&&b.flat)=true:=c
  rw[aM] at c
  rw[j,f c.1 k,i c.2 m]
  rfl
theorem QB {q i j:Nat}{E:TypeId}{e:Ty}{xs:List e.Den}{z z':e.Den}{ls:List LV}{b:Bool}(hx:Evl A s x (.ept q e.wd i j))(G:s.tab.ent q=some (.arr E e xs))(Y:xs[i]? =some z)(S:e.flat=true)
 (hy:Ev A s y (b,ls)) (hk:Zj s.tab ls=true) (hT:tsh P T=some (b,ls.length)) (hl:Nat.ble (j+ls.length) e.wd=true) (hs:leaves e z'=splice (leaves e z) j ls):
 Does A P ⟨none,.store T x y,ty,pos,af,g⟩ s ⟨s.tm,(q,some (.arr E e (xs.set i z')))::s.tab⟩:=fun a w K Q r hK=>by
 obtain ⟨D,r⟩:=r
 obtain ⟨g,m,c,J,h2⟩:=hx D a w r ⟨_,G⟩
 have hO:Own (.sl E e) w (D.f q) [D.h q] xs:=r.cx.en q _ G
 rcases hO with ⟨_,_,h⟩|⟨p,a2,t,fps,p2,p3,p4,p5,p6,p7,p8⟩
 ·subst h;simp at Y
 rw[J] at p3
 simp only[aI,Value.slice.injEq,bp,Addr.mk.injEq,and_true] at p3
 obtain ⟨rfl,rfl,rfl⟩:=p3
 have hv:=hy D a w r
 obtain ⟨k,h7,M⟩:=CmR.cells hv fun hb=>by
  subst hb
  obtain ⟨l,rfl,J⟩:=hv
  simp only[Zj,cW] at hk
  obtain ⟨h3,h4⟩:=WN hk
  exact J.oneCell h4 h3 fun q ⟨e,G⟩=>(r.cx.en q e G).oneCell
 have h9:k.length=ls.length:=M.len
 have a4:=aE hl
 have H:=(ai.1 Y).1
 obtain ⟨fa,fi,fb,v,n,u,k1,k2,Z,k4,k5⟩:=OwnL.parts p8 Y
 have a3:=k4.len
 have U:=UC S k4
 subst U
 have a1:i*e.wd+e.wd≤xs.length*e.wd:=by
  calc i*e.wd+e.wd=(i+1)*e.wd:=by rw[bK,cJ]
   _≤xs.length*e.wd:=cc _ H
 have a0:xs.length*e.wd≤t.size:=by rw[p7];exact cc _ p5
 have L:=Vu (P:=P) (w:=w) (b:=g) (o:=i*e.wd+j) hT (a.eval y) k h7 h9 p4 (by omega) (M.oneCells r.cx hk)
 have e0:(execOp a.eval ⟨none,.store T x y,ty,pos,af,‹_›⟩).run P w= .ok .skip (XO w g (i*e.wd+j) k):=by
  simp only[execOp,h2,Instr.storeAt,Instr.sureAddr,aw,aY,aG,L]
 unfold Oper.wp
 rw[e0,Oper.upon_skip]
 obtain ⟨B,m1,m2,m3⟩:=W3 g E (0,0) k w (i*e.wd+j) t p4 (by omega)
 have C:∀p,p≠g→(XO w g (i*e.wd+j) k).heap[p]? =w.heap[p]? :=fun p h=>YD _ _ _ _ _ h
 have hN:(g::fps).Nodup:=by rw[← p2];exact r.cx.nd q ⟨_,G⟩
 have W:∀p∈fps,p≠g:=fun p F h=>(bq.1 hN).1 (h▸F)
 have R:Own e (XO w g (i*e.wd+j) k) [] (n.take j++k++n.drop (j+k.length)) z':=by
  have q1:LVs s.tab.al D w (leaves e z) n:=Rd.leaves (k4.rep.rd0 S)
  have q2:=q1.splice M (off:=j)
  rw[← hs] at q2
  exact (LVs.rd q2).rep.own0 S
 have I:=k5 _ [] _ z' (fun p F=>C p (W p (by rw[k1];rcases F with F|F <;> simp[F]))) R
 refine hK _ _ ⟨D,r.mod G (Uf _ _ _ _) (fun p _ V=>C p fun h=>V (by rw[p2,h];simp)) (.inr ⟨g,c,B,fps,p2,?_,m1,by simpa using p5,p6,by rw[m2];exact p7,?_⟩)⟩
 ·rw[J];simp
 ·rw[aD]
  have e2:B.toList.take (xs.length*e.wd)=v++((n.take j++k++n.drop (j+k.length))++u):=by
   rw[m3]
   have e3:t.toList=v++(n++u)++t.toList.drop (xs.length*e.wd):=by rw[← k2,bL]
   have O:(v++(n++u)).length=xs.length*e.wd:=by rw[← k2];simp;omega
   have N:u.length=xs.length*e.wd - (i*e.wd+e.wd):=by simp only[ah] at O;omega
   generalize t.toList.drop (xs.length*e.wd)=rest at e3
   rw[e3]
   have t1:(v++(n++u)++rest).take (i*e.wd+j)=v++n.take j:=by
    rw[aR,aR,← Z,List.take_length_add_append,List.take_append_of_le_length (by omega)]
   have t2:(v++(n++u)++rest).drop (i*e.wd+j+k.length)=n.drop (j+k.length)++(u++rest):=by
    rw[aR,aR,← Z,bS,List.drop_length_add_append,List.drop_append_of_le_length (by omega)]
   rw[t1,t2]
   have X:(v++((n.take j++k++n.drop (j+k.length))++u)).length=xs.length*e.wd:=by
    simp only[ah,ap,aX,Z,N]
    omega
   rw[show v++List.take j n++k++(List.drop (j+k.length) n++(u++rest))=(v++((n.take j++k++n.drop (j+k.length))++u))++rest by simp,← X,dq]
  rw[e2,k1]
  exact I
def opI (A:Amb)(s:St):Option Operand→Option Int→Prop
 | none,none=>True
 | some x,some n=>Evl A s x (dI n)
 | _,_=>False
theorem opI.ev {o:Option Operand}{n:Option Int}(h:opI A s o n){gh:Gh}{a:Act}{w:World}(r:Rg A s gh a w):o.map a.eval=n.map (Value.int .i64):=by
 cases o <;> cases n <;> first|rfl|exact h.elim|(simp only[cO];rw[Evl.i h r])
theorem Vg {b:Bool}{len a:Nat}{lo hi:Option Int}{w:World}(h0:0≤lo.getD 0)(c:lo.getD 0≤hi.getD len)(f:hi.getD len≤len)(i:len≤a):
 (Instr.sliceBounds b len a (lo.map (Value.int .i64)) (hi.map (Value.int .i64)) none).run P w= .ok ((lo.getD 0).toNat,(hi.getD len).toNat,a) w:=by
 cases lo <;> cases hi <;> simp only[ak,aj] at h0 c f <;> simp only[Instr.sliceBounds,dD,cO,Instr.sliceBound,asIntOf,aw,aY,aG,Go.Sem.run_ite]
 ·simp
 ·rw[if_pos (by omega)];simp
 ·rw[if_pos (by omega)];simp
 ·rename_i l h
  rw[if_pos (by omega)]
  simp only[aG,aY,aw,Go.Sem.run_ite]
  rw[if_pos (by omega)]
  simp
theorem Zb {m:ByteArray}{lo hi:Option Operand}{l h:Option Int}(f:Evl A s x (dS m))(c:opI A s lo l)(b:opI A s hi h)(j:P.underlying T=some .string)(k:Nat.blt d A.n=true)
 (h0:0≤l.getD 0) (h1:l.getD 0≤h.getD m.size) (h2:h.getD m.size≤m.size):Does A P ⟨some d,.slice T x lo hi none,ty,pos,af,g⟩ s (s.put d (lf (dS (m.extract (l.getD 0).toNat (h.getD m.size).toNat)))):=
 Qi rfl k fun i a w r=>by
  refine ⟨_,?_,_,rfl,Qdw (x:=m.extract (l.getD 0).toNat (h.getD m.size).toNat) ?_⟩
  ·simp only[execOp,f.st r,c.ev r,b.ev r,dD,Instr.sliceAt,Instr.slice,aw,run_underlying j,aG]
   simp[Vg h0 h1 h2 (aO _)]
  ·have:=(LVR.str (f i a w r)).2
   simp only[aT]
   omega
theorem Rep.part {E:TypeId}{e:Ty}{w:World}{B:Option Addr}{c:Nat}{xs:List e.Den}(h:Rep (.sl E e) w [.slice B xs.length c] xs){lo hi:Nat}(z:lo≤hi)(C:hi≤xs.length):
 Rep (.sl E e) w [.slice (if c=lo then B else B.map (·.add (lo*e.wd))) (hi - lo) (c - lo)] ((xs.take hi).drop lo):=by
 obtain ⟨t,v,k,F,G,n⟩:=h
 simp only[aI,Value.slice.injEq,and_true,true_and] at k
 obtain ⟨rfl,rfl⟩:=k
 have m:((xs.take hi).drop lo).length=hi - lo:=by simp;omega
 refine ⟨_,c - lo,by rw[m],by omega,by omega,fun D=> ?_⟩
 obtain ⟨b,o,rfl,p⟩:=n (by omega)
 rw[if_neg (by omega)]
 refine ⟨b,o+lo*e.wd,by simp[Addr.add_lit],fun i x a=> ?_⟩
 rw[cZ,bc] at a
 split at a
 ·obtain ⟨f,q,r⟩:=p _ x a
  refine ⟨f,q,fun j u l=> ?_⟩
  rw[← r j u l]
  congr 2
  rw[bK];omega
 ·cases a
theorem Uu {E:TypeId}{e:Ty}{xs:List e.Den}{lo hi:Option Operand}{l h:Option Int}{k:Bool}(v:Evl A s x (.dat (.sl E e) xs))(i:opI A s lo l)(f:opI A s hi h){E':TypeId}(q:P.underlying T=some (.slice E'))(o:tsh P E'=some (k,e.wd))(t:Nat.blt d A.n=true)
 (h0:0≤l.getD 0) (h1:l.getD 0≤h.getD xs.length) (h2:h.getD xs.length≤xs.length):Does A P ⟨some d,.slice T x lo hi none,ty,pos,af,g⟩ s (s.put d (lf (.dat (.sl E e) ((xs.take (h.getD xs.length).toNat).drop (l.getD 0).toNat)))):=
 Qi rfl t fun m a w r=>by
  obtain ⟨C,p,b⟩:=v m a w r
  obtain ⟨B,c,j,z,D⟩:=b.slv
  rw[j] at b
  have u:=b.part (lo:=(l.getD 0).toNat) (hi:=(h.getD xs.length).toNat) (by omega) (by omega)
  refine ⟨_,?_,_,rfl,C,p,u⟩
  simp only[execOp,j,i.ev r,f.ev r,dD,Instr.sliceAt,Instr.slice,aw,run_underlying q,aG,Vg h0 h1 h2 z,Yw o]
  simp
end
end Go.Proofs.YtjfpbcmfbnnooaaGreat
