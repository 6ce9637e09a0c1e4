import Derived.Test.YtjfpbcmfbnnooaaGreatPAm
set_option linter.all false
namespace Go.Proofs.YtjfpbcmfbnnooaaGreat
open Go.RowKit Tryz
def splice (cs:List LV)(off:Nat)(ls:List LV):List LV:=cs.take off++ls++cs.drop (off+ls.length)
def LVs.splice {al:Nat→Prop}{gh:Gh}{w:World}{cs ls:List LV}{us vs:List Value}{off:Nat}(h:LVs al gh w cs us)(k:LVs al gh w ls vs):LVs al gh w (Go.Proofs.YtjfpbcmfbnnooaaGreat.splice cs off ls) (us.take off++vs++us.drop (off+vs.length)):=by
 rw[k.len]
 exact ((h.take off).app k).app (h.drop _)
section
variable {A:Amb}{P:Program}{s:St}{x y:Operand}{d:Nat}{T T' ty:TypeId}{pos:String}{af:Array Edge}{g:Option (Nat×Bool)}
def Rg.mod {gh:Gh}{a:Act}{w w':World}(r:Rg A s gh a w){q:Nat}{t e:Ent}(u:s.tab.ent q=some t)(v:Grw w w')(hb:∀g,g<w.heap.size→g∉gh.f q→w'.heap[g]? =w.heap[g]?)
 (hE:EntR s.tab.al gh w' q e):Rg A ⟨s.tm,(q,some e)::s.tab⟩ gh a w':=by
 have b:∀c,Tab.al ((q,some e)::s.tab) c↔s.tab.al c:=fun c=>by
  unfold Tab.al
  rw[Qi]
  by_cases h:c=q
  ·subst h;simp[u]
  ·rw[if_neg h]
 have p:s.tab.al q:=⟨t,u⟩
 have l:∀g,gh.N g→gh.N g∧w'.heap[g]? =w.heap[g]? :=fun g k=>⟨k,hb g (r.cx.nl g k) fun h=>r.cx.no q p g h k⟩
 refine r.step ⟨fun c m h=> ?_,fun B C j n=>r.cx.dj B C ((b _).1 j) ((b _).1 n),fun c h=>r.cx.nd c ((b _).1 h),fun c h=>r.cx.no c ((b _).1 h),fun g k=>ba (r.cx.nl g k) v.size⟩
  (fun c h=> .inl ⟨(b _).1 h,rfl,fun _=>rfl⟩) l v (fun g o z=>hb g o (z q p)) (fun g h=> .inl h) (fun c h g i=> .inr ⟨c,(b _).1 h,i⟩)
 ·rw[Qi] at h
  by_cases j:c=q
  ·rw[if_pos j] at h
   cases h
   subst j
   exact hE.mono (fun D _ h=>⟨(b _).1 h,rfl⟩) (fun g h=>⟨h,rfl⟩) rfl rfl fun _ _=>rfl
  ·rw[if_neg j] at h
   exact (r.cx.en c m h).mono (fun D _ h=>⟨(b _).1 h,rfl⟩) l rfl rfl fun g i=>hb g (r.cx.lt ⟨m,h⟩ g i) fun n=>r.cx.dj c q ⟨m,h⟩ p j g i n
def KR (w:World)(g off:Nat)(vs:List Value):Grw w (Wx w g off vs):=by
 induction vs generalizing w off with
 | nil=>exact ZN w
 | cons v vs a=>
  have h:Grw w (w.setCell ⟨g,off,none⟩ v):=⟨rfl,rfl,rfl,by simp[World.setCell]⟩
  exact h.trans (a _ _)
def QR {q off:Nat}{E:TypeId}{cs ls:List LV}{b:Bool}(V:Evl A s x (.ptr q off))(f:s.tab.ent q=some (.box E cs))(W:Ev A s y (b,ls))(C:QH s.tab ls=true)(O:tsh P T=some (b,ls.length))
 (hl:Nat.ble (off+ls.length) cs.length=true):Does A P ⟨none,.store T x y,ty,pos,af,g⟩ s ⟨s.tm,(q,some (.box E (splice cs off ls)))::s.tab⟩:=fun a w K Q r M=>by
 obtain ⟨k,r⟩:=r
 obtain ⟨g,p,I⟩:=V k a w r ⟨_,f⟩
 obtain ⟨Z,i,t,m,D,F⟩:=r.cx.en q _ f
 rw[p] at t
 cases t
 have H:=W k a w r
 obtain ⟨n,J,v⟩:=CmR.cells H fun R=>by
  subst R
  obtain ⟨l,rfl,p⟩:=H
  simp only[QH,cY] at C
  obtain ⟨t,m⟩:=Vf C
  exact p.oneCell m t fun q ⟨e,f⟩=>(r.cx.en q e f).oneCell
 have L:n.length=ls.length:=v.len
 have U:=aD hl
 have S:i.size=cs.length:=by have:=F.len;simpa using this
 have u:=VX (P:=P) (w:=w) (b:=g) (o:=off) O (a.eval y) n J L D (by omega) (v.oneCells r.cx C)
 have e:(execOp a.eval ⟨none,.store T x y,ty,pos,af,‹_›⟩).run P w= .ok .skip (Wx w g off n):=by
  simp only[execOp,I,Instr.storeAt,Instr.sureAddr,aw,be,aF,u]
 unfold Oper.wp
 rw[e,Oper.upon_skip]
 obtain ⟨j,X,k2,Y⟩:=Uw g E (0,0) n w off i D (by omega)
 have z:∀c,k.N c→k.N c∧(Wx w g off n).heap[c]? =w.heap[c]? :=fun c G=>⟨G,Y9 _ _ _ _ _ fun h=>r.cx.no q ⟨_,f⟩ c (by rw[m,h];simp) G⟩
 refine M _ _ ⟨k,r.mod f (KR _ _ _ _) (fun c _ B=>Y9 _ _ _ _ _ fun h=>B (by rw[m,h];simp)) ⟨g,j,p,m,X,?_⟩⟩
 rw[Y]
 exact (F.splice v).mono (fun _ _ h=>⟨h,rfl⟩) z
@[reducible] def WM:List Nat→Tab
 | []=>[]
 | q::qs=>(q,none)::WM qs
def XR (used:List Nat)(T:Tab)(q:Nat):Tab.ent (WM used++T) q=if q∈used then none else T.ent q:=by
 induction used with
 | nil=>simp[WM]
 | cons u b a=>
  simp only[WM,cI,Qi,a,aK]
  by_cases h:q=u <;> simp[h]
def Rg.make {gh:Gh}{a:Act}{w w':World}(r:Rg A s gh a w)(t:Nat)(B:Fresh s t)(J:A.k0≤t)(used:List Nat)(p:∀q∈used,s.tab.al q)(O:Grw w w')(hb:∀g,g<w.heap.size→(∀q∈used,g∉gh.f q)→w'.heap[g]? =w.heap[g]?)
 {E:TypeId} {e:Ty} {xs:List e.Den} {hv:Value} {fp:List Nat} (hE:Own (.sl E e) w' fp [hv] xs) (hnd:fp.Nodup) (hfp:∀g∈fp,w.heap.size≤g∨∃q∈used,g∈gh.f q):
 Rg A ⟨s.tm,(t,some (.arr E e xs))::(WM used++s.tab)⟩ ⟨fun q=>if q=t then hv else gh.h q,fun q=>if q=t then fp else gh.f q,gh.N⟩ a w':=by
 have j:∀q,Tab.al ((t,some (.arr E e xs))::(WM used++s.tab)) q→q=t∨(q≠t∧s.tab.al q∧q∉used):=fun q h=>by
  by_cases i:q=t
  ·exact .inl i
  ·unfold Tab.al at h
   rw[Qi,if_neg i,XR] at h
   by_cases c:q∈used
   ·rw[if_pos c] at h;obtain ⟨_,h⟩:=h;cases h
   ·rw[if_neg c] at h;exact .inr ⟨i,h,c⟩
 have z:∀g,gh.N g→gh.N g∧w'.heap[g]? =w.heap[g]? :=fun g o=>⟨o,hb g (r.cx.nl g o) fun q u h=>r.cx.no q (p q u) g h o⟩
 have G:∀q,s.tab.al q→q∉used→∀g∈gh.f q,w'.heap[g]? =w.heap[g]? :=fun q u S g C=>hb g (r.cx.lt u g C) fun v H h=>r.cx.dj q v u (p v H) (fun h=>S (h▸H)) g C h
 refine r.step ⟨fun q I h=> ?_,fun q v i c F g b l=> ?_,fun q h=> ?_,fun q h g b o=> ?_,fun g o=>ba (r.cx.nl g o) O.size⟩ (fun q h=> ?_) z O
  (fun g D U=>hb g D fun q u=>U q (p q u)) (fun g h=> .inl h) (fun q h g b=> ?_)
 ·rw[Qi] at h
  by_cases i:q=t
  ·rw[if_pos i] at h
   cases h
   subst i
   simpa [EntR] using hE
  ·rw[if_neg i,XR] at h
   by_cases c:q∈used
   ·rw[if_pos c] at h;cases h
   ·rw[if_neg c] at h
    refine (r.cx.en q I h).mono (fun V K Q=> ?_) z (by simp[i]) (by simp[i]) (G q ⟨I,h⟩ c)
    rcases j V Q with m|⟨m,R,_⟩
    ·exact absurd (m▸K) (B.en q I h)
    ·exact ⟨R,by simp[m]⟩
 ·rcases j q i with i|⟨i,L,W⟩ <;> rcases j v c with c|⟨c,M,X⟩
  ·exact F (i.trans c.symm)
  ·subst i
   simp only[if_true] at b
   simp only[if_neg c] at l
   rcases hfp g b with h|⟨n,h,m⟩
   ·have:=r.cx.lt M g l;omega
   ·exact r.cx.dj v n M (p n h) (fun h=>X (by rw[h];assumption)) g l m
  ·subst c
   simp only[if_true] at l
   simp only[if_neg i] at b
   rcases hfp g l with h|⟨n,h,m⟩
   ·have:=r.cx.lt L g b;omega
   ·exact r.cx.dj q n L (p n h) (fun h=>W (by rw[h];assumption)) g b m
  ·simp only[if_neg i] at b
   simp only[if_neg c] at l
   exact r.cx.dj q v L M F g b l
 ·rcases j q h with h|⟨h,k,_⟩
  ·simpa [h] using hnd
  ·simp only[if_neg h];exact r.cx.nd q k
 ·rcases j q h with h|⟨h,k,_⟩
  ·simp only[h,if_true] at b
   rcases hfp g b with c|⟨n,c,m⟩
   ·have:=r.cx.nl g o;omega
   ·exact r.cx.no n (p n c) g m o
  ·simp only[if_neg h] at b
   exact r.cx.no q k g b o
 ·rcases j q h with h|⟨h,k,_⟩
  ·exact .inr ⟨h▸B,h▸J⟩
  ·exact .inl ⟨k,by simp[h],fun _=>by simp[h]⟩
 ·rcases j q h with h|⟨h,k,_⟩
  ·simp only[h,if_true] at b
   rcases hfp g b with c|⟨n,c,m⟩
   ·exact .inl c
   ·exact .inr ⟨n,p n c,m⟩
  ·simp only[if_neg h] at b
   exact .inr ⟨q,k,b⟩
@[reducible] def St.mk_ (s:St) (d t:Nat) (used:List Nat) (E:TypeId) (e:Ty) (xs:List e.Den):St:=⟨(d,lf (.ref t))::s.tm,(t,some (.arr E e xs))::(WM used++s.tab)⟩
def Rg.make_put {gh:Gh}{a:Act}{w w':World}(r:Rg A s gh a w)(t:Nat)(b:Fresh s t)(c:A.k0≤t)(used:List Nat)(i:∀q∈used,s.tab.al q)(h:Grw w w')(hb:∀g,g<w.heap.size→(∀q∈used,g∉gh.f q)→w'.heap[g]? =w.heap[g]?)
 {E:TypeId} {e:Ty} {xs:List e.Den} {hv:Value} {fp:List Nat} (hE:Own (.sl E e) w' fp [hv] xs) (hnd:fp.Nodup) (hfp:∀g∈fp,w.heap.size≤g∨∃q∈used,g∈gh.f q) (hd:Nat.blt d A.n=true):
 R A (s.mk_ d t used E e xs) (a.put (some d) hv) w':=
 ⟨_,(r.make t b c used i h hb hE hnd hfp).put (aD hd) (pv:=lf (.ref t)) ⟨_,rfl,fun _=>by simp⟩⟩
def Abs (T:Tab):(t:Ty)→List LV→t.Den→List Nat→Prop
 | .int,ls,x,used=>ls=[.dat .int x]∧used=[]
 | .bool,ls,x,used=>ls=[.dat .bool x]∧used=[]
 | .str,ls,x,used=>ls=[.dat .str x]∧used=[]
 | .u8,ls,x,used=>ls=[.dat .u8 x]∧used=[]
 | .vl,ls,x,used=>ls=[.dat .vl x]∧used=[]
 | .sl E e,ls,xs,used=>(∃q,ls=[.ref q]∧T.ent q=some (.arr E e xs)∧used=[q])∨(ls=[.val (.slice none 0 0)]∧xs=[]∧used=[])
 | .pr a b,ls,x,used=>∃l1 l2 x1 x2 u1 u2,ls=l1++l2∧x=(x1,x2)∧Abs T a l1 x1 u1∧Abs T b l2 x2 u2∧used=u1++u2
def fps (f:Nat→List Nat):List Nat→List Nat
 | []=>[]
 | q::qs=>f q++fps f qs
def Qpd (f:Nat→List Nat)(a b:List Nat):fps f (a++b)=fps f a++fps f b:=by
 induction a with
 | nil=>rfl
 | cons q e c=>simp[fps,c]
def QeR {f:Nat→List Nat}{l:List Nat}{g:Nat}:g∈fps f l↔∃q∈l,g∈f q:=by
 induction l with
 | nil=>simp[fps]
 | cons q b a=>simp[fps,a]
def Qh6 {T:Tab}{gh:Gh}{w:World}(j:Cx T gh w){l:List Nat}(h:l.Nodup)(c:∀q∈l,T.al q):(fps gh.f l).Nodup:=by
 induction l with
 | nil=>exact cv
 | cons q u t=>
  obtain ⟨k,m⟩:=bP.1 h
  refine bz.2 ⟨j.nd q (c q (aA ..)),t m fun r i=>c r (az _ i),fun a n b o e=> ?_⟩
  subst e
  obtain ⟨r,i,p⟩:=QeR.1 o
  exact j.dj q r (c q (aA ..)) (c r (az _ i)) (fun e=>k (e▸i)) a n p
def Abs.own {T:Tab}{gh:Gh}{w:World}(m:Cx T gh w):∀{t:Ty} {ls:List LV} {x:t.Den} {used:List Nat} {vs:List Value},Abs T t ls x used→LVs T.al gh w ls vs→Own t w (fps gh.f used) vs x∧∀q∈used,T.al q
 | .int,_,_,_,_,⟨rfl,rfl⟩,h=>⟨(LVs.rd (t:= .int) h).rep.own0 rfl,by simp⟩
 | .bool,_,_,_,_,⟨rfl,rfl⟩,h=>⟨(LVs.rd (t:= .bool) h).rep.own0 rfl,by simp⟩
 | .str,_,_,_,_,⟨rfl,rfl⟩,h=>⟨(LVs.rd (t:= .str) h).rep.own0 rfl,by simp⟩
 | .u8,_,_,_,_,⟨rfl,rfl⟩,h=>⟨(LVs.rd (t:= .u8) h).rep.own0 rfl,by simp⟩
 | .vl,_,_,_,_,⟨rfl,rfl⟩,h=>⟨(LVs.rd (t:= .vl) h).rep.own0 rfl,by simp⟩
 | .sl E e,_,xs,_,_,h,k=>by
  rcases h with ⟨q,rfl,i,rfl⟩|⟨rfl,rfl,rfl⟩
  ·obtain ⟨v,c,rfl,j,l⟩:=k
   rw[show c=[] from l,show v=gh.h q from j ⟨_,i⟩]
   have:=m.en q _ i
   exact ⟨by simpa [fps,EntR] using this,by simpa using ⟨_,i⟩⟩
  ·obtain ⟨v,c,rfl,j,l⟩:=k
   rw[show c=[] from l,show v=_ from j]
   exact ⟨.inl ⟨rfl,rfl,rfl⟩,by simp⟩
 | .pr a b,_,_,_,_,⟨l1,l2,x1,x2,u1,u2,rfl,rfl,h1,i,rfl⟩,k=>by
  obtain ⟨z,B,rfl,j,l⟩:=QhB k
  obtain ⟨o,r⟩:=Abs.own m h1 j
  obtain ⟨p,u⟩:=Abs.own m i l
  exact ⟨⟨_,_,z,B,Qpd ..,rfl,o,p⟩,fun q n=>(aO.1 n).elim (r q) (u q)⟩
def AbsL (T:Tab)(e:Ty):List (Bool×List LV)→List e.Den→List Nat→Prop
 | [],xs,used=>xs=[]∧used=[]
 | c::cs,xs,used=>∃x xs' u1 u2,xs=x::xs'∧Abs T e c.2 x u1∧AbsL T e cs xs' u2∧used=u1++u2
def EvL (A:Amb)(s:St):List Operand→List (Bool×List LV)→Prop
 | [],cs=>cs=[]
 | x::xs,cs=>∃c cs',cs=c::cs'∧Ev A s x c∧EvL A s xs cs'
def EvL.cms {xs:List Operand}{cs:List (Bool×List LV)}(h:EvL A s xs cs){gh:Gh}{a:Act}{w:World}(r:Rg A s gh a w):CmsR s.tab.al gh w cs (xs.map a.eval):=by
 induction xs generalizing cs with
 | nil=>rw[show cs=[] from h];rfl
 | cons x xs i=>obtain ⟨c,b,rfl,e,f⟩:=h;exact ⟨_,_,rfl,e gh a w r,i f⟩
def Qwt (v:Value):List Value:=v.cells.toList
def AbsL.own {T:Tab}{gh:Gh}{w:World}(i:Cx T gh w){e:Ty}:∀{cs:List (Bool×List LV)} {xs:List e.Den} {used:List Nat} {vs:List Value},AbsL T e cs xs used→CmsR T.al gh w cs vs→
 (∀v∈vs,∀b ls,(b,ls)∈cs→True)→(∀c∈cs,QH T c.2=true)→OwnL (Own e w) (fps gh.f used) (vs.flatMap fun v=>v.cells.toList) xs∧(∀q∈used,T.al q)∧(∀v∈vs,v.cells.size=e.wd)∧vs.length=xs.length
 | [],_,_,_,⟨rfl,rfl⟩,h,_,_=>by rw[show _=[] from h];exact ⟨⟨rfl,rfl⟩,by simp,by simp,rfl⟩
 | c::cs,_,_,_,⟨x,xs',u1,u2,rfl,h1,h2,rfl⟩,⟨v,vs',hv,k1,k2⟩,_,hok=>by
  subst hv
  obtain ⟨z,B,C,D⟩:=AbsL.own i h2 k2 (fun _ _ _ _ _=>trivial) fun c a=>hok c (az _ a)
  have a:=hok c (aA ..)
  obtain ⟨b,ls⟩:=c
  obtain ⟨H,m,F⟩:=CmR.cells k1 fun p=>by
   subst p
   obtain ⟨l,rfl,G⟩:=k1
   simp only[QH,cY] at a
   obtain ⟨n,o⟩:=Vf a
   exact G.oneCell o n fun q ⟨e,r⟩=>(i.en q e r).oneCell
  obtain ⟨k,E⟩:=Abs.own i h1 F
  refine ⟨⟨_,_,H,_,Qpd ..,by simp[m],k,z⟩,fun q t=>(aO.1 t).elim (E q) (B q),fun u j=> ?_,by simp[D]⟩
  rcases aK.1 j with rfl|j
  ·rw[m];simpa using k.len
  ·exact C u j
theorem Qh5 (vs:List Value):∀(o:Nat) (cs:Array Value) (k:Nat),o+k+vs.length≤cs.size→
 ((vs.zipIdx k).foldl (fun (cs:Array Value) (p:Value×Nat)=>cs.setIfInBounds (o+p.2) p.1) cs).toList=cs.toList.take (o+k)++vs++cs.toList.drop (o+k+vs.length):=by
 induction vs with
 | nil=>intro o cs k _;simp
 | cons v vs c=>
  intro o cs k b
  simp only[av] at b
  rw[List.zipIdx_cons,bn,c o _ (k+1) (by simp;omega)]
  have a:o+k<cs.toList.length:=by simp;omega
  simp only[Array.toList_setIfInBounds,av]
  rw[show o+(k+1)=o+k+1 by omega,List.drop_set_of_lt (by omega)]
  have:(cs.toList.set (o+k) v).take (o+k+1)=cs.toList.take (o+k)++[v]:=by
   rw[cd (by simpa using a),List.take_set_of_le (aP _)]
   simp
  grind
theorem Jr (a:Nat):∀(vs:List Value) (k:Nat) (cs:Array Value),(∀v∈vs,v.cells.size=a)→cs.size=(k+vs.length)*a→
 ∃b,Instr.fill (fun i=>some (i*a,a)) cs ((vs.zipIdx k).map fun p=>(p.2,p.1))=some b∧b.toList=cs.toList.take (k*a)++vs.flatMap fun v=>v.cells.toList:=by
 intro vs
 induction vs with
 | nil=>intro k cs _ f;exact ⟨cs,rfl,by simp at f ⊢;rw[← f];exact (aJ (by simp)).symm⟩
 | cons v vs w=>
  intro k cs n f
  simp only[av] at f
  have z:=n v (aA ..)
  have e:k*a+v.cells.size≤cs.size:=by
   grind
  have h:=Qh5 v.cells.toList (k*a) cs 0 (by simpa using e)
  generalize q:List.foldl (fun (cs:Array Value) (p:Value×Nat)=>cs.setIfInBounds (k*a+p.2) p.1) cs (v.cells.toList.zipIdx 0)=F at h
  have m:F.size=(k+1+vs.length)*a:=by
   have:F.toList.length=cs.toList.length:=by rw[h];simp;omega
   grind
  obtain ⟨b,B,o⟩:=w (k+1) F (fun u t=>n u (az _ t)) m
  refine ⟨b,?_,?_⟩
  ·rw[List.zipIdx_cons,bU,Instr.fill]
   have l:(decide (v.cells.size≠a)||decide (k*a+v.cells.size > cs.size))=false:=by
    grind
   have r:v.cells.zipIdx.foldl (fun cs (x:Value×Nat)=>match x with|(c,j)=>cs.setIfInBounds (k*a+j) c) cs=F:=by
    rw[← q,← Array.foldl_toList,Array.toList_zipIdx]
   grind
  ·rw[o,h,show (k+1)*a=k*a+a by rw[cw,dq]]
   grind
theorem YK (t:Nat){E:TypeId}{e:Ty}{n:Nat}{b:Array (Nat×Operand)}{u:List (Bool×List LV)}{xs:List e.Den}{used:List Nat}{W:Bool}{z:Value}(hT:P.underlying T=some (.slice E))(hE:tsh P E=some (W,e.wd))
 (hz:zer P E=some z) (hpn:b.toList.map (·.1)=List.range n) (hv:EvL A s (b.toList.map (·.2)) u) (hok:∀c∈u,QH s.tab c.2=true) (hab:AbsL s.tab e u xs used) (hun:used.Nodup) (hsz:Nat.ble (n*e.wd) 16777216=true) (hn:Nat.blt d A.n=true) (hfr:Fresh s t) (hk0:A.k0≤t):
 Does A P ⟨some d,.buildSlice T n b,ty,pos,af,g⟩ s (s.mk_ d t used E e xs):=fun a w K Q r hK=>by
 obtain ⟨R,r⟩:=r
 have O:=hv.cms r
 obtain ⟨S,M,Y,Z⟩:=hab.own r.cx O (fun _ _ _ _ _=>trivial) hok
 generalize U:(b.toList.map (·.2)).map a.eval=vs at*
 have G:vs.length=n:=by
  have:=congrArg List.length hpn
  rw[← U]
  simpa using this
 have o:(b.map fun p=>(p.1,a.eval p.2)).toList=(vs.zipIdx 0).map fun p=>(p.2,p.1):=by
  rw[da]
  apply bL
  intro i
  have X:=congrArg (fun l=>l[i]?) hpn
  have L:=congrArg (fun l=>l[i]?) U
  simp only[bl] at X L ⊢
  rw[List.getElem?_zipIdx]
  cases hp:b.toList[i]? with
  | none=>
   have I:vs[i]? =none:=by rw[hp] at L;exact L.symm
   simp[I]
  | some p=>
   grind
 obtain ⟨j,J,V⟩:=Jr e.wd vs 0 ((Array.range (n*e.wd)).map (((if n*e.wd=0 then #[] else z.cells):Array Value)[· % ((if n*e.wd=0 then #[] else z.cells):Array Value).size]!)) Y (by simp[G])
 have D:(execOp a.eval ⟨some d,.buildSlice T n b,ty,pos,af,g⟩).run P w= .ok (.value (.slice (some ⟨w.heap.size,0,none⟩) n n)) (w.alloc (.cells j E)):=by
  have N:=aD hsz
  have C:¬(n*e.wd > 2 ^ 24):=by omega
  simp only[execOp,Instr.buildSlice,aw,run_underlying hT,aF,YD hE]
  rw[if_neg C]
  by_cases I:n*e.wd=0
  ·rw[if_pos I] at J ⊢
   simp only[be,aF,aw]
   rw[o,J]
   simp[newRow,aw]
  ·rw[if_neg I] at J ⊢
   simp only[be,aF,aw,Wc hz]
   rw[o,J]
   simp[newRow,aw]
 unfold Oper.wp
 rw[D,Oper.upon_value]
 have m:j.size=n*e.wd:=by
  have:j.toList.length=xs.length*e.wd:=by rw[V];simpa using S.len
  rw[show j.size=j.toList.length by simp,this,← Z,G]
 have v:∀g,g<w.heap.size→(w.alloc (.cells j E)).heap[g]? =w.heap[g]? :=fun g k=>Below.heap_alloc w _ g k
 have B:n≤maxLen:=by
  have hw:=WY e
  have N:=aD hsz
  have:n*1≤n*e.wd:=Nat.mul_le_mul_left _ hw
  unfold maxLen;omega
 have F:∀g∈fps R.f used,g<w.heap.size:=fun g k=>by
  obtain ⟨q,hq,k⟩:=QeR.1 k
  exact r.cx.lt (M q hq) g k
 have H:xs.length=n:=by omega
 refine hK _ _ (r.make_put (d:=d) (w':=w.alloc (.cells j E)) t hfr hk0 used M ⟨rfl,rfl,rfl,by simp⟩ (fun g k _=>v g k) (hv:= .slice (some ⟨w.heap.size,0,none⟩) n n) (fp:=w.heap.size::fps R.f used) (E:=E) (xs:=xs) (e:=e) ?_ ?_ ?_ hn)
 ·refine .inr ⟨w.heap.size,n,j,_,rfl,by rw[H],heap_alloc_new w _,by omega,B,m,?_⟩
  rw[H,← m,show j.size=j.toList.length by simp,dN,V]
  simp only[Nat.zero_mul,List.take_zero,dX]
  exact S.mono fun f c x hf ho=>ho.keep fun g k=>v g (F g (hf g k))
 ·exact bP.2 ⟨fun h=>by have:=F _ h;omega,Qh6 r.cx hun M⟩
 ·intro g k
  rcases aK.1 k with rfl|k
  ·exact .inl (aP _)
  ·exact .inr (QeR.1 k)
end
section
variable {E:TypeId}{e:Ty}{w:World}{P:Program}
def QsS (w:World)(e:Ty)(u:Value)(ys:List e.Den)(fn:List Nat):Prop:=
 (∃c,u= .slice none 0 c∧ys=[]∧fn=[])∨∃ad c news,u= .slice (some ad) ys.length c∧OwnL (Own e w) fn news ys∧∀j u,news[j]? =some u→w.cell? (ad.add j)=some u
theorem QgQ (t ty:TypeId)(M:P.underlying t=some (.slice E))(he:ElemInfo P E e){fp fn:List Nat}{v u:Value}{xs ys:List e.Den}(H:Own (.sl E e) w fp [v] xs)(h2:fp.Nodup)
 (hs:QsS w e u ys fn) (n2:fn.Nodup) (hdj:∀g∈fp,g∉fn) (hlt:∀g∈fn,g<w.heap.size) (hb:xs.length+ys.length≤1073741824):
 ∃G w' j,(Builtin.append_ #[t,t] ty #[v,u]).run P w= .ok G w'∧Own (.sl E e) w' j [G] (xs++ys)∧j.Nodup∧(∀g∈j,g∈fp∨g∈fn∨w.heap.size≤g)∧Grw w w'∧∀g,g<w.heap.size→g∉fp→w'.heap[g]? =w.heap[g]? :=by
 obtain ⟨R,fps,U,r2,r3⟩:=H.row
 obtain ⟨i,z,N,i2,i3,i4,i5⟩:=he
 rcases hs with ⟨c,rfl,rfl,rfl⟩|⟨X,c,m,rfl,O,Q⟩
 ·have F:(Builtin.append_ #[t,t] ty #[v,.slice none 0 c]).run P w= .ok v w:=by
   rcases U.2 with ⟨rfl,h0⟩|⟨g,Y,Z,rfl,_,a0,K,_⟩
   ·simp[Builtin.append_,run_underlying M,sizeOf,typeInfo,N,Builtin.lenOf,Builtin.firstCells]
   ·simp[Builtin.append_,run_underlying M,sizeOf,typeInfo,N,Builtin.lenOf,Builtin.firstCells,K,storeCells]
  exact ⟨v,w,fp,F,by rw[bH];exact H,h2,fun g a=> .inl a,ZN w,fun _ _ _=>rfl⟩
 ·have I:(xs.length+ys.length)*i.bytes≤140737488355328:=by
   calc (xs.length+ys.length)*i.bytes≤1073741824*65536:=cO (by omega) i4
    _≤140737488355328:=by decide
  obtain ⟨G,w',V,W,n,a4,a5⟩:=run_append_own_at (P:=P) (w:=w) 0 t ty E i z e.wd i.bytes M N i2 i3 rfl i5 (WY e) v xs.length R U X ys.length c m (by exact O.len) Q (OwnL.one (fp:=[]) O) (by unfold maxLen;omega) I (aL _)
  have q:∀g,v.ownBlock=some g→g∈fp:=fun g a=>by
   grind
  have b:∀g∈fps,g∈fp∧v.ownBlock≠some g:=fun g a=>by
   grind
  have B:∀g∈fn,v.ownBlock≠some g:=fun g a o=>hdj g (q g o) a
  have C:∀g∈fp,g<w.heap.size:=Own.lt H
  have D:(fps++fn).Nodup:=by
   grind
  have k1:OwnL (Own e w') fps R xs:=r2.mono fun f c x r L=>L.keep fun g a=>n.block g (C g (b g (r g a)).1) fun o=>(b g (r g a)).2 o.symm
  have k2:OwnL (Own e w') fn m ys:=O.mono fun f c x r L=>L.keep fun g a=>n.block g (hlt g (r g a)) fun o=>B g (r g a) o.symm
  obtain ⟨j,o1,S⟩:=QlM (by rw[ai]) W (k1.append k2)
  have p:∀g,G.ownBlock=some g→(v.ownBlock=some g)∨g=w.heap.size:=fun g a=>by
   grind
  refine ⟨G,w',j,V,o1,?_,?_,⟨n.os,n.tape,n.output,n.size⟩,fun g a hx=>n.block g a fun o=>hx (q g o.symm)⟩
  ·rcases S with ⟨_,rfl⟩|⟨g,a,rfl⟩
   ·exact D
   ·refine bP.2 ⟨fun l=> ?_,D⟩
    rcases aO.1 l with l|l
    ·rcases p g a with h|h
     ·exact (b g l).2 h
     ·have:=C g (b g l).1;omega
    ·rcases p g a with h|h
     ·exact B g l h
     ·have:=hlt g l;omega
  ·have k:∀g∈fps++fn,g∈fp∨g∈fn∨w.heap.size≤g:=fun g l=>(aO.1 l).elim (fun h=> .inl (b g h).1) fun h=> .inr (.inl h)
   intro g a
   rcases S with ⟨_,rfl⟩|⟨g',J,rfl⟩
   ·exact k g a
   ·rcases aK.1 a with rfl|a
    ·rcases p g J with h|h
     ·exact .inl (q g h)
     ·exact .inr (.inr (by omega))
    ·exact k g a
def Rep.srcOk {u:Value}{ys:List e.Den}(i:Rep (.sl E e) w [u] ys)(n:e.flat=true):QsS w e u ys []:=by
 obtain ⟨A,c,rfl,_,_⟩:=i.slv
 obtain ⟨_,h⟩:=i.src (M:=0) n
 rcases h with ⟨rfl,f⟩|⟨j,a,rfl,⟨b,k,o,l⟩,m⟩
 ·exact .inl ⟨c,by rw[f],bF f,rfl⟩
 ·have:b=[]:=by
   cases b with
   | nil=>rfl
   | cons g gs=>have:=l g (aA ..);omega
  subst this
  exact .inr ⟨j,c,a,rfl,k,m⟩
def Own.srcOk {fp:List Nat}{u:Value}{ys:List e.Den}(h:Own (.sl E e) w fp [u] ys):∃fn,QsS w e u ys fn∧∃r,fp=r++fn:=by
 rcases h with ⟨rfl,h,i⟩|⟨g,b,f,fps,rfl,c,k,m,n,o,l⟩
 ·subst i
  simp only[aN,and_true] at h
  exact ⟨[],.inl ⟨0,h,rfl,rfl⟩,[],rfl⟩
 ·simp only[aN,and_true] at c
  refine ⟨fps,.inr ⟨_,b,_,c,l,fun j u a=> ?_⟩,[g],rfl⟩
  rw[Addr.add_lit,bJ]
  rw[bf] at a
  split at a
  ·simp only[World.cell?,k]
   simpa using a
  ·cases a
end
section
variable {A:Amb}{P:Program}{s:St}{x y:Operand}{d:Nat}{T T' ty:TypeId}{pos:String}{af:Array Edge}{g:Option (Nat×Bool)}
def Qfl (A:Amb)(s:St)(x:Operand)(t:Ty)(z:t.Den):Prop:=∀gh a w,Rg A s gh a w→Rep t w [a.eval x] z
def Evl.rep {t:Ty}{z:t.Den}(h:Evl A s x (.dat t z)):Qfl A s x t z:=fun b a w r=>Rd.rep (h b a w r)
def He {q:Nat}{E:TypeId}{e:Ty}{xs:List e.Den}(h:Evl A s x (.ref q))(c:s.tab.ent q=some (.arr E e xs)):Qfl A s x (.sl E e) xs:=fun b a w r=>by
 rw[show a.eval x=b.h q from h b a w r ⟨_,c⟩]
 exact Own.rep (r.cx.en q _ c)
def QcI {o:Oper}{a:Act}{w w':World}{v:Value}{K:Act→World→Prop}{Q:Exit→Act→World→Prop}(b:o.op= .call {callee:= .builtin .append,args:= #[x,y],argTypes:= #[T,T]})
 (hr:(Builtin.append_ #[T,T] o.type #[a.eval x,a.eval y]).run P w= .ok v w') (next:K (a.put o.dst v) w'):o.wp P a w K Q:=by
 unfold Oper.wp execOp
 simp only[b,resolve,invoke,builtin,dY,Sem.run_pure,aF,List.map_toArray,bU,List.map_nil,hr]
 exact next
def Qka (t:Nat){q b:Nat}{E:TypeId}{e:Ty}{xs ys:List e.Den}(v:Evl A s x (.ref q))(l:s.tab.ent q=some (.arr E e xs))(I:Evl A s y (.ref b))(c:s.tab.ent b=some (.arr E e ys))(o:Nat.beq q b=false)
 (hT:P.underlying T=some (.slice E)) (hE:Xv P E e.wd=true) (hb:xs.length+ys.length≤1073741824) (hn:Nat.blt d A.n=true) (hfr:Fresh s t) (hk0:A.k0≤t):
 Does A P ⟨some d,.call {callee:= .builtin .append,args:= #[x,y],argTypes:= #[T,T]},ty,pos,af,g⟩ s (s.mk_ d t [q,b] E e (xs++ys)):=fun a w K Q r H=>by
 obtain ⟨i,r⟩:=r
 have p:q≠b:=fun h=>by rw[h,eb] at o;cases o
 have F:Own (.sl E e) w (i.f q) [i.h q] xs:=r.cx.en q _ l
 have z:Own (.sl E e) w (i.f b) [i.h b] ys:=r.cx.en b _ c
 obtain ⟨C,G,S,B⟩:=z.srcOk
 have k:∀g∈C,g∈i.f b:=fun g j=>by rw[B];exact bd _ j
 have m:=r.cx.nd b ⟨_,c⟩
 rw[B] at m
 obtain ⟨U,V,D,J,L,M,N,O,R⟩:=QgQ (P:=P) T ty hT (QeH hE) F (r.cx.nd q ⟨_,l⟩) G (bz.1 m).2.1 (fun g j u=>r.cx.dj q b ⟨_,l⟩ ⟨_,c⟩ p g j (k g u)) (fun g j=>Own.lt z g (k g j)) hb
 refine QcI rfl (by rw[show a.eval x=i.h q from v i a w r ⟨_,l⟩,show a.eval y=i.h b from I i a w r ⟨_,c⟩];exact J) (H _ _ (r.make_put t hfr hk0 [q,b] (by simp only[aK,bO,or_false];rintro _ (rfl|rfl);exact ⟨_,l⟩;exact ⟨_,c⟩) O (fun g j v=>R g j (v q (by simp))) L M (fun g j=> ?_) hn))
 rcases N g j with h|h|h
 ·exact .inr ⟨q,by simp,h⟩
 ·exact .inr ⟨b,by simp,k g h⟩
 ·exact .inl h
def Zg (t:Nat){q:Nat}{E:TypeId}{e:Ty}{xs ys:List e.Den}(j:Evl A s x (.ref q))(c:s.tab.ent q=some (.arr E e xs))(p:Qfl A s y (.sl E e) ys)(o:e.flat=true)
 (hT:P.underlying T=some (.slice E)) (hE:Xv P E e.wd=true) (hb:xs.length+ys.length≤1073741824) (hn:Nat.blt d A.n=true) (hfr:Fresh s t) (hk0:A.k0≤t):
 Does A P ⟨some d,.call {callee:= .builtin .append,args:= #[x,y],argTypes:= #[T,T]},ty,pos,af,g⟩ s (s.mk_ d t [q] E e (xs++ys)):=fun a w K Q r m=>by
 obtain ⟨b,r⟩:=r
 have l:Own (.sl E e) w (b.f q) [b.h q] xs:=r.cx.en q _ c
 obtain ⟨F,G,k,u,v,z,B,C,D⟩:=QgQ (P:=P) T ty hT (QeH hE) l (r.cx.nd q ⟨_,c⟩) ((p b a w r).srcOk o) cv (by simp) (by simp) hb
 refine QcI rfl (by rw[show a.eval x=b.h q from j b a w r ⟨_,c⟩];exact u) (m _ _ (r.make_put t hfr hk0 [q] (by simp only[aK,bO,or_false];rintro _ rfl;exact ⟨_,c⟩) C (fun g i j=>D g i (j q (by simp))) v z (fun g i=> ?_) hn))
 rcases B g i with h|h|h
 ·exact .inr ⟨q,by simp,h⟩
 ·cases h
 ·exact .inl h
theorem QkN (z:List Value)(n:Nat)(k:0<z.length):(madeCells z.toArray (n*z.length)).toList=(List.replicate n z).flatten:=by
 apply bL
 intro i
 induction n generalizing i with
 | zero=>simp[madeCells]
 | succ n b=>
  simp only[madeCells,da,Array.toList_range,bl] at b ⊢
  rw[List.replicate_succ',List.flatten_append]
  by_cases j:i<n*z.length
  ·have h:=b i
   grind
  ·rw[bw (by simp;omega)]
   simp only[List.length_flatten,List.map_replicate,List.sum_replicate_nat,List.flatten_cons,List.flatten_nil,bH]
   by_cases a:i<(n+1)*z.length
   ·rw[List.getElem?_range a]
    rw[cw,dq] at a
    have c:i % z.length=i - n*z.length:=by
     have:i=(i - n*z.length)+z.length*n:=by have:=Nat.mul_comm n z.length;omega
     conv=>lhs;rw[this]
     rw[Nat.add_mul_mod_self_left,cH (by omega)]
    have f:i - n*z.length<z.length:=by omega
    simp[c,f]
   ·grind
def OwnL.zeros (e:Ty)(w:World)(n:Nat):OwnL (Own e w) [] (List.replicate n e.zeros).flatten (List.replicate n e.zero):=by
 induction n with
 | zero=>exact ⟨rfl,rfl⟩
 | succ n a=>exact ⟨[],[],e.zeros,_,rfl,by simp[List.replicate_succ],Z8 e w,a⟩
def WW (t:Nat){E:TypeId}{e:Ty}{n:Nat}{z:Value}{b:Nat}(p:Evl A s x (dI n))(q:Evl A s y (dI n))(l:P.underlying T=some (.slice E))(hi:(P.info? E).map (fun i=>(i.zero,i.size,i.bytes))=some (some z,e.wd,b))
 (hz:z.cells.toList=e.zeros) (hb:b*n≤281474976710656) (hm:n≤1073741824) (hn:Nat.blt d A.n=true) (hfr:Fresh s t) (hk0:A.k0≤t):Does A P ⟨some d,.makeSlice T x y,ty,pos,af,g⟩ s (s.mk_ d t [] E e (List.replicate n e.zero)):=fun a w K Q r k=>by
 obtain ⟨u,r⟩:=r
 have c:e.zeros.length=e.wd:=(Z8 e w).len
 have j:=Qof (P:=P) T E z e.wd b l hi n hb (by omega) w
 have m:z.cells=e.zeros.toArray:=by rw[← hz]
 have h:(execOp a.eval ⟨some d,.makeSlice T x y,ty,pos,af,g⟩).run P w= .ok (.value (.slice (some ⟨w.heap.size,0,none⟩) n n)) (w.alloc (.cells (madeCells z.cells (n*e.wd)) E)):=by
  simp only[execOp,p.i r,q.i r,aw,j]
  simp
 unfold Oper.wp
 rw[h,Oper.upon_value]
 refine k _ _ (r.make_put (d:=d) (w':=w.alloc (.cells (madeCells z.cells (n*e.wd)) E)) t hfr hk0 [] (by simp) ⟨rfl,rfl,rfl,by simp⟩ (fun g o _=>Below.heap_alloc w _ g o) (hv:= .slice (some ⟨w.heap.size,0,none⟩) n n) (fp:=[w.heap.size]) (E:=E) (e:=e) (xs:=List.replicate n e.zero) ?_ (by simp) (by simp) hn)
 refine .inr ⟨w.heap.size,n,_,[],rfl,by simp,heap_alloc_new w _,by simp,by unfold maxLen;omega,size_madeCells _ _,?_⟩
 have f:=QkN e.zeros n (by rw[c];exact WY e)
 rw[c,← m] at f
 rw[f,aQ,aJ (by simp[c])]
 exact OwnL.zeros e _ n
def OwnL.parts {e:Ty}{w:World}:∀{xs:List e.Den} {fp:List Nat} {cs:List Value} {i:Nat} {x:e.Den},OwnL (Own e w) fp cs xs→xs[i]? =some x→
 ∃k q l j p o,fp=k++(q++l)∧cs=j++(p++o)∧j.length=i*e.wd∧Own e w q p x∧
  ∀w' b a y,(∀g,g∈k∨g∈l→w'.heap[g]? =w.heap[g]?)→Own e w' b a y→OwnL (Own e w') (k++(b++l)) (j++(a++o)) (xs.set i y)
 | [],_,_,_,_,_,h=>by simp at h
 | x0::xs,_,_,i,x,⟨f1,f2,c1,c2,h1,h2,h3,h4⟩,hx=>by
  cases i with
  | zero=>
   simp at hx
   subst hx
   refine ⟨[],f1,f2,[],c1,c2,h1,h2,by simp,h3,fun w' b a y r n=>⟨b,f2,a,c2,rfl,rfl,n,h4.mono fun f c x t n=>n.keep fun g m=>r g (.inr (t g m))⟩⟩
  | succ i=>
   obtain ⟨k,q,l,j,p,o,u,v,z,B,C⟩:=OwnL.parts h4 (by simpa using hx)
   refine ⟨f1++k,q,l,c1++j,p,o,by rw[h1,u,aM],by rw[h2,v,aM],by rw[ai,h3.len,z,cw];omega,B,fun w' b a y r n=> ?_⟩
   exact ⟨f1,_,c1,_,by rw[aM],by rw[aM],h3.keep fun g m=>r g (.inl (aU _ m)),C w' b a y (fun g m=>r g (m.imp (bd _) id)) n⟩
def Qda {gh:Gh}{a:Act}{w:World}(r:Rg A s gh a w){q i:Nat}{E:TypeId}{e:Ty}{xs:List e.Den}{z:e.Den}(G:s.tab.ent q=some (.arr E e xs))(p:xs[i]? =some z){g n c:Nat}(H:gh.h q= .slice (some ⟨g,0,none⟩) n c):
 ∃cur l k,gh.f q=g::l∧w.heap[g]? =some (.cells cur E (0,0))∧xs.length*e.wd≤cur.size∧Rep e w k z∧(∀j u,k[j]? =some u→w.cell? ⟨g,i*e.wd+j,none⟩=some u):=by
 have F:Own (.sl E e) w (gh.f q) [gh.h q] xs:=r.cx.en q _ G
 rcases F with ⟨_,_,h⟩|⟨b,t,cur,fps,v,m,o,B,L,C,D⟩
 ·subst h;simp at p
 ·rw[H] at m
  simp only[aN,Value.slice.injEq,br,Addr.mk.injEq,and_true] at m
  obtain ⟨rfl,_,_⟩:=m
  obtain ⟨f,k,J,_,K⟩:=D.get i z p
  refine ⟨cur,fps,k,v,o,by rw[C];exact cD _ B,J.rep,fun j u I=> ?_⟩
  have:=K j u I
  rw[bf] at this
  split at this
  ·simp only[World.cell?,o]
   simpa using this
  ·cases this
def ZE {q i j n:Nat}{E:TypeId}{e t:Ty}{xs:List e.Den}{z:e.Den}{h:t.Den}(G:Evl A s x (.ept q e.wd i j))(f:s.tab.ent q=some (.arr E e xs))(H:xs[i]? =some z)(F:e.flat=true)(C:tsh P T=some (false,n))
 (hl:(leaves e z)[j]? =some (.dat t h)) (hn:Nat.blt d A.n=true):Does A P ⟨some d,.load T x,ty,pos,af,g⟩ s (s.put d (lf (.dat t h))):=
 Qk rfl hn fun b a w r=>by
  obtain ⟨g,m,c,o,p⟩:=G b a w r ⟨_,f⟩
  obtain ⟨k,l,K,L,M,N,I,J⟩:=Qda r f H o
  obtain ⟨v,u,B⟩:=(Rd.leaves (al:=s.tab.al) (gh:=b) (w:=w) (I.rd0 F)).nth hl
  refine ⟨v,?_,_,rfl,B⟩
  have D:=J j v u
  simp only[execOp,p,Instr.loadAt,Instr.sureAddr,aw,be,aF,Yl C _ v D]
theorem UO {q i j n:Nat}{E:TypeId}{e:Ty}{xs:List e.Den}{z:e.Den}(H:Evl A s x (.ept q e.wd i j))(k:s.tab.ent q=some (.arr E e xs))(I:xs[i]? =some z)(D:e.flat=true)(C:tsh P T=some (true,n))
 (hl:Nat.ble (j+n) e.wd=true) (hn:Nat.blt d A.n=true):Does A P ⟨some d,.load T x,ty,pos,af,g⟩ s (s.put d (ag (((leaves e z).drop j).take n))):=
 Qk rfl hn fun b a w r=>by
  obtain ⟨g,m,c,t,v⟩:=H b a w r ⟨_,k⟩
  obtain ⟨o,p,h,L,M,N,l,O⟩:=Qda r k I t
  have B:=((Rd.leaves (al:=s.tab.al) (gh:=b) (w:=w) (l.rd0 D)).drop j).take n
  have F:=aD hl
  have f:=l.len
  refine ⟨.agg ((h.drop j).take n).toArray,?_,_,rfl,B⟩
  ·have G:=Wl (w:=w) C g (i*e.wd+j) ((h.drop j).take n) (by rw[au,aX,f];omega) fun K u J=>by
    grind
   simp only[execOp,v,Instr.loadAt,Instr.sureAddr,aw,be,aF,G]
def HL {e:Ty}{w:World}:∀{fp:List Nat} {cs:List Value} {x:e.Den},e.flat=true→Own e w fp cs x→fp=[]:=by
 induction e with
 | int=>intro fp cs x _ h;exact h.1
 | bool=>intro fp cs x _ h;exact h.1
 | str=>intro fp cs x _ h;exact h.1
 | u8=>intro fp cs x _ h;exact h.1
 | vl=>intro fp cs x _ h;exact h.1
 | sl E e q=>intro fp cs x c;cases c
 | pr a b f i=>
  intro fp cs x c h
  obtain ⟨n,o,l,r,j,p,k,m⟩:=h
  have c:(a.flat&&b.flat)=true:=c
  rw[aH] at c
  rw[j,f c.1 k,i c.2 m]
  rfl
def QO {q i j:Nat}{E:TypeId}{e:Ty}{xs:List e.Den}{z z':e.Den}{ls:List LV}{b:Bool}(hx:Evl A s x (.ept q e.wd i j))(G:s.tab.ent q=some (.arr E e xs))(Y:xs[i]? =some z)(S:e.flat=true)
 (hy:Ev A s y (b,ls)) (hk:QH s.tab ls=true) (hT:tsh P T=some (b,ls.length)) (hl:Nat.ble (j+ls.length) e.wd=true) (hs:leaves e z'=splice (leaves e z) j ls):
 Does A P ⟨none,.store T x y,ty,pos,af,g⟩ s ⟨s.tm,(q,some (.arr E e (xs.set i z')))::s.tab⟩:=fun a w K Q r hK=>by
 obtain ⟨D,r⟩:=r
 obtain ⟨g,m,c,J,h2⟩:=hx D a w r ⟨_,G⟩
 have hO:Own (.sl E e) w (D.f q) [D.h q] xs:=r.cx.en q _ G
 rcases hO with ⟨_,_,h⟩|⟨p,a2,t,fps,p2,p3,p4,p5,p6,p7,p8⟩
 ·subst h;simp at Y
 rw[J] at p3
 simp only[aN,Value.slice.injEq,br,Addr.mk.injEq,and_true] at p3
 obtain ⟨rfl,rfl,rfl⟩:=p3
 have hv:=hy D a w r
 obtain ⟨k,h7,M⟩:=CmR.cells hv fun hb=>by
  subst hb
  obtain ⟨l,rfl,J⟩:=hv
  simp only[QH,cY] at hk
  obtain ⟨h3,h4⟩:=Vf hk
  exact J.oneCell h4 h3 fun q ⟨e,G⟩=>(r.cx.en q e G).oneCell
 have h9:k.length=ls.length:=M.len
 have a4:=aD hl
 have H:=(ae.1 Y).1
 obtain ⟨fa,fi,fb,v,n,u,k1,k2,Z,k4,k5⟩:=OwnL.parts p8 Y
 have a3:=k4.len
 have U:=HL S k4
 subst U
 have a1:i*e.wd+e.wd≤xs.length*e.wd:=by
  calc i*e.wd+e.wd=(i+1)*e.wd:=by rw[cw,dq]
   _≤xs.length*e.wd:=cD _ H
 have a0:xs.length*e.wd≤t.size:=by rw[p7];exact cD _ p5
 have L:=VX (P:=P) (w:=w) (b:=g) (o:=i*e.wd+j) hT (a.eval y) k h7 h9 p4 (by omega) (M.oneCells r.cx hk)
 have e0:(execOp a.eval ⟨none,.store T x y,ty,pos,af,‹_›⟩).run P w= .ok .skip (Wx w g (i*e.wd+j) k):=by
  simp only[execOp,h2,Instr.storeAt,Instr.sureAddr,aw,be,aF,L]
 unfold Oper.wp
 rw[e0,Oper.upon_skip]
 obtain ⟨B,m1,m2,m3⟩:=Uw g E (0,0) k w (i*e.wd+j) t p4 (by omega)
 have C:∀p,p≠g→(Wx w g (i*e.wd+j) k).heap[p]? =w.heap[p]? :=fun p h=>Y9 _ _ _ _ _ h
 have hN:(g::fps).Nodup:=by rw[← p2];exact r.cx.nd q ⟨_,G⟩
 have W:∀p∈fps,p≠g:=fun p F h=>(bP.1 hN).1 (h▸F)
 have R:Own e (Wx w g (i*e.wd+j) k) [] (n.take j++k++n.drop (j+k.length)) z':=by
  have q1:LVs s.tab.al D w (leaves e z) n:=Rd.leaves (k4.rep.rd0 S)
  have q2:=q1.splice M (off:=j)
  rw[← hs] at q2
  exact (LVs.rd q2).rep.own0 S
 have I:=k5 _ [] _ z' (fun p F=>C p (W p (by rw[k1];rcases F with F|F <;> simp[F]))) R
 refine hK _ _ ⟨D,r.mod G (KR _ _ _ _) (fun p _ V=>C p fun h=>V (by rw[p2,h];simp)) (.inr ⟨g,c,B,fps,p2,?_,m1,by simpa using p5,p6,by rw[m2];exact p7,?_⟩)⟩
 ·rw[J];simp
 ·rw[ax]
  have e2:B.toList.take (xs.length*e.wd)=v++((n.take j++k++n.drop (j+k.length))++u):=by
   rw[m3]
   have e3:t.toList=v++(n++u)++t.toList.drop (xs.length*e.wd):=by rw[← k2,bB]
   have O:(v++(n++u)).length=xs.length*e.wd:=by rw[← k2];simp;omega
   have N:u.length=xs.length*e.wd - (i*e.wd+e.wd):=by simp only[ai] at O;omega
   generalize t.toList.drop (xs.length*e.wd)=rest at e3
   rw[e3]
   have t1:(v++(n++u)++rest).take (i*e.wd+j)=v++n.take j:=by
    rw[aM,aM,← Z,List.take_length_add_append,List.take_append_of_le_length (by omega)]
   have t2:(v++(n++u)++rest).drop (i*e.wd+j+k.length)=n.drop (j+k.length)++(u++rest):=by
    rw[aM,aM,← Z,bX,List.drop_length_add_append,List.drop_append_of_le_length (by omega)]
   rw[t1,t2]
   have X:(v++((n.take j++k++n.drop (j+k.length))++u)).length=xs.length*e.wd:=by
    simp only[ai,au,aX,Z,N]
    omega
   rw[show v++List.take j n++k++(List.drop (j+k.length) n++(u++rest))=(v++((n.take j++k++n.drop (j+k.length))++u))++rest by simp,← X,dF]
  rw[e2,k1]
  exact I
def opI (A:Amb)(s:St):Option Operand→Option Int→Prop
 | none,none=>True
 | some x,some n=>Evl A s x (dI n)
 | _,_=>False
def opI.ev {o:Option Operand}{n:Option Int}(h:opI A s o n){gh:Gh}{a:Act}{w:World}(r:Rg A s gh a w):o.map a.eval=n.map (Value.int .i64):=by
 cases o <;> cases n <;> first|rfl|exact h.elim|(simp only[Option.map_some];rw[Evl.i h r])
def VI {b:Bool}{len a:Nat}{lo hi:Option Int}{w:World}(h0:0≤lo.getD 0)(c:lo.getD 0≤hi.getD len)(f:hi.getD len≤len)(i:len≤a):
 (Instr.sliceBounds b len a (lo.map (Value.int .i64)) (hi.map (Value.int .i64)) none).run P w= .ok ((lo.getD 0).toNat,(hi.getD len).toNat,a) w:=by
 cases lo <;> cases hi <;> simp only[aq,ap] at h0 c f <;> simp only[Instr.sliceBounds,dR,Option.map_some,Instr.sliceBound,asIntOf,aw,be,aF,Go.Sem.run_ite]
 ·simp
 ·rw[if_pos (by omega)];simp
 ·rw[if_pos (by omega)];simp
 ·rename_i l h
  rw[if_pos (by omega)]
  simp only[aF,be,aw,Go.Sem.run_ite]
  rw[if_pos (by omega)]
  simp
def QT {m:BA}{lo hi:Option Operand}{l h:Option Int}(f:Evl A s x (dS m))(c:opI A s lo l)(b:opI A s hi h)(j:P.underlying T=some .string)(k:Nat.blt d A.n=true)
 (h0:0≤l.getD 0) (h1:l.getD 0≤h.getD m.size) (h2:h.getD m.size≤m.size):Does A P ⟨some d,.slice T x lo hi none,ty,pos,af,g⟩ s (s.put d (lf (dS (m.extract (l.getD 0).toNat (h.getD m.size).toNat)))):=
 Qk rfl k fun i a w r=>by
  refine ⟨_,?_,_,rfl,Qeu (x:=m.extract (l.getD 0).toNat (h.getD m.size).toNat) ?_⟩
  ·simp only[execOp,f.st r,c.ev r,b.ev r,dR,Instr.sliceAt,Instr.slice,aw,run_underlying j,aF]
   simp[VI h0 h1 h2 (aP _)]
  ·have:=(LVR.str (f i a w r)).2
   simp only[aR]
   omega
def Rep.part {E:TypeId}{e:Ty}{w:World}{B:Option Addr}{c:Nat}{xs:List e.Den}(h:Rep (.sl E e) w [.slice B xs.length c] xs){lo hi:Nat}(z:lo≤hi)(C:hi≤xs.length):
 Rep (.sl E e) w [.slice (if c=lo then B else B.map (·.add (lo*e.wd))) (hi - lo) (c - lo)] ((xs.take hi).drop lo):=by
 obtain ⟨t,v,k,F,G,n⟩:=h
 simp only[aN,Value.slice.injEq,and_true,true_and] at k
 obtain ⟨rfl,rfl⟩:=k
 have m:((xs.take hi).drop lo).length=hi - lo:=by simp;omega
 refine ⟨_,c - lo,by rw[m],by omega,by omega,fun D=> ?_⟩
 obtain ⟨b,o,rfl,p⟩:=n (by omega)
 rw[if_neg (by omega)]
 refine ⟨b,o+lo*e.wd,by simp[Addr.add_lit],fun i x a=> ?_⟩
 rw[dy,bf] at a
 split at a
 ·obtain ⟨f,q,r⟩:=p _ x a
  refine ⟨f,q,fun j u l=> ?_⟩
  rw[← r j u l]
  congr 2
  rw[cw];omega
 ·cases a
def Ws {E:TypeId}{e:Ty}{xs:List e.Den}{lo hi:Option Operand}{l h:Option Int}{k:Bool}(v:Evl A s x (.dat (.sl E e) xs))(i:opI A s lo l)(f:opI A s hi h){E':TypeId}(q:P.underlying T=some (.slice E'))(o:tsh P E'=some (k,e.wd))(t:Nat.blt d A.n=true)
 (h0:0≤l.getD 0) (h1:l.getD 0≤h.getD xs.length) (h2:h.getD xs.length≤xs.length):Does A P ⟨some d,.slice T x lo hi none,ty,pos,af,g⟩ s (s.put d (lf (.dat (.sl E e) ((xs.take (h.getD xs.length).toNat).drop (l.getD 0).toNat)))):=
 Qk rfl t fun m a w r=>by
  obtain ⟨C,p,b⟩:=v m a w r
  obtain ⟨B,c,j,z,D⟩:=b.slv
  rw[j] at b
  have u:=b.part (lo:=(l.getD 0).toNat) (hi:=(h.getD xs.length).toNat) (by omega) (by omega)
  refine ⟨_,?_,_,rfl,C,p,u⟩
  simp only[execOp,j,i.ev r,f.ev r,dR,Instr.sliceAt,Instr.slice,aw,run_underlying q,aF,VI h0 h1 h2 z,YD o]
  simp
end
end Go.Proofs.YtjfpbcmfbnnooaaGreat
