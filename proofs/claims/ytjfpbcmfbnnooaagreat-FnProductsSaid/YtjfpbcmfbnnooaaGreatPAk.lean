import Derived.Test.YtjfpbcmfbnnooaaGreatPAi
set_option linter.all false
namespace Go.Proofs.YtjfpbcmfbnnooaaGreat
open Go.RowKit Tryz
def sg (ρ:List (Nat×Nat))(k n q:Nat):Nat:=match Nat.blt q k with
 | true=>rn ρ q
 | false=>n+q
def QkG {σ:Nat→Nat}{T i:Tab}{r:Nat}{e:Ent}(h:Tab.ent (T.ren σ++i) r=some e):(∃q e',T.ent q=some e'∧r=σ q∧e=e'.ren σ)∨(i.ent r=some e∧∀q,T.al q→σ q≠r):=by
 induction T with
 | nil=>exact .inr ⟨h,fun q a=>absurd a (ZO q)⟩
 | cons x T t=>
  obtain ⟨j,o⟩:=x
  have h:Tab.ent ((σ j,o.map (Ent.ren σ))::(Tab.ren σ T++i)) r=some e:=h
  rw[Qi] at h
  by_cases b:r=σ j
  ·rw[if_pos b] at h
   obtain ⟨e',rfl,rfl⟩:=cq.1 h
   exact .inl ⟨j,e',by rw[Qi,if_pos rfl],b,rfl⟩
  ·rw[if_neg b] at h
   rcases t h with ⟨q,e',l,c,p⟩|⟨l,c⟩
   ·have a:q≠j:=fun e=>b (e▸c)
    exact .inl ⟨q,e',by rw[Qi,if_neg a];exact l,c,p⟩
   ·refine .inr ⟨l,fun q a=> ?_⟩
    by_cases m:q=j
    ·rw[m];exact fun e=>b e.symm
    ·obtain ⟨n,a⟩:=a
     rw[Qi,if_neg m] at a
     exact c q ⟨n,a⟩
theorem QzX {σ:Nat→Nat}{T:Tab}{q:Nat}(h:T.al q):σ q∈T.map fun p=>σ p.1:=by
 obtain ⟨e,h⟩:=h
 refine aW.2 ?_
 induction T with
 | nil=>cases h
 | cons x T b=>
  obtain ⟨j,o⟩:=x
  rw[Qi] at h
  by_cases a:q=j
  ·exact ⟨(j,o),aA ..,by rw[a]⟩
  ·grind
@[reducible] def St.backP (s:St) (d:Nat) (σ:Nat→Nat) (used:List Nat) (pv:PV) (T:Tab):St:=⟨(d,pv.ren σ)::s.tm,T.ren σ++(WM used++s.tab)⟩
section
variable {A:Amb}{P:Program}{s:St}{f:FuncId}{xs:List Operand}{tys:Array TypeId}{args:List (Bool×List LV)}{d:Nat}{ty:TypeId}{pos:String}{af:Array Edge}{g:Option (Nat×Bool)}{pv:PV}{T T':Tab}{k:Nat}
theorem Qkm (n:Nat)(ρ:List (Nat×Nat)){gh gh':Gh}{a:Act}{w w':World}{v:Value}(r:Rg A s gh a w)(hT:HasE s ρ T)(hi:WZ (T.map fun p=>rn ρ p.1)=true)
 (hcl:YS pv T'=true) (hi':WZ (T'.map fun p=>sg ρ k n p.1)=true) (hk:∀q,T'.al q→q<k→T.al q) (hfr:∀q,T'.al q→k≤q→Fresh s (n+q)) (hk0:A.k0≤n) (hn:Nat.blt d A.n=true)
 (cx:Cx T' gh' w') (hp:PVR T'.al gh' w' pv v) (fr:Fr T T' (gh.via (rn ρ)) gh' w w') (hkk:∀q,q<k→T'.al q→gh'.h q=(gh.via (rn ρ)).h q):
 R A (s.backP d (sg ρ k n) (T.map fun p=>rn ρ p.1) pv T') (a.put (some d) v) w':=by
 have u:∀q,T.al q→s.tab.al (rn ρ q):=fun q ⟨e,h⟩=>⟨_,hT.get h⟩
 obtain ⟨c1,c2⟩:=Qc3 hcl
 have hσ:∀q,T'.al q→(q<k∧T.al q∧sg ρ k n q=rn ρ q)∨(Fresh s (sg ρ k n q)∧A.k0≤sg ρ k n q):=fun q x=>by
  rcases Nat.lt_or_ge q k with h|h
  ·exact .inl ⟨h,hk q x h,by simp only[sg];rw[show Nat.blt q k=true from cK h]⟩
  ·have e:sg ρ k n q=n+q:=by
    simp only[sg];rw[show Nat.blt q k=false from by
     cases hb:Nat.blt q k with
     | false=>rfl
     | true=>have:=aD hb;omega]
   rw[e];exact .inr ⟨hfr q x h,by omega⟩
 have Z:∀q j,T'.al q→T'.al j→sg ρ k n q=sg ρ k n j→q=j:=fun q j m z h=>Ho hi' m z h
 generalize hs:sg ρ k n=σ at hσ Z hi' ⊢
 classical
 let G:Gh:=⟨fun b=>if h:∃q,T'.al q∧σ q=b then gh'.h h.choose else gh.h b,fun b=>if h:∃q,T'.al q∧σ q=b then gh'.f h.choose else gh.f b,fun g=>gh.N g∨gh'.N g⟩
 have C:∀q,T'.al q→G.h (σ q)=gh'.h q∧G.f (σ q)=gh'.f q:=fun q x=>by
  have a1:∃j,T'.al j∧σ j=σ q:=⟨q,x,rfl⟩
  grind
 have o:∀b,(∀q,T'.al q→σ q≠b)→G.h b=gh.h b∧G.f b=gh.f b:=fun b h=>by
  grind
 let U:Tab:=Tab.ren σ T'++(WM (T.map fun p=>rn ρ p.1)++s.tab)
 have Y:∀q,T.al q→rn ρ q∈T.map fun p=>rn ρ p.1:=fun q x=>QzX x
 have hU:∀b e,U.ent b=some e→(∃q H,T'.ent q=some H∧b=σ q∧e=H.ren σ)∨(s.tab.ent b=some e∧(∀q,T'.al q→σ q≠b)∧∀q,T.al q→rn ρ q≠b):=fun b e h=>by
  rcases QkG h with m|⟨m,z⟩
  ·exact .inl m
  ·rw[XR] at m
   grind
 have y:∀b,U.al b→(∃q,T'.al q∧b=σ q)∨(s.tab.al b∧(∀q,T'.al q→σ q≠b)∧∀q,T.al q→rn ρ q≠b):=fun b ⟨e,h⟩=>by
  rcases hU b e h with ⟨q,H,m,z,_⟩|⟨m,z,W⟩
  ·exact .inl ⟨q,⟨H,m⟩,z⟩
  ·exact .inr ⟨⟨e,m⟩,z,W⟩
 have a0:∀b,s.tab.al b→(∀q,T.al q→rn ρ q≠b)→∀g∈gh.f b,w'.heap[g]? =w.heap[g]? :=fun b m z g c=>
  fr.kp g (r.cx.lt m g c) fun q x t=>r.cx.dj _ _ m (u q x) (fun e=>z q x e.symm) g c t
 have Q:∀g,gh.N g→w'.heap[g]? =w.heap[g]? :=fun g i=>fr.kp g (r.cx.nl g i) fun q x c=>r.cx.no _ (u q x) g c i
 have D:∀q,T'.al q→∀g∈gh'.f q,w.heap.size≤g∨∃j,T.al j∧g∈gh.f (rn ρ j):=fr.ox
 have M:Rg A ⟨s.tm,U⟩ G a w':=by
  refine r.step (gh':=G) ⟨fun b e h=> ?_,fun V M m z O g c t=> ?_,fun b h=> ?_,fun b h g c i=> ?_,fun g i=> ?_⟩ (fun b h=> ?_) (fun g i=>⟨.inl i,Q g i⟩) fr.gw
   (fun g c h=>fr.kp g c fun q x=>h _ (u q x)) (fun g i=> ?_) fun b h g c=> ?_
  ·rcases hU b e h with ⟨q,H,m,rfl,rfl⟩|⟨m,z,W⟩
   ·refine EntR.ren.2 ((cx.en q H m).mono (fun j K _=> ?_) (fun g c=>⟨.inr c,rfl⟩) (C q ⟨H,m⟩).1 (C q ⟨H,m⟩).2 fun _ _=>rfl)
    have I:=c2 q H m j K
    exact ⟨I,(C j I).1⟩
   ·refine (r.cx.en b e m).mono (fun j K hu=> ?_) (fun g i=>⟨.inl i,Q g i⟩) (o b z).1 (o b z).2 fun g c=>a0 b ⟨e,m⟩ W g c
    rcases y j hu with ⟨q,I,rfl⟩|⟨I,h5,_⟩
    ·rcases hσ q I with ⟨X,h7,h8⟩|⟨X,_⟩
     ·rw[(C q I).1,hkk q X I]
      exact ⟨h8▸u q h7,by rw[h8]⟩
     ·exact absurd K (X.en b e m)
    ·exact ⟨I,(o j h5).1⟩
  ·rcases y V m with ⟨B,l,rfl⟩|⟨l,F,L⟩ <;> rcases y M z with ⟨S,J,rfl⟩|⟨J,l2,l3⟩
   ·rw[(C B l).2] at c
    rw[(C S J).2] at t
    exact cx.dj B S l J (fun e=>O (e▸rfl)) g c t
   ·rw[(C B l).2] at c
    rw[(o M l2).2] at t
    rcases D B l g c with h|⟨j,h,E⟩
    ·have:=r.cx.lt J g t;omega
    ·exact r.cx.dj _ _ (u j h) J (l3 j h) g E t
   ·rw[(o V F).2] at c
    rw[(C S J).2] at t
    rcases D S J g t with h|⟨j,h,E⟩
    ·have:=r.cx.lt l g c;omega
    ·exact r.cx.dj _ _ (u j h) l (L j h) g E c
   ·rw[(o V F).2] at c
    rw[(o M l2).2] at t
    exact r.cx.dj V M l J O g c t
  ·rcases y b h with ⟨B,l,rfl⟩|⟨l,F,L⟩
   ·rw[(C B l).2];exact cx.nd B l
   ·rw[(o b F).2];exact r.cx.nd b l
  ·rcases y b h with ⟨B,l,rfl⟩|⟨l,F,L⟩
   ·rw[(C B l).2] at c
    rcases i with i|i
    ·rcases D B l g c with h|⟨j,h,E⟩
     ·have:=r.cx.nl g i;omega
     ·exact r.cx.no _ (u j h) g E i
    ·exact cx.no B l g c i
   ·rw[(o b F).2] at c
    rcases i with i|i
    ·exact r.cx.no b l g c i
    ·rcases fr.nn g i with h|h|⟨j,h,E⟩
     ·exact r.cx.no b l g c h
     ·have:=r.cx.lt l g c;omega
     ·exact r.cx.dj _ _ (u j h) l (L j h) g E c
  ·rcases i with i|i
   ·exact ba (r.cx.nl g i) fr.gw.size
   ·exact cx.nl g i
  ·rcases y b h with ⟨B,l,rfl⟩|⟨l,F,L⟩
   ·grind
   ·exact .inl ⟨l,(o b F).1,fun _=>rfl⟩
  ·rcases i with i|i
   ·exact .inl i
   ·rcases fr.nn g i with h|h|⟨j,h,E⟩
    ·exact .inl h
    ·exact .inr (.inl h)
    ·exact .inr (.inr ⟨_,u j h,E,fun hl=>r.xn g hl (r.ox _ (u j h) g E hl)⟩)
  ·rcases y b h with ⟨B,l,rfl⟩|⟨l,F,L⟩
   ·grind
   ·rw[(o b F).2] at c
    exact .inr ⟨b,l,c⟩
 refine ⟨G,?_⟩
 exact M.put (aD hn) (pv:=pv.ren σ)<|PVR.ren.2 (hp.mono (fun q x _=>⟨c1 q x,(C q (c1 q x)).1⟩) fun g c=>⟨.inr c,rfl⟩)
def Qe8 {o:Oper}{vals:Gh→Act→List Value}(n:Nat)(ρ:List (Nat×Nat))(B:o.dst=some d)(G:FC P f args T k (Is pv T'))
 (hup:∀gh a w K Q,Rg A s gh a w→Calls P f (vals gh a).toArray w (fun e w'=>match e with | .returned v=>K (a.put o.dst v) w'|_=>False)→o.wp P a w K Q)
 (ha:∀gh a w,Rg A s gh a w→CmsR s.tab.al gh w (args.map fun c=>(c.1,c.2.map (LV.ren (rn ρ)))) (vals gh a)) (hT:HasE s ρ T) (hi:WZ (T.map fun p=>rn ρ p.1)=true)
 (hcl:YS pv T'=true) (hi':WZ (T'.map fun p=>sg ρ k n p.1)=true) (hk:∀q,T'.al q→q<k→T.al q) (hfr:∀q,T'.al q→k≤q→Fresh s (n+q)) (hk0:A.k0≤n) (hn:Nat.blt d A.n=true):
 Does A P o s (s.backP d (sg ρ k n) (T.map fun p=>rn ρ p.1) pv T'):=fun a w K Q r F=>by
 obtain ⟨gh,r⟩:=r
 have b:∀q,T.al q→s.tab.al (rn ρ q):=fun q ⟨e,h⟩=>⟨_,hT.get h⟩
 have j:∀q i,T.al q→T.al i→rn ρ q=rn ρ i→q=i:=fun q i l m h=>Ho hi l m h
 have t:Cx T (gh.via (rn ρ)) w:=⟨fun q e h=>(EntR.ren.1 (r.cx.en _ _ (hT.get h))).mono (fun M _ E=>⟨b M E,rfl⟩) (fun g x=>⟨x,rfl⟩) rfl rfl fun _ _=>rfl,
  fun q i l m z=>r.cx.dj _ _ (b q l) (b i m) fun h=>z (j q i l m h),fun q h=>r.cx.nd _ (b q h),fun q h=>r.cx.no _ (b q h),r.cx.nl⟩
 have J:=(CmsR.ren.1 (ha gh a w r)).mono (al':=T.al) (gh':=gh.via (rn ρ)) (w':=w) (fun q _ h=>⟨b q h,rfl⟩) fun g x=>⟨x,rfl⟩
 refine hup gh a w K Q r (Calls.mono (G _ w _ t J) fun e w' H=> ?_)
 obtain ⟨v,L,N,u,rfl,⟨rfl,rfl⟩,C,I,D,y⟩:=H
 refine F _ _ ?_
 rw[B]
 exact Qkm n ρ r hT hi hcl hi' hk hfr hk0 hn C I D y
def FrK (s:St)(n k:Nat):List Nat→Prop
 | []=>True
 | q::l=>(match Nat.blt q k with
  | true=>True
  | false=>Fresh s (n+q))∧FrK s n k l
def FrK.get {n k:Nat}{l:List Nat}(h:FrK s n k l):∀q∈l,k≤q→Fresh s (n+q):=by
 induction l with
 | nil=>simp
 | cons q l i=>
  intro r a e
  rcases aK.1 a with rfl|a
  ·have b:=h.1
   rw[show Nat.blt r k=false from by
    cases c:Nat.blt r k with
    | false=>rfl
    | true=>have:=aD c;omega] at b
   exact b
  ·exact i h.2 r a e
def QkV (T T':Tab)(k:Nat):Bool:=(ZU T').all fun q=> !(Nat.blt q k)||(T.ent q).isSome
def Qkc (n:Nat)(ρ:List (Nat×Nat))(j:FC P f args T k (Is pv T'))(b:Qe P f)(i:EvL A s xs (args.map fun c=>(c.1,c.2.map (LV.ren (rn ρ)))))(e:HasE s ρ T)(hi:WZ (T.map fun p=>rn ρ p.1)=true)
 (hcl:YS pv T'=true) (hi':WZ (T'.map fun p=>sg ρ k n p.1)=true) (hk:∀q,T'.al q→q<k→T.al q) (hfr:∀q,T'.al q→k≤q→Fresh s (n+q)) (hk0:A.k0≤n) (hn:Nat.blt d A.n=true):
 Does A P ⟨some d,.call ⟨.value (.func f),xs.toArray,tys⟩,ty,pos,af,g⟩ s (s.backP d (sg ρ k n) (T.map fun p=>rn ρ p.1) pv T'):=
 Qe8 (vals:=fun _ a=>xs.map a.eval) n ρ rfl j (fun _ _ _ _ _ _ h=>Qau b rfl h) (fun _ _ _ r=>i.cms r) e hi hcl hi' hk hfr hk0 hn
def Qoo {P:Program}{o:Oper}{f:FuncId}{x0:Operand}{xs:List Operand}{tys:Array TypeId}{a:Act}{w:World}{K:Act→World→Prop}{Q:Exit→Act→World→Prop}{cs:List Value}(c:Qe P f)(i:o.op= .call ⟨.value x0,xs.toArray,tys⟩)(j:a.eval x0= .func (.func f) #[] cs.toArray)
 (h:Calls P f (xs.map a.eval++cs).toArray w fun e w'=>match e with | .returned v=>K (a.put o.dst v) w'|_=>False):o.wp P a w K Q:=by
 have e:(execOp a.eval o).run P w= .ok (.enter f (xs.map a.eval++cs).toArray) w:=by
  unfold execOp
  simp only[i,resolve,j,Deferred.ofValue,aw]
  have:=c (xs.map a.eval++cs).toArray w
  simpa [invoke] using this
 unfold Oper.wp
 rw[e,Oper.upon_enter]
 refine Calls.mono h fun e w' b=> ?_
 cases e <;> first|exact b|exact b.elim
def Qtq (T:Tab)(q:Nat):Bool:=match T.ent q with
 | some (.box _ _)=>true
 | _=>false
def QiM {gh:Gh}{w:World}{T:Tab}(c:Cx T gh w){q:Nat}(h:Qtq T q=true):T.al q∧∃g,gh.h q= .pointer (some ⟨g,0,none⟩):=by
 unfold Qtq at h
 cases a:T.ent q with
 | none=>rw[a] at h;cases h
 | some e=>
  rw[a] at h
  cases e with
  | box E j=>obtain ⟨g,b,i,_⟩:=c.en q _ a;exact ⟨⟨_,a⟩,g,i⟩
  | _=>cases h
def EvCaps (A:Amb)(s:St):List Operand→List Nat→Prop
 | [],qs=>qs=[]
 | x::xs,qs=>∃q qs',qs=q::qs'∧Evl A s x (.ptr q 0)∧Qtq s.tab q=true∧EvCaps A s xs qs'
def EvCaps.vals {xs:List Operand}{b:List Nat}(h:EvCaps A s xs b){gh:Gh}{a:Act}{w:World}(r:Rg A s gh a w):xs.map a.eval=b.map gh.h:=by
 induction xs generalizing b with
 | nil=>rw[show b=[] from h];rfl
 | cons x xs n=>
  obtain ⟨q,o,rfl,c,e,i⟩:=h
  obtain ⟨j,g,t⟩:=QiM r.cx e
  obtain ⟨p,l,m⟩:=c gh a w r j
  rw[bU,bU,n i,m,l]
def Ys {cs:List Operand}{b:List Nat}(e:EvCaps A s cs b)(i:Nat.blt d A.n=true):Does A P ⟨some d,.makeFunc (.func f) #[] cs.toArray,ty,pos,af,g⟩ s (s.put d (lf (.clo f b))):=
 Qk rfl i fun c a w r=>by
  refine ⟨.func (.func f) #[] (b.map c.h).toArray,?_,_,rfl,fun _=>rfl⟩
  simp only[execOp,Instr.makeFunc]
  simp[e.vals r]
def Y3 {x0:Operand}{args0:List (Bool×List LV)}{caps z:List Nat}(n:Nat)(ρ:List (Nat×Nat))(o:FC P f args T k (Is pv T'))(J:Qe P f)(h0:args=args0++caps.map fun q=>(false,[.ptr q 0]))(C:Evl A s x0 (.clo f z))(j:z=caps.map (rn ρ))(hb:(caps.all fun q=>Qtq s.tab (rn ρ q))=true)
 (ha:EvL A s xs (args0.map fun c=>(c.1,c.2.map (LV.ren (rn ρ))))) (hT:HasE s ρ T)
 (hB:(WZ (T.map fun p=>rn ρ p.1)&&YS pv T'&&WZ (T'.map fun p=>sg ρ k n p.1)&&QkV T T' k&&Nat.blt d A.n)=true) (hfr:FrK s n k (ZU T')) (hk0:A.k0≤n):
 Does A P ⟨some d,.call ⟨.value x0,xs.toArray,tys⟩,ty,pos,af,g⟩ s (s.backP d (sg ρ k n) (T.map fun p=>rn ρ p.1) pv T'):=by
 simp only[aH] at hB
 obtain ⟨⟨⟨⟨D,E⟩,F⟩,G⟩,H⟩:=hB
 subst h0 j
 have i:∀q∈caps,Qtq s.tab (rn ρ q)=true:=ao.1 hb
 refine Qe8 (vals:=fun l a=>xs.map a.eval++(caps.map (rn ρ)).map l.h) n ρ rfl o (fun l a w K Q r h=>Qoo J rfl (C l a w r fun q j=> ?_) h) (fun l a w r=> ?_) hT D E F (fun q ⟨e,j⟩ t=> ?_) (fun q ⟨e,j⟩ t=>hfr.get q (Zw j).1 t) hk0 H
 ·obtain ⟨y,b,rfl⟩:=aW.1 j
  exact (QiM r.cx (i y b)).1
 ·rw[aT]
  have b:=ha.cms r
  have I:CmsR s.tab.al l w ((caps.map fun q=>(false,[.ptr q 0])).map fun c:Bool×List LV=>(c.1,c.2.map (LV.ren (rn ρ)))) ((caps.map (rn ρ)).map l.h):=by
   clear b o hb C
   induction caps with
   | nil=>exact rfl
   | cons q z x=>
    obtain ⟨B,g,m⟩:=QiM r.cx (i q (aA ..))
    exact ⟨_,_,rfl,⟨_,rfl,fun _=>⟨g,m,m⟩⟩,x fun y u=>i y (az _ u)⟩
  clear o
  generalize (args0.map fun c=>(c.1,c.2.map (LV.ren (rn ρ))))=L at b ⊢
  generalize xs.map a.eval=vs at b ⊢
  induction L generalizing vs with
  | nil=>rw[show vs=[] from b];exact I
  | cons c N x=>obtain ⟨v,M,rfl,B,m⟩:=b;exact ⟨v,_,rfl,B,x _ m⟩
 ·have:=ao.1 G q (Zw j).1
  rw[show Nat.blt q k=true from cK t] at this
  exact bq.1 (by simpa using this)
def Qe7 (n:Nat)(ρ:List (Nat×Nat))(u:FC P f args T k (Is pv T'))(o:Qe P f)(t:EvL A s xs (args.map fun c=>(c.1,c.2.map (LV.ren (rn ρ)))))(r:HasE s ρ T)
 (hB:(WZ (T.map fun p=>rn ρ p.1)&&YS pv T'&&WZ (T'.map fun p=>sg ρ k n p.1)&&QkV T T' k&&Nat.blt d A.n)=true) (hfr:FrK s n k (ZU T')) (hk0:A.k0≤n):
 Does A P ⟨some d,.call ⟨.value (.func f),xs.toArray,tys⟩,ty,pos,af,g⟩ s (s.backP d (sg ρ k n) (T.map fun p=>rn ρ p.1) pv T'):=by
 simp only[aH] at hB
 obtain ⟨⟨⟨⟨h,i⟩,j⟩,l⟩,m⟩:=hB
 refine Qkc n ρ u o t r h i j (fun q ⟨e,b⟩ a=> ?_) (fun q ⟨e,b⟩ a=>hfr.get q (Zw b).1 a) hk0 m
 have:=ao.1 l q (Zw b).1
 rw[show Nat.blt q k=true from cK a] at this
 exact bq.1 (by simpa using this)
def ThL (s:St):List LV→List LV→Prop
 | [],ls'=>ls'=[]
 | l::ls,ls'=>∃l' r,ls'=l'::r∧(l=l'∨∃q E e xs,l= .ref q∧s.tab.ent q=some (.arr E e xs)∧l'= .dat (.sl E e) xs)∧ThL s ls r
def LVs.th {gh:Gh}{a:Act}{w:World}(r:Rg A s gh a w){ls ls':List LV}{vs:List Value}(h:LVs s.tab.al gh w ls vs)(k:ThL s ls ls'):LVs (fun _=>False) ⟨gh.h,gh.f,fun g=>g<w.heap.size⟩ w ls' vs:=by
 induction ls generalizing ls' vs with
 | nil=>rw[show ls'=[] from k];exact h
 | cons l ls t=>
  obtain ⟨v,c,rfl,i,m⟩:=h
  obtain ⟨u,x,rfl,n,o⟩:=k
  refine ⟨v,c,rfl,?_,t m o⟩
  rcases n with rfl|⟨q,E,e,xs,rfl,h5,rfl⟩
  ·exact i.mono (fun _ _ h=>h.elim) fun g b=>⟨r.cx.nl g b,rfl⟩
  ·have p:v=gh.h q:=i ⟨_,h5⟩
   have j:Own (.sl E e) w (gh.f q) [gh.h q] xs:=r.cx.en q _ h5
   rw[p]
   exact j.rd fun g b=>Own.lt j g b
def Hd {x:Operand}{b:Bool}{ls ls':List LV}(h:Ev A s x (b,ls))(k:ThL s ls ls'):EvB A s x (b,ls'):=fun j a w r=>by
 have m:=h j a w r
 cases b with
 | true=>obtain ⟨o,p,c⟩:=m;exact ⟨o,p,c.th r k⟩
 | false=>
  obtain ⟨l,rfl,c⟩:=m
  have t:LVs s.tab.al j w [l] [a.eval x]:=⟨_,[],rfl,c,rfl⟩
  obtain ⟨i,y,rfl,q,e⟩:=k
  have e:y=[]:=e
  subst e
  obtain ⟨v,o,n,u,_⟩:=t.th r (ls':=[i]) ⟨i,[],rfl,q,rfl⟩
  simp only[aN] at n
  exact ⟨i,rfl,n.1▸u⟩
end
def szv (left:Int)(t:Nat):Int:=if left<t then -1 else left - t
def Qv3 (left:Int)(t:Nat):(left<t∧szv left t= -1)∨((t:Int)≤left∧szv left t=left - t):=by
 unfold szv
 split
 ·exact .inl ⟨by assumption,rfl⟩
 ·exact .inr ⟨by omega,rfl⟩
def QzW {w w':World}{l:Int}{t:Nat}{e:Ending}(h:SzPost w l t e w'):e= .returned (.int .i64 (szv l t))∧Nw w w':=by
 obtain ⟨c,rfl,a,b⟩:=h
 have d:=Qv3 l t
 unfold CutTo at a
 have:c=Go.Proofs.YtjfpbcmfbnnooaaGreat.szv l t:=by omega
 exact ⟨by rw[this],b⟩
def QsM {P:Program}{f:FuncId}{args:List (Bool×List LV)}{pv:PV}(h:∀(gh:Gh) (w:World) (vs:List Value),CmsR (Tab.al []) gh w args vs→Calls P f vs.toArray w fun e w'=>∃v,e= .returned v∧Nw w w'∧PVR (Tab.al []) gh w' pv v):FC P f args [] 0 (QJ pv):=fun gh w vs d j=>
 Calls.mono (h gh w vs j) fun e w' k=>by
  obtain ⟨v,rfl,b,i⟩:=k
  exact ⟨_,_,[],gh,rfl,⟨rfl,rfl⟩,VA ZO gh w' fun g a=>ba (d.nl g a) b.size,i,⟨b.grw,fun g a _=>Below.block b g a,fun g a=> .inl a,fun q c=>absurd c (ZO q)⟩,fun q c=>absurd c (by omega)⟩
section
variable {al:Nat→Prop}{gh:Gh}{w:World}{t:Ty}{x:t.Den}{cs:List (Bool×List LV)}{vs:List Value}
end
section
variable {P:Program}{f:FuncId}{t:Ty}{x:t.Den}
end
def Ty.sls:Ty→Nat
 | .int=>0
 | .bool=>0
 | .str=>0
 | .u8=>0
 | .vl=>0
 | .sl _ _=>1
 | .pr a b=>a.sls+b.sls
def oL:(t:Ty)→t.Den→Nat→List LV
 | .int,x,_=>[.dat .int x]
 | .bool,x,_=>[.dat .bool x]
 | .str,x,_=>[.dat .str x]
 | .u8,x,_=>[.dat .u8 x]
 | .vl,x,_=>[.dat .vl x]
 | .sl _ _,_,n=>[.ref n]
 | .pr a b,x,n=>oL a x.1 n++oL b x.2 (n+a.sls)
def oT:(t:Ty)→t.Den→Nat→Tab
 | .int,_,_=>[]
 | .bool,_,_=>[]
 | .str,_,_=>[]
 | .u8,_,_=>[]
 | .vl,_,_=>[]
 | .sl E e,xs,n=>[(n,some (.arr E e xs))]
 | .pr a b,x,n=>oT a x.1 n++oT b x.2 (n+a.sls)
def QeV:∀(t:Ty) (x:t.Den) (n q:Nat),q∈QQ (oL t x n)→n≤q∧q<n+t.sls
 | .int,_,_,_,h=>by cases h
 | .bool,_,_,_,h=>by cases h
 | .str,_,_,_,h=>by cases h
 | .u8,_,_,_,h=>by cases h
 | .vl,_,_,_,h=>by cases h
 | .sl _ _,_,n,q,h=>by
  have:q=n:=by simpa [oL,QQ,LV.tags] using h
  subst this
  exact ⟨aP _,Nat.lt_succ_self _⟩
 | .pr a b,x,n,q,h=>by
  rw[oL,Vv] at h
  rcases aO.1 h with h|h
  ·have:=QeV a x.1 n q h;simp only[Ty.sls];omega
  ·have:=QeV b x.2 _ q h;simp only[Ty.sls];omega
def Qme {A B:Tab}{q:Nat}{e:Ent}(h:Tab.ent (A++B) q=some e):A.ent q=some e∨B.ent q=some e:=by
 induction A with
 | nil=>exact .inr h
 | cons x A b=>
  obtain ⟨j,o⟩:=x
  rw[cI,Qi] at h
  rw[Qi]
  by_cases a:q=j
  ·rw[if_pos a] at h ⊢;exact .inl h
  ·rw[if_neg a] at h ⊢;exact b h
structure Parts (t:Ty) (w:World) (fp:List Nat) (cs:List Value) (x:t.Den) (n:Nat) (hh:Nat→Value) (ff:Nat→List Nat):Prop where
  lv:∀(al:Nat→Prop) (N:Nat→Prop),LVs al ⟨hh,ff,N⟩ w (oL t x n) cs
  rg:∀q e,(oT t x n).ent q=some e→n≤q∧q<n+t.sls∧(∃E' e' xs,e= .arr E' e' xs∧Own (.sl E' e') w (ff q) [hh q] xs)∧(∀g∈ff q,g∈fp)∧(ff q).Nodup
  dj:∀q q',(oT t x n).al q→(oT t x n).al q'→q≠q'→∀g∈ff q,g∉ff q'
def Uv {t:Ty}{w:World}{cs:List Value}{x:t.Den}{n:Nat}(fp:List Nat)(d:Rep t w cs x)(c:t.flat=true)(b:∀y m,oL t y m=leaves t y)(a:∀y m,oT t y m=[]):Parts t w fp cs x n (fun _=>undef) fun _=>[] where
 lv al N:=by rw[b];exact (Rep.rd0 (N:=N) (w':=w) d c).leaves
 rg q e h:=by rw[a] at h;cases h
 dj q q' h:=by rw[a] at h;exact absurd h (ZO q)
def Own.parts:∀{t:Ty} {w:World} {fp:List Nat} {cs:List Value} {x:t.Den} (n:Nat),Own t w fp cs x→fp.Nodup→∃W V,Parts t w fp cs x n W V
 | .int,_,fp,_,_,_,h,_=>⟨_,_,Uv fp h.rep rfl (fun _ _=>rfl) fun _ _=>rfl⟩
 | .bool,_,fp,_,_,_,h,_=>⟨_,_,Uv fp h.rep rfl (fun _ _=>rfl) fun _ _=>rfl⟩
 | .str,_,fp,_,_,_,h,_=>⟨_,_,Uv fp h.rep rfl (fun _ _=>rfl) fun _ _=>rfl⟩
 | .u8,_,fp,_,_,_,h,_=>⟨_,_,Uv fp h.rep rfl (fun _ _=>rfl) fun _ _=>rfl⟩
 | .vl,_,fp,_,_,_,h,_=>⟨_,_,Uv fp h.rep rfl (fun _ _=>rfl) fun _ _=>rfl⟩
 | .sl E e,w,fp,cs,xs,n,h,hd=>by
  have X:=h.len
  match cs,X with
  | [v],_=>
   refine ⟨fun _=>v,fun _=>fp,⟨fun al N=>⟨v,[],rfl,fun _=>rfl,rfl⟩,fun q D i=> ?_,fun q j m y u=> ?_⟩⟩
   ·rw[oT,Qi] at i
    by_cases S:q=n
    ·rw[if_pos S] at i
     cases i
     exact ⟨by omega,by simp only[Ty.sls];omega,⟨_,_,_,rfl,h⟩,fun g s=>s,hd⟩
    ·rw[if_neg S] at i;cases i
   ·exact absurd (own1_al' m |>.trans (own1_al' y).symm) u
 | .pr a b,w,fp,cs,x,n,h,hd=>by
  obtain ⟨Y,Z,l,r,rfl,rfl,m,y⟩:=h
  obtain ⟨T,U,R⟩:=bz.1 hd
  obtain ⟨J,H,A⟩:=Own.parts n m T
  obtain ⟨K,I,B⟩:=Own.parts (n+a.sls) y U
  have o:∀q,q<n+a.sls→(if q<n+a.sls then J q else K q)=J q∧(if q<n+a.sls then H q else I q)=H q:=fun q h=>⟨if_pos h,if_pos h⟩
  have p:∀q,n+a.sls≤q→(if q<n+a.sls then J q else K q)=K q∧(if q<n+a.sls then H q else I q)=I q:=fun q h=>⟨if_neg (by omega),if_neg (by omega)⟩
  refine ⟨fun q=>if q<n+a.sls then J q else K q,fun q=>if q<n+a.sls then H q else I q,⟨fun al N=> ?_,fun q e i=> ?_,fun q j c d u=> ?_⟩⟩
  ·exact LVs.app ((A.lv al N).mono (fun q L k=>⟨k,(o q (QeV a x.1 n q L).2).1⟩) fun g s=>⟨s,rfl⟩) ((B.lv al N).mono (fun q L k=>⟨k,(p q (QeV b x.2 _ q L).1).1⟩) fun g s=>⟨s,rfl⟩)
  ·rcases Qme i with i|i
   ·obtain ⟨c,d,M,O,Q⟩:=A.rg q e i
    refine ⟨c,by simp only[Ty.sls];omega,?_,?_,?_⟩
    ·rw[(o q d).1,(o q d).2];exact M
    ·rw[(o q d).2];exact fun g s=>aU _ (O g s)
    ·rw[(o q d).2];exact Q
   ·obtain ⟨c,d,M,O,Q⟩:=B.rg q e i
    refine ⟨by omega,by simp only[Ty.sls];omega,?_,?_,?_⟩
    ·rw[(p q c).1,(p q c).2];exact M
    ·rw[(p q c).2];exact fun g s=>bd _ (O g s)
    ·rw[(p q c).2];exact Q
  ·obtain ⟨e,c⟩:=c
   obtain ⟨D,d⟩:=d
   rcases Qme c with c|c <;> rcases Qme d with d|d
   ·obtain ⟨_,z,_,F,_⟩:=A.rg q e c
    obtain ⟨_,C,_,G,_⟩:=A.rg j D d
    rw[(o q z).2,(o j C).2]
    exact A.dj q j ⟨_,c⟩ ⟨_,d⟩ u
   ·obtain ⟨_,z,_,F,_⟩:=A.rg q e c
    obtain ⟨C,_,_,G,_⟩:=B.rg j D d
    rw[(o q z).2,(p j C).2]
    exact fun g m y=>R _ (F g m) _ (G g y) rfl
   ·obtain ⟨z,_,_,F,_⟩:=B.rg q e c
    obtain ⟨_,C,_,G,_⟩:=A.rg j D d
    rw[(p q z).2,(o j C).2]
    exact fun g m y=>R _ (G g y) _ (F g m) rfl
   ·obtain ⟨z,_,_,F,_⟩:=B.rg q e c
    obtain ⟨C,_,_,G,_⟩:=B.rg j D d
    rw[(p q z).2,(p j C).2]
    exact B.dj q j ⟨_,c⟩ ⟨_,d⟩ u
where
 own1_al' {E:TypeId} {e:Ty} {zs:List e.Den} {q n:Nat} (h:Tab.al [(n,some (.arr E e zs))] q):q=n:=by
  obtain ⟨D,h⟩:=h
  rw[Qi] at h
  by_cases m:q=n
  ·exact m
  ·rw[if_neg m] at h;cases h
section
variable {P:Program}{f:FuncId}{t:Ty}{x:t.Den}{args:List (Bool×List LV)}
end
def gh0 (w:World):Gh:=⟨fun _=>undef,fun _=>[],fun g=>g<w.heap.size⟩
def Qqt {al:Nat→Prop}{gh:Gh}{w:World}:CmsR al gh w [] []:=rfl
def QCc {al:Nat→Prop}{w:World}{t:Ty}{x:t.Den}{us vs:List Value}{cs:List (Bool×List LV)}(h:Rep t w us x)(k:CmsR al (gh0 w) w cs vs):CmsR al (gh0 w) w ((true,leaves t x)::cs) (.agg us.toArray::vs):=
 ⟨_,_,rfl,⟨us,rfl,(h.rd fun _ a=>a).leaves⟩,k⟩
def Qj9 {al:Nat→Prop}{w:World}{t:Ty}{x:t.Den}{v:Value}{vs:List Value}{cs:List (Bool×List LV)}(h:Rep t w [v] x)(k:CmsR al (gh0 w) w cs vs):CmsR al (gh0 w) w ((false,[.dat t x])::cs) (v::vs):=
 ⟨_,_,rfl,⟨_,rfl,h.rd fun _ a=>a⟩,k⟩
def QsL {P:Program}{f:FuncId}{args:List (Bool×List LV)}{b:Bool}(h:FC P f args [] 0 (QJ (lf (dB b)))){w:World}{vs:List Value}(j:CmsR (Tab.al []) (gh0 w) w args vs):
 Calls P f vs.toArray w fun e w'=>e= .returned (.bool b)∧Nw w w':=
 Calls.mono (h (gh0 w) w vs (VA ZO _ _ fun _ c=>c) j) fun e w' k=>by
  obtain ⟨v,p,o,i,rfl,⟨rfl,rfl⟩,_,⟨l,d,m⟩,a,_⟩:=k
  simp only[aN,and_true] at d
  subst d
  exact ⟨by rw[LVR.bool m],⟨a.gw.os,a.gw.tape,a.gw.output,a.gw.size,fun g c=>a.kp g c fun q n=>absurd n (ZO q)⟩⟩
end Go.Proofs.YtjfpbcmfbnnooaaGreat
