/- Abstract states: calls that are handed memory of one's own. No program is named here. -/
import Derived.Test.YtndabgcpnmeeoaaGreatPAi
import Derived.Test.YtndabgcpnmeeoaaGreatPTo
import Derived.Test.YtndabgcpnmeeoaaGreatPPin
set_option linter.unusedSimpArgs false
set_option linter.unusedVariables false
set_option linter.unusedSectionVars false
namespace Go.Proofs.YtndabgcpnmeeoaaGreat
open Go.RowKit
def sg (ρ:List (Nat×Nat))(k n q:Nat):Nat:=match Nat.blt q k with
 | true=>rn ρ q
 | false=>n+q
theorem QkC {σ:Nat→Nat}{T i:Tab}{r:Nat}{e:Ent}(h:Tab.ent (T.ren σ++i) r=some e):(∃q e',T.ent q=some e'∧r=σ q∧e=e'.ren σ)∨(i.ent r=some e∧∀q,T.al q→σ q≠r):=by
 induction T with
 | nil=>exact .inr ⟨h,fun q a=>absurd a (Yc q)⟩
 | cons x T t=>
  obtain ⟨j,o⟩:=x
  have h:Tab.ent ((σ j,o.map (Ent.ren σ)) :: (Tab.ren σ T++i)) r=some e:=h
  rw[Qj] at h
  by_cases b:r=σ j
  ·rw[if_pos b] at h
   obtain ⟨e',rfl,rfl⟩:=cc.1 h
   exact .inl ⟨j,e',by rw[Qj,if_pos rfl],b,rfl⟩
  ·rw[if_neg b] at h
   rcases t h with ⟨q,e',l,c,p⟩ | ⟨l,c⟩
   ·have a:q≠j:=fun e=>b (e▸c)
    exact .inl ⟨q,e',by rw[Qj,if_neg a]; exact l,c,p⟩
   ·refine .inr ⟨l,fun q a=> ?_⟩
    by_cases m:q=j
    ·rw[m]; exact fun e=>b e.symm
    ·obtain ⟨n,a⟩:=a
     rw[Qj,if_neg m] at a
     exact c q ⟨n,a⟩
theorem QvB {σ:Nat→Nat}{T:Tab}{q:Nat}(h:T.al q):σ q∈T.map fun p=>σ p.1:=by
 obtain ⟨e,h⟩:=h
 refine bF.2 ?_
 induction T with
 | nil=>cases h
 | cons x T i=>
  obtain ⟨j,o⟩:=x
  rw[Qj] at h
  by_cases a:q=j
  ·exact ⟨(j,o),az ..,by rw[a]⟩
  ·rw[if_neg a] at h
   obtain ⟨p,b,c⟩:=i h
   exact ⟨p,ay _ b,c⟩
@[reducible] def St.backP (s:St) (d:Nat) (σ:Nat→Nat) (used:List Nat) (pv:PV) (T:Tab):St:=⟨(d,pv.ren σ) :: s.tm,T.ren σ++(U1 used++s.tab)⟩
section
variable {A:Amb}{P:Program}{s:St}{f:FuncId}{xs:List Operand}{tys:Array TypeId}{args:List (Bool×List LV)}{d:Nat}{ty:TypeId}{pos:String}{af:Array Edge}{g:Option (Nat×Bool)}{pv:PV}{T T':Tab}{k:Nat}
theorem QrC (n:Nat)(ρ:List (Nat×Nat)){gh gh':Gh}{a:Act}{w w':World}{v:Value}(r:Rg A s gh a w)(hT:HasE s ρ T)(hi:UC (T.map fun p=>rn ρ p.1)=true)
 (hcl:YY pv T'=true) (hi':UC (T'.map fun p=>sg ρ k n p.1)=true) (hk:∀q,T'.al q→q < k→T.al q) (hfr:∀q,T'.al q→k≤q→Fresh s (n+q)) (hk0:A.k0≤n) (hn:Nat.blt d A.n=true)
 (cx:Cx T' gh' w') (hp:PVR T'.al gh' w' pv v) (fr:Fr T T' (gh.via (rn ρ)) gh' w w') (hkk:∀q,q < k→T'.al q→gh'.h q=(gh.via (rn ρ)).h q):
 R A (s.backP d (sg ρ k n) (T.map fun p=>rn ρ p.1) pv T') (a.put (some d) v) w':=by
 have o:∀q,T.al q→s.tab.al (rn ρ q):=fun q ⟨e,h⟩=>⟨_,hT.get h⟩
 obtain ⟨c1,c2⟩:=QcV hcl
 have hσ:∀q,T'.al q→(q < k∧T.al q∧sg ρ k n q=rn ρ q)∨(Fresh s (sg ρ k n q)∧A.k0≤sg ρ k n q):=fun q x=>by
  rcases cR q k with h | h
  ·exact .inl ⟨h,hk q x h,by simp only[sg]; rw[show Nat.blt q k=true from cU h]⟩
  ·have e:sg ρ k n q=n+q:=by
    simp only[sg]; rw[show Nat.blt q k=false from by
     cases hb:Nat.blt q k with
     | false=>rfl
     | true=>have:=aD hb; omega]
   rw[e]; exact .inr ⟨hfr q x h,by omega⟩
 have a0:∀q l,T'.al q→T'.al l→sg ρ k n q=sg ρ k n l→q=l:=fun q l m z h=>QbS hi' m z h
 generalize hs:sg ρ k n=σ at hσ a0 hi' ⊢
 classical
 let G:Gh:=⟨fun b=>if h:∃q,T'.al q∧σ q=b then gh'.h h.choose else gh.h b,fun b=>if h:∃q,T'.al q∧σ q=b then gh'.f h.choose else gh.f b,fun g=>gh.N g∨gh'.N g⟩
 have D:∀q,T'.al q→G.h (σ q)=gh'.h q∧G.f (σ q)=gh'.f q:=fun q x=>by
  have F:∃l,T'.al l∧σ l=σ q:=⟨q,x,rfl⟩
  have e1:F.choose=q:=a0 _ _ F.choose_spec.1 x F.choose_spec.2
  simp only[G]
  rw[dif_pos F,dif_pos F,e1]
  exact ⟨rfl,rfl⟩
 have t:∀b,(∀q,T'.al q→σ q≠b)→G.h b=gh.h b∧G.f b=gh.f b:=fun b h=>by
  have Z:¬∃q,T'.al q∧σ q=b:=fun ⟨q,m,z⟩=>h q m z
  simp only[G]
  rw[dif_neg Z,dif_neg Z]
  exact ⟨rfl,rfl⟩
 let U:Tab:=Tab.ren σ T'++(U1 (T.map fun p=>rn ρ p.1)++s.tab)
 have O:∀q,T.al q→rn ρ q∈T.map fun p=>rn ρ p.1:=fun q x=>QvB x
 have hU:∀b e,U.ent b=some e→(∃q I,T'.ent q=some I∧b=σ q∧e=I.ren σ)∨(s.tab.ent b=some e∧(∀q,T'.al q→σ q≠b)∧∀q,T.al q→rn ρ q≠b):=fun b e h=>by
  rcases QkC h with m | ⟨m,z⟩
  ·exact .inl m
  ·rw[QdD] at m
   split at m
   ·cases m
   ·rename_i V
    exact .inr ⟨m,z,fun q x e=>V (e▸O q x)⟩
 have B:∀b,U.al b→(∃q,T'.al q∧b=σ q)∨(s.tab.al b∧(∀q,T'.al q→σ q≠b)∧∀q,T.al q→rn ρ q≠b):=fun b ⟨e,h⟩=>by
  rcases hU b e h with ⟨q,I,m,z,_⟩ | ⟨m,z,V⟩
  ·exact .inl ⟨q,⟨I,m⟩,z⟩
  ·exact .inr ⟨⟨e,m⟩,z,V⟩
 have a2:∀b,s.tab.al b→(∀q,T.al q→rn ρ q≠b)→∀g∈gh.f b,w'.heap[g]? =w.heap[g]? :=fun b m z g c=>
  fr.kp g (r.cx.lt m g c) fun q x u=>r.cx.dj _ _ m (o q x) (fun e=>z q x e.symm) g c u
 have a1:∀g,gh.N g→w'.heap[g]? =w.heap[g]? :=fun g j=>fr.kp g (r.cx.nl g j) fun q x c=>r.cx.no _ (o q x) g c j
 have C:∀q,T'.al q→∀g∈gh'.f q,w.heap.size≤g∨∃l,T.al l∧g∈gh.f (rn ρ l):=fr.ox
 have S:Rg A ⟨s.tm,U⟩ G a w':=by
  refine r.step (gh':=G) ⟨fun b e h=> ?_,fun r1 S m z Y g c u=> ?_,fun b h=> ?_,fun b h g c j=> ?_,fun g j=> ?_⟩ (fun b h=> ?_) (fun g j=>⟨.inl j,a1 g j⟩) fr.gw
   (fun g c h=>fr.kp g c fun q x=>h _ (o q x)) (fun g j=> ?_) fun b h g c=> ?_
  ·rcases hU b e h with ⟨q,I,m,rfl,rfl⟩ | ⟨m,z,V⟩
   ·refine EntR.ren.2 ((cx.en q I m).mono (fun l M _=> ?_) (fun g c=>⟨.inr c,rfl⟩) (D q ⟨I,m⟩).1 (D q ⟨I,m⟩).2 fun _ _=>rfl)
    have J:=c2 q I m l M
    exact ⟨J,(D l J).1⟩
   ·refine (r.cx.en b e m).mono (fun l M hu=> ?_) (fun g j=>⟨.inl j,a1 g j⟩) (t b z).1 (t b z).2 fun g c=>a2 b ⟨e,m⟩ V g c
    rcases B l hu with ⟨q,J,rfl⟩ | ⟨J,h5,_⟩
    ·rcases hσ q J with ⟨L,W,X⟩ | ⟨L,_⟩
     ·rw[(D q J).1,hkk q L J]
      exact ⟨X▸o q W,by rw[X]⟩
     ·exact absurd M (L.en b e m)
    ·exact ⟨J,(t l h5).1⟩
  ·rcases B r1 m with ⟨y,i,rfl⟩ | ⟨i,H,Q⟩ <;> rcases B S z with ⟨q2,K,rfl⟩ | ⟨K,l2,l3⟩
   ·rw[(D y i).2] at c
    rw[(D q2 K).2] at u
    exact cx.dj y q2 i K (fun e=>Y (e▸rfl)) g c u
   ·rw[(D y i).2] at c
    rw[(t S l2).2] at u
    rcases C y i g c with h | ⟨l,h,E⟩
    ·have:=r.cx.lt K g u; omega
    ·exact r.cx.dj _ _ (o l h) K (l3 l h) g E u
   ·rw[(t r1 H).2] at c
    rw[(D q2 K).2] at u
    rcases C q2 K g u with h | ⟨l,h,E⟩
    ·have:=r.cx.lt i g c; omega
    ·exact r.cx.dj _ _ (o l h) i (Q l h) g E c
   ·rw[(t r1 H).2] at c
    rw[(t S l2).2] at u
    exact r.cx.dj r1 S i K Y g c u
  ·rcases B b h with ⟨y,i,rfl⟩ | ⟨i,H,Q⟩
   ·rw[(D y i).2]; exact cx.nd y i
   ·rw[(t b H).2]; exact r.cx.nd b i
  ·rcases B b h with ⟨y,i,rfl⟩ | ⟨i,H,Q⟩
   ·rw[(D y i).2] at c
    rcases j with j | j
    ·rcases C y i g c with h | ⟨l,h,E⟩
     ·have:=r.cx.nl g j; omega
     ·exact r.cx.no _ (o l h) g E j
    ·exact cx.no y i g c j
   ·rw[(t b H).2] at c
    rcases j with j | j
    ·exact r.cx.no b i g c j
    ·rcases fr.nn g j with h | h | ⟨l,h,E⟩
     ·exact r.cx.no b i g c h
     ·have:=r.cx.lt i g c; omega
     ·exact r.cx.dj _ _ (o l h) i (Q l h) g E c
  ·rcases j with j | j
   ·exact bp (r.cx.nl g j) fr.gw.size
   ·exact cx.nl g j
  ·rcases B b h with ⟨y,i,rfl⟩ | ⟨i,H,Q⟩
   ·rcases hσ y i with ⟨L,W,X⟩ | ⟨L,W⟩
    ·refine .inl ⟨X▸o y W, ?_,fun _=>rfl⟩
     rw[(D y i).1,hkk y L i,X]
    ·exact .inr ⟨L,W⟩
   ·exact .inl ⟨i,(t b H).1,fun _=>rfl⟩
  ·rcases j with j | j
   ·exact .inl j
   ·rcases fr.nn g j with h | h | ⟨l,h,E⟩
    ·exact .inl h
    ·exact .inr (.inl h)
    ·exact .inr (.inr ⟨_,o l h,E,fun hl=>r.xn g hl (r.ox _ (o l h) g E hl)⟩)
  ·rcases B b h with ⟨y,i,rfl⟩ | ⟨i,H,Q⟩
   ·rw[(D y i).2] at c
    rcases C y i g c with h | ⟨l,h,E⟩
    ·exact .inl h
    ·exact .inr ⟨_,o l h,E⟩
   ·rw[(t b H).2] at c
    exact .inr ⟨b,i,c⟩
 refine ⟨G, ?_⟩
 refine S.put (aD hn) (pv:=pv.ren σ) ?_
 exact PVR.ren.2 (hp.mono (fun q x _=>⟨c1 q x,(D q (c1 q x)).1⟩) fun g c=>⟨.inr c,rfl⟩)
theorem QeZ {o:Oper}{vals:Gh→Act→List Value}(n:Nat)(ρ:List (Nat×Nat))(B:o.dst=some d)(G:FC P f args T k (Is pv T'))
 (hup:∀gh a w K Q,Rg A s gh a w→Calls P f (vals gh a).toArray w (fun e w'=>match e with | .returned v=>K (a.put o.dst v) w' | _=>False)→o.wp P a w K Q)
 (ha:∀gh a w,Rg A s gh a w→CmsR s.tab.al gh w (args.map fun c=>(c.1,c.2.map (LV.ren (rn ρ)))) (vals gh a)) (hT:HasE s ρ T) (hi:UC (T.map fun p=>rn ρ p.1)=true)
 (hcl:YY pv T'=true) (hi':UC (T'.map fun p=>sg ρ k n p.1)=true) (hk:∀q,T'.al q→q < k→T.al q) (hfr:∀q,T'.al q→k≤q→Fresh s (n+q)) (hk0:A.k0≤n) (hn:Nat.blt d A.n=true):
 Does A P o s (s.backP d (sg ρ k n) (T.map fun p=>rn ρ p.1) pv T'):=fun a w K Q r F=>by
 obtain ⟨gh,r⟩:=r
 have b:∀q,T.al q→s.tab.al (rn ρ q):=fun q ⟨e,h⟩=>⟨_,hT.get h⟩
 have j:∀q i,T.al q→T.al i→rn ρ q=rn ρ i→q=i:=fun q i l m h=>QbS hi l m h
 have t:Cx T (gh.via (rn ρ)) w:=⟨fun q e h=>(EntR.ren.1 (r.cx.en _ _ (hT.get h))).mono (fun M _ E=>⟨b M E,rfl⟩) (fun g x=>⟨x,rfl⟩) rfl rfl fun _ _=>rfl,
  fun q i l m z=>r.cx.dj _ _ (b q l) (b i m) fun h=>z (j q i l m h),fun q h=>r.cx.nd _ (b q h),fun q h=>r.cx.no _ (b q h),r.cx.nl⟩
 have J:=(CmsR.ren.1 (ha gh a w r)).mono (al':=T.al) (gh':=gh.via (rn ρ)) (w':=w) (fun q _ h=>⟨b q h,rfl⟩) fun g x=>⟨x,rfl⟩
 refine hup gh a w K Q r (Calls.mono (G _ w _ t J) fun e w' H=> ?_)
 obtain ⟨v,L,N,u,rfl,⟨rfl,rfl⟩,C,I,D,y⟩:=H
 refine F _ _ ?_
 rw[B]
 exact QrC n ρ r hT hi hcl hi' hk hfr hk0 hn C I D y
def FrK (s:St)(n k:Nat):List Nat→Prop
 | []=>True
 | q :: l=>(match Nat.blt q k with
  | true=>True
  | false=>Fresh s (n+q))∧FrK s n k l
theorem FrK.get {n k:Nat}{l:List Nat}(h:FrK s n k l):∀q∈l,k≤q→Fresh s (n+q):=by
 induction l with
 | nil=>simp
 | cons q l i=>
  intro r a e
  rcases aK.1 a with rfl | a
  ·have b:=h.1
   rw[show Nat.blt r k=false from by
    cases c:Nat.blt r k with
    | false=>rfl
    | true=>have:=aD c; omega] at b
   exact b
  ·exact i h.2 r a e
def QsD (T T':Tab)(k:Nat):Bool:=(ZS T').all fun q=> !(Nat.blt q k)||(T.ent q).isSome
theorem QjZ (n:Nat)(ρ:List (Nat×Nat))(j:FC P f args T k (Is pv T'))(b:Qh P f)(i:EvL A s xs (args.map fun c=>(c.1,c.2.map (LV.ren (rn ρ)))))(e:HasE s ρ T)(hi:UC (T.map fun p=>rn ρ p.1)=true)
 (hcl:YY pv T'=true) (hi':UC (T'.map fun p=>sg ρ k n p.1)=true) (hk:∀q,T'.al q→q < k→T.al q) (hfr:∀q,T'.al q→k≤q→Fresh s (n+q)) (hk0:A.k0≤n) (hn:Nat.blt d A.n=true):
 Does A P ⟨some d, .call ⟨.value (.func f),xs.toArray,tys⟩,ty,pos,af,g⟩ s (s.backP d (sg ρ k n) (T.map fun p=>rn ρ p.1) pv T'):=
 QeZ (vals:=fun _ a=>xs.map a.eval) n ρ rfl j (fun _ _ _ _ _ _ h=>QdF b rfl h) (fun _ _ _ r=>i.cms r) e hi hcl hi' hk hfr hk0 hn
theorem Qos {P:Program}{o:Oper}{f:FuncId}{c:Operand}{xs:List Operand}{tys:Array TypeId}{a:Act}{w:World}{K:Act→World→Prop}{Q:Exit→Act→World→Prop}{cs:List Value}(i:Qh P f)(j:o.op= .call ⟨.value c,xs.toArray,tys⟩)(l:a.eval c= .func (.func f) #[] cs.toArray)
 (h:Calls P f (xs.map a.eval++cs).toArray w fun e w'=>match e with | .returned v=>K (a.put o.dst v) w' | _=>False):o.wp P a w K Q:=by
 have e:(execOp a.eval o).run P w= .ok (.enter f (xs.map a.eval++cs).toArray) w:=by
  unfold execOp
  simp only[j,resolve,l,Deferred.ofValue,av]
  have:=i (xs.map a.eval++cs).toArray w
  simpa [invoke] using this
 unfold Oper.wp
 rw[e,Oper.upon_enter]
 refine Calls.mono h fun e w' b=> ?_
 cases e <;> first | exact b | exact b.elim
def QrY (T:Tab)(q:Nat):Bool:=match T.ent q with
 | some (.box _ _)=>true
 | _=>false
theorem QiO {gh:Gh}{w:World}{T:Tab}(c:Cx T gh w){q:Nat}(h:QrY T q=true):T.al q∧∃g,gh.h q= .pointer (some ⟨g,0,none⟩):=by
 unfold QrY at h
 cases a:T.ent q with
 | none=>rw[a] at h; cases h
 | some e=>
  rw[a] at h
  cases e with
  | box E j=>obtain ⟨g,b,i,_⟩:=c.en q _ a; exact ⟨⟨_,a⟩,g,i⟩
  | _=>cases h
def EvCaps (A:Amb)(s:St):List Operand→List Nat→Prop
 | [],qs=>qs=[]
 | x :: xs,qs=>∃q qs',qs=q :: qs'∧Evl A s x (.ptr q 0)∧QrY s.tab q=true∧EvCaps A s xs qs'
theorem EvCaps.vals {xs:List Operand}{b:List Nat}(h:EvCaps A s xs b){gh:Gh}{a:Act}{w:World}(r:Rg A s gh a w):xs.map a.eval=b.map gh.h:=by
 induction xs generalizing b with
 | nil=>rw[show b=[] from h]; rfl
 | cons x xs n=>
  obtain ⟨q,o,rfl,c,e,i⟩:=h
  obtain ⟨j,g,t⟩:=QiO r.cx e
  obtain ⟨p,l,m⟩:=c gh a w r j
  rw[br,br,n i,m,l]
theorem YI {cs:List Operand}{b:List Nat}(e:EvCaps A s cs b)(i:Nat.blt d A.n=true):Does A P ⟨some d, .makeFunc (.func f) #[] cs.toArray,ty,pos,af,g⟩ s (s.put d (lf (.clo f b))):=
 Qq rfl i fun c a w r=>by
  refine ⟨.func (.func f) #[] (b.map c.h).toArray, ?_,_,rfl,fun _=>rfl⟩
  simp only[execOp,Instr.makeFunc]
  simp[e.vals r]
theorem YH {E:Operand}{args0:List (Bool×List LV)}{caps z:List Nat}(n:Nat)(ρ:List (Nat×Nat))(o:FC P f args T k (Is pv T'))(N:Qh P f)(h0:args=args0++caps.map fun q=>(false,[.ptr q 0]))(D:Evl A s E (.clo f z))(j:z=caps.map (rn ρ))(C:(caps.all fun q=>QrY s.tab (rn ρ q))=true)
 (ha:EvL A s xs (args0.map fun c=>(c.1,c.2.map (LV.ren (rn ρ))))) (hT:HasE s ρ T)
 (hB:(UC (T.map fun p=>rn ρ p.1)&&YY pv T'&&UC (T'.map fun p=>sg ρ k n p.1)&&QsD T T' k&&Nat.blt d A.n)=true) (hfr:FrK s n k (ZS T')) (hk0:A.k0≤n):
 Does A P ⟨some d, .call ⟨.value E,xs.toArray,tys⟩,ty,pos,af,g⟩ s (s.backP d (sg ρ k n) (T.map fun p=>rn ρ p.1) pv T'):=by
 simp only[aI] at hB
 obtain ⟨⟨⟨⟨F,G⟩,H⟩,I⟩,J⟩:=hB
 subst h0 j
 have i:∀q∈caps,QrY s.tab (rn ρ q)=true:=ak.1 C
 refine QeZ (vals:=fun l a=>xs.map a.eval++(caps.map (rn ρ)).map l.h) n ρ rfl o (fun l a w K Q r h=>Qos N rfl (D l a w r fun q j=> ?_) h) (fun l a w r=> ?_) hT F G H (fun q ⟨e,j⟩ t=> ?_) (fun q ⟨e,j⟩ t=>hfr.get q (ZL j).1 t) hk0 J
 ·obtain ⟨y,b,rfl⟩:=bF.1 j
  exact (QiO r.cx (i y b)).1
 ·rw[bl]
  have b:=ha.cms r
  have M:CmsR s.tab.al l w ((caps.map fun q=>(false,[.ptr q 0])).map fun c:Bool×List LV=>(c.1,c.2.map (LV.ren (rn ρ)))) ((caps.map (rn ρ)).map l.h):=by
   clear b o C D
   induction caps with
   | nil=>exact rfl
   | cons q z x=>
    obtain ⟨B,g,m⟩:=QiO r.cx (i q (az ..))
    exact ⟨_,_,rfl,⟨_,rfl,fun _=>⟨g,m,m⟩⟩,x fun y u=>i y (ay _ u)⟩
  clear o
  generalize (args0.map fun c=>(c.1,c.2.map (LV.ren (rn ρ))))=L at b ⊢
  generalize xs.map a.eval=vs at b ⊢
  induction L generalizing vs with
  | nil=>rw[show vs=[] from b]; exact M
  | cons c R x=>obtain ⟨v,O,rfl,B,m⟩:=b; exact ⟨v,_,rfl,B,x _ m⟩
 ·have:=ak.1 I q (ZL j).1
  rw[show Nat.blt q k=true from cU t] at this
  exact be.1 (by simpa using this)
theorem QlH (n:Nat)(ρ:List (Nat×Nat))(u:FC P f args T k (Is pv T'))(o:Qh P f)(t:EvL A s xs (args.map fun c=>(c.1,c.2.map (LV.ren (rn ρ)))))(r:HasE s ρ T)
 (hB:(UC (T.map fun p=>rn ρ p.1)&&YY pv T'&&UC (T'.map fun p=>sg ρ k n p.1)&&QsD T T' k&&Nat.blt d A.n)=true) (hfr:FrK s n k (ZS T')) (hk0:A.k0≤n):
 Does A P ⟨some d, .call ⟨.value (.func f),xs.toArray,tys⟩,ty,pos,af,g⟩ s (s.backP d (sg ρ k n) (T.map fun p=>rn ρ p.1) pv T'):=by
 simp only[aI] at hB
 obtain ⟨⟨⟨⟨h,i⟩,j⟩,l⟩,m⟩:=hB
 refine QjZ n ρ u o t r h i j (fun q ⟨e,b⟩ a=> ?_) (fun q ⟨e,b⟩ a=>hfr.get q (ZL b).1 a) hk0 m
 have:=ak.1 l q (ZL b).1
 rw[show Nat.blt q k=true from cU a] at this
 exact be.1 (by simpa using this)
def ThL (s:St):List LV→List LV→Prop
 | [],ls'=>ls'=[]
 | l :: ls,ls'=>∃l' r,ls'=l' :: r∧(l=l'∨∃q E e xs,l= .ref q∧s.tab.ent q=some (.arr E e xs)∧l'= .dat (.sl E e) xs)∧ThL s ls r
theorem LVs.th {gh:Gh}{a:Act}{w:World}(r:Rg A s gh a w){ls ls':List LV}{vs:List Value}(h:LVs s.tab.al gh w ls vs)(k:ThL s ls ls'):LVs (fun _=>False) ⟨gh.h,gh.f,fun g=>g < w.heap.size⟩ w ls' vs:=by
 induction ls generalizing ls' vs with
 | nil=>rw[show ls'=[] from k]; exact h
 | cons l ls t=>
  obtain ⟨v,c,rfl,i,m⟩:=h
  obtain ⟨u,x,rfl,n,o⟩:=k
  refine ⟨v,c,rfl, ?_,t m o⟩
  rcases n with rfl | ⟨q,E,e,xs,rfl,h5,rfl⟩
  ·exact i.mono (fun _ _ h=>h.elim) fun g b=>⟨r.cx.nl g b,rfl⟩
  ·have p:v=gh.h q:=i ⟨_,h5⟩
   have j:Own (.sl E e) w (gh.f q) [gh.h q] xs:=r.cx.en q _ h5
   rw[p]
   exact j.rd fun g b=>Own.lt j g b
theorem ZJ {x:Operand}{b:Bool}{ls ls':List LV}(h:Ev A s x (b,ls))(k:ThL s ls ls'):EvB A s x (b,ls'):=fun j a w r=>by
 have m:=h j a w r
 cases b with
 | true=>obtain ⟨o,p,c⟩:=m; exact ⟨o,p,c.th r k⟩
 | false=>
  obtain ⟨l,rfl,c⟩:=m
  have t:LVs s.tab.al j w [l] [a.eval x]:=⟨_,[],rfl,c,rfl⟩
  obtain ⟨i,y,rfl,q,e⟩:=k
  have e:y=[]:=e
  subst e
  obtain ⟨v,o,n,u,_⟩:=t.th r (ls':=[i]) ⟨i,[],rfl,q,rfl⟩
  simp only[aC] at n
  exact ⟨i,rfl,n.1▸u⟩
end
end Go.Proofs.YtndabgcpnmeeoaaGreat
namespace Go.Proofs.YtndabgcpnmeeoaaGreat
open Go.RowKit
def szv (left:Int)(t:Nat):Int:=if left < t then -1 else left - t
theorem QgV (left:Int)(t:Nat):(left < t∧szv left t= -1)∨((t:Int)≤left∧szv left t=left - t):=by
 unfold szv
 split
 ·exact .inl ⟨by assumption,rfl⟩
 ·exact .inr ⟨by omega,rfl⟩
theorem SzPost.szv {w w':World}{l:Int}{t:Nat}{e:Ending}(h:SzPost w l t e w'):e= .returned (.int .i64 (szv l t))∧Nw w w':=by
 obtain ⟨c,rfl,a,b⟩:=h
 have d:=QgV l t
 unfold CutTo at a
 have:c=Go.Proofs.YtndabgcpnmeeoaaGreat.szv l t:=by omega
 exact ⟨by rw[this],b⟩
theorem QlJ {P:Program}{f:FuncId}{args:List (Bool×List LV)}{pv:PV}(h:∀(gh:Gh) (w:World) (vs:List Value),CmsR (Tab.al []) gh w args vs→Calls P f vs.toArray w fun e w'=>∃v,e= .returned v∧Nw w w'∧PVR (Tab.al []) gh w' pv v):FC P f args [] 0 (QY pv):=fun gh w vs d j=>
 Calls.mono (h gh w vs j) fun e w' k=>by
  obtain ⟨v,rfl,b,i⟩:=k
  exact ⟨_,_,[],gh,rfl,⟨rfl,rfl⟩,K5 Yc gh w' fun g a=>bp (d.nl g a) b.size,i,⟨b.grw,fun g a _=>Below.block b g a,fun g a=> .inl a,fun q c=>absurd c (Yc q)⟩,fun q c=>absurd c (by omega)⟩
section
variable {al:Nat→Prop}{gh:Gh}{w:World}{t:Ty}{x:t.Den}{cs:List (Bool×List LV)}{vs:List Value}
theorem CmsR.agg_cons (h:CmsR al gh w ((true,leaves t x) :: cs) vs):∃us a,vs= .agg us.toArray :: a∧Rep t w us x∧CmsR al gh w cs a:=by
 obtain ⟨v,a,rfl,⟨us,rfl,b⟩,c⟩:=h
 exact ⟨us,a,rfl,(LVs.rd b).rep,c⟩
theorem CmsR.leaf_cons (h:CmsR al gh w ((false,[.dat t x]) :: cs) vs):∃v a,vs=v :: a∧Rep t w [v] x∧CmsR al gh w cs a:=by
 obtain ⟨v,a,rfl,⟨l,b,c⟩,d⟩:=h
 simp only[aC,and_true] at b
 subst b
 exact ⟨v,a,rfl,Rd.rep c,d⟩
theorem CmsR.nil_ (h:CmsR al gh w [] vs):vs=[]:=h
end
section
variable {P:Program}{f:FuncId}{t:Ty}{x:t.Den}
theorem Qrw {left:Int}(h:∀us w,Rep t w us x→Calls P f #[.agg us.toArray, .int .i64 left] w (SzPost w left (t.tot x)))(h0:0≤left)(i:left≤1048576):
 FC P f [(true,leaves t x),(false,[dI left])] [] 0 (QY (lf (dI (szv left (t.tot x))))):=QlJ fun gh w vs a=>by
 obtain ⟨us,vs,rfl,g,a⟩:=a.agg_cons
 obtain ⟨v,vs,rfl,d,a⟩:=a.leaf_cons
 obtain rfl:=a.nil_
 obtain ⟨rfl,_⟩:=Rep.int_ d
 refine Calls.mono (h us w g) fun e j c=> ?_
 obtain ⟨rfl,b⟩:=c.szv
 have:=QgV left (t.tot x)
 exact ⟨_,rfl,b,_,rfl,Yb (by omega)⟩
theorem Qj8 {y:t.Den}(e:x=y)(h:∀us vs w,Rep t w us x→Rep t w vs x→Calls P f #[.agg us.toArray, .agg vs.toArray] w (Xd w)):
 FC P f [(true,leaves t x),(true,leaves t y)] [] 0 (QY (lf (dB true))):=e▸QlJ fun gh w vs a=>by
 obtain ⟨us,vs,rfl,i,a⟩:=a.agg_cons
 obtain ⟨c,vs,rfl,b,a⟩:=a.agg_cons
 obtain rfl:=a.nil_
 refine Calls.mono (h us c w i b) fun e j g=> ?_
 obtain ⟨rfl,d⟩:=g
 exact ⟨_,rfl,d,_,rfl,Z5⟩
end
def Ty.sls:Ty→Nat
 | .int=>0
 | .bool=>0
 | .str=>0
 | .u8=>0
 | .vl=>0
 | .sl _ _=>1
 | .pr a b=>a.sls+b.sls
def oL:(t:Ty)→t.Den→Nat→List LV
 | .int,x,_=>[.dat .int x]
 | .bool,x,_=>[.dat .bool x]
 | .str,x,_=>[.dat .str x]
 | .u8,x,_=>[.dat .u8 x]
 | .vl,x,_=>[.dat .vl x]
 | .sl _ _,_,n=>[.ref n]
 | .pr a b,x,n=>oL a x.1 n++oL b x.2 (n+a.sls)
def oT:(t:Ty)→t.Den→Nat→Tab
 | .int,_,_=>[]
 | .bool,_,_=>[]
 | .str,_,_=>[]
 | .u8,_,_=>[]
 | .vl,_,_=>[]
 | .sl E e,xs,n=>[(n,some (.arr E e xs))]
 | .pr a b,x,n=>oT a x.1 n++oT b x.2 (n+a.sls)
theorem QeL:∀(t:Ty) (x:t.Den) (n q:Nat),q∈QS (oL t x n)→n≤q∧q < n+t.sls
 | .int,_,_,_,h=>by cases h
 | .bool,_,_,_,h=>by cases h
 | .str,_,_,_,h=>by cases h
 | .u8,_,_,_,h=>by cases h
 | .vl,_,_,_,h=>by cases h
 | .sl _ _,_,n,q,h=>by
  have:q=n:=by simpa [oL,QS,LV.tags] using h
  subst this
  exact ⟨aJ _,Nat.lt_succ_self _⟩
 | .pr a b,x,n,q,h=>by
  rw[oL,Vr] at h
  rcases aP.1 h with h | h
  ·have:=QeL a x.1 n q h; simp only[Ty.sls]; omega
  ·have:=QeL b x.2 _ q h; simp only[Ty.sls]; omega
theorem Ql3 {A B:Tab}{q:Nat}{e:Ent}(h:Tab.ent (A++B) q=some e):A.ent q=some e∨B.ent q=some e:=by
 induction A with
 | nil=>exact .inr h
 | cons x A b=>
  obtain ⟨j,o⟩:=x
  rw[ci,Qj] at h
  rw[Qj]
  by_cases a:q=j
  ·rw[if_pos a] at h ⊢; exact .inl h
  ·rw[if_neg a] at h ⊢; exact b h
structure Parts (t:Ty) (w:World) (fp:List Nat) (cs:List Value) (x:t.Den) (n:Nat) (hh:Nat→Value) (ff:Nat→List Nat):Prop where
  lv:∀(al:Nat→Prop) (N:Nat→Prop),LVs al ⟨hh,ff,N⟩ w (oL t x n) cs
  rg:∀q e,(oT t x n).ent q=some e→n≤q∧q < n+t.sls∧(∃E' e' xs,e= .arr E' e' xs∧Own (.sl E' e') w (ff q) [hh q] xs)∧(∀g∈ff q,g∈fp)∧(ff q).Nodup
  dj:∀q q',(oT t x n).al q→(oT t x n).al q'→q≠q'→∀g∈ff q,g∉ff q'
theorem Uu {t:Ty}{w:World}{cs:List Value}{x:t.Den}{n:Nat}(fp:List Nat)(d:Rep t w cs x)(c:t.flat=true)(b:∀y m,oL t y m=leaves t y)(a:∀y m,oT t y m=[]):Parts t w fp cs x n (fun _=>undef) fun _=>[] where
 lv al N:=by rw[b]; exact (Rep.rd0 (N:=N) (w':=w) d c).leaves
 rg q e h:=by rw[a] at h; cases h
 dj q q' h:=by rw[a] at h; exact absurd h (Yc q)
theorem Own.parts:∀{t:Ty} {w:World} {fp:List Nat} {cs:List Value} {x:t.Den} (n:Nat),Own t w fp cs x→fp.Nodup→∃W V,Parts t w fp cs x n W V
 | .int,_,fp,_,_,_,h,_=>⟨_,_,Uu fp h.rep rfl (fun _ _=>rfl) fun _ _=>rfl⟩
 | .bool,_,fp,_,_,_,h,_=>⟨_,_,Uu fp h.rep rfl (fun _ _=>rfl) fun _ _=>rfl⟩
 | .str,_,fp,_,_,_,h,_=>⟨_,_,Uu fp h.rep rfl (fun _ _=>rfl) fun _ _=>rfl⟩
 | .u8,_,fp,_,_,_,h,_=>⟨_,_,Uu fp h.rep rfl (fun _ _=>rfl) fun _ _=>rfl⟩
 | .vl,_,fp,_,_,_,h,_=>⟨_,_,Uu fp h.rep rfl (fun _ _=>rfl) fun _ _=>rfl⟩
 | .sl E e,w,fp,cs,xs,n,h,hd=>by
  have X:=h.len
  match cs,X with
  | [v],_=>
   refine ⟨fun _=>v,fun _=>fp,⟨fun al N=>⟨v,[],rfl,fun _=>rfl,rfl⟩,fun q D i=> ?_,fun q j m y u=> ?_⟩⟩
   ·rw[oT,Qj] at i
    by_cases S:q=n
    ·rw[if_pos S] at i
     cases i
     exact ⟨by omega,by simp only[Ty.sls]; omega,⟨_,_,_,rfl,h⟩,fun g s=>s,hd⟩
    ·rw[if_neg S] at i; cases i
   ·exact absurd (own1_al' m |>.trans (own1_al' y).symm) u
 | .pr a b,w,fp,cs,x,n,h,hd=>by
  obtain ⟨Y,Z,l,r,rfl,rfl,m,y⟩:=h
  obtain ⟨T,U,R⟩:=bu.1 hd
  obtain ⟨J,H,A⟩:=Own.parts n m T
  obtain ⟨K,I,B⟩:=Own.parts (n+a.sls) y U
  have o:∀q,q < n+a.sls→(if q < n+a.sls then J q else K q)=J q∧(if q < n+a.sls then H q else I q)=H q:=fun q h=>⟨if_pos h,if_pos h⟩
  have p:∀q,n+a.sls≤q→(if q < n+a.sls then J q else K q)=K q∧(if q < n+a.sls then H q else I q)=I q:=fun q h=>⟨if_neg (by omega),if_neg (by omega)⟩
  refine ⟨fun q=>if q < n+a.sls then J q else K q,fun q=>if q < n+a.sls then H q else I q,⟨fun al N=> ?_,fun q e i=> ?_,fun q j c d u=> ?_⟩⟩
  ·exact LVs.app ((A.lv al N).mono (fun q L k=>⟨k,(o q (QeL a x.1 n q L).2).1⟩) fun g s=>⟨s,rfl⟩) ((B.lv al N).mono (fun q L k=>⟨k,(p q (QeL b x.2 _ q L).1).1⟩) fun g s=>⟨s,rfl⟩)
  ·rcases Ql3 i with i | i
   ·obtain ⟨c,d,M,O,Q⟩:=A.rg q e i
    refine ⟨c,by simp only[Ty.sls]; omega, ?_, ?_, ?_⟩
    ·rw[(o q d).1,(o q d).2]; exact M
    ·rw[(o q d).2]; exact fun g s=>aT _ (O g s)
    ·rw[(o q d).2]; exact Q
   ·obtain ⟨c,d,M,O,Q⟩:=B.rg q e i
    refine ⟨by omega,by simp only[Ty.sls]; omega, ?_, ?_, ?_⟩
    ·rw[(p q c).1,(p q c).2]; exact M
    ·rw[(p q c).2]; exact fun g s=>aR _ (O g s)
    ·rw[(p q c).2]; exact Q
  ·obtain ⟨e,c⟩:=c
   obtain ⟨D,d⟩:=d
   rcases Ql3 c with c | c <;> rcases Ql3 d with d | d
   ·obtain ⟨_,z,_,F,_⟩:=A.rg q e c
    obtain ⟨_,C,_,G,_⟩:=A.rg j D d
    rw[(o q z).2,(o j C).2]
    exact A.dj q j ⟨_,c⟩ ⟨_,d⟩ u
   ·obtain ⟨_,z,_,F,_⟩:=A.rg q e c
    obtain ⟨C,_,_,G,_⟩:=B.rg j D d
    rw[(o q z).2,(p j C).2]
    exact fun g m y=>R _ (F g m) _ (G g y) rfl
   ·obtain ⟨z,_,_,F,_⟩:=B.rg q e c
    obtain ⟨_,C,_,G,_⟩:=A.rg j D d
    rw[(p q z).2,(o j C).2]
    exact fun g m y=>R _ (G g y) _ (F g m) rfl
   ·obtain ⟨z,_,_,F,_⟩:=B.rg q e c
    obtain ⟨C,_,_,G,_⟩:=B.rg j D d
    rw[(p q z).2,(p j C).2]
    exact B.dj q j ⟨_,c⟩ ⟨_,d⟩ u
where
 own1_al' {E:TypeId} {e:Ty} {zs:List e.Den} {q n:Nat} (h:Tab.al [(n,some (.arr E e zs))] q):q=n:=by
  obtain ⟨D,h⟩:=h
  rw[Qj] at h
  by_cases m:q=n
  ·exact m
  ·rw[if_neg m] at h; cases h
section
variable {P:Program}{f:FuncId}{t:Ty}{x:t.Den}{args:List (Bool×List LV)}
theorem QpY (h:∀(gh:Gh) (w:World) (vs:List Value),CmsR (Tab.al []) gh w args vs→Calls P f vs.toArray w fun e w'=>∃cs,e= .returned (.agg cs.toArray)∧Frs t w.heap.size w'.heap.size w' cs x∧Nw w w'):
 FC P f args [] 0 (Is (ag (oL t x 0)) (oT t x 0)):=fun gh w vs i o=>
 Calls.mono (h gh w vs o) fun e w' a=>by
  obtain ⟨cs,rfl,⟨y,m,n,j⟩,d⟩:=a
  obtain ⟨r,l,p⟩:=m.parts 0 n
  refine ⟨_,_,oT t x 0,⟨r,l,gh.N⟩,rfl,⟨rfl,rfl⟩,⟨fun q e a=> ?_,p.dj,fun q c=> ?_,fun q c g b s=> ?_,fun g b=>bp (i.nl g b) d.size⟩,⟨cs,rfl,p.lv _ _⟩,
   ⟨d.grw,fun g b _=>Below.block d g b,fun g b=> .inl b,fun q c g b=> ?_⟩,fun q c=>absurd c (by omega)⟩
  ·obtain ⟨_,_,⟨u,v,B,rfl,k⟩,_⟩:=p.rg q e a
   exact k
  ·obtain ⟨e,a⟩:=c
   exact (p.rg q e a).2.2.2.2
  ·obtain ⟨e,a⟩:=c
   have z:=(j g ((p.rg q e a).2.2.2.1 g b)).1
   have A:=i.nl g s
   omega
  ·obtain ⟨e,a⟩:=c
   exact .inl (j g ((p.rg q e a).2.2.2.1 g b)).1
end
def gh0 (w:World):Gh:=⟨fun _=>undef,fun _=>[],fun g=>g < w.heap.size⟩
theorem QpW {al:Nat→Prop}{gh:Gh}{w:World}:CmsR al gh w [] []:=rfl
theorem Qrl {al:Nat→Prop}{w:World}{t:Ty}{x:t.Den}{us vs:List Value}{cs:List (Bool×List LV)}(h:Rep t w us x)(k:CmsR al (gh0 w) w cs vs):CmsR al (gh0 w) w ((true,leaves t x) :: cs) (.agg us.toArray :: vs):=
 ⟨_,_,rfl,⟨us,rfl,(h.rd fun _ a=>a).leaves⟩,k⟩
theorem Qru {P:Program}{f:FuncId}{args:List (Bool×List LV)}{b:Bool}(h:FC P f args [] 0 (QY (lf (dB b)))){w:World}{vs:List Value}(j:CmsR (Tab.al []) (gh0 w) w args vs):
 Calls P f vs.toArray w fun e w'=>e= .returned (.bool b)∧Nw w w':=
 Calls.mono (h (gh0 w) w vs (K5 Yc _ _ fun _ c=>c) j) fun e w' k=>by
  obtain ⟨v,p,o,i,rfl,⟨rfl,rfl⟩,_,⟨l,d,m⟩,a,_⟩:=k
  simp only[aC,and_true] at d
  subst d
  exact ⟨by rw[LVR.bool m],⟨a.gw.os,a.gw.tape,a.gw.output,a.gw.size,fun g c=>a.kp g c fun q n=>absurd n (Yc q)⟩⟩
end Go.Proofs.YtndabgcpnmeeoaaGreat
