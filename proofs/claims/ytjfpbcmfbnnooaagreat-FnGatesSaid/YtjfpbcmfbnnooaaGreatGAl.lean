/- Abstract states: calls that are handed memory of one's own. No program is named here. -/
import Derived.Test.YtjfpbcmfbnnooaaGreatGAi
import Derived.Test.YtjfpbcmfbnnooaaGreatGStr
import Derived.Maps.Keyed
import Derived.StringKeys
import Derived.Carry
import Derived.Laws.StructEq
set_option linter.unusedSimpArgs false
set_option linter.unusedVariables false
set_option linter.unusedSectionVars false
namespace Go.Proofs.YtjfpbcmfbnnooaaGreat
open Go.RowKit
def sg (ρ:List (Nat×Nat))(k n q:Nat):Nat:=match Nat.blt q k with
 | true=>rn ρ q
 | false=>n+q
theorem QjK {σ:Nat→Nat}{T i:Tab}{r:Nat}{e:Ent}(h:Tab.ent (T.ren σ++i) r=some e):(∃q e',T.ent q=some e'∧r=σ q∧e=e'.ren σ)∨(i.ent r=some e∧∀q,T.al q→σ q≠r):=by
 induction T with
 | nil=>exact .inr ⟨h,fun q a=>absurd a (ZF q)⟩
 | cons x T t=>
  obtain ⟨j,o⟩:=x
  have h:Tab.ent ((σ j,o.map (Ent.ren σ))::(Tab.ren σ T++i)) r=some e:=h
  rw[Qg] at h
  by_cases b:r=σ j
  ·rw[if_pos b] at h
   obtain ⟨e',rfl,rfl⟩:=cA.1 h
   exact .inl ⟨j,e',by rw[Qg,if_pos rfl],b,rfl⟩
  ·rw[if_neg b] at h
   rcases t h with ⟨q,e',l,c,p⟩|⟨l,c⟩
   ·have a:q≠j:=fun e=>b (e▸c)
    exact .inl ⟨q,e',by rw[Qg,if_neg a];exact l,c,p⟩
   ·refine .inr ⟨l,fun q a=> ?_⟩
    by_cases m:q=j
    ·rw[m];exact fun e=>b e.symm
    ·obtain ⟨n,a⟩:=a
     rw[Qg,if_neg m] at a
     exact c q ⟨n,a⟩
theorem Qwx {σ:Nat→Nat}{T:Tab}{q:Nat}(h:T.al q):σ q∈T.map fun p=>σ p.1:=by
 obtain ⟨e,h⟩:=h
 refine bd.2 ?_
 induction T with
 | nil=>cases h
 | cons x T i=>
  obtain ⟨j,o⟩:=x
  rw[Qg] at h
  by_cases a:q=j
  ·exact ⟨(j,o),aB ..,by rw[a]⟩
  ·rw[if_neg a] at h
   obtain ⟨p,b,c⟩:=i h
   exact ⟨p,aA _ b,c⟩
@[reducible] def St.backP (s:St) (d:Nat) (σ:Nat→Nat) (used:List Nat) (pv:PV) (T:Tab):St:=⟨(d,pv.ren σ)::s.tm,T.ren σ++(W5 used++s.tab)⟩
section
variable {A:Amb}{P:Program}{s:St}{f:FuncId}{xs:List Operand}{tys:Array TypeId}{args:List (Bool×List LV)}{d:Nat}{ty:TypeId}{pos:String}{af:Array Edge}{g:Option (Nat×Bool)}{pv:PV}{T T':Tab}{k:Nat}
theorem Qjp (n:Nat)(ρ:List (Nat×Nat)){gh gh':Gh}{a:Act}{w w':World}{v:Value}(r:Rg A s gh a w)(hT:HasE s ρ T)(hi:Wz (T.map fun p=>rn ρ p.1)=true)
 (hcl:YI pv T'=true) (hi':Wz (T'.map fun p=>sg ρ k n p.1)=true) (hk:∀q,T'.al q→q<k→T.al q) (hfr:∀q,T'.al q→k≤q→Fresh s (n+q)) (hk0:A.k0≤n) (hn:Nat.blt d A.n=true)
 (cx:Cx T' gh' w') (hp:PVR T'.al gh' w' pv v) (fr:Fr T T' (gh.via (rn ρ)) gh' w w') (hkk:∀q,q<k→T'.al q→gh'.h q=(gh.via (rn ρ)).h q):
 R A (s.backP d (sg ρ k n) (T.map fun p=>rn ρ p.1) pv T') (a.put (some d) v) w':=by
 have o:∀q,T.al q→s.tab.al (rn ρ q):=fun q ⟨e,h⟩=>⟨_,hT.get h⟩
 obtain ⟨c1,c2⟩:=Qb3 hcl
 have hσ:∀q,T'.al q→(q<k∧T.al q∧sg ρ k n q=rn ρ q)∨(Fresh s (sg ρ k n q)∧A.k0≤sg ρ k n q):=fun q x=>by
  rcases da q k with h|h
  ·exact .inl ⟨h,hk q x h,by simp only[sg];rw[show Nat.blt q k=true from cI h]⟩
  ·have e:sg ρ k n q=n+q:=by
    simp only[sg];rw[show Nat.blt q k=false from by
     cases hb:Nat.blt q k with
     | false=>rfl
     | true=>have:=aE hb;omega]
   rw[e];exact .inr ⟨hfr q x h,by omega⟩
 have a0:∀q l,T'.al q→T'.al l→sg ρ k n q=sg ρ k n l→q=l:=fun q l m z h=>JH hi' m z h
 generalize hs:sg ρ k n=σ at hσ a0 hi' ⊢
 classical
 let G:Gh:=⟨fun b=>if h:∃q,T'.al q∧σ q=b then gh'.h h.choose else gh.h b,fun b=>if h:∃q,T'.al q∧σ q=b then gh'.f h.choose else gh.f b,fun g=>gh.N g∨gh'.N g⟩
 have D:∀q,T'.al q→G.h (σ q)=gh'.h q∧G.f (σ q)=gh'.f q:=fun q x=>by
  have F:∃l,T'.al l∧σ l=σ q:=⟨q,x,rfl⟩
  have e1:F.choose=q:=a0 _ _ F.choose_spec.1 x F.choose_spec.2
  simp only[G]
  rw[dif_pos F,dif_pos F,e1]
  exact ⟨rfl,rfl⟩
 have t:∀b,(∀q,T'.al q→σ q≠b)→G.h b=gh.h b∧G.f b=gh.f b:=fun b h=>by
  have Z:¬∃q,T'.al q∧σ q=b:=fun ⟨q,m,z⟩=>h q m z
  simp only[G]
  rw[dif_neg Z,dif_neg Z]
  exact ⟨rfl,rfl⟩
 let U:Tab:=Tab.ren σ T'++(W5 (T.map fun p=>rn ρ p.1)++s.tab)
 have O:∀q,T.al q→rn ρ q∈T.map fun p=>rn ρ p.1:=fun q x=>Qwx x
 have hU:∀b e,U.ent b=some e→(∃q I,T'.ent q=some I∧b=σ q∧e=I.ren σ)∨(s.tab.ent b=some e∧(∀q,T'.al q→σ q≠b)∧∀q,T.al q→rn ρ q≠b):=fun b e h=>by
  rcases QjK h with m|⟨m,z⟩
  ·exact .inl m
  ·rw[VD] at m
   split at m
   ·cases m
   ·rename_i V
    exact .inr ⟨m,z,fun q x e=>V (e▸O q x)⟩
 have B:∀b,U.al b→(∃q,T'.al q∧b=σ q)∨(s.tab.al b∧(∀q,T'.al q→σ q≠b)∧∀q,T.al q→rn ρ q≠b):=fun b ⟨e,h⟩=>by
  rcases hU b e h with ⟨q,I,m,z,_⟩|⟨m,z,V⟩
  ·exact .inl ⟨q,⟨I,m⟩,z⟩
  ·exact .inr ⟨⟨e,m⟩,z,V⟩
 have a2:∀b,s.tab.al b→(∀q,T.al q→rn ρ q≠b)→∀g∈gh.f b,w'.heap[g]? =w.heap[g]? :=fun b m z g c=>
  fr.kp g (r.cx.lt m g c) fun q x u=>r.cx.dj _ _ m (o q x) (fun e=>z q x e.symm) g c u
 have a1:∀g,gh.N g→w'.heap[g]? =w.heap[g]? :=fun g j=>fr.kp g (r.cx.nl g j) fun q x c=>r.cx.no _ (o q x) g c j
 have C:∀q,T'.al q→∀g∈gh'.f q,w.heap.size≤g∨∃l,T.al l∧g∈gh.f (rn ρ l):=fr.ox
 have S:Rg A ⟨s.tm,U⟩ G a w':=by
  refine r.step (gh':=G) ⟨fun b e h=> ?_,fun r1 S m z Y g c u=> ?_,fun b h=> ?_,fun b h g c j=> ?_,fun g j=> ?_⟩ (fun b h=> ?_) (fun g j=>⟨.inl j,a1 g j⟩) fr.gw
   (fun g c h=>fr.kp g c fun q x=>h _ (o q x)) (fun g j=> ?_) fun b h g c=> ?_
  ·rcases hU b e h with ⟨q,I,m,rfl,rfl⟩|⟨m,z,V⟩
   ·refine EntR.ren.2 ((cx.en q I m).mono (fun l M _=> ?_) (fun g c=>⟨.inr c,rfl⟩) (D q ⟨I,m⟩).1 (D q ⟨I,m⟩).2 fun _ _=>rfl)
    have J:=c2 q I m l M
    exact ⟨J,(D l J).1⟩
   ·refine (r.cx.en b e m).mono (fun l M hu=> ?_) (fun g j=>⟨.inl j,a1 g j⟩) (t b z).1 (t b z).2 fun g c=>a2 b ⟨e,m⟩ V g c
    rcases B l hu with ⟨q,J,rfl⟩|⟨J,h5,_⟩
    ·rcases hσ q J with ⟨L,W,X⟩|⟨L,_⟩
     ·rw[(D q J).1,hkk q L J]
      exact ⟨X▸o q W,by rw[X]⟩
     ·exact absurd M (L.en b e m)
    ·exact ⟨J,(t l h5).1⟩
  ·rcases B r1 m with ⟨y,i,rfl⟩|⟨i,H,Q⟩ <;> rcases B S z with ⟨q2,K,rfl⟩|⟨K,l2,l3⟩
   ·rw[(D y i).2] at c
    rw[(D q2 K).2] at u
    exact cx.dj y q2 i K (fun e=>Y (e▸rfl)) g c u
   ·rw[(D y i).2] at c
    rw[(t S l2).2] at u
    rcases C y i g c with h|⟨l,h,E⟩
    ·have:=r.cx.lt K g u;omega
    ·exact r.cx.dj _ _ (o l h) K (l3 l h) g E u
   ·rw[(t r1 H).2] at c
    rw[(D q2 K).2] at u
    rcases C q2 K g u with h|⟨l,h,E⟩
    ·have:=r.cx.lt i g c;omega
    ·exact r.cx.dj _ _ (o l h) i (Q l h) g E c
   ·rw[(t r1 H).2] at c
    rw[(t S l2).2] at u
    exact r.cx.dj r1 S i K Y g c u
  ·rcases B b h with ⟨y,i,rfl⟩|⟨i,H,Q⟩
   ·rw[(D y i).2];exact cx.nd y i
   ·rw[(t b H).2];exact r.cx.nd b i
  ·rcases B b h with ⟨y,i,rfl⟩|⟨i,H,Q⟩
   ·rw[(D y i).2] at c
    rcases j with j|j
    ·rcases C y i g c with h|⟨l,h,E⟩
     ·have:=r.cx.nl g j;omega
     ·exact r.cx.no _ (o l h) g E j
    ·exact cx.no y i g c j
   ·rw[(t b H).2] at c
    rcases j with j|j
    ·exact r.cx.no b i g c j
    ·rcases fr.nn g j with h|h|⟨l,h,E⟩
     ·exact r.cx.no b i g c h
     ·have:=r.cx.lt i g c;omega
     ·exact r.cx.dj _ _ (o l h) i (Q l h) g E c
  ·rcases j with j|j
   ·exact ba (r.cx.nl g j) fr.gw.size
   ·exact cx.nl g j
  ·rcases B b h with ⟨y,i,rfl⟩|⟨i,H,Q⟩
   ·rcases hσ y i with ⟨L,W,X⟩|⟨L,W⟩
    ·refine .inl ⟨X▸o y W,?_,fun _=>rfl⟩
     rw[(D y i).1,hkk y L i,X]
    ·exact .inr ⟨L,W⟩
   ·exact .inl ⟨i,(t b H).1,fun _=>rfl⟩
  ·rcases j with j|j
   ·exact .inl j
   ·rcases fr.nn g j with h|h|⟨l,h,E⟩
    ·exact .inl h
    ·exact .inr (.inl h)
    ·exact .inr (.inr ⟨_,o l h,E,fun hl=>r.xn g hl (r.ox _ (o l h) g E hl)⟩)
  ·rcases B b h with ⟨y,i,rfl⟩|⟨i,H,Q⟩
   ·rw[(D y i).2] at c
    rcases C y i g c with h|⟨l,h,E⟩
    ·exact .inl h
    ·exact .inr ⟨_,o l h,E⟩
   ·rw[(t b H).2] at c
    exact .inr ⟨b,i,c⟩
 refine ⟨G,?_⟩
 refine S.put (aE hn) (pv:=pv.ren σ) ?_
 exact PVR.ren.2 (hp.mono (fun q x _=>⟨c1 q x,(D q (c1 q x)).1⟩) fun g c=>⟨.inr c,rfl⟩)
theorem Qef {o:Oper}{vals:Gh→Act→List Value}(n:Nat)(ρ:List (Nat×Nat))(B:o.dst=some d)(G:FC P f args T k (Is pv T'))
 (hup:∀gh a w K Q,Rg A s gh a w→Calls P f (vals gh a).toArray w (fun e w'=>match e with | .returned v=>K (a.put o.dst v) w'|_=>False)→o.wp P a w K Q)
 (ha:∀gh a w,Rg A s gh a w→CmsR s.tab.al gh w (args.map fun c=>(c.1,c.2.map (LV.ren (rn ρ)))) (vals gh a)) (hT:HasE s ρ T) (hi:Wz (T.map fun p=>rn ρ p.1)=true)
 (hcl:YI pv T'=true) (hi':Wz (T'.map fun p=>sg ρ k n p.1)=true) (hk:∀q,T'.al q→q<k→T.al q) (hfr:∀q,T'.al q→k≤q→Fresh s (n+q)) (hk0:A.k0≤n) (hn:Nat.blt d A.n=true):
 Does A P o s (s.backP d (sg ρ k n) (T.map fun p=>rn ρ p.1) pv T'):=fun a w K Q r F=>by
 obtain ⟨gh,r⟩:=r
 have b:∀q,T.al q→s.tab.al (rn ρ q):=fun q ⟨e,h⟩=>⟨_,hT.get h⟩
 have j:∀q i,T.al q→T.al i→rn ρ q=rn ρ i→q=i:=fun q i l m h=>JH hi l m h
 have t:Cx T (gh.via (rn ρ)) w:=⟨fun q e h=>(EntR.ren.1 (r.cx.en _ _ (hT.get h))).mono (fun M _ E=>⟨b M E,rfl⟩) (fun g x=>⟨x,rfl⟩) rfl rfl fun _ _=>rfl,
  fun q i l m z=>r.cx.dj _ _ (b q l) (b i m) fun h=>z (j q i l m h),fun q h=>r.cx.nd _ (b q h),fun q h=>r.cx.no _ (b q h),r.cx.nl⟩
 have J:=(CmsR.ren.1 (ha gh a w r)).mono (al':=T.al) (gh':=gh.via (rn ρ)) (w':=w) (fun q _ h=>⟨b q h,rfl⟩) fun g x=>⟨x,rfl⟩
 refine hup gh a w K Q r (Calls.mono (G _ w _ t J) fun e w' H=> ?_)
 obtain ⟨v,L,N,u,rfl,⟨rfl,rfl⟩,C,I,D,y⟩:=H
 refine F _ _ ?_
 rw[B]
 exact Qjp n ρ r hT hi hcl hi' hk hfr hk0 hn C I D y
def FrK (s:St)(n k:Nat):List Nat→Prop
 | []=>True
 | q::l=>(match Nat.blt q k with
  | true=>True
  | false=>Fresh s (n+q))∧FrK s n k l
theorem FrK.get {n k:Nat}{l:List Nat}(h:FrK s n k l):∀q∈l,k≤q→Fresh s (n+q):=by
 induction l with
 | nil=>simp
 | cons q l i=>
  intro r a e
  rcases aJ.1 a with rfl|a
  ·have b:=h.1
   rw[show Nat.blt r k=false from by
    cases c:Nat.blt r k with
    | false=>rfl
    | true=>have:=aE c;omega] at b
   exact b
  ·exact i h.2 r a e
def QjY (T T':Tab)(k:Nat):Bool:=(ZS T').all fun q=> !(Nat.blt q k)||(T.ent q).isSome
theorem Qjb (n:Nat)(ρ:List (Nat×Nat))(j:FC P f args T k (Is pv T'))(b:Qf P f)(i:EvL A s xs (args.map fun c=>(c.1,c.2.map (LV.ren (rn ρ)))))(e:HasE s ρ T)(hi:Wz (T.map fun p=>rn ρ p.1)=true)
 (hcl:YI pv T'=true) (hi':Wz (T'.map fun p=>sg ρ k n p.1)=true) (hk:∀q,T'.al q→q<k→T.al q) (hfr:∀q,T'.al q→k≤q→Fresh s (n+q)) (hk0:A.k0≤n) (hn:Nat.blt d A.n=true):
 Does A P ⟨some d,.call ⟨.value (.func f),xs.toArray,tys⟩,ty,pos,af,g⟩ s (s.backP d (sg ρ k n) (T.map fun p=>rn ρ p.1) pv T'):=
 Qef (vals:=fun _ a=>xs.map a.eval) n ρ rfl j (fun _ _ _ _ _ _ h=>HH b rfl h) (fun _ _ _ r=>i.cms r) e hi hcl hi' hk hfr hk0 hn
theorem Qm5 {P:Program}{o:Oper}{f:FuncId}{c:Operand}{xs:List Operand}{tys:Array TypeId}{a:Act}{w:World}{K:Act→World→Prop}{Q:Exit→Act→World→Prop}{cs:List Value}(i:Qf P f)(j:o.op= .call ⟨.value c,xs.toArray,tys⟩)(l:a.eval c= .func (.func f) #[] cs.toArray)
 (h:Calls P f (xs.map a.eval++cs).toArray w fun e w'=>match e with | .returned v=>K (a.put o.dst v) w'|_=>False):o.wp P a w K Q:=by
 have e:(execOp a.eval o).run P w= .ok (.enter f (xs.map a.eval++cs).toArray) w:=by
  unfold execOp
  simp only[j,resolve,l,Deferred.ofValue,aw]
  have:=i (xs.map a.eval++cs).toArray w
  simpa [invoke] using this
 unfold Oper.wp
 rw[e,Oper.upon_enter]
 refine Calls.mono h fun e w' b=> ?_
 cases e <;> first|exact b|exact b.elim
def Qre (T:Tab)(q:Nat):Bool:=match T.ent q with
 | some (.box _ _)=>true
 | _=>false
theorem Qh7 {gh:Gh}{w:World}{T:Tab}(c:Cx T gh w){q:Nat}(h:Qre T q=true):T.al q∧∃g,gh.h q= .pointer (some ⟨g,0,none⟩):=by
 unfold Qre at h
 cases a:T.ent q with
 | none=>rw[a] at h;cases h
 | some e=>
  rw[a] at h
  cases e with
  | box E j=>obtain ⟨g,b,i,_⟩:=c.en q _ a;exact ⟨⟨_,a⟩,g,i⟩
  | _=>cases h
def EvCaps (A:Amb)(s:St):List Operand→List Nat→Prop
 | [],qs=>qs=[]
 | x::xs,qs=>∃q qs',qs=q::qs'∧Evl A s x (.ptr q 0)∧Qre s.tab q=true∧EvCaps A s xs qs'
theorem EvCaps.vals {xs:List Operand}{b:List Nat}(h:EvCaps A s xs b){gh:Gh}{a:Act}{w:World}(r:Rg A s gh a w):xs.map a.eval=b.map gh.h:=by
 induction xs generalizing b with
 | nil=>rw[show b=[] from h];rfl
 | cons x xs n=>
  obtain ⟨q,o,rfl,c,e,i⟩:=h
  obtain ⟨j,g,t⟩:=Qh7 r.cx e
  obtain ⟨p,l,m⟩:=c gh a w r j
  rw[bf,bf,n i,m,l]
theorem Q1 {cs:List Operand}{b:List Nat}(e:EvCaps A s cs b)(i:Nat.blt d A.n=true):Does A P ⟨some d,.makeFunc (.func f) #[] cs.toArray,ty,pos,af,g⟩ s (s.put d (lf (.clo f b))):=
 Qi rfl i fun c a w r=>by
  refine ⟨.func (.func f) #[] (b.map c.h).toArray,?_,_,rfl,fun _=>rfl⟩
  simp only[execOp,Instr.makeFunc]
  simp[e.vals r]
theorem Q3 {D:Operand}{args0:List (Bool×List LV)}{caps z:List Nat}(n:Nat)(ρ:List (Nat×Nat))(o:FC P f args T k (Is pv T'))(M:Qf P f)(h0:args=args0++caps.map fun q=>(false,[.ptr q 0]))(C:Evl A s D (.clo f z))(j:z=caps.map (rn ρ))(hb:(caps.all fun q=>Qre s.tab (rn ρ q))=true)
 (ha:EvL A s xs (args0.map fun c=>(c.1,c.2.map (LV.ren (rn ρ))))) (hT:HasE s ρ T)
 (hB:(Wz (T.map fun p=>rn ρ p.1)&&YI pv T'&&Wz (T'.map fun p=>sg ρ k n p.1)&&QjY T T' k&&Nat.blt d A.n)=true) (hfr:FrK s n k (ZS T')) (hk0:A.k0≤n):
 Does A P ⟨some d,.call ⟨.value D,xs.toArray,tys⟩,ty,pos,af,g⟩ s (s.backP d (sg ρ k n) (T.map fun p=>rn ρ p.1) pv T'):=by
 simp only[aM] at hB
 obtain ⟨⟨⟨⟨E,F⟩,G⟩,H⟩,I⟩:=hB
 subst h0 j
 have i:∀q∈caps,Qre s.tab (rn ρ q)=true:=au.1 hb
 refine Qef (vals:=fun l a=>xs.map a.eval++(caps.map (rn ρ)).map l.h) n ρ rfl o (fun l a w K Q r h=>Qm5 M rfl (C l a w r fun q j=> ?_) h) (fun l a w r=> ?_) hT E F G (fun q ⟨e,j⟩ t=> ?_) (fun q ⟨e,j⟩ t=>hfr.get q (Zw j).1 t) hk0 I
 ·obtain ⟨y,b,rfl⟩:=bd.1 j
  exact (Qh7 r.cx (i y b)).1
 ·rw[bB]
  have b:=ha.cms r
  have J:CmsR s.tab.al l w ((caps.map fun q=>(false,[.ptr q 0])).map fun c:Bool×List LV=>(c.1,c.2.map (LV.ren (rn ρ)))) ((caps.map (rn ρ)).map l.h):=by
   clear b o hb C
   induction caps with
   | nil=>exact rfl
   | cons q z x=>
    obtain ⟨B,g,m⟩:=Qh7 r.cx (i q (aB ..))
    exact ⟨_,_,rfl,⟨_,rfl,fun _=>⟨g,m,m⟩⟩,x fun y u=>i y (aA _ u)⟩
  clear o
  generalize (args0.map fun c=>(c.1,c.2.map (LV.ren (rn ρ))))=L at b ⊢
  generalize xs.map a.eval=vs at b ⊢
  induction L generalizing vs with
  | nil=>rw[show vs=[] from b];exact J
  | cons c O x=>obtain ⟨v,N,rfl,B,m⟩:=b;exact ⟨v,_,rfl,B,x _ m⟩
 ·have:=au.1 H q (Zw j).1
  rw[show Nat.blt q k=true from cI t] at this
  exact bg.1 (by simpa using this)
theorem Qae (n:Nat)(ρ:List (Nat×Nat))(u:FC P f args T k (Is pv T'))(o:Qf P f)(t:EvL A s xs (args.map fun c=>(c.1,c.2.map (LV.ren (rn ρ)))))(r:HasE s ρ T)
 (hB:(Wz (T.map fun p=>rn ρ p.1)&&YI pv T'&&Wz (T'.map fun p=>sg ρ k n p.1)&&QjY T T' k&&Nat.blt d A.n)=true) (hfr:FrK s n k (ZS T')) (hk0:A.k0≤n):
 Does A P ⟨some d,.call ⟨.value (.func f),xs.toArray,tys⟩,ty,pos,af,g⟩ s (s.backP d (sg ρ k n) (T.map fun p=>rn ρ p.1) pv T'):=by
 simp only[aM] at hB
 obtain ⟨⟨⟨⟨h,i⟩,j⟩,l⟩,m⟩:=hB
 refine Qjb n ρ u o t r h i j (fun q ⟨e,b⟩ a=> ?_) (fun q ⟨e,b⟩ a=>hfr.get q (Zw b).1 a) hk0 m
 have:=au.1 l q (Zw b).1
 rw[show Nat.blt q k=true from cI a] at this
 exact bg.1 (by simpa using this)
def ThL (s:St):List LV→List LV→Prop
 | [],ls'=>ls'=[]
 | l::ls,ls'=>∃l' r,ls'=l'::r∧(l=l'∨∃q E e xs,l= .ref q∧s.tab.ent q=some (.arr E e xs)∧l'= .dat (.sl E e) xs)∧ThL s ls r
theorem LVs.th {gh:Gh}{a:Act}{w:World}(r:Rg A s gh a w){ls ls':List LV}{vs:List Value}(h:LVs s.tab.al gh w ls vs)(k:ThL s ls ls'):LVs (fun _=>False) ⟨gh.h,gh.f,fun g=>g<w.heap.size⟩ w ls' vs:=by
 induction ls generalizing ls' vs with
 | nil=>rw[show ls'=[] from k];exact h
 | cons l ls t=>
  obtain ⟨v,c,rfl,i,m⟩:=h
  obtain ⟨u,x,rfl,n,o⟩:=k
  refine ⟨v,c,rfl,?_,t m o⟩
  rcases n with rfl|⟨q,E,e,xs,rfl,h5,rfl⟩
  ·exact i.mono (fun _ _ h=>h.elim) fun g b=>⟨r.cx.nl g b,rfl⟩
  ·have p:v=gh.h q:=i ⟨_,h5⟩
   have j:Own (.sl E e) w (gh.f q) [gh.h q] xs:=r.cx.en q _ h5
   rw[p]
   exact j.rd fun g b=>Own.lt j g b
theorem QgG {x:Operand}{b:Bool}{ls ls':List LV}(h:Ev A s x (b,ls))(k:ThL s ls ls'):EvB A s x (b,ls'):=fun j a w r=>by
 have m:=h j a w r
 cases b with
 | true=>obtain ⟨o,p,c⟩:=m;exact ⟨o,p,c.th r k⟩
 | false=>
  obtain ⟨l,rfl,c⟩:=m
  have t:LVs s.tab.al j w [l] [a.eval x]:=⟨_,[],rfl,c,rfl⟩
  obtain ⟨i,y,rfl,q,e⟩:=k
  have e:y=[]:=e
  subst e
  obtain ⟨v,o,n,u,_⟩:=t.th r (ls':=[i]) ⟨i,[],rfl,q,rfl⟩
  simp only[aI] at n
  exact ⟨i,rfl,n.1▸u⟩
end
def szv (left:Int)(t:Nat):Int:=if left<t then -1 else left - t
theorem Qts (left:Int)(t:Nat):(left<t∧szv left t= -1)∨((t:Int)≤left∧szv left t=left - t):=by
 unfold szv
 split
 ·exact .inl ⟨by assumption,rfl⟩
 ·exact .inr ⟨by omega,rfl⟩
theorem Qww {w w':World}{l:Int}{t:Nat}{e:Ending}(h:SzPost w l t e w'):e= .returned (.int .i64 (szv l t))∧Nw w w':=by
 obtain ⟨c,rfl,a,b⟩:=h
 have d:=Qts l t
 unfold CutTo at a
 have:c=Go.Proofs.YtjfpbcmfbnnooaaGreat.szv l t:=by omega
 exact ⟨by rw[this],b⟩
theorem QqG {P:Program}{f:FuncId}{args:List (Bool×List LV)}{pv:PV}(h:∀(gh:Gh) (w:World) (vs:List Value),CmsR (Tab.al []) gh w args vs→Calls P f vs.toArray w fun e w'=>∃v,e= .returned v∧Nw w w'∧PVR (Tab.al []) gh w' pv v):FC P f args [] 0 (QK pv):=fun gh w vs d j=>
 Calls.mono (h gh w vs j) fun e w' k=>by
  obtain ⟨v,rfl,b,i⟩:=k
  exact ⟨_,_,[],gh,rfl,⟨rfl,rfl⟩,Wj ZF gh w' fun g a=>ba (d.nl g a) b.size,i,⟨b.grw,fun g a _=>Below.block b g a,fun g a=> .inl a,fun q c=>absurd c (ZF q)⟩,fun q c=>absurd c (by omega)⟩
section
variable {al:Nat→Prop}{gh:Gh}{w:World}{t:Ty}{x:t.Den}{cs:List (Bool×List LV)}{vs:List Value}
theorem CmsR.leaf_cons (h:CmsR al gh w ((false,[.dat t x])::cs) vs):∃v a,vs=v::a∧Rep t w [v] x∧CmsR al gh w cs a:=by
 obtain ⟨v,a,rfl,⟨l,b,c⟩,d⟩:=h
 simp only[aI,and_true] at b
 subst b
 exact ⟨v,a,rfl,Rd.rep c,d⟩
theorem CmsR.nil_ (h:CmsR al gh w [] vs):vs=[]:=h
end
section
variable {P:Program}{f:FuncId}{t:Ty}{x:t.Den}
end
def Ty.sls:Ty→Nat
 | .int=>0
 | .bool=>0
 | .str=>0
 | .u8=>0
 | .vl=>0
 | .sl _ _=>1
 | .pr a b=>a.sls+b.sls
def oL:(t:Ty)→t.Den→Nat→List LV
 | .int,x,_=>[.dat .int x]
 | .bool,x,_=>[.dat .bool x]
 | .str,x,_=>[.dat .str x]
 | .u8,x,_=>[.dat .u8 x]
 | .vl,x,_=>[.dat .vl x]
 | .sl _ _,_,n=>[.ref n]
 | .pr a b,x,n=>oL a x.1 n++oL b x.2 (n+a.sls)
def oT:(t:Ty)→t.Den→Nat→Tab
 | .int,_,_=>[]
 | .bool,_,_=>[]
 | .str,_,_=>[]
 | .u8,_,_=>[]
 | .vl,_,_=>[]
 | .sl E e,xs,n=>[(n,some (.arr E e xs))]
 | .pr a b,x,n=>oT a x.1 n++oT b x.2 (n+a.sls)
theorem Qd1:∀(t:Ty) (x:t.Den) (n q:Nat),q∈QN (oL t x n)→n≤q∧q<n+t.sls
 | .int,_,_,_,h=>by cases h
 | .bool,_,_,_,h=>by cases h
 | .str,_,_,_,h=>by cases h
 | .u8,_,_,_,h=>by cases h
 | .vl,_,_,_,h=>by cases h
 | .sl _ _,_,n,q,h=>by
  have:q=n:=by simpa [oL,QN,LV.tags] using h
  subst this
  exact ⟨aO _,Nat.lt_succ_self _⟩
 | .pr a b,x,n,q,h=>by
  rw[oL,WZ] at h
  rcases aQ.1 h with h|h
  ·have:=Qd1 a x.1 n q h;simp only[Ty.sls];omega
  ·have:=Qd1 b x.2 _ q h;simp only[Ty.sls];omega
theorem Qk2 {A B:Tab}{q:Nat}{e:Ent}(h:Tab.ent (A++B) q=some e):A.ent q=some e∨B.ent q=some e:=by
 induction A with
 | nil=>exact .inr h
 | cons x A b=>
  obtain ⟨j,o⟩:=x
  rw[cX,Qg] at h
  rw[Qg]
  by_cases a:q=j
  ·rw[if_pos a] at h ⊢;exact .inl h
  ·rw[if_neg a] at h ⊢;exact b h
structure Parts (t:Ty) (w:World) (fp:List Nat) (cs:List Value) (x:t.Den) (n:Nat) (hh:Nat→Value) (ff:Nat→List Nat):Prop where
  lv:∀(al:Nat→Prop) (N:Nat→Prop),LVs al ⟨hh,ff,N⟩ w (oL t x n) cs
  rg:∀q e,(oT t x n).ent q=some e→n≤q∧q<n+t.sls∧(∃E' e' xs,e= .arr E' e' xs∧Own (.sl E' e') w (ff q) [hh q] xs)∧(∀g∈ff q,g∈fp)∧(ff q).Nodup
  dj:∀q q',(oT t x n).al q→(oT t x n).al q'→q≠q'→∀g∈ff q,g∉ff q'
theorem Ue {t:Ty}{w:World}{cs:List Value}{x:t.Den}{n:Nat}(fp:List Nat)(d:Rep t w cs x)(c:t.flat=true)(b:∀y m,oL t y m=leaves t y)(a:∀y m,oT t y m=[]):Parts t w fp cs x n (fun _=>undef) fun _=>[] where
 lv al N:=by rw[b];exact (Rep.rd0 (N:=N) (w':=w) d c).leaves
 rg q e h:=by rw[a] at h;cases h
 dj q q' h:=by rw[a] at h;exact absurd h (ZF q)
theorem Own.parts:∀{t:Ty} {w:World} {fp:List Nat} {cs:List Value} {x:t.Den} (n:Nat),Own t w fp cs x→fp.Nodup→∃W V,Parts t w fp cs x n W V
 | .int,_,fp,_,_,_,h,_=>⟨_,_,Ue fp h.rep rfl (fun _ _=>rfl) fun _ _=>rfl⟩
 | .bool,_,fp,_,_,_,h,_=>⟨_,_,Ue fp h.rep rfl (fun _ _=>rfl) fun _ _=>rfl⟩
 | .str,_,fp,_,_,_,h,_=>⟨_,_,Ue fp h.rep rfl (fun _ _=>rfl) fun _ _=>rfl⟩
 | .u8,_,fp,_,_,_,h,_=>⟨_,_,Ue fp h.rep rfl (fun _ _=>rfl) fun _ _=>rfl⟩
 | .vl,_,fp,_,_,_,h,_=>⟨_,_,Ue fp h.rep rfl (fun _ _=>rfl) fun _ _=>rfl⟩
 | .sl E e,w,fp,cs,xs,n,h,hd=>by
  have X:=h.len
  match cs,X with
  | [v],_=>
   refine ⟨fun _=>v,fun _=>fp,⟨fun al N=>⟨v,[],rfl,fun _=>rfl,rfl⟩,fun q D i=> ?_,fun q j m y u=> ?_⟩⟩
   ·rw[oT,Qg] at i
    by_cases S:q=n
    ·rw[if_pos S] at i
     cases i
     exact ⟨by omega,by simp only[Ty.sls];omega,⟨_,_,_,rfl,h⟩,fun g s=>s,hd⟩
    ·rw[if_neg S] at i;cases i
   ·exact absurd (own1_al' m |>.trans (own1_al' y).symm) u
 | .pr a b,w,fp,cs,x,n,h,hd=>by
  obtain ⟨Y,Z,l,r,rfl,rfl,m,y⟩:=h
  obtain ⟨T,U,R⟩:=bj.1 hd
  obtain ⟨J,H,A⟩:=Own.parts n m T
  obtain ⟨K,I,B⟩:=Own.parts (n+a.sls) y U
  have o:∀q,q<n+a.sls→(if q<n+a.sls then J q else K q)=J q∧(if q<n+a.sls then H q else I q)=H q:=fun q h=>⟨if_pos h,if_pos h⟩
  have p:∀q,n+a.sls≤q→(if q<n+a.sls then J q else K q)=K q∧(if q<n+a.sls then H q else I q)=I q:=fun q h=>⟨if_neg (by omega),if_neg (by omega)⟩
  refine ⟨fun q=>if q<n+a.sls then J q else K q,fun q=>if q<n+a.sls then H q else I q,⟨fun al N=> ?_,fun q e i=> ?_,fun q j c d u=> ?_⟩⟩
  ·exact LVs.app ((A.lv al N).mono (fun q L k=>⟨k,(o q (Qd1 a x.1 n q L).2).1⟩) fun g s=>⟨s,rfl⟩) ((B.lv al N).mono (fun q L k=>⟨k,(p q (Qd1 b x.2 _ q L).1).1⟩) fun g s=>⟨s,rfl⟩)
  ·rcases Qk2 i with i|i
   ·obtain ⟨c,d,M,O,Q⟩:=A.rg q e i
    refine ⟨c,by simp only[Ty.sls];omega,?_,?_,?_⟩
    ·rw[(o q d).1,(o q d).2];exact M
    ·rw[(o q d).2];exact fun g s=>aS _ (O g s)
    ·rw[(o q d).2];exact Q
   ·obtain ⟨c,d,M,O,Q⟩:=B.rg q e i
    refine ⟨by omega,by simp only[Ty.sls];omega,?_,?_,?_⟩
    ·rw[(p q c).1,(p q c).2];exact M
    ·rw[(p q c).2];exact fun g s=>aW _ (O g s)
    ·rw[(p q c).2];exact Q
  ·obtain ⟨e,c⟩:=c
   obtain ⟨D,d⟩:=d
   rcases Qk2 c with c|c <;> rcases Qk2 d with d|d
   ·obtain ⟨_,z,_,F,_⟩:=A.rg q e c
    obtain ⟨_,C,_,G,_⟩:=A.rg j D d
    rw[(o q z).2,(o j C).2]
    exact A.dj q j ⟨_,c⟩ ⟨_,d⟩ u
   ·obtain ⟨_,z,_,F,_⟩:=A.rg q e c
    obtain ⟨C,_,_,G,_⟩:=B.rg j D d
    rw[(o q z).2,(p j C).2]
    exact fun g m y=>R _ (F g m) _ (G g y) rfl
   ·obtain ⟨z,_,_,F,_⟩:=B.rg q e c
    obtain ⟨_,C,_,G,_⟩:=A.rg j D d
    rw[(p q z).2,(o j C).2]
    exact fun g m y=>R _ (G g y) _ (F g m) rfl
   ·obtain ⟨z,_,_,F,_⟩:=B.rg q e c
    obtain ⟨C,_,_,G,_⟩:=B.rg j D d
    rw[(p q z).2,(p j C).2]
    exact B.dj q j ⟨_,c⟩ ⟨_,d⟩ u
where
 own1_al' {E:TypeId} {e:Ty} {zs:List e.Den} {q n:Nat} (h:Tab.al [(n,some (.arr E e zs))] q):q=n:=by
  obtain ⟨D,h⟩:=h
  rw[Qg] at h
  by_cases m:q=n
  ·exact m
  ·rw[if_neg m] at h;cases h
section
variable {P:Program}{f:FuncId}{t:Ty}{x:t.Den}{args:List (Bool×List LV)}
end
def gh0 (w:World):Gh:=⟨fun _=>undef,fun _=>[],fun g=>g<w.heap.size⟩
theorem QoN {al:Nat→Prop}{gh:Gh}{w:World}:CmsR al gh w [] []:=rfl
theorem Qya {al:Nat→Prop}{w:World}{t:Ty}{x:t.Den}{us vs:List Value}{cs:List (Bool×List LV)}(h:Rep t w us x)(k:CmsR al (gh0 w) w cs vs):CmsR al (gh0 w) w ((true,leaves t x)::cs) (.agg us.toArray::vs):=
 ⟨_,_,rfl,⟨us,rfl,(h.rd fun _ a=>a).leaves⟩,k⟩
theorem Qi9 {al:Nat→Prop}{w:World}{t:Ty}{x:t.Den}{v:Value}{vs:List Value}{cs:List (Bool×List LV)}(h:Rep t w [v] x)(k:CmsR al (gh0 w) w cs vs):CmsR al (gh0 w) w ((false,[.dat t x])::cs) (v::vs):=
 ⟨_,_,rfl,⟨_,rfl,h.rd fun _ a=>a⟩,k⟩
theorem QqF {P:Program}{f:FuncId}{args:List (Bool×List LV)}{b:Bool}(h:FC P f args [] 0 (QK (lf (dB b)))){w:World}{vs:List Value}(j:CmsR (Tab.al []) (gh0 w) w args vs):
 Calls P f vs.toArray w fun e w'=>e= .returned (.bool b)∧Nw w w':=
 Calls.mono (h (gh0 w) w vs (Wj ZF _ _ fun _ c=>c) j) fun e w' k=>by
  obtain ⟨v,p,o,i,rfl,⟨rfl,rfl⟩,_,⟨l,d,m⟩,a,_⟩:=k
  simp only[aI,and_true] at d
  subst d
  exact ⟨by rw[LVR.bool m],⟨a.gw.os,a.gw.tape,a.gw.output,a.gw.size,fun g c=>a.kp g c fun q n=>absurd n (ZF q)⟩⟩
theorem QqJ {A:Amb}{P:Program}{s:St}{fn:Func}{i j l n:ResultVar}{c1 c2 c3 c4:Bool×List LV}(K:fn.results= #[i,j,l,n])(G:Rs A P s i c1)(H:Rs A P s j c2)(I:Rs A P s l c3)(J:Rs A P s n c4):Res A P fn s (.tup [c1,c2,c3,c4]):=fun e a w g=>by
 obtain ⟨h,o,C⟩:=G e a w g
 obtain ⟨f,r,D⟩:=H e a w g
 obtain ⟨c,u,E⟩:=I e a w g
 obtain ⟨b,B,F⟩:=J e a w g
 refine ⟨.tuple #[h,f,c,b],?_,[h,f,c,b],rfl,h,[f,c,b],rfl,C,f,[c,b],rfl,D,c,[b],rfl,E,b,[],rfl,F,rfl⟩
 rw[Ug,K];simp[WQ,o,r,u,B,dE]
theorem QbF {b w:Bool}(h:(!b)=w):b= !w:=by cases b <;> subst h <;> rfl
theorem J2 {b w:Bool}(h:b=w):(!b)= !w:=by rw[h]
theorem Qh {A:Amb}{P:Program}{s:St}{Q:Exit→St→Prop}{ops:Array Oper}{o:Oper}{l:List Oper}{j d:Nat}{b:Bool}(E:o.guard=some (j,b))(D:(ops[j]?).bind (·.dst)=some d)(hb:lk s.tm d=some (lf (.val undef)))
 (k:AL A P ops l Q (match o.dst with|some e=>s.put e (lf (.val undef))|none=>s)) (hn:(match o.dst with|some e=>Nat.blt e A.n|none=>true)=true):AL A P ops (o::l) Q s:=fun a w r=>by
 obtain ⟨i,h⟩:=r
 have F:yielded ops a.tmps j=none:=by
  obtain ⟨v,B,l,u,f⟩:=h.tm d _ hb
  simp only[aI,and_true] at u
  subst u
  have f:v=undef:=f
  subst f
  simp[yielded,D,B,undef]
 refine wpList_step fun K C=> ?_
 rw[if_neg (by simp[Region.wanted,E,F])]
 refine C _ _ (k _ _ ?_)
 cases c:o.dst with
 | none=>exact ⟨i,h⟩
 | some e=>
  rw[c] at hn
  exact ⟨i,h.put (aE hn) (pv:=lf (.val undef)) ⟨_,rfl,rfl⟩⟩
theorem QtL {A:Amb}{P:Program}{s:St}{ops:Array Oper}{o:Oper}{j d c:Nat}{b:Bool}(D:o.guard=some (j,b))(C:(ops[j]?).bind (·.dst)=some d)(hb:lk s.tm d=some (lf (.val undef)))(F:o.dst=some c)(E:Nat.blt c A.n=true):Acts A P ops o s (s.put c (lf (.val undef))):=fun a w K Q r B=>by
 obtain ⟨i,h⟩:=r
 have G:yielded ops a.tmps j=none:=by
  obtain ⟨v,u,l,f,e⟩:=h.tm d _ hb
  simp only[aI,and_true] at f
  subst f
  have e:v=undef:=e
  subst e
  simp[yielded,C,u,undef]
 rw[if_neg (by simp[Region.wanted,D,G]),F]
 exact B _ _ ⟨i,h.put (aE E) (pv:=lf (.val undef)) ⟨_,rfl,rfl⟩⟩
theorem Qdt {P:Program}{T E:TypeId}{w:World}{B:Option Addr}{n c:Nat}(d:Nat)(h:P.underlying T=some (.slice E)):(Op.equalIn (d+1) T (.slice B n c) (.slice none 0 0)).run P w= .ok B.isNone w:=by
 cases B <;> simp[Op.equalIn,run_underlying h]
theorem Qp6 {P:Program}{T E:TypeId}{w:World}{B:Option Addr}{n c:Nat}(h:P.underlying T=some (.slice E)):(binOp .eql T (.slice B n c) (.slice none 0 0)).run P w= .ok (.bool B.isNone) w:=by
 have a:=Qdt (w:=w) (B:=B) (n:=n) (c:=c) 9999 h
 simp only[binOp]
 simp[Op.equal,Op.maxDepth,a]
theorem Qi5 {A:Amb}{P:Program}{s:St}{x y:Operand}{d:Nat}{T T' ty:TypeId}{pos:String}{af:Array Edge}{ops:Array Oper}{l:List Oper}{Q:Exit→St→Prop}{E E':TypeId}{e:Ty}{xs:List e.Den}(C:Evl A s x (.dat (.sl E e) xs))(D:Evl A s y (.val (.slice none 0 0)))
 (hT:P.underlying T=some (.slice E')) (hn:Nat.blt d A.n=true) (k:∀b:Bool,(b=true→xs=[])→AL A P ops l Q (s.put d (lf (dB b)))):AL A P ops (⟨some d,.binOp .eql T x y T',ty,pos,af,none⟩::l) Q s:=
 fun a w r=>wpList_plain rfl fun _ u=>by
  obtain ⟨f,j⟩:=r
  obtain ⟨B,c,o,F,G,H⟩:=Rd.rep (C f a w j)
  simp only[aI,and_true] at o
  have i:a.eval y= .slice none 0 0:=D f a w j
  have e:(execOp a.eval ⟨some d,.binOp .eql T x y T',ty,pos,af,none⟩).run P w= .ok (.value (.bool B.isNone)) w:=by
   simp only[execOp,o,i,eqGuard_at_slice]
   simp[aw,Qp6 hT]
  unfold Oper.wp
  rw[e,Oper.upon_value]
  refine u _ _ (k B.isNone (fun h=> ?_) _ _ ⟨f,j.put (aE hn) (pv:=lf (dB B.isNone)) ⟨_,rfl,ZN⟩⟩)
  grind
theorem Qei {A:Amb}{P:Program}{s:St}{x y:Operand}{d:Nat}{T ty:TypeId}{pos:String}{af:Array Edge}{g:Option (Nat×Bool)}(t:Nat){E:TypeId}{e:Ty}{n:Int}{z:Value}{a:Nat}(b:Evl A s x (dI n))(c:Evl A s y (dI n))(h:P.underlying T=some (.slice E))(hi:(P.info? E).map (fun i=>(i.zero,i.size,i.bytes))=some (some z,e.wd,a))
 (hz:z.cells.toList=e.zeros) (h0:0≤n) (hb:a*n.toNat≤281474976710656) (hm:n.toNat≤1073741824) (hn:Nat.blt d A.n=true) (hfr:Fresh s t) (hk0:A.k0≤t):Does A P ⟨some d,.makeSlice T x y,ty,pos,af,g⟩ s (s.mk_ d t [] E e (List.replicate n.toNat e.zero)):=by
 have f:n=(n.toNat:Int):=by omega
 rw[f] at b c
 exact Vy t b c h hi hz hb hm hn hfr hk0
def QmD {α:Type}(f:α→α→Bool):List α→List α→Bool
 | [],[]=>true
 | x::xs,y::ys=>f x y&&QmD f xs ys
 | _,_=>false
def Ty.beq:(t:Ty)→t.Den→t.Den→Bool
 | .int,x,y=>decide ((x:Int)=y)
 | .bool,x,y=>(x:Bool)==y
 | .str,x,y=>decide ((x:ByteArray)=y)
 | .u8,x,y=>decide ((x:UInt8)=y)
 | .vl,x,y=>decide ((x:Hdr)=y)
 | .sl _ e,x,y=>QmD e.beq x y
 | .pr a b,x,y=>a.beq x.1 y.1&&b.beq x.2 y.2
theorem Qj0 {α:Type}{f:α→α→Bool}(h:∀x y,f x y=true↔x=y):∀xs ys:List α,QmD f xs ys=true↔xs=ys
 | [],[]=>by simp[QmD]
 | [],_::_=>by simp[QmD]
 | _::_,[]=>by simp[QmD]
 | x::xs,y::ys=>by simp[QmD,h,Qj0 h xs ys]
theorem Ty.beq_iff:∀(t:Ty) (x y:t.Den),t.beq x y=true↔x=y
 | .int,x,y=>by simp[Ty.beq]
 | .bool,x,y=>by simp[Ty.beq]
 | .str,x,y=>by simp[Ty.beq]
 | .u8,x,y=>by simp[Ty.beq]
 | .vl,x,y=>by simp[Ty.beq]
 | .sl _ e,x,y=>Qj0 (Ty.beq_iff e) x y
 | .pr a b,x,y=>by
  obtain ⟨c,f⟩:=x
  obtain ⟨y1,y2⟩:=y
  simp[Ty.beq,Ty.beq_iff a,Ty.beq_iff b]
theorem Qjr (t:Ty)(x:t.Den):t.beq x x=true:=(t.beq_iff x x).2 rfl
def Ty.fcs:(t:Ty)→t.Den→List Value
 | .int,x=>[.int .i64 x]
 | .bool,x=>[.bool x]
 | .str,x=>[.string x]
 | .u8,x=>[.int .u8 (x:UInt8).toNat]
 | .vl,x=>[hdV x]
 | .sl _ _,_=>[]
 | .pr a b,x=>a.fcs x.1++b.fcs x.2
theorem Rep.fcs:∀{t:Ty} {w:World} {cs:List Value} {x:t.Den},Rep t w cs x→t.flat=true→cs=t.fcs x
 | .int,_,_,_,h,_=>h.1
 | .bool,_,_,_,h,_=>h
 | .str,_,_,_,h,_=>h.1
 | .u8,_,_,_,h,_=>h
 | .vl,_,_,_,h,_=>h
 | .sl _ _,_,_,_,_,c=>by cases c
 | .pr a b,w,_,_,⟨l,r,h1,h2,h3⟩,c=>by
  have c:(a.flat&&b.flat)=true:=c
  rw[aM] at c
  rw[h1,h2.fcs c.1,h3.fcs c.2];rfl
theorem Rep.fcs_inj:∀{t:Ty} {w w':World} {cs:List Value} {x y:t.Den},Rep t w cs x→Rep t w' cs y→t.flat=true→x=y
 | .int,_,_,_,x,y,h,k,_=>by have e:=h.1;have c:=k.1;rw[e] at c;simpa using c
 | .bool,_,_,_,x,y,h,k,_=>by have e:_=_:=h;have c:_=_:=k;rw[e] at c;simpa using c
 | .str,_,_,_,x,y,h,k,_=>by have e:=h.1;have c:=k.1;rw[e] at c;simpa using c
 | .u8,_,_,_,x,y,h,k,_=>by
  have e:_=_:=h;have c:_=_:=k;rw[e] at c
  grind [List.cons.injEq,Value.int.injEq,UInt8.toNat_inj]
 | .vl,_,_,_,x,y,h,k,_=>by
  have e:_=_:=h;have c:_=_:=k;rw[e] at c
  exact QnL (by simpa using c)
 | .sl _ _,_,_,_,_,_,_,_,f=>by cases f
 | .pr a b,w,w',_,x,y,⟨l,r,e,c,h3⟩,⟨l',r',k1,k2,k3⟩,f=>by
  have f:(a.flat&&b.flat)=true:=f
  rw[aM] at f
  rw[e] at k1
  have i:l.length=l'.length:=by rw[c.len,k2.len]
  obtain ⟨rfl,rfl⟩:=List.append_inj k1 i
  exact Prod.ext (c.fcs_inj k2 f.1) (h3.fcs_inj k3 f.2)
def KV:Bool→(t:Ty)→Value→t.Den→Prop
 | true,t,v,x=>∃cs w,v= .agg cs.toArray∧Rep t w cs x
 | false,t,v,x=>∃w,Rep t w [v] x
theorem MV.kv {gh:Gh}{w:World}{b:Bool}{t:Ty}{v:Value}{x:t.Den}(h:MV gh w b t v x):KV b t v x:=by
 cases b with
 | true=>obtain ⟨a,c,e⟩:=h;exact ⟨a,w,c,e.rep⟩
 | false=>exact ⟨w,Rd.rep h⟩
theorem QhZ {b:Bool}{t:Ty}{v j:Value}{x y:t.Den}(h:KV b t v x)(k:KV b t j y)(a:t.flat=true):v=j↔x=y:=by
 cases b with
 | true=>
  obtain ⟨l,w,rfl,c⟩:=h
  obtain ⟨i,n,rfl,f⟩:=k
  constructor
  ·intro e
   have e:l=i:=by simpa using e
   subst e
   exact c.fcs_inj f a
  ·rintro rfl
   rw[c.fcs a,f.fcs a]
 | false=>
  obtain ⟨w,c⟩:=h
  obtain ⟨n,f⟩:=k
  constructor
  ·rintro rfl
   exact c.fcs_inj f a
  ·rintro rfl
   have:=(c.fcs a).trans (f.fcs a).symm
   simpa using this
structure KeyL (P:Program) (kt:TypeId) (kb:Bool) (k:Ty):Prop where
  K:Maps.Keyed P kt
  flat:k.flat=true
  rd:∀v x,KV kb k v x→∃l,keyOf P kt v=some l
theorem KeyL.str {P:Program}{b:TypeId}(h:P.underlying b=some .string):KeyL P b false .str:=
 ⟨Maps.string_keyed h,rfl,fun v x ⟨w,a,c⟩=>by
  simp only[aI,and_true] at a
  subst a
  exact ⟨_,WideMaps.keyOf_string_mk h c⟩⟩
theorem KeyL.int {P:Program}{b:TypeId}(h:P.underlying b=some (.int .i64)):KeyL P b false .int:=
 ⟨Maps.int_keyed h,rfl,fun v x ⟨w,a,c⟩=>by
  simp only[aI,and_true] at a
  subst a
  exact ⟨_,Maps.keyOf_int_mk h (by simp[Lit.wf];exact c)⟩⟩
def Ve (k:Ty){V:Type}:List (k.Den×V)→k.Den→Option V
 | [],_=>none
 | p::m,x=>if k.beq p.1 x then some p.2 else Ve k m x
def Js (k:Ty){V:Type}:List (k.Den×V)→k.Den→V→List (k.Den×V)
 | [],x,v=>[(x,v)]
 | p::m,x,v=>if k.beq p.1 x then (x,v)::m else p::Js k m x v
section
variable {k:Ty}{V:Type}{m:List (k.Den×V)}{x:k.Den}{v:V}
theorem Hy (h:∀p∈m,p.1≠x):Ve k m x=none:=by
 induction m with
 | nil=>rfl
 | cons p m c=>
  have a:k.beq p.1 x=false:=cD.2 fun e=>h p (aB ..) ((k.beq_iff _ _).1 e)
  simp only[Ve,a]
  exact c fun q b=>h q (aA _ b)
theorem K1 (i:m.Pairwise (fun p q=>p.1≠q.1)){j:Nat}{p:k.Den×V}(a:m[j]? =some p)(b:p.1=x):Ve k m x=some p.2:=by
 induction m generalizing j with
 | nil=>simp at a
 | cons n m l=>
  obtain ⟨c,f⟩:=bA.1 i
  cases j with
  | zero=>
   simp only[cw,bp] at a
   subst a
   simp[Ve,(k.beq_iff _ _).2 b]
  | succ j=>
   simp only[List.getElem?_cons_succ] at a
   have h:k.beq n.1 x=false:=cD.2 fun e=>c p (ae a) (((k.beq_iff _ _).1 e).trans b.symm)
   simp only[Ve,h]
   exact l f a
theorem Qj7 {q:k.Den×V}(h:q∈Js k m x v):q=(x,v)∨q∈m:=by
 induction m with
 | nil=>simpa [Js] using h
 | cons p m a=>
  grind [Js,List.mem_cons_of_mem,List.mem_cons_self]
theorem QiG (f:m.Pairwise (fun p q=>p.1≠q.1)):(Js k m x v).Pairwise (fun p q=>p.1≠q.1):=by
 induction m with
 | nil=>simp[Js]
 | cons p m i=>
  obtain ⟨b,c⟩:=bA.1 f
  unfold Js
  split
  ·rename_i h
   have h:=(k.beq_iff _ _).1 h
   grind [List.pairwise_cons]
  ·rename_i h
   refine bA.2 ⟨fun q a=> ?_,i c⟩
   rcases Qj7 a with rfl|a
   ·exact fun e=>h ((k.beq_iff _ _).2 e)
   ·exact b q a
theorem Km (y:k.Den):Ve k (Js k m x v) y=if k.beq x y then some v else Ve k m y:=by
 induction m with
 | nil=>simp[Js,Ve]
 | cons p m c=>
  unfold Js
  split
  ·rename_i h
   have h:=(k.beq_iff _ _).1 h
   simp only[Ve]
   rw[h]
   split <;> rfl
  ·rename_i h
   simp only[Ve]
   rw[c]
   split
   ·rename_i a
    have a:=(k.beq_iff _ _).1 a
    rw[if_neg]
    intro b
    exact h ((k.beq_iff _ _).2 (a.trans ((k.beq_iff _ _).1 b).symm))
   ·rfl
end
section
variable {A:Amb}{P:Program}{s:St}{x y z:Operand}{d:Nat}{T T' ty:TypeId}{pos:String}{af:Array Edge}{g:Option (Nat×Bool)}
theorem MpL.len {gh:Gh}{w:World}{c f:Bool}{k v:Ty}{es:List MapEntry}{m:List (k.Den×v.Den)}(h:MpL gh w c k f v es m):es.length=m.length:=by
 induction es generalizing m with
 | nil=>rw[show m=[] from h];rfl
 | cons e es b=>obtain ⟨_,_,i,rfl,_,_,a⟩:=h;simp[b a]
theorem MpL.at {gh:Gh}{w:World}{f i:Bool}{k v:Ty}{es:List MapEntry}{m:List (k.Den×v.Den)}(h:MpL gh w f k i v es m){j:Nat}{e:MapEntry}(c:es[j]? =some e):
 ∃p,m[j]? =some p∧MV gh w f k e.key p.1∧MV gh w i v e.val p.2:=by
 induction es generalizing m j with
 | nil=>simp at c
 | cons o es n=>
  obtain ⟨a,b,B,rfl,r,u,l⟩:=h
  cases j with
  | zero=>
   simp_all
  | succ j=>exact n l (by simpa using c)
theorem MpL.set {gh:Gh}{w:World}{c f:Bool}{k v:Ty}{es:List MapEntry}{m:List (k.Den×v.Den)}(h:MpL gh w c k f v es m){j:Nat}{e:MapEntry}{p:k.Den×v.Den}(l:MV gh w c k e.key p.1)(n:MV gh w f v e.val p.2):
 MpL gh w c k f v (es.set j e) (m.set j p):=by
 induction es generalizing m j with
 | nil=>rw[show m=[] from h];exact rfl
 | cons C es o=>
  obtain ⟨a,b,B,rfl,r,u,i⟩:=h
  cases j with
  | zero=>exact ⟨p.1,p.2,B,rfl,l,n,i⟩
  | succ j=>exact ⟨a,b,_,rfl,r,u,o i⟩
theorem MpL.push {gh:Gh}{w:World}{c f:Bool}{k v:Ty}{es:List MapEntry}{m:List (k.Den×v.Den)}(h:MpL gh w c k f v es m){e:MapEntry}{p:k.Den×v.Den}(i:MV gh w c k e.key p.1)(j:MV gh w f v e.val p.2):
 MpL gh w c k f v (es++[e]) (m++[p]):=by
 induction es generalizing m with
 | nil=>rw[show m=[] from h];exact ⟨p.1,p.2,[],rfl,i,j,rfl⟩
 | cons u es l=>obtain ⟨a,b,B,rfl,n,o,r⟩:=h;exact ⟨a,b,_,rfl,n,o,l r⟩
theorem KeyL.find {C:TypeId}{B E:Bool}{k v:Ty}(c:KeyL P C B k){gh:Gh}{w:World}{es:List MapEntry}{m:List (k.Den×v.Den)}(h:MpL gh w B k E v es m){a:Value}{q:k.Den}(r:KV B k a q):
 ((Instr.findKey C a es).run P w= .ok none w∧∀p∈m,p.1≠q)∨∃(j:Nat) (e:MapEntry) (p:k.Den×v.Den),(Instr.findKey C a es).run P w= .ok (some (j,e.val)) w∧es[j]? =some e∧m[j]? =some p∧p.1=q∧e.key=a∧MV gh w E v e.val p.2:=by
 obtain ⟨l,H⟩:=c.rd _ _ r
 rcases c.K.find w H es fun e G=>by
  obtain ⟨j,n⟩:=aK.1 G
  obtain ⟨p,i,b,_⟩:=h.at n
  exact c.rd _ _ b.kv with ⟨i,b⟩|⟨j,e,i,b,D⟩
 ·refine .inl ⟨i,fun p I F=> ?_⟩
  obtain ⟨j,n⟩:=aK.1 I
  have f:j<es.length:=by rw[h.len];exact (ai.1 n).1
  obtain ⟨L,o,u,_⟩:=h.at (ao f)
  rw[n] at o
  cases o
  exact b _ (cH f) ((QhZ u.kv r c.flat).2 F)
 ·obtain ⟨p,o,u,J⟩:=h.at b
  exact .inr ⟨j,e,p,i,b,o,(QhZ u.kv r c.flat).1 D,D,J⟩
theorem CmR.mv {al:Nat→Prop}{gh:Gh}{w:World}{b:Bool}{t:Ty}{v:Value}{q:t.Den}(h:CmR al gh w (b,leaves t q) v):MV gh w b t v q:=by
 cases b with
 | true=>obtain ⟨e,rfl,a⟩:=h;exact ⟨e,rfl,LVs.rd a⟩
 | false=>
  obtain ⟨l,c,a⟩:=h
  exact LVs.rd (al:=al) (gh:=gh) (w:=w) (show LVs al gh w (leaves t q) [v] by rw[c];exact ⟨v,[],rfl,a,rfl⟩)
theorem MV.cm {al:Nat→Prop}{gh:Gh}{w:World}{b:Bool}{t:Ty}{v:Value}{q:t.Den}(h:MV gh w b t v q):CmR al gh w (b,leaves t q) v:=by
 cases b with
 | true=>obtain ⟨i,rfl,e⟩:=h;exact ⟨i,rfl,e.leaves⟩
 | false=>
  have a:LVs al gh w (leaves t q) [v]:=Rd.leaves h
  revert a
  generalize leaves t q=L
  intro a
  match L,a with
  | [],a=>cases a
  | [l],a=>
   obtain ⟨_,_,c,e,_⟩:=a
   cases c
   exact ⟨l,rfl,e⟩
  | l::l'::ls,a=>
   obtain ⟨_,_,c,_,f⟩:=a
   cases c
   obtain ⟨_,_,c,_⟩:=f
   cases c
theorem Born.nil:Born [] 0:=⟨by simp,by simp⟩
theorem Born.push {es:List MapEntry}{a:Nat}(h:Born es a)(k v:Value):Born (es++[⟨k,v,a⟩]) (a+1):=by
 obtain ⟨b,c⟩:=h
 refine ⟨fun x e=> ?_,?_⟩
 ·grind
 ·grind
theorem Born.set {es:List MapEntry}{a j:Nat}{e e':MapEntry}(h:Born es a)(w:es[j]? =some e)(hb:e'.born=e.born):Born (es.set j e') a:=by
 have b:(es.set j e').map (·.born)=es.map (·.born):=by
  rw[List.map_set]
  apply bM
  intro i
  rw[bJ,bn]
  by_cases c:j=i
  ·grind
  ·simp[c]
 obtain ⟨l,n⟩:=h
 refine ⟨fun x r=> ?_,by rw[b];exact n⟩
 have o:x.born∈es.map (·.born):=by rw[← b];exact bd.2 ⟨x,r,rfl⟩
 obtain ⟨y,u,f⟩:=bd.1 o
 rw[← f];exact l y u
theorem Qsn {I D:TypeId}{r B:Bool}{k v:Ty}(c:Bool)(a:KeyL P I r k)(G:P.underlying T=some (.map I D)){C:Value}(L:zer P D=some C){gh:Gh}{w:World}(o:MV gh w B v C v.zero)
 {b clock:Nat} {es:Array MapEntry} {m:List (k.Den×v.Den)} (hb:w.heap[b]? =some (.map es clock)) (hd:m.Pairwise (fun p q=>p.1≠q.1)) (h:MpL gh w r k B v es.toList m) {key:Value} {q:k.Den} (hk:KV r k key q):
 ∃u,(Instr.lookup T (.map (some b)) key c).run P w= .ok (if c then .tuple #[u,.bool (Ve k m q).isSome] else u) w∧MV gh w B v u ((Ve k m q).getD v.zero):=by
 obtain ⟨l,H⟩:=a.rd _ _ hk
 have n:=XP (w:=w) L
 rcases a.find h hk with ⟨f,i⟩|⟨j,e,p,f,i,E,F,M,J⟩
 ·refine ⟨C,?_,by rw[Hy i];exact o⟩
  rw[Hy i]
  simp[Instr.lookup,run_underlying G,MapKept.run_getObj_map hb,a.K.check w _ H,f,n,Result.andThen]
 ·refine ⟨e.val,?_,by rw[K1 hd E F];exact J⟩
  rw[K1 hd E F]
  simp[Instr.lookup,run_underlying G,MapKept.run_getObj_map hb,a.K.check w _ H,f,Result.andThen]
def ZeroV (P:Program)(et:TypeId)(vb:Bool)(v:Ty):Prop:=∃zv,zer P et=some zv∧(if vb then zv= .agg v.zeros.toArray else v.zeros=[zv])
theorem ZeroV.mv {e:TypeId}{c:Bool}{v:Ty}(h:ZeroV P e c v)(gh:Gh)(w:World):∃a,zer P e=some a∧MV gh w c v a v.zero:=by
 obtain ⟨a,f,b⟩:=h
 refine ⟨a,f,?_⟩
 cases c with
 | true=>exact ⟨v.zeros,b,(ZW v w).rd (by simp)⟩
 | false=>
  have b:v.zeros=[a]:=b
  show Rd gh.N v w [a] v.zero
  rw[← b]
  exact (ZW v w).rd (by simp)
theorem QvX {o l:TypeId}{i j:Bool}{k v:Ty}{q:Nat}{m:List (k.Den×v.Den)}{p:k.Den}{ls c:List LV}(B:KeyL P o i k)(I:P.underlying T=some (.map o l))(K:ZeroV P l j v)
 (hx:Evl A s x (.ref q)) (he:s.tab.ent q=some (.mp i k j v m)) (hy:Ev A s y (i,c)) (hkl:c=leaves k p) (hl:leaves v ((Ve k m p).getD v.zero)=ls) (hn:Nat.blt d A.n=true):
 Does A P ⟨some d,.lookup T x y false,ty,pos,af,g⟩ s (s.put d (.cm j ls)):=
 Qi rfl hn fun e a w r=>by
  subst hkl hl
  have J:a.eval x=e.h q:=hx e a w r ⟨_,he⟩
  obtain ⟨b,M,f,C,N,D,O,E,F⟩:=r.cx.en q _ he
  obtain ⟨Q,L,z2⟩:=K.mv e w
  obtain ⟨u,G,H⟩:=Qsn false B I L z2 D E F (hy e a w r).mv.kv
  refine ⟨u,?_,H.cm⟩
  simp only[execOp,J,C,aw,G]
  simp
end
section
variable {P:Program}{T:TypeId}{m:Nat}
def EqT (P:Program)(m:Nat)(T:TypeId)(b:Bool)(t:Ty):Prop:=∀(d:Nat) (w:World) (v v':Value) (x x':t.Den),KV b t v x→KV b t v' x'→(Op.equalIn (d+m) T v v').run P w= .ok (t.beq x x') w
theorem QAE {b:Bool}{t:Ty}(j:Nat)(h:EqT P m T b t):EqT P (m+j) T b t:=fun d w v c x e k a=>by
 have:=h (d+j) w v c x e k a
 rwa [bS,dF j m] at this
theorem EqT.int (h:P.underlying T=some (.int .i64)):EqT P (m+1) T false .int:=fun d w v c x e ⟨_,a,_⟩ ⟨_,b,_⟩=>by
 simp only[aI,and_true] at a b
 rw[a,b,← bS,run_equalIn_int w (d+m) T _ _ _ _ h]
 rfl
theorem EqT.u8 (h:P.underlying T=some (.int .u8)):EqT P (m+1) T false .u8:=fun d w v c x e ⟨_,a⟩ ⟨_,b⟩=>by
 have a:[v]=[.int .u8 (x:UInt8).toNat]:=a
 have b:[c]=[.int .u8 (e:UInt8).toNat]:=b
 simp only[aI,and_true] at a b
 rw[a,b,← bS,run_equalIn_int w (d+m) T _ _ _ _ h,Qm3]
 rfl
theorem EqT.bool (h:P.underlying T=some .bool):EqT P (m+1) T false .bool:=fun d w v c x e ⟨_,a⟩ ⟨_,b⟩=>by
 have a:[v]=[.bool x]:=a
 have b:[c]=[.bool e]:=b
 simp only[aI,and_true] at a b
 rw[a,b,← bS,run_equalIn_bool' w (d+m) T _ _ h]
 rfl
theorem EqT.str (h:P.underlying T=some .string):EqT P (m+1) T false .str:=fun d w v c x e ⟨_,a,_⟩ ⟨_,b,_⟩=>by
 simp only[aI,and_true] at a b
 rw[a,b,← bS,run_equalIn_string w (d+m) T _ _ h,HD]
 rfl
def KAt (t:Ty)(xs:Array Value)(off:Nat)(x:t.Den):Prop:=∃w,Rep t w ((xs.toList.drop off).take t.wd) x
def EqFs (P:Program)(m:Nat)(fs:List Field)(off:Nat)(t:Ty):Prop:=∀(d:Nat) (w:World) (xs ys:Array Value) (x x':t.Den),KAt t xs off x→KAt t ys off x'→(Op.eqFields (d+m) xs ys fs).run P w= .ok (t.beq x x') w
theorem QhD {b:Bool}{t:Ty}{xs:Array Value}{off:Nat}{x:t.Den}{w:World}(c:tsh P T=some (b,t.wd))(i:b=false→t.wd=1)(h:KAt t xs off x):∃v,(part T xs off).run P w= .ok v w∧KV b t v x:=by
 obtain ⟨f,a⟩:=h
 have e:=a.len
 cases b with
 | true=>
  refine ⟨.agg (xs.extract off (off+t.wd)),?_,?_⟩
  ·simp only[part,aw,HA c,aG,if_true,Yw c]
   simp
  ·refine ⟨(xs.toList.drop off).take t.wd,f,?_,a⟩
   congr 1
   apply Array.ext'
   simp[List.extract_eq_take_drop]
 | false=>
  have j:=i rfl
  rw[j] at a e
  match hd:(xs.toList.drop off).take 1,e with
  | [v],_=>
   rw[hd] at a
   refine ⟨v,?_,f,a⟩
   have l:xs[off]? =some v:=by
    have n:((xs.toList.drop off).take 1)[0]? =some v:=by rw[hd];rfl
    grind
   simp only[part,aw,HA c,aG]
   simp[l]
theorem Qbj {f:Field}{a:List Field}{b:Bool}{t:Ty}{d:Nat}{w:World}{xs ys:Array Value}{x x':t.Den}(h:f.name≠ "_")(e:tsh P f.type=some (b,t.wd))(c:b=false→t.wd=1)(E:EqT P m f.type b t)
 (hx:KAt t xs f.offset x) (hy:KAt t ys f.offset x'):(Op.eqFields (d+m) xs ys (f::a)).run P w=if t.beq x x' then (Op.eqFields (d+m) xs ys a).run P w else .ok false w:=by
 obtain ⟨v,i,j⟩:=QhD (w:=w) e c hx
 obtain ⟨r,l,n⟩:=QhD (w:=w) e c hy
 have o:=E d w v r x x' j n
 simp only[Op.eqFields,if_pos h,ne_eq,h,not_false_eq_true,if_true,aw,i,l,o,aG]
 cases t.beq x x' <;> simp
theorem EqFs.one {f:Field}{b:Bool}{t:Ty}{off:Nat}(e:f.name≠ "_")(h:f.offset=off)(c:tsh P f.type=some (b,t.wd))(a:b=false→t.wd=1)(E:EqT P m f.type b t):EqFs P m [f] off t:=fun d w n o x l i j=>by
 subst h
 rw[Qbj e c a E i j]
 cases t.beq x l <;> simp[Op.eqFields]
theorem EqFs.cons {f:Field}{i:List Field}{b:Bool}{t u:Ty}{off:Nat}(J:f.name≠ "_")(K:f.offset=off)(I:tsh P f.type=some (b,t.wd))(H:b=false→t.wd=1)(E:EqT P m f.type b t)(k:EqFs P m i (off+t.wd) u):EqFs P m (f :: i) off (.pr t u):=fun d w N O x c L M=>by
 subst K
 have cut:∀{a:Array Value} {z:t.Den×u.Den},KAt (.pr t u) a f.offset z→KAt t a f.offset z.1∧KAt u a (f.offset+t.wd) z.2:=fun {a z} ⟨j,l,r,D,e,h⟩=>by
  have Q:=e.len
  have R:=h.len
  have F:(a.toList.drop f.offset).take t.wd=l:=by
   have:=congrArg (List.take t.wd) D
   grind
  have G:(a.toList.drop (f.offset+t.wd)).take u.wd=r:=by
   grind [List.drop,List.drop_take,List.drop_drop,Nat.add_sub_cancel_left,List.drop_left]
  exact ⟨⟨j,by rw[F];exact e⟩,⟨j,by rw[G];exact h⟩⟩
 obtain ⟨n,o⟩:=cut L
 obtain ⟨B,C⟩:=cut M
 rw[Qbj J I H E n B,k d w N O x.2 c.2 o C]
 show _=Result.ok (t.beq x.1 c.1&&u.beq x.2 c.2) w
 cases t.beq x.1 c.1 <;> rfl
theorem EqT.struct {a:Array Field}{t:Ty}(f:P.underlying T=some (.struct a))(n:P.stoodInHeld T=false)(h:EqFs P m a.toList 0 t):EqT P (m+1) T true t:=fun d w v B x r ⟨u,o,j,b⟩ ⟨i,w2,l,c⟩=>by
 have e:P.fieldsOf T=a:=by simp[Program.fieldsOf,f]
 rw[j,l,← bS,run_equalIn_struct w (d+m) T _ _ (by rw[e];exact f) n,e]
 refine h d w _ _ x r ⟨o,?_⟩ ⟨w2,?_⟩
 ·rw[dL,aP (by rw[List.toList_toArray,b.len];exact aO _)];simpa using b
 ·rw[dL,aP (by rw[List.toList_toArray,c.len];exact aO _)];simpa using c
section
variable {A:Amb}{s:St}{x y:Operand}{d:Nat}{T' ty:TypeId}{pos:String}{af:Array Edge}{g:Option (Nat×Bool)}{t:Ty}{p q:t.Den}{ls ls':List LV}
theorem QoP (E:EqT P m T true t)(h:(P.eqGuardType P.depth T=false)∧m≤10000)(D:Ev A s x (true,ls))(F:Ev A s y (true,ls'))(B:ls=leaves t p)(c:ls'=leaves t q)(C:Nat.blt d A.n=true):
 Does A P ⟨some d,.binOp .eql T x y T',ty,pos,af,g⟩ s (s.put d (lf (dB (t.beq p q)))):=
 Qi rfl C fun e a w r=>by
  subst B c
  obtain ⟨i,j,l⟩:=D e a w r
  obtain ⟨b,o,u⟩:=F e a w r
  have f:=E (10000 - m) w _ _ p q ⟨i,w,rfl,(LVs.rd l).rep⟩ ⟨b,w,rfl,(LVs.rd u).rep⟩
  rw[Nat.sub_add_cancel h.2] at f
  refine ⟨.bool (t.beq p q),?_,_,rfl,ZN⟩
  simp only[execOp,j,o]
  simp[aw,run_eqGuard_agg w _ _ _ _ _ _ h.1,run_eql_struct,f]
theorem QbV (E:EqT P m T true t)(h:(P.eqGuardType P.depth T=false)∧m≤10000)(D:Ev A s x (true,ls))(F:Ev A s y (true,ls'))(B:ls=leaves t p)(c:ls'=leaves t q)(C:Nat.blt d A.n=true):
 Does A P ⟨some d,.binOp .neq T x y T',ty,pos,af,g⟩ s (s.put d (lf (dB (!(t.beq p q))))):=
 Qi rfl C fun e a w r=>by
  subst B c
  obtain ⟨i,j,l⟩:=D e a w r
  obtain ⟨b,o,u⟩:=F e a w r
  have f:=E (10000 - m) w _ _ p q ⟨i,w,rfl,(LVs.rd l).rep⟩ ⟨b,w,rfl,(LVs.rd u).rep⟩
  rw[Nat.sub_add_cancel h.2] at f
  refine ⟨.bool (!(t.beq p q)),?_,_,rfl,ZN⟩
  simp only[execOp,j,o]
  simp[aw,run_eqGuard_agg w _ _ _ _ _ _ h.1,run_neq_struct,f]
end
end
end Go.Proofs.YtjfpbcmfbnnooaaGreat
