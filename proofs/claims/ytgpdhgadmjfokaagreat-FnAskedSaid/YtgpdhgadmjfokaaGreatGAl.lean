/- Abstract states: calls that are handed memory of one's own. No program is named here. -/
import Derived.Test.YtgpdhgadmjfokaaGreatGAi
import Derived.Test.YtgpdhgadmjfokaaGreatGStr
import Derived.Maps.Keyed
import Derived.StringKeys
import Derived.Carry
import Derived.Laws.StructEq
set_option linter.unusedSimpArgs false
set_option linter.unusedVariables false
set_option linter.unusedSectionVars false
namespace Go.Proofs.YtgpdhgadmjfokaaGreat
open Go.RowKit
def sg (ρ:List (Nat×Nat))(k n q:Nat):Nat:=match Nat.blt q k with
  | true=>rn ρ q
  | false=>n+q
theorem QeY {σ:Nat→Nat}{T T0:Tab}{r:Nat}{e:Ent}(h:Tab.ent (T.ren σ++T0) r=some e):(∃q e',T.ent q=some e'∧r=σ q∧e=e'.ren σ)∨(T0.ent r=some e∧∀q,T.al q→σ q≠r):=by
  induction T with
  | nil=>exact .inr ⟨h,fun q hq=>absurd hq (Zu q)⟩
  | cons x T ih=>
    obtain ⟨j,o⟩:=x
    have h:Tab.ent ((σ j,o.map (Ent.ren σ)) :: (Tab.ren σ T++T0)) r=some e:=h
    rw[Qe] at h
    by_cases h2:r=σ j
    · rw [if_pos h2] at h
      obtain ⟨e',rfl,rfl⟩:=bV.1 h
      exact .inl ⟨j,e',by rw[Qe,if_pos rfl],h2,rfl⟩
    · rw [if_neg h2] at h
      rcases ih h with ⟨q,e',h3,h4,h5⟩ | ⟨h3,h4⟩
      · have hq : q ≠ j := fun e => h2 (e ▸ h4)
        exact .inl ⟨q,e',by rw[Qe,if_neg hq]; exact h3,h4,h5⟩
      · refine .inr ⟨h3, fun q hq => ?_⟩
        by_cases hj:q=j
        · rw[hj]; exact fun e=>h2 e.symm
        · obtain ⟨e2, hq⟩ := hq
          rw[Qe,if_neg hj] at hq
          exact h4 q ⟨e2,hq⟩
theorem Qpv {σ:Nat→Nat}{T:Tab}{q:Nat}(h:T.al q):σ q∈T.map fun p=>σ p.1:=by
  obtain ⟨e,h⟩:=h
  refine bB.2 ?_
  induction T with
  | nil=>cases h
  | cons x T ih=>
    obtain ⟨j,o⟩:=x
    rw[Qe] at h
    by_cases e2:q=j
    · exact ⟨(j,o),aB ..,by rw[e2]⟩
    · rw [if_neg e2] at h
      obtain ⟨p,h1,h2⟩:=ih h
      exact ⟨p,aC _ h1,h2⟩
@[reducible] def St.backP (s:St) (d:Nat) (σ:Nat→Nat) (used:List Nat) (pv:PV) (T:Tab):St:=⟨(d,pv.ren σ) :: s.tm,T.ren σ++(WF used++s.tab)⟩
section
variable {A:Amb}{P:Program}{s:St}{f:FuncId}{xs:List Operand}{tys:Array TypeId}{args:List (Bool×List LV)}{d:Nat}{ty:TypeId}{pos:String}{af:Array Edge}{g:Option (Nat×Bool)}{pv:PV}{T T':Tab}{k:Nat}
theorem QeI (n:Nat)(ρ:List (Nat×Nat)){gh gh':Gh}{a:Act}{w w':World}{v:Value}(r:Rg A s gh a w)(hT:HasE s ρ T)(hi:XL (T.map fun p=>rn ρ p.1)=true)
    (hcl:ZV pv T'=true) (hi':XL (T'.map fun p=>sg ρ k n p.1)=true) (hk:∀q,T'.al q→q < k→T.al q) (hfr:∀q,T'.al q→k≤q→Fresh s (n+q)) (hk0:A.k0≤n) (hn:Nat.blt d A.n=true)
    (cx:Cx T' gh' w') (hp:PVR T'.al gh' w' pv v) (fr:Fr T T' (gh.via (rn ρ)) gh' w w') (hkk:∀q,q < k→T'.al q→gh'.h q=(gh.via (rn ρ)).h q):
    R A (s.backP d (sg ρ k n) (T.map fun p=>rn ρ p.1) pv T') (a.put (some d) v) w':=by
  have hal:∀q,T.al q→s.tab.al (rn ρ q):=fun q ⟨e,h⟩=>⟨_,hT.get h⟩
  obtain ⟨c1,c2⟩:=JG hcl
  have hσ:∀q,T'.al q→(q < k∧T.al q∧sg ρ k n q=rn ρ q)∨(Fresh s (sg ρ k n q)∧A.k0≤sg ρ k n q):=fun q hq=>by
    rcases cP q k with h | h
    · exact .inl ⟨h,hk q hq h,by simp only[sg]; rw[show Nat.blt q k=true from cI h]⟩
    · have e:sg ρ k n q=n+q:=by
        simp only[sg]; rw[show Nat.blt q k=false from by
          cases hb:Nat.blt q k with
          | false=>rfl
          | true=>have:=aH hb; omega]
      rw[e]; exact .inr ⟨hfr q hq h,by omega⟩
  have hσi:∀q q',T'.al q→T'.al q'→sg ρ k n q=sg ρ k n q'→q=q':=fun q q' h1 h2 h=>V2 hi' h1 h2 h
  generalize hs:sg ρ k n=σ at hσ hσi hi' ⊢
  classical
  let G:Gh:=⟨fun r'=>if h:∃q,T'.al q∧σ q=r' then gh'.h h.choose else gh.h r',fun r'=>if h:∃q,T'.al q∧σ q=r' then gh'.f h.choose else gh.f r',fun g=>gh.N g∨gh'.N g⟩
  have hG:∀q,T'.al q→G.h (σ q)=gh'.h q∧G.f (σ q)=gh'.f q:=fun q hq=>by
    have hex:∃q',T'.al q'∧σ q'=σ q:=⟨q,hq,rfl⟩
    have e1:hex.choose=q:=hσi _ _ hex.choose_spec.1 hq hex.choose_spec.2
    simp only[G]
    rw[dif_pos hex,dif_pos hex,e1]
    exact ⟨rfl,rfl⟩
  have hG0:∀r',(∀q,T'.al q→σ q≠r')→G.h r'=gh.h r'∧G.f r'=gh.f r':=fun r' h=>by
    have hnx:¬∃q,T'.al q∧σ q=r':=fun ⟨q,h1,h2⟩=>h q h1 h2
    simp only[G]
    rw[dif_neg hnx,dif_neg hnx]
    exact ⟨rfl,rfl⟩
  let U:Tab:=Tab.ren σ T'++(WF (T.map fun p=>rn ρ p.1)++s.tab)
  have hused:∀q,T.al q→rn ρ q∈T.map fun p=>rn ρ p.1:=fun q hq=>Qpv hq
  have hU:∀r' e,U.ent r'=some e→(∃q e',T'.ent q=some e'∧r'=σ q∧e=e'.ren σ)∨(s.tab.ent r'=some e∧(∀q,T'.al q→σ q≠r')∧∀q,T.al q→rn ρ q≠r'):=fun r' e h=>by
    rcases QeY h with h1 | ⟨h1,h2⟩
    · exact .inl h1
    · rw [JL] at h1
      split at h1
      · cases h1
      · rename_i h3
        exact .inr ⟨h1,h2,fun q hq e=>h3 (e▸hused q hq)⟩
  have hUa:∀r',U.al r'→(∃q,T'.al q∧r'=σ q)∨(s.tab.al r'∧(∀q,T'.al q→σ q≠r')∧∀q,T.al q→rn ρ q≠r'):=fun r' ⟨e,h⟩=>by
    rcases hU r' e h with ⟨q,e',h1,h2,_⟩ | ⟨h1,h2,h3⟩
    · exact .inl ⟨q,⟨e',h1⟩,h2⟩
    · exact .inr ⟨⟨e,h1⟩,h2,h3⟩
  have kp2:∀r',s.tab.al r'→(∀q,T.al q→rn ρ q≠r')→∀g∈gh.f r',w'.heap[g]? =w.heap[g]? :=fun r' h1 h2 g hg=>
    fr.kp g (r.cx.lt h1 g hg) fun q hq hg'=>r.cx.dj _ _ h1 (hal q hq) (fun e=>h2 q hq e.symm) g hg hg'
  have kpN:∀g,gh.N g→w'.heap[g]? =w.heap[g]? :=fun g hN=>fr.kp g (r.cx.nl g hN) fun q hq hg=>r.cx.no _ (hal q hq) g hg hN
  have own2:∀q,T'.al q→∀g∈gh'.f q,w.heap.size≤g∨∃q',T.al q'∧g∈gh.f (rn ρ q'):=fr.ox
  have r2:Rg A ⟨s.tm,U⟩ G a w':=by
    refine r.step (gh':=G) ⟨fun r' e h=> ?_,fun r1 r2 h1 h2 hne g hg hg'=> ?_,fun r' h=> ?_,fun r' h g hg hN=> ?_,fun g hN=> ?_⟩ (fun r' h=> ?_) (fun g hN=>⟨.inl hN,kpN g hN⟩) fr.gw
      (fun g hg h=>fr.kp g hg fun q hq=>h _ (hal q hq)) (fun g hN=> ?_) fun r' h g hg=> ?_
    · rcases hU r' e h with ⟨q, e', h1, rfl, rfl⟩ | ⟨h1, h2, h3⟩
      · refine EntR.ren.2 ((cx.en q e' h1).mono (fun q' hq' _ => ?_) (fun g hg => ⟨.inr hg, rfl⟩) (hG q ⟨e', h1⟩).1 (hG q ⟨e', h1⟩).2 fun _ _ => rfl)
        have h4:=c2 q e' h1 q' hq'
        exact ⟨h4,(hG q' h4).1⟩
      · refine (r.cx.en r' e h1).mono (fun q' hq' hu => ?_) (fun g hN => ⟨.inl hN, kpN g hN⟩) (hG0 r' h2).1 (hG0 r' h2).2 fun g hg => kp2 r' ⟨e, h1⟩ h3 g hg
        rcases hUa q' hu with ⟨q,h4,rfl⟩ | ⟨h4,h5,_⟩
        · rcases hσ q h4 with ⟨h6, h7, h8⟩ | ⟨h6, _⟩
          · rw [(hG q h4).1, hkk q h6 h4]
            exact ⟨h8▸hal q h7,by rw[h8]⟩
          · exact absurd hq' (h6.en r' e h1)
        · exact ⟨h4,(hG0 q' h5).1⟩
    · rcases hUa r1 h1 with ⟨q1, k1, rfl⟩ | ⟨k1, k2, k3⟩ <;> rcases hUa r2 h2 with ⟨q2, l1, rfl⟩ | ⟨l1, l2, l3⟩
      · rw [(hG q1 k1).2] at hg
        rw[(hG q2 l1).2] at hg'
        exact cx.dj q1 q2 k1 l1 (fun e=>hne (e▸rfl)) g hg hg'
      · rw [(hG q1 k1).2] at hg
        rw[(hG0 r2 l2).2] at hg'
        rcases own2 q1 k1 g hg with h | ⟨q',h,h'⟩
        · have:=r.cx.lt l1 g hg'; omega
        · exact r.cx.dj _ _ (hal q' h) l1 (l3 q' h) g h' hg'
      · rw [(hG0 r1 k2).2] at hg
        rw[(hG q2 l1).2] at hg'
        rcases own2 q2 l1 g hg' with h | ⟨q',h,h'⟩
        · have:=r.cx.lt k1 g hg; omega
        · exact r.cx.dj _ _ (hal q' h) k1 (k3 q' h) g h' hg
      · rw [(hG0 r1 k2).2] at hg
        rw[(hG0 r2 l2).2] at hg'
        exact r.cx.dj r1 r2 k1 l1 hne g hg hg'
    · rcases hUa r' h with ⟨q1, k1, rfl⟩ | ⟨k1, k2, k3⟩
      · rw[(hG q1 k1).2]; exact cx.nd q1 k1
      · rw[(hG0 r' k2).2]; exact r.cx.nd r' k1
    · rcases hUa r' h with ⟨q1, k1, rfl⟩ | ⟨k1, k2, k3⟩
      · rw [(hG q1 k1).2] at hg
        rcases hN with hN | hN
        · rcases own2 q1 k1 g hg with h | ⟨q', h, h'⟩
          · have:=r.cx.nl g hN; omega
          · exact r.cx.no _ (hal q' h) g h' hN
        · exact cx.no q1 k1 g hg hN
      · rw [(hG0 r' k2).2] at hg
        rcases hN with hN | hN
        · exact r.cx.no r' k1 g hg hN
        · rcases fr.nn g hN with h | h | ⟨q', h, h'⟩
          · exact r.cx.no r' k1 g hg h
          · have:=r.cx.lt k1 g hg; omega
          · exact r.cx.dj _ _ (hal q' h) k1 (k3 q' h) g h' hg
    · rcases hN with hN | hN
      · exact bp (r.cx.nl g hN) fr.gw.size
      · exact cx.nl g hN
    · rcases hUa r' h with ⟨q1, k1, rfl⟩ | ⟨k1, k2, k3⟩
      · rcases hσ q1 k1 with ⟨h6, h7, h8⟩ | ⟨h6, h7⟩
        · refine .inl ⟨h8 ▸ hal q1 h7, ?_, fun _ => rfl⟩
          rw[(hG q1 k1).1,hkk q1 h6 k1,h8]
        · exact .inr ⟨h6,h7⟩
      · exact .inl ⟨k1,(hG0 r' k2).1,fun _=>rfl⟩
    · rcases hN with hN | hN
      · exact .inl hN
      · rcases fr.nn g hN with h | h | ⟨q', h, h'⟩
        · exact .inl h
        · exact .inr (.inl h)
        · exact .inr (.inr ⟨_,hal q' h,h',fun hl=>r.xn g hl (r.ox _ (hal q' h) g h' hl)⟩)
    · rcases hUa r' h with ⟨q1, k1, rfl⟩ | ⟨k1, k2, k3⟩
      · rw [(hG q1 k1).2] at hg
        rcases own2 q1 k1 g hg with h | ⟨q',h,h'⟩
        · exact .inl h
        · exact .inr ⟨_,hal q' h,h'⟩
      · rw [(hG0 r' k2).2] at hg
        exact .inr ⟨r',k1,hg⟩
  refine ⟨G, ?_⟩
  refine r2.put (aH hn) (pv:=pv.ren σ) ?_
  exact PVR.ren.2 (hp.mono (fun q hq _=>⟨c1 q hq,(hG q (c1 q hq)).1⟩) fun g hg=>⟨.inr hg,rfl⟩)
theorem Qb7 {o:Oper}{vals:Gh→Act→List Value}(n:Nat)(ρ:List (Nat×Nat))(hod:o.dst=some d)(hc:FC P f args T k (Is pv T'))
    (hup:∀gh a w K Q,Rg A s gh a w→Calls P f (vals gh a).toArray w (fun e w'=>match e with | .returned v=>K (a.put o.dst v) w' | _=>False)→o.wp P a w K Q)
    (ha:∀gh a w,Rg A s gh a w→CmsR s.tab.al gh w (args.map fun c=>(c.1,c.2.map (LV.ren (rn ρ)))) (vals gh a)) (hT:HasE s ρ T) (hi:XL (T.map fun p=>rn ρ p.1)=true)
    (hcl:ZV pv T'=true) (hi':XL (T'.map fun p=>sg ρ k n p.1)=true) (hk:∀q,T'.al q→q < k→T.al q) (hfr:∀q,T'.al q→k≤q→Fresh s (n+q)) (hk0:A.k0≤n) (hn:Nat.blt d A.n=true):
    Does A P o s (s.backP d (sg ρ k n) (T.map fun p=>rn ρ p.1) pv T'):=fun a w K Q r hK=>by
  obtain ⟨gh,r⟩:=r
  have hal:∀q,T.al q→s.tab.al (rn ρ q):=fun q ⟨e,h⟩=>⟨_,hT.get h⟩
  have hinj:∀q q',T.al q→T.al q'→rn ρ q=rn ρ q'→q=q':=fun q q' h1 h2 h=>V2 hi h1 h2 h
  have cx0:Cx T (gh.via (rn ρ)) w:=⟨fun q e h=>(EntR.ren.1 (r.cx.en _ _ (hT.get h))).mono (fun r' _ h'=>⟨hal r' h',rfl⟩) (fun g hg=>⟨hg,rfl⟩) rfl rfl fun _ _=>rfl,
    fun q q' h1 h2 hne=>r.cx.dj _ _ (hal q h1) (hal q' h2) fun h=>hne (hinj q q' h1 h2 h),fun q h=>r.cx.nd _ (hal q h),fun q h=>r.cx.no _ (hal q h),r.cx.nl⟩
  have hv:=(CmsR.ren.1 (ha gh a w r)).mono (al':=T.al) (gh':=gh.via (rn ρ)) (w':=w) (fun q _ h=>⟨hal q h,rfl⟩) fun g hg=>⟨hg,rfl⟩
  refine hup gh a w K Q r (Calls.mono (hc _ w _ cx0 hv) fun e w' he=> ?_)
  obtain ⟨v,pv',T2,gh',rfl,⟨rfl,rfl⟩,cx,hp,fr,hkk⟩:=he
  refine hK _ _ ?_
  rw[hod]
  exact QeI n ρ r hT hi hcl hi' hk hfr hk0 hn cx hp fr hkk
def FrK (s:St)(n k:Nat):List Nat→Prop
  | []=>True
  | q :: l=>(match Nat.blt q k with
    | true=>True
    | false=>Fresh s (n+q))∧FrK s n k l
theorem FrK.get {n k:Nat}{l:List Nat}(h:FrK s n k l):∀q∈l,k≤q→Fresh s (n+q):=by
  induction l with
  | nil=>simp
  | cons q l ih=>
    intro r hr hk
    rcases aJ.1 hr with rfl | hr
    · have h1 := h.1
      rw[show Nat.blt r k=false from by
        cases hb:Nat.blt r k with
        | false=>rfl
        | true=>have:=aH hb; omega] at h1
      exact h1
    · exact ih h.2 r hr hk
def QfK (T T':Tab)(k:Nat):Bool:=(Zj T').all fun q=> !(Nat.blt q k)||(T.ent q).isSome
theorem QfH (n:Nat)(ρ:List (Nat×Nat))(hc:FC P f args T k (Is pv T'))(hE:Qg P f)(ha:EvL A s xs (args.map fun c=>(c.1,c.2.map (LV.ren (rn ρ)))))(hT:HasE s ρ T)(hi:XL (T.map fun p=>rn ρ p.1)=true)
    (hcl:ZV pv T'=true) (hi':XL (T'.map fun p=>sg ρ k n p.1)=true) (hk:∀q,T'.al q→q < k→T.al q) (hfr:∀q,T'.al q→k≤q→Fresh s (n+q)) (hk0:A.k0≤n) (hn:Nat.blt d A.n=true):
    Does A P ⟨some d, .call ⟨.value (.func f),xs.toArray,tys⟩,ty,pos,af,g⟩ s (s.backP d (sg ρ k n) (T.map fun p=>rn ρ p.1) pv T'):=
  Qb7 (vals:=fun _ a=>xs.map a.eval) n ρ rfl hc (fun _ _ _ _ _ _ h=>UF hE rfl h) (fun _ _ _ r=>ha.cms r) hT hi hcl hi' hk hfr hk0 hn
theorem Qhh {P:Program}{o:Oper}{f:FuncId}{x0:Operand}{xs:List Operand}{tys:Array TypeId}{a:Act}{w:World}{K:Act→World→Prop}{Q:Exit→Act→World→Prop}{cs:List Value}(hE:Qg P f)(ho:o.op= .call ⟨.value x0,xs.toArray,tys⟩)(hx:a.eval x0= .func (.func f) #[] cs.toArray)
    (h:Calls P f (xs.map a.eval++cs).toArray w fun e w'=>match e with | .returned v=>K (a.put o.dst v) w' | _=>False):o.wp P a w K Q:=by
  have e:(execOp a.eval o).run P w= .ok (.enter f (xs.map a.eval++cs).toArray) w:=by
    unfold execOp
    simp only[ho,resolve,hx,Deferred.ofValue,az]
    have:=hE (xs.map a.eval++cs).toArray w
    simpa [invoke] using this
  unfold Oper.wp
  rw[e,Oper.upon_enter]
  refine Calls.mono h fun e w' he=> ?_
  cases e <;> first | exact he | exact he.elim
def QlP (T:Tab)(q:Nat):Bool:=match T.ent q with
  | some (.box _ _)=>true
  | _=>false
theorem QdT {gh:Gh}{w:World}{T:Tab}(cx:Cx T gh w){q:Nat}(h:QlP T q=true):T.al q∧∃g,gh.h q= .pointer (some ⟨g,0,none⟩):=by
  unfold QlP at h
  cases he:T.ent q with
  | none=>rw[he] at h; cases h
  | some e=>
    rw[he] at h
    cases e with
    | box E cs=>obtain ⟨g,cur,h1,_⟩:=cx.en q _ he; exact ⟨⟨_,he⟩,g,h1⟩
    | _=>cases h
def EvCaps (A:Amb)(s:St):List Operand→List Nat→Prop
  | [],qs=>qs=[]
  | x :: xs,qs=>∃q qs',qs=q :: qs'∧Evl A s x (.ptr q 0)∧QlP s.tab q=true∧EvCaps A s xs qs'
theorem EvCaps.vals {xs:List Operand}{qs:List Nat}(h:EvCaps A s xs qs){gh:Gh}{a:Act}{w:World}(r:Rg A s gh a w):xs.map a.eval=qs.map gh.h:=by
  induction xs generalizing qs with
  | nil=>rw[show qs=[] from h]; rfl
  | cons x xs ih=>
    obtain ⟨q,qs',rfl,h1,h2,h3⟩:=h
    obtain ⟨h4,g,h5⟩:=QdT r.cx h2
    obtain ⟨g',h6,h7⟩:=h1 gh a w r h4
    rw[bc,bc,ih h3,h7,h6]
theorem YP {cs:List Operand}{qs:List Nat}(hc:EvCaps A s cs qs)(hn:Nat.blt d A.n=true):Does A P ⟨some d, .makeFunc (.func f) #[] cs.toArray,ty,pos,af,g⟩ s (s.put d (lf (.clo f qs))):=
  Qf rfl hn fun gh a w r=>by
    refine ⟨.func (.func f) #[] (qs.map gh.h).toArray, ?_,_,rfl,fun _=>rfl⟩
    simp only[execOp,Instr.makeFunc]
    simp[hc.vals r]
theorem Yd {x0:Operand}{args0:List (Bool×List LV)}{caps qs:List Nat}(n:Nat)(ρ:List (Nat×Nat))(hc:FC P f args T k (Is pv T'))(hE:Qg P f)(h0:args=args0++caps.map fun q=>(false,[.ptr q 0]))(hf:Evl A s x0 (.clo f qs))(hq:qs=caps.map (rn ρ))(hb:(caps.all fun q=>QlP s.tab (rn ρ q))=true)
    (ha:EvL A s xs (args0.map fun c=>(c.1,c.2.map (LV.ren (rn ρ))))) (hT:HasE s ρ T)
    (hB:(XL (T.map fun p=>rn ρ p.1)&&ZV pv T'&&XL (T'.map fun p=>sg ρ k n p.1)&&QfK T T' k&&Nat.blt d A.n)=true) (hfr:FrK s n k (Zj T')) (hk0:A.k0≤n):
    Does A P ⟨some d, .call ⟨.value x0,xs.toArray,tys⟩,ty,pos,af,g⟩ s (s.backP d (sg ρ k n) (T.map fun p=>rn ρ p.1) pv T'):=by
  simp only[aM] at hB
  obtain ⟨⟨⟨⟨h1,h2⟩,h3⟩,h4⟩,h5⟩:=hB
  subst h0 hq
  have hbx:∀q∈caps,QlP s.tab (rn ρ q)=true:=aA.1 hb
  refine Qb7 (vals:=fun gh a=>xs.map a.eval++(caps.map (rn ρ)).map gh.h) n ρ rfl hc (fun gh a w K Q r h=>Qhh hE rfl (hf gh a w r fun q hq=> ?_) h) (fun gh a w r=> ?_) hT h1 h2 h3 (fun q ⟨e,hq⟩ hk=> ?_) (fun q ⟨e,hq⟩ hk=>hfr.get q (Q7 hq).1 hk) hk0 h5
  · obtain ⟨q', h6, rfl⟩ := bB.1 hq
    exact (QdT r.cx (hbx q' h6)).1
  · rw [cC]
    have h6:=ha.cms r
    have h7:CmsR s.tab.al gh w ((caps.map fun q=>(false,[.ptr q 0])).map fun c:Bool×List LV=>(c.1,c.2.map (LV.ren (rn ρ)))) ((caps.map (rn ρ)).map gh.h):=by
      clear h6 hc hb hf
      induction caps with
      | nil=>exact rfl
      | cons q qs ih=>
        obtain ⟨h8,g,h9⟩:=QdT r.cx (hbx q (aB ..))
        exact ⟨_,_,rfl,⟨_,rfl,fun _=>⟨g,h9,h9⟩⟩,ih fun q' hq'=>hbx q' (aC _ hq')⟩
    clear hc
    generalize (args0.map fun c=>(c.1,c.2.map (LV.ren (rn ρ))))=L at h6 ⊢
    generalize xs.map a.eval=vs at h6 ⊢
    induction L generalizing vs with
    | nil=>rw[show vs=[] from h6]; exact h7
    | cons c cs ih=>obtain ⟨v,vs',rfl,h8,h9⟩:=h6; exact ⟨v,_,rfl,h8,ih _ h9⟩
  · have := aA.1 h4 q (Q7 hq).1
    rw[show Nat.blt q k=true from cI hk] at this
    exact b8.1 (by simpa using this)
theorem Qhm (n:Nat)(ρ:List (Nat×Nat))(hc:FC P f args T k (Is pv T'))(hE:Qg P f)(ha:EvL A s xs (args.map fun c=>(c.1,c.2.map (LV.ren (rn ρ)))))(hT:HasE s ρ T)
    (hB:(XL (T.map fun p=>rn ρ p.1)&&ZV pv T'&&XL (T'.map fun p=>sg ρ k n p.1)&&QfK T T' k&&Nat.blt d A.n)=true) (hfr:FrK s n k (Zj T')) (hk0:A.k0≤n):
    Does A P ⟨some d, .call ⟨.value (.func f),xs.toArray,tys⟩,ty,pos,af,g⟩ s (s.backP d (sg ρ k n) (T.map fun p=>rn ρ p.1) pv T'):=by
  simp only[aM] at hB
  obtain ⟨⟨⟨⟨h1,h2⟩,h3⟩,h4⟩,h5⟩:=hB
  refine QfH n ρ hc hE ha hT h1 h2 h3 (fun q ⟨e,hq⟩ hk=> ?_) (fun q ⟨e,hq⟩ hk=>hfr.get q (Q7 hq).1 hk) hk0 h5
  have:=aA.1 h4 q (Q7 hq).1
  rw[show Nat.blt q k=true from cI hk] at this
  exact b8.1 (by simpa using this)
def ThL (s:St):List LV→List LV→Prop
  | [],ls'=>ls'=[]
  | l :: ls,ls'=>∃l' r,ls'=l' :: r∧(l=l'∨∃q E e xs,l= .ref q∧s.tab.ent q=some (.arr E e xs)∧l'= .dat (.sl E e) xs)∧ThL s ls r
theorem LVs.th {gh:Gh}{a:Act}{w:World}(r:Rg A s gh a w){ls ls':List LV}{vs:List Value}(h:LVs s.tab.al gh w ls vs)(k:ThL s ls ls'):LVs (fun _=>False) ⟨gh.h,gh.f,fun g=>g < w.heap.size⟩ w ls' vs:=by
  induction ls generalizing ls' vs with
  | nil=>rw[show ls'=[] from k]; exact h
  | cons l ls ih=>
    obtain ⟨v,vs',rfl,h1,h2⟩:=h
    obtain ⟨l',r',rfl,h3,h4⟩:=k
    refine ⟨v,vs',rfl, ?_,ih h2 h4⟩
    rcases h3 with rfl | ⟨q,E,e,xs,rfl,h5,rfl⟩
    · exact h1.mono (fun _ _ h=>h.elim) fun g hg=>⟨r.cx.nl g hg,rfl⟩
    · have hv : v = gh.h q := h1 ⟨_, h5⟩
      have hO:Own (.sl E e) w (gh.f q) [gh.h q] xs:=r.cx.en q _ h5
      rw[hv]
      exact hO.rd fun g hg=>Own.lt hO g hg
theorem U0 {x:Operand}{b:Bool}{ls ls':List LV}(h:Ev A s x (b,ls))(k:ThL s ls ls'):EvB A s x (b,ls'):=fun gh a w r=>by
  have h1:=h gh a w r
  cases b with
  | true=>obtain ⟨vs,h2,h3⟩:=h1; exact ⟨vs,h2,h3.th r k⟩
  | false=>
    obtain ⟨l,rfl,h3⟩:=h1
    have h6:LVs s.tab.al gh w [l] [a.eval x]:=⟨_,[],rfl,h3,rfl⟩
    obtain ⟨l',r',rfl,h4,h5⟩:=k
    have h5:r'=[]:=h5
    subst h5
    obtain ⟨v,vs,h7,h8,_⟩:=h6.th r (ls':=[l']) ⟨l',[],rfl,h4,rfl⟩
    simp only[aE] at h7
    exact ⟨l',rfl,h7.1▸h8⟩
end
end Go.Proofs.YtgpdhgadmjfokaaGreat
namespace Go.Proofs.YtgpdhgadmjfokaaGreat
open Go.RowKit
def szv (left:Int)(t:Nat):Int:=if left < t then -1 else left - t
theorem QlJ (left:Int)(t:Nat):(left < t∧szv left t= -1)∨((t:Int)≤left∧szv left t=left - t):=by
  unfold szv
  split
  · exact .inl ⟨by assumption,rfl⟩
  · exact .inr ⟨by omega,rfl⟩
theorem Qpo {w w':World}{l:Int}{t:Nat}{e:Ending}(h:SzPost w l t e w'):e= .returned (.int .i64 (szv l t))∧Nw w w':=by
  obtain ⟨l',rfl,h1,h2⟩:=h
  have h3:=QlJ l t
  unfold CutTo at h1
  have:l'=Go.Proofs.YtgpdhgadmjfokaaGreat.szv l t:=by omega
  exact ⟨by rw[this],h2⟩
theorem QpK {P:Program}{f:FuncId}{args:List (Bool×List LV)}{pv:PV}(h:∀(gh:Gh) (w:World) (vs:List Value),CmsR (Tab.al []) gh w args vs→Calls P f vs.toArray w fun e w'=>∃v,e= .returned v∧Nw w w'∧PVR (Tab.al []) gh w' pv v):FC P f args [] 0 (QY pv):=fun gh w vs cx ha=>
  Calls.mono (h gh w vs ha) fun e w' he=>by
    obtain ⟨v,rfl,h2,h3⟩:=he
    exact ⟨_,_,[],gh,rfl,⟨rfl,rfl⟩,Wn Zu gh w' fun g hg=>bp (cx.nl g hg) h2.size,h3,⟨h2.grw,fun g hg _=>Below.block h2 g hg,fun g hg=> .inl hg,fun q hq=>absurd hq (Zu q)⟩,fun q hq=>absurd hq (by omega)⟩
section
variable {al:Nat→Prop}{gh:Gh}{w:World}{t:Ty}{x:t.Den}{cs:List (Bool×List LV)}{vs:List Value}
end
section
variable {P:Program}{f:FuncId}{t:Ty}{x:t.Den}
end
def Ty.sls:Ty→Nat
  | .int=>0
  | .bool=>0
  | .str=>0
  | .u8=>0
  | .vl=>0
  | .sl _ _=>1
  | .pr a b=>a.sls+b.sls
def oL:(t:Ty)→t.Den→Nat→List LV
  | .int,x,_=>[.dat .int x]
  | .bool,x,_=>[.dat .bool x]
  | .str,x,_=>[.dat .str x]
  | .u8,x,_=>[.dat .u8 x]
  | .vl,x,_=>[.dat .vl x]
  | .sl _ _,_,n=>[.ref n]
  | .pr a b,x,n=>oL a x.1 n++oL b x.2 (n+a.sls)
def oT:(t:Ty)→t.Den→Nat→Tab
  | .int,_,_=>[]
  | .bool,_,_=>[]
  | .str,_,_=>[]
  | .u8,_,_=>[]
  | .vl,_,_=>[]
  | .sl E e,xs,n=>[(n,some (.arr E e xs))]
  | .pr a b,x,n=>oT a x.1 n++oT b x.2 (n+a.sls)
theorem H0:∀(t:Ty) (x:t.Den) (n q:Nat),q∈QA (oL t x n)→n≤q∧q < n+t.sls
  | .int,_,_,_,h=>by cases h
  | .bool,_,_,_,h=>by cases h
  | .str,_,_,_,h=>by cases h
  | .u8,_,_,_,h=>by cases h
  | .vl,_,_,_,h=>by cases h
  | .sl _ _,_,n,q,h=>by
    have:q=n:=by simpa [oL,QA,LV.tags] using h
    subst this
    exact ⟨aQ _,Nat.lt_succ_self _⟩
  | .pr a b,x,n,q,h=>by
    rw[oL,XA] at h
    rcases aO.1 h with h | h
    · have:=H0 a x.1 n q h; simp only[Ty.sls]; omega
    · have:=H0 b x.2 _ q h; simp only[Ty.sls]; omega
theorem Qha {A B:Tab}{q:Nat}{e:Ent}(h:Tab.ent (A++B) q=some e):A.ent q=some e∨B.ent q=some e:=by
  induction A with
  | nil=>exact .inr h
  | cons x A ih=>
    obtain ⟨j,o⟩:=x
    rw[cD,Qe] at h
    rw[Qe]
    by_cases e1:q=j
    · rw[if_pos e1] at h ⊢; exact .inl h
    · rw[if_neg e1] at h ⊢; exact ih h
structure Parts (t:Ty) (w:World) (fp:List Nat) (cs:List Value) (x:t.Den) (n:Nat) (hh:Nat→Value) (ff:Nat→List Nat):Prop where
  lv:∀(al:Nat→Prop) (N:Nat→Prop),LVs al ⟨hh,ff,N⟩ w (oL t x n) cs
  rg:∀q e,(oT t x n).ent q=some e→n≤q∧q < n+t.sls∧(∃E' e' xs,e= .arr E' e' xs∧Own (.sl E' e') w (ff q) [hh q] xs)∧(∀g∈ff q,g∈fp)∧(ff q).Nodup
  dj:∀q q',(oT t x n).al q→(oT t x n).al q'→q≠q'→∀g∈ff q,g∉ff q'
theorem X4 {t:Ty}{w:World}{cs:List Value}{x:t.Den}{n:Nat}(fp:List Nat)(hr:Rep t w cs x)(hf:t.flat=true)(h1:∀y m,oL t y m=leaves t y)(h2:∀y m,oT t y m=[]):Parts t w fp cs x n (fun _=>undef) fun _=>[] where
  lv al N:=by rw[h1]; exact (Rep.rd0 (N:=N) (w':=w) hr hf).leaves
  rg q e h:=by rw[h2] at h; cases h
  dj q q' h:=by rw[h2] at h; exact absurd h (Zu q)
theorem Own.parts:∀{t:Ty} {w:World} {fp:List Nat} {cs:List Value} {x:t.Den} (n:Nat),Own t w fp cs x→fp.Nodup→∃hh ff,Parts t w fp cs x n hh ff
  | .int,_,fp,_,_,_,h,_=>⟨_,_,X4 fp h.rep rfl (fun _ _=>rfl) fun _ _=>rfl⟩
  | .bool,_,fp,_,_,_,h,_=>⟨_,_,X4 fp h.rep rfl (fun _ _=>rfl) fun _ _=>rfl⟩
  | .str,_,fp,_,_,_,h,_=>⟨_,_,X4 fp h.rep rfl (fun _ _=>rfl) fun _ _=>rfl⟩
  | .u8,_,fp,_,_,_,h,_=>⟨_,_,X4 fp h.rep rfl (fun _ _=>rfl) fun _ _=>rfl⟩
  | .vl,_,fp,_,_,_,h,_=>⟨_,_,X4 fp h.rep rfl (fun _ _=>rfl) fun _ _=>rfl⟩
  | .sl E e,w,fp,cs,xs,n,h,hd=>by
    have hl:=h.len
    match cs,hl with
    | [v],_=>
      refine ⟨fun _=>v,fun _=>fp,⟨fun al N=>⟨v,[],rfl,fun _=>rfl,rfl⟩,fun q e' he=> ?_,fun q q' h1 h2 hne=> ?_⟩⟩
      · rw [oT, Qe] at he
        by_cases e1:q=n
        · rw [if_pos e1] at he
          cases he
          exact ⟨by omega,by simp only[Ty.sls]; omega,⟨_,_,_,rfl,h⟩,fun g hg=>hg,hd⟩
        · rw[if_neg e1] at he; cases he
      · exact absurd (own1_al' h1 |>.trans (own1_al' h2).symm) hne
  | .pr a b,w,fp,cs,x,n,h,hd=>by
    obtain ⟨f1,f2,l,r,rfl,rfl,h1,h2⟩:=h
    obtain ⟨d1,d2,d3⟩:=bd.1 hd
    obtain ⟨ha,fa,pa⟩:=Own.parts n h1 d1
    obtain ⟨hb,fb,pb⟩:=Own.parts (n+a.sls) h2 d2
    have ea:∀q,q < n+a.sls→(if q < n+a.sls then ha q else hb q)=ha q∧(if q < n+a.sls then fa q else fb q)=fa q:=fun q h=>⟨if_pos h,if_pos h⟩
    have eb:∀q,n+a.sls≤q→(if q < n+a.sls then ha q else hb q)=hb q∧(if q < n+a.sls then fa q else fb q)=fb q:=fun q h=>⟨if_neg (by omega),if_neg (by omega)⟩
    refine ⟨fun q=>if q < n+a.sls then ha q else hb q,fun q=>if q < n+a.sls then fa q else fb q,⟨fun al N=> ?_,fun q e he=> ?_,fun q q' k1 k2 hne=> ?_⟩⟩
    · exact LVs.app ((pa.lv al N).mono (fun q hq k=>⟨k,(ea q (H0 a x.1 n q hq).2).1⟩) fun g hg=>⟨hg,rfl⟩) ((pb.lv al N).mono (fun q hq k=>⟨k,(eb q (H0 b x.2 _ q hq).1).1⟩) fun g hg=>⟨hg,rfl⟩)
    · rcases Qha he with he | he
      · obtain ⟨k1, k2, k3, k4, k5⟩ := pa.rg q e he
        refine ⟨k1,by simp only[Ty.sls]; omega, ?_, ?_, ?_⟩
        · rw[(ea q k2).1,(ea q k2).2]; exact k3
        · rw[(ea q k2).2]; exact fun g hg=>aX _ (k4 g hg)
        · rw[(ea q k2).2]; exact k5
      · obtain ⟨k1, k2, k3, k4, k5⟩ := pb.rg q e he
        refine ⟨by omega,by simp only[Ty.sls]; omega, ?_, ?_, ?_⟩
        · rw[(eb q k1).1,(eb q k1).2]; exact k3
        · rw[(eb q k1).2]; exact fun g hg=>aW _ (k4 g hg)
        · rw[(eb q k1).2]; exact k5
    · obtain ⟨e, k1⟩ := k1
      obtain ⟨e',k2⟩:=k2
      rcases Qha k1 with k1 | k1 <;> rcases Qha k2 with k2 | k2
      · obtain ⟨_, p2, _, p4, _⟩ := pa.rg q e k1
        obtain ⟨_,q2,_,q4,_⟩:=pa.rg q' e' k2
        rw[(ea q p2).2,(ea q' q2).2]
        exact pa.dj q q' ⟨_,k1⟩ ⟨_,k2⟩ hne
      · obtain ⟨_, p2, _, p4, _⟩ := pa.rg q e k1
        obtain ⟨q2,_,_,q4,_⟩:=pb.rg q' e' k2
        rw[(ea q p2).2,(eb q' q2).2]
        exact fun g h1 h2=>d3 _ (p4 g h1) _ (q4 g h2) rfl
      · obtain ⟨p2, _, _, p4, _⟩ := pb.rg q e k1
        obtain ⟨_,q2,_,q4,_⟩:=pa.rg q' e' k2
        rw[(eb q p2).2,(ea q' q2).2]
        exact fun g h1 h2=>d3 _ (q4 g h2) _ (p4 g h1) rfl
      · obtain ⟨p2, _, _, p4, _⟩ := pb.rg q e k1
        obtain ⟨q2,_,_,q4,_⟩:=pb.rg q' e' k2
        rw[(eb q p2).2,(eb q' q2).2]
        exact pb.dj q q' ⟨_,k1⟩ ⟨_,k2⟩ hne
where
  own1_al' {E:TypeId} {e:Ty} {zs:List e.Den} {q n:Nat} (h:Tab.al [(n,some (.arr E e zs))] q):q=n:=by
    obtain ⟨e',h⟩:=h
    rw[Qe] at h
    by_cases h1:q=n
    · exact h1
    · rw[if_neg h1] at h; cases h
section
variable {P:Program}{f:FuncId}{t:Ty}{x:t.Den}{args:List (Bool×List LV)}
end
def gh0 (w:World):Gh:=⟨fun _=>undef,fun _=>[],fun g=>g < w.heap.size⟩
theorem Qju {al:Nat→Prop}{gh:Gh}{w:World}:CmsR al gh w [] []:=rfl
theorem Qrs {al:Nat→Prop}{w:World}{t:Ty}{x:t.Den}{us vs:List Value}{cs:List (Bool×List LV)}(h:Rep t w us x)(k:CmsR al (gh0 w) w cs vs):CmsR al (gh0 w) w ((true,leaves t x) :: cs) (.agg us.toArray :: vs):=
  ⟨_,_,rfl,⟨us,rfl,(h.rd fun _ hg=>hg).leaves⟩,k⟩
theorem QeW {al:Nat→Prop}{w:World}{t:Ty}{x:t.Den}{v:Value}{vs:List Value}{cs:List (Bool×List LV)}(h:Rep t w [v] x)(k:CmsR al (gh0 w) w cs vs):CmsR al (gh0 w) w ((false,[.dat t x]) :: cs) (v :: vs):=
  ⟨_,_,rfl,⟨_,rfl,h.rd fun _ hg=>hg⟩,k⟩
theorem QlF {P:Program}{f:FuncId}{args:List (Bool×List LV)}{b:Bool}(h:FC P f args [] 0 (QY (lf (dB b)))){w:World}{vs:List Value}(ha:CmsR (Tab.al []) (gh0 w) w args vs):
    Calls P f vs.toArray w fun e w'=>e= .returned (.bool b)∧Nw w w':=
  Calls.mono (h (gh0 w) w vs (Wn Zu _ _ fun _ hg=>hg) ha) fun e w' he=>by
    obtain ⟨v,pv,T',gh',rfl,⟨rfl,rfl⟩,_,⟨l,hl,hp⟩,fr,_⟩:=he
    simp only[aE,and_true] at hl
    subst hl
    exact ⟨by rw[LVR.bool hp],⟨fr.gw.os,fr.gw.tape,fr.gw.output,fr.gw.size,fun g hg=>fr.kp g hg fun q hq=>absurd hq (Zu q)⟩⟩
end Go.Proofs.YtgpdhgadmjfokaaGreat
namespace Go.Proofs.YtgpdhgadmjfokaaGreat
open Go.RowKit
theorem QfJ {A:Amb}{P:Program}{s:St}{fn:Func}{r1 r2 r3 r4:ResultVar}{c1 c2 c3 c4:Bool×List LV}(hr:fn.results= #[r1,r2,r3,r4])(h1:Rs A P s r1 c1)(h2:Rs A P s r2 c2)(h3:Rs A P s r3 c3)(h4:Rs A P s r4 c4):Res A P fn s (.tup [c1,c2,c3,c4]):=fun gh a w g=>by
  obtain ⟨v1,a1,b1⟩:=h1 gh a w g
  obtain ⟨v2,a2,b2⟩:=h2 gh a w g
  obtain ⟨v3,a3,b3⟩:=h3 gh a w g
  obtain ⟨v4,a4,b4⟩:=h4 gh a w g
  refine ⟨.tuple #[v1,v2,v3,v4], ?_,[v1,v2,v3,v4],rfl,v1,[v2,v3,v4],rfl,b1,v2,[v3,v4],rfl,b2,v3,[v4],rfl,b3,v4,[],rfl,b4,rfl⟩
  rw[Wh,hr]; simp[XD,a1,a2,a3,a4,dx]
theorem Qrl {b w:Bool}(h:(!b)=w):b= !w:=by cases b <;> subst h <;> rfl
theorem Qmp {b w:Bool}(h:b=w):(!b)= !w:=by rw[h]
theorem Qt {A:Amb}{P:Program}{s:St}{Q:Exit→St→Prop}{ops:Array Oper}{o:Oper}{l:List Oper}{j d:Nat}{b:Bool}(hg:o.guard=some (j,b))(hd:(ops[j]?).bind (·.dst)=some d)(hb:lk s.tm d=some (lf (.val undef)))
    (k:AL A P ops l Q (match o.dst with | some d'=>s.put d' (lf (.val undef)) | none=>s)) (hn:(match o.dst with | some d'=>Nat.blt d' A.n | none=>true)=true):AL A P ops (o :: l) Q s:=fun a w r=>by
  obtain ⟨gh,r'⟩:=r
  have hy:yielded ops a.tmps j=none:=by
    obtain ⟨v,h1,l,h2,h3⟩:=r'.tm d _ hb
    simp only[aE,and_true] at h2
    subst h2
    have h3:v=undef:=h3
    subst h3
    simp[yielded,hd,h1,undef]
  refine wpList_step fun K hK=> ?_
  rw[if_neg (by simp[Region.wanted,hg,hy])]
  refine hK _ _ (k _ _ ?_)
  cases hdst:o.dst with
  | none=>exact ⟨gh,r'⟩
  | some d'=>
    rw[hdst] at hn
    exact ⟨gh,r'.put (aH hn) (pv:=lf (.val undef)) ⟨_,rfl,rfl⟩⟩
theorem Qn0 {A:Amb}{P:Program}{s:St}{ops:Array Oper}{o:Oper}{j d d':Nat}{b:Bool}(hg:o.guard=some (j,b))(hd:(ops[j]?).bind (·.dst)=some d)(hb:lk s.tm d=some (lf (.val undef)))(ho:o.dst=some d')(hn:Nat.blt d' A.n=true):Acts A P ops o s (s.put d' (lf (.val undef))):=fun a w K Q r hK=>by
  obtain ⟨gh,r'⟩:=r
  have hy:yielded ops a.tmps j=none:=by
    obtain ⟨v,h1,l,h2,h3⟩:=r'.tm d _ hb
    simp only[aE,and_true] at h2
    subst h2
    have h3:v=undef:=h3
    subst h3
    simp[yielded,hd,h1,undef]
  rw[if_neg (by simp[Region.wanted,hg,hy]),ho]
  exact hK _ _ ⟨gh,r'.put (aH hn) (pv:=lf (.val undef)) ⟨_,rfl,rfl⟩⟩
theorem Hx {P:Program}{T E:TypeId}{w:World}{B:Option Addr}{n c:Nat}(d:Nat)(h:P.underlying T=some (.slice E)):(Op.equalIn (d+1) T (.slice B n c) (.slice none 0 0)).run P w= .ok B.isNone w:=by
  cases B <;> simp[Op.equalIn,run_underlying h]
theorem Qkd {P:Program}{T E:TypeId}{w:World}{B:Option Addr}{n c:Nat}(h:P.underlying T=some (.slice E)):(binOp .eql T (.slice B n c) (.slice none 0 0)).run P w= .ok (.bool B.isNone) w:=by
  have h1:=Hx (w:=w) (B:=B) (n:=n) (c:=c) 9999 h
  simp only[binOp]
  simp[Op.equal,Op.maxDepth,h1]
theorem QlM {A:Amb}{P:Program}{s:St}{x y:Operand}{d:Nat}{T T' ty:TypeId}{pos:String}{af:Array Edge}{ops:Array Oper}{l:List Oper}{Q:Exit→St→Prop}{E E':TypeId}{e:Ty}{xs:List e.Den}(hx:Evl A s x (.dat (.sl E e) xs))(hy:Evl A s y (.val (.slice none 0 0)))
    (hT:P.underlying T=some (.slice E')) (hn:Nat.blt d A.n=true) (k:∀b:Bool,(b=true→xs=[])→AL A P ops l Q (s.put d (lf (dB b)))):AL A P ops (⟨some d, .binOp .eql T x y T',ty,pos,af,none⟩ :: l) Q s:=
  fun a w r=>wpList_plain rfl fun _ hK=>by
    obtain ⟨gh,r'⟩:=r
    obtain ⟨B,c,hv,h1,h2,h3⟩:=Rd.rep (hx gh a w r')
    simp only[aE,and_true] at hv
    have hy':a.eval y= .slice none 0 0:=hy gh a w r'
    have e:(execOp a.eval ⟨some d, .binOp .eql T x y T',ty,pos,af,none⟩).run P w= .ok (.value (.bool B.isNone)) w:=by
      simp only[execOp,hv,hy',eqGuard_at_slice]
      simp[az,Qkd hT]
    unfold Oper.wp
    rw[e,Oper.upon_value]
    refine hK _ _ (k B.isNone (fun h=> ?_) _ _ ⟨gh,r'.put (aH hn) (pv:=lf (dB B.isNone)) ⟨_,rfl,ZR⟩⟩)
    cases xs with
    | nil=>rfl
    | cons z zs=>
      obtain ⟨b,o,h4,_⟩:=h3 (by simp)
      rw[h4] at h
      cases h
theorem Kx {A:Amb}{P:Program}{s:St}{x y:Operand}{d:Nat}{T ty:TypeId}{pos:String}{af:Array Edge}{g:Option (Nat×Bool)}(t:Nat){E:TypeId}{e:Ty}{n:Int}{z:Value}{bytes:Nat}(hx:Evl A s x (dI n))(hy:Evl A s y (dI n))(hT:P.underlying T=some (.slice E))(hi:(P.info? E).map (fun i=>(i.zero,i.size,i.bytes))=some (some z,e.wd,bytes))
    (hz:z.cells.toList=e.zeros) (h0:0≤n) (hb:bytes*n.toNat≤281474976710656) (hm:n.toNat≤1073741824) (hn:Nat.blt d A.n=true) (hfr:Fresh s t) (hk0:A.k0≤t):Does A P ⟨some d, .makeSlice T x y,ty,pos,af,g⟩ s (s.mk_ d t [] E e (List.replicate n.toNat e.zero)):=by
  have e0:n=(n.toNat:Int):=by omega
  rw[e0] at hx hy
  exact YD t hx hy hT hi hz hb hm hn hfr hk0
def QgI {α:Type}(f:α→α→Bool):List α→List α→Bool
  | [],[]=>true
  | x :: xs,y :: ys=>f x y&&QgI f xs ys
  | _,_=>false
def Ty.beq:(t:Ty)→t.Den→t.Den→Bool
  | .int,x,y=>decide ((x:Int)=y)
  | .bool,x,y=>(x:Bool)==y
  | .str,x,y=>decide ((x:ByteArray)=y)
  | .u8,x,y=>decide ((x:UInt8)=y)
  | .vl,x,y=>decide ((x:Hdr)=y)
  | .sl _ e,x,y=>QgI e.beq x y
  | .pr a b,x,y=>a.beq x.1 y.1&&b.beq x.2 y.2
theorem QfL {α:Type}{f:α→α→Bool}(h:∀x y,f x y=true↔x=y):∀xs ys:List α,QgI f xs ys=true↔xs=ys
  | [],[]=>by simp[QgI]
  | [],_ :: _=>by simp[QgI]
  | _ :: _,[]=>by simp[QgI]
  | x :: xs,y :: ys=>by simp[QgI,h,QfL h xs ys]
theorem Ty.beq_iff:∀(t:Ty) (x y:t.Den),t.beq x y=true↔x=y
  | .int,x,y=>by simp[Ty.beq]
  | .bool,x,y=>by simp[Ty.beq]
  | .str,x,y=>by simp[Ty.beq]
  | .u8,x,y=>by simp[Ty.beq]
  | .vl,x,y=>by simp[Ty.beq]
  | .sl _ e,x,y=>QfL (Ty.beq_iff e) x y
  | .pr a b,x,y=>by
    obtain ⟨x1,x2⟩:=x
    obtain ⟨y1,y2⟩:=y
    simp[Ty.beq,Ty.beq_iff a,Ty.beq_iff b]
def Ty.fcs:(t:Ty)→t.Den→List Value
  | .int,x=>[.int .i64 x]
  | .bool,x=>[.bool x]
  | .str,x=>[.string x]
  | .u8,x=>[.int .u8 (x:UInt8).toNat]
  | .vl,x=>[hdV x]
  | .sl _ _,_=>[]
  | .pr a b,x=>a.fcs x.1++b.fcs x.2
theorem Rep.fcs:∀{t:Ty} {w:World} {cs:List Value} {x:t.Den},Rep t w cs x→t.flat=true→cs=t.fcs x
  | .int,_,_,_,h,_=>h.1
  | .bool,_,_,_,h,_=>h
  | .str,_,_,_,h,_=>h.1
  | .u8,_,_,_,h,_=>h
  | .vl,_,_,_,h,_=>h
  | .sl _ _,_,_,_,_,hf=>by cases hf
  | .pr a b,w,_,_,⟨l,r,h1,h2,h3⟩,hf=>by
    have hf:(a.flat&&b.flat)=true:=hf
    rw[aM] at hf
    rw[h1,h2.fcs hf.1,h3.fcs hf.2]; rfl
theorem Rep.fcs_inj:∀{t:Ty} {w w':World} {cs:List Value} {x y:t.Den},Rep t w cs x→Rep t w' cs y→t.flat=true→x=y
  | .int,_,_,_,x,y,h,k,_=>by have h1:=h.1; have h2:=k.1; rw[h1] at h2; simpa using h2
  | .bool,_,_,_,x,y,h,k,_=>by have h1:_=_:=h; have h2:_=_:=k; rw[h1] at h2; simpa using h2
  | .str,_,_,_,x,y,h,k,_=>by have h1:=h.1; have h2:=k.1; rw[h1] at h2; simpa using h2
  | .u8,_,_,_,x,y,h,k,_=>by
    have h1:_=_:=h; have h2:_=_:=k; rw[h1] at h2
    simp only[aE,Value.int.injEq,and_true,true_and] at h2
    exact UInt8.toNat_inj.1 (by omega)
  | .vl,_,_,_,x,y,h,k,_=>by
    have h1:_=_:=h; have h2:_=_:=k; rw[h1] at h2
    exact Qi6 (by simpa using h2)
  | .sl _ _,_,_,_,_,_,_,_,hf=>by cases hf
  | .pr a b,w,w',_,x,y,⟨l,r,h1,h2,h3⟩,⟨l',r',k1,k2,k3⟩,hf=>by
    have hf:(a.flat&&b.flat)=true:=hf
    rw[aM] at hf
    rw[h1] at k1
    have hl:l.length=l'.length:=by rw[h2.len,k2.len]
    obtain ⟨rfl,rfl⟩:=List.append_inj k1 hl
    exact Prod.ext (h2.fcs_inj k2 hf.1) (h3.fcs_inj k3 hf.2)
def KV:Bool→(t:Ty)→Value→t.Den→Prop
  | true,t,v,x=>∃cs w,v= .agg cs.toArray∧Rep t w cs x
  | false,t,v,x=>∃w,Rep t w [v] x
theorem MV.kv {gh:Gh}{w:World}{b:Bool}{t:Ty}{v:Value}{x:t.Den}(h:MV gh w b t v x):KV b t v x:=by
  cases b with
  | true=>obtain ⟨cs,h1,h2⟩:=h; exact ⟨cs,w,h1,h2.rep⟩
  | false=>exact ⟨w,Rd.rep h⟩
theorem QlN {b:Bool}{t:Ty}{v v':Value}{x y:t.Den}(h:KV b t v x)(k:KV b t v' y)(hf:t.flat=true):v=v'↔x=y:=by
  cases b with
  | true=>
    obtain ⟨cs,w,rfl,h2⟩:=h
    obtain ⟨cs',w',rfl,k2⟩:=k
    constructor
    · intro e
      have e:cs=cs':=by simpa using e
      subst e
      exact h2.fcs_inj k2 hf
    · rintro rfl
      rw[h2.fcs hf,k2.fcs hf]
  | false=>
    obtain ⟨w,h2⟩:=h
    obtain ⟨w',k2⟩:=k
    constructor
    · rintro rfl
      exact h2.fcs_inj k2 hf
    · rintro rfl
      have:=(h2.fcs hf).trans (k2.fcs hf).symm
      simpa using this
structure KeyL (P:Program) (kt:TypeId) (kb:Bool) (k:Ty):Prop where
  K:Maps.Keyed P kt
  flat:k.flat=true
  rd:∀v x,KV kb k v x→∃l,keyOf P kt v=some l
theorem KeyL.str {P:Program}{kt:TypeId}(h:P.underlying kt=some .string):KeyL P kt false .str:=
  ⟨Maps.string_keyed h,rfl,fun v x ⟨w,h1,h2⟩=>by
    simp only[aE,and_true] at h1
    subst h1
    exact ⟨_,WideMaps.keyOf_string_mk h h2⟩⟩
theorem KeyL.int {P:Program}{kt:TypeId}(h:P.underlying kt=some (.int .i64)):KeyL P kt false .int:=
  ⟨Maps.int_keyed h,rfl,fun v x ⟨w,h1,h2⟩=>by
    simp only[aE,and_true] at h1
    subst h1
    exact ⟨_,Maps.keyOf_int_mk h (by simp[Lit.wf]; exact h2)⟩⟩
def Qcd (k:Ty){V:Type}:List (k.Den×V)→k.Den→Option V
  | [],_=>none
  | p :: m,x=>if k.beq p.1 x then some p.2 else Qcd k m x
def Qgi (k:Ty){V:Type}:List (k.Den×V)→k.Den→V→List (k.Den×V)
  | [],x,v=>[(x,v)]
  | p :: m,x,v=>if k.beq p.1 x then (x,v) :: m else p :: Qgi k m x v
section
variable {k:Ty}{V:Type}{m:List (k.Den×V)}{x:k.Den}{v:V}
theorem Qdg (y:k.Den):Qcd k (Qgi k m x v) y=if k.beq x y then some v else Qcd k m y:=by
  induction m with
  | nil=>simp[Qgi,Qcd]
  | cons p m ih=>
    unfold Qgi
    split
    · rename_i h
      have h:=(k.beq_iff _ _).1 h
      simp only[Qcd]
      rw[h]
      split <;> rfl
    · rename_i h
      simp only[Qcd]
      rw[ih]
      split
      · rename_i h2
        have h2:=(k.beq_iff _ _).1 h2
        rw[if_neg]
        intro h3
        exact h ((k.beq_iff _ _).2 (h2.trans ((k.beq_iff _ _).1 h3).symm))
      · rfl
end
section
variable {A:Amb}{P:Program}{s:St}{x y z:Operand}{d:Nat}{T T' ty:TypeId}{pos:String}{af:Array Edge}{g:Option (Nat×Bool)}
theorem MpL.len {gh:Gh}{w:World}{kb vb:Bool}{k v:Ty}{es:List MapEntry}{m:List (k.Den×v.Den)}(h:MpL gh w kb k vb v es m):es.length=m.length:=by
  induction es generalizing m with
  | nil=>rw[show m=[] from h]; rfl
  | cons e es ih=>obtain ⟨_,_,m',rfl,_,_,h3⟩:=h; simp[ih h3]
theorem MpL.at {gh:Gh}{w:World}{kb vb:Bool}{k v:Ty}{es:List MapEntry}{m:List (k.Den×v.Den)}(h:MpL gh w kb k vb v es m){j:Nat}{e:MapEntry}(hj:es[j]? =some e):
    ∃p,m[j]? =some p∧MV gh w kb k e.key p.1∧MV gh w vb v e.val p.2:=by
  induction es generalizing m j with
  | nil=>simp at hj
  | cons e0 es ih=>
    obtain ⟨a,b,m',rfl,h1,h2,h3⟩:=h
    cases j with
    | zero=>
      simp only[bQ,bf] at hj
      subst hj
      exact ⟨(a,b),rfl,h1,h2⟩
    | succ j=>exact ih h3 (by simpa using hj)
theorem MpL.set {gh:Gh}{w:World}{kb vb:Bool}{k v:Ty}{es:List MapEntry}{m:List (k.Den×v.Den)}(h:MpL gh w kb k vb v es m){j:Nat}{e:MapEntry}{p:k.Den×v.Den}(h1:MV gh w kb k e.key p.1)(h2:MV gh w vb v e.val p.2):
    MpL gh w kb k vb v (es.set j e) (m.set j p):=by
  induction es generalizing m j with
  | nil=>rw[show m=[] from h]; exact rfl
  | cons e0 es ih=>
    obtain ⟨a,b,m',rfl,k1,k2,k3⟩:=h
    cases j with
    | zero=>exact ⟨p.1,p.2,m',rfl,h1,h2,k3⟩
    | succ j=>exact ⟨a,b,_,rfl,k1,k2,ih k3⟩
theorem MpL.push {gh:Gh}{w:World}{kb vb:Bool}{k v:Ty}{es:List MapEntry}{m:List (k.Den×v.Den)}(h:MpL gh w kb k vb v es m){e:MapEntry}{p:k.Den×v.Den}(h1:MV gh w kb k e.key p.1)(h2:MV gh w vb v e.val p.2):
    MpL gh w kb k vb v (es++[e]) (m++[p]):=by
  induction es generalizing m with
  | nil=>rw[show m=[] from h]; exact ⟨p.1,p.2,[],rfl,h1,h2,rfl⟩
  | cons e0 es ih=>obtain ⟨a,b,m',rfl,k1,k2,k3⟩:=h; exact ⟨a,b,_,rfl,k1,k2,ih k3⟩
theorem Qql {kt:TypeId}{kb vb:Bool}{k v:Ty}(KL:KeyL P kt kb k){gh:Gh}{w:World}{es:List MapEntry}{m:List (k.Den×v.Den)}(h:MpL gh w kb k vb v es m){key:Value}{q:k.Den}(hk:KV kb k key q):
    ((Instr.findKey kt key es).run P w= .ok none w∧∀p∈m,p.1≠q)∨∃(j:Nat) (e:MapEntry) (p:k.Den×v.Den),(Instr.findKey kt key es).run P w= .ok (some (j,e.val)) w∧es[j]? =some e∧m[j]? =some p∧p.1=q∧e.key=key∧MV gh w vb v e.val p.2:=by
  obtain ⟨l,hl⟩:=KL.rd _ _ hk
  rcases KL.K.find w hl es fun e he=>by
      obtain ⟨j,hj⟩:=aT.1 he
      obtain ⟨p,h1,h2,_⟩:=h.at hj
      exact KL.rd _ _ h2.kv with ⟨h1,h2⟩ | ⟨j,e,h1,h2,h3⟩
  · refine .inl ⟨h1, fun p hp e1 => ?_⟩
    obtain ⟨j,hj⟩:=aT.1 hp
    have hlt:j < es.length:=by rw[h.len]; exact (ah.1 hj).1
    obtain ⟨p',k1,k2,_⟩:=h.at (aa hlt)
    rw[hj] at k1
    cases k1
    exact h2 _ (cW hlt) ((QlN k2.kv hk KL.flat).2 e1)
  · obtain ⟨p, k1, k2, k3⟩ := h.at h2
    exact .inr ⟨j,e,p,h1,h2,k1,(QlN k2.kv hk KL.flat).1 h3,h3,k3⟩
theorem CmR.mv {al:Nat→Prop}{gh:Gh}{w:World}{b:Bool}{t:Ty}{v:Value}{q:t.Den}(h:CmR al gh w (b,leaves t q) v):MV gh w b t v q:=by
  cases b with
  | true=>obtain ⟨vs,rfl,h1⟩:=h; exact ⟨vs,rfl,LVs.rd h1⟩
  | false=>
    obtain ⟨l,hl,h1⟩:=h
    exact LVs.rd (al:=al) (gh:=gh) (w:=w) (show LVs al gh w (leaves t q) [v] by rw[hl]; exact ⟨v,[],rfl,h1,rfl⟩)
theorem MV.cm {al:Nat→Prop}{gh:Gh}{w:World}{b:Bool}{t:Ty}{v:Value}{q:t.Den}(h:MV gh w b t v q):CmR al gh w (b,leaves t q) v:=by
  cases b with
  | true=>obtain ⟨vs,rfl,h1⟩:=h; exact ⟨vs,rfl,h1.leaves⟩
  | false=>
    have h2:LVs al gh w (leaves t q) [v]:=Rd.leaves h
    revert h2
    generalize leaves t q=L
    intro h2
    match L,h2 with
    | [],h2=>cases h2
    | [l],h2=>
      obtain ⟨_,_,h0,h1,_⟩:=h2
      cases h0
      exact ⟨l,rfl,h1⟩
    | l :: l' :: ls,h2=>
      obtain ⟨_,_,h0,_,h3⟩:=h2
      cases h0
      obtain ⟨_,_,h0,_⟩:=h3
      cases h0
theorem Born.nil:Born [] 0:=⟨by simp,by simp⟩
theorem Born.push {es:List MapEntry}{clock:Nat}(h:Born es clock)(k v:Value):Born (es++[⟨k,v,clock⟩]) (clock+1):=by
  obtain ⟨h1,h2⟩:=h
  refine ⟨fun x hx=> ?_, ?_⟩
  · rcases aO.1 hx with hx | hx
    · have:=h1 x hx; omega
    · rw[aR] at hx; subst hx; exact Nat.lt_succ_self _
  · rw [cC, bd]
    refine ⟨h2,by simp,fun a ha b hb e=> ?_⟩
    obtain ⟨x,hx,rfl⟩:=bB.1 ha
    simp only[bc,dp,aR] at hb
    have:=h1 x hx; omega
theorem Born.set {es:List MapEntry}{clock j:Nat}{e e':MapEntry}(h:Born es clock)(hj:es[j]? =some e)(hb:e'.born=e.born):Born (es.set j e') clock:=by
  have e1:(es.set j e').map (·.born)=es.map (·.born):=by
    rw[List.map_set]
    apply bL
    intro i
    rw[bq,bg]
    by_cases e2:j=i
    · subst e2
      have hl:=(ah.1 hj).1
      rw[hj]; simp[hl,hb]
    · simp[e2]
  obtain ⟨h1,h2⟩:=h
  refine ⟨fun x hx=> ?_,by rw[e1]; exact h2⟩
  have h3:x.born∈es.map (·.born):=by rw[← e1]; exact bB.2 ⟨x,hx,rfl⟩
  obtain ⟨y,hy,e3⟩:=bB.1 h3
  rw[← e3]; exact h1 y hy
def ZeroV (P:Program)(et:TypeId)(vb:Bool)(v:Ty):Prop:=∃zv,zer P et=some zv∧(if vb then zv= .agg v.zeros.toArray else v.zeros=[zv])
theorem ZeroV.mv {et:TypeId}{vb:Bool}{v:Ty}(h:ZeroV P et vb v)(gh:Gh)(w:World):∃zv,zer P et=some zv∧MV gh w vb v zv v.zero:=by
  obtain ⟨zv,h1,h2⟩:=h
  refine ⟨zv,h1, ?_⟩
  cases vb with
  | true=>exact ⟨v.zeros,h2,(Zm v w).rd (by simp)⟩
  | false=>
    have h2:v.zeros=[zv]:=h2
    show Rd gh.N v w [zv] v.zero
    rw[← h2]
    exact (Zm v w).rd (by simp)
end
section
variable {P:Program}{T:TypeId}{m:Nat}
def EqT (P:Program)(m:Nat)(T:TypeId)(b:Bool)(t:Ty):Prop:=∀(d:Nat) (w:World) (v v':Value) (x x':t.Den),KV b t v x→KV b t v' x'→(Op.equalIn (d+m) T v v').run P w= .ok (t.beq x x') w
theorem QsE {b:Bool}{t:Ty}(j:Nat)(h:EqT P m T b t):EqT P (m+j) T b t:=fun d w v v' x x' k k'=>by
  have:=h (d+j) w v v' x x' k k'
  rwa [bP,Nat.add_comm j m] at this
theorem EqT.int (h:P.underlying T=some (.int .i64)):EqT P (m+1) T false .int:=fun d w v v' x x' ⟨_,h1,_⟩ ⟨_,h2,_⟩=>by
  simp only[aE,and_true] at h1 h2
  rw[h1,h2,← bP,run_equalIn_int w (d+m) T _ _ _ _ h]
  rfl
theorem EqT.u8 (h:P.underlying T=some (.int .u8)):EqT P (m+1) T false .u8:=fun d w v v' x x' ⟨_,h1⟩ ⟨_,h2⟩=>by
  have h1:[v]=[.int .u8 (x:UInt8).toNat]:=h1
  have h2:[v']=[.int .u8 (x':UInt8).toNat]:=h2
  simp only[aE,and_true] at h1 h2
  rw[h1,h2,← bP,run_equalIn_int w (d+m) T _ _ _ _ h,QhQ]
  rfl
theorem EqT.bool (h:P.underlying T=some .bool):EqT P (m+1) T false .bool:=fun d w v v' x x' ⟨_,h1⟩ ⟨_,h2⟩=>by
  have h1:[v]=[.bool x]:=h1
  have h2:[v']=[.bool x']:=h2
  simp only[aE,and_true] at h1 h2
  rw[h1,h2,← bP,run_equalIn_bool' w (d+m) T _ _ h]
  rfl
theorem EqT.str (h:P.underlying T=some .string):EqT P (m+1) T false .str:=fun d w v v' x x' ⟨_,h1,_⟩ ⟨_,h2,_⟩=>by
  simp only[aE,and_true] at h1 h2
  rw[h1,h2,← bP,run_equalIn_string w (d+m) T _ _ h,Qd9]
  rfl
def KAt (t:Ty)(xs:Array Value)(off:Nat)(x:t.Den):Prop:=∃w,Rep t w ((xs.toList.drop off).take t.wd) x
def EqFs (P:Program)(m:Nat)(fs:List Field)(off:Nat)(t:Ty):Prop:=∀(d:Nat) (w:World) (xs ys:Array Value) (x x':t.Den),KAt t xs off x→KAt t ys off x'→(Op.eqFields (d+m) xs ys fs).run P w= .ok (t.beq x x') w
theorem QcM {b:Bool}{t:Ty}{xs:Array Value}{off:Nat}{x:t.Den}{w:World}(hT:tsh P T=some (b,t.wd))(h1:b=false→t.wd=1)(h:KAt t xs off x):∃v,(part T xs off).run P w= .ok v w∧KV b t v x:=by
  obtain ⟨w0,hR⟩:=h
  have hl:=hR.len
  cases b with
  | true=>
    refine ⟨.agg (xs.extract off (off+t.wd)), ?_, ?_⟩
    · simp only [part, az, UJ hT, aG, if_true, Yq hT]
      simp
    · refine ⟨(xs.toList.drop off).take t.wd, w0, ?_, hR⟩
      congr 1
      apply Array.ext'
      simp[List.extract_eq_take_drop]
  | false=>
    have hw:=h1 rfl
    rw[hw] at hR hl
    match hd:(xs.toList.drop off).take 1,hl with
    | [v],_=>
      rw[hd] at hR
      refine ⟨v, ?_,w0,hR⟩
      have hx:xs[off]? =some v:=by
        have h2:((xs.toList.drop off).take 1)[0]? =some v:=by rw[hd]; rfl
        rw[b9,if_pos (by omega),cJ] at h2
        simpa using h2
      simp only[part,az,UJ hT,aG]
      simp[hx]
theorem Jb {f:Field}{fs:List Field}{b:Bool}{t:Ty}{d:Nat}{w:World}{xs ys:Array Value}{x x':t.Den}(hn:f.name≠ "_")(hT:tsh P f.type=some (b,t.wd))(h1:b=false→t.wd=1)(E:EqT P m f.type b t)
    (hx:KAt t xs f.offset x) (hy:KAt t ys f.offset x'):(Op.eqFields (d+m) xs ys (f :: fs)).run P w=if t.beq x x' then (Op.eqFields (d+m) xs ys fs).run P w else .ok false w:=by
  obtain ⟨v,h2,h3⟩:=QcM (w:=w) hT h1 hx
  obtain ⟨v',h4,h5⟩:=QcM (w:=w) hT h1 hy
  have h6:=E d w v v' x x' h3 h5
  simp only[Op.eqFields,if_pos hn,ne_eq,hn,not_false_eq_true,if_true,az,h2,h4,h6,aG]
  cases t.beq x x' <;> simp
theorem EqFs.one {f:Field}{b:Bool}{t:Ty}{off:Nat}(hn:f.name≠ "_")(ho:f.offset=off)(hT:tsh P f.type=some (b,t.wd))(h1:b=false→t.wd=1)(E:EqT P m f.type b t):EqFs P m [f] off t:=fun d w xs ys x x' hx hy=>by
  subst ho
  rw[Jb hn hT h1 E hx hy]
  cases t.beq x x' <;> simp[Op.eqFields]
theorem EqFs.cons {f:Field}{fs:List Field}{b:Bool}{t u:Ty}{off:Nat}(hn:f.name≠ "_")(ho:f.offset=off)(hT:tsh P f.type=some (b,t.wd))(h1:b=false→t.wd=1)(E:EqT P m f.type b t)(k:EqFs P m fs (off+t.wd) u):EqFs P m (f :: fs) off (.pr t u):=fun d w xs ys x x' hx hy=>by
  subst ho
  have cut:∀{zs:Array Value} {z:t.Den×u.Den},KAt (.pr t u) zs f.offset z→KAt t zs f.offset z.1∧KAt u zs (f.offset+t.wd) z.2:=fun {zs z} ⟨w0,l,r,e1,e2,e3⟩=>by
    have hl:=e2.len
    have hr:=e3.len
    have e4:(zs.toList.drop f.offset).take t.wd=l:=by
      have:=congrArg (List.take t.wd) e1
      have e6:(Ty.pr t u).wd=t.wd+u.wd:=rfl
      rw[e6,List.take_take,cF (Nat.le_add_right _ _)] at this
      rw[this,← hl,di]
    have e5:(zs.toList.drop (f.offset+t.wd)).take u.wd=r:=by
      have:=congrArg (List.drop t.wd) e1
      have e6:(Ty.pr t u).wd=t.wd+u.wd:=rfl
      rw[e6,List.drop_take,dk,bj] at this
      rw[this,← hl,List.drop_left]
    exact ⟨⟨w0,by rw[e4]; exact e2⟩,⟨w0,by rw[e5]; exact e3⟩⟩
  obtain ⟨a1,a2⟩:=cut hx
  obtain ⟨b1,b2⟩:=cut hy
  rw[Jb hn hT h1 E a1 b1,k d w xs ys x.2 x'.2 a2 b2]
  show _=Result.ok (t.beq x.1 x'.1&&u.beq x.2 x'.2) w
  cases t.beq x.1 x'.1 <;> rfl
theorem EqT.struct {fs:Array Field}{t:Ty}(ht:P.underlying T=some (.struct fs))(hp:P.stoodInHeld T=false)(h:EqFs P m fs.toList 0 t):EqT P (m+1) T true t:=fun d w v v' x x' ⟨cs,w1,h1,h2⟩ ⟨cs',w2,h3,h4⟩=>by
  have e:P.fieldsOf T=fs:=by simp[Program.fieldsOf,ht]
  rw[h1,h3,← bP,run_equalIn_struct w (d+m) T _ _ (by rw[e]; exact ht) hp,e]
  refine h d w _ _ x x' ⟨w1, ?_⟩ ⟨w2, ?_⟩
  · rw[List.drop_zero,bh (by rw[List.toList_toArray,h2.len]; exact aQ _)]; simpa using h2
  · rw[List.drop_zero,bh (by rw[List.toList_toArray,h4.len]; exact aQ _)]; simpa using h4
section
variable {A:Amb}{s:St}{x y:Operand}{d:Nat}{T' ty:TypeId}{pos:String}{af:Array Edge}{g:Option (Nat×Bool)}{t:Ty}{p q:t.Den}{ls ls':List LV}
theorem Uq (E:EqT P m T true t)(hm:(P.eqGuardType P.depth T=false)∧m≤10000)(hx:Ev A s x (true,ls))(hy:Ev A s y (true,ls'))(hl:ls=leaves t p)(hl':ls'=leaves t q)(hn:Nat.blt d A.n=true):
    Does A P ⟨some d, .binOp .eql T x y T',ty,pos,af,g⟩ s (s.put d (lf (dB (t.beq p q)))):=
  Qf rfl hn fun gh a w r=>by
    subst hl hl'
    obtain ⟨cs,h1,h2⟩:=hx gh a w r
    obtain ⟨cs',h3,h4⟩:=hy gh a w r
    have h5:=E (10000 - m) w _ _ p q ⟨cs,w,rfl,(LVs.rd h2).rep⟩ ⟨cs',w,rfl,(LVs.rd h4).rep⟩
    rw[Nat.sub_add_cancel hm.2] at h5
    refine ⟨.bool (t.beq p q), ?_,_,rfl,ZR⟩
    simp only[execOp,h1,h3]
    simp[az,run_eqGuard_agg w _ _ _ _ _ _ hm.1,run_eql_struct,h5]
end
end
end Go.Proofs.YtgpdhgadmjfokaaGreat
