/- Abstract states: calls that are handed memory of one's own. No program is named here. -/
import Derived.Test.YtfkmmpfdncopdaaGreatNAi
import Derived.Test.YtfkmmpfdncopdaaGreatNStr
set_option linter.unusedSimpArgs false
set_option linter.unusedVariables false
set_option linter.unusedSectionVars false
namespace Go.Proofs.YtfkmmpfdncopdaaGreat
open Go.RowKit
def sg (ρ:List (Nat×Nat))(k n q:Nat):Nat:=match Nat.blt q k with
  | true=>rn ρ q
  | false=>n+q
theorem Qfn {σ:Nat→Nat}{T T0:Tab}{r:Nat}{e:Ent}(h:Tab.ent (T.ren σ++T0) r=some e):(∃q e',T.ent q=some e'∧r=σ q∧e=e'.ren σ)∨(T0.ent r=some e∧∀q,T.al q→σ q≠r):=by
  induction T with
  | nil=>exact .inr ⟨h,fun q hq=>absurd hq (ZJ q)⟩
  | cons x T ih=>
    obtain ⟨j,o⟩:=x
    have h:Tab.ent ((σ j,o.map (Ent.ren σ)) :: (Tab.ren σ T++T0)) r=some e:=h
    rw[Qh] at h
    by_cases h2:r=σ j
    · rw [if_pos h2] at h
      obtain ⟨e',rfl,rfl⟩:=cw.1 h
      exact .inl ⟨j,e',by rw[Qh,if_pos rfl],h2,rfl⟩
    · rw [if_neg h2] at h
      rcases ih h with ⟨q,e',h3,h4,h5⟩ | ⟨h3,h4⟩
      · have hq : q ≠ j := fun e => h2 (e ▸ h4)
        exact .inl ⟨q,e',by rw[Qh,if_neg hq]; exact h3,h4,h5⟩
      · refine .inr ⟨h3, fun q hq => ?_⟩
        by_cases hj:q=j
        · rw[hj]; exact fun e=>h2 e.symm
        · obtain ⟨e2, hq⟩ := hq
          rw[Qh,if_neg hj] at hq
          exact h4 q ⟨e2,hq⟩
theorem Qqo {σ:Nat→Nat}{T:Tab}{q:Nat}(h:T.al q):σ q∈T.map fun p=>σ p.1:=by
  obtain ⟨e,h⟩:=h
  refine ba.2 ?_
  induction T with
  | nil=>cases h
  | cons x T ih=>
    obtain ⟨j,o⟩:=x
    rw[Qh] at h
    by_cases e2:q=j
    · exact ⟨(j,o),az ..,by rw[e2]⟩
    · rw [if_neg e2] at h
      obtain ⟨p,h1,h2⟩:=ih h
      exact ⟨p,ax _ h1,h2⟩
@[reducible] def St.backP (s:St) (d:Nat) (σ:Nat→Nat) (used:List Nat) (pv:PV) (T:Tab):St:=⟨(d,pv.ren σ) :: s.tm,T.ren σ++(Uc used++s.tab)⟩
section
variable {A:Amb}{P:Program}{s:St}{f:FuncId}{xs:List Operand}{tys:Array TypeId}{args:List (Bool×List LV)}{d:Nat}{ty:TypeId}{pos:String}{af:Array Edge}{g:Option (Nat×Bool)}{pv:PV}{T T':Tab}{k:Nat}
theorem Qft (n:Nat)(ρ:List (Nat×Nat)){gh gh':Gh}{a:Act}{w w':World}{v:Value}(r:Rg A s gh a w)(hT:HasE s ρ T)(hi:XY (T.map fun p=>rn ρ p.1)=true)
    (hcl:Yd pv T'=true) (hi':XY (T'.map fun p=>sg ρ k n p.1)=true) (hk:∀q,T'.al q→q < k→T.al q) (hfr:∀q,T'.al q→k≤q→Fresh s (n+q)) (hk0:A.k0≤n) (hn:Nat.blt d A.n=true)
    (cx:Cx T' gh' w') (hp:PVR T'.al gh' w' pv v) (fr:Fr T T' (gh.via (rn ρ)) gh' w w') (hkk:∀q,q < k→T'.al q→gh'.h q=(gh.via (rn ρ)).h q):
    R A (s.backP d (sg ρ k n) (T.map fun p=>rn ρ p.1) pv T') (a.put (some d) v) w':=by
  have hal:∀q,T.al q→s.tab.al (rn ρ q):=fun q ⟨e,h⟩=>⟨_,hT.get h⟩
  obtain ⟨c1,c2⟩:=Hd hcl
  have hσ:∀q,T'.al q→(q < k∧T.al q∧sg ρ k n q=rn ρ q)∨(Fresh s (sg ρ k n q)∧A.k0≤sg ρ k n q):=fun q hq=>by
    rcases cO q k with h | h
    · exact .inl ⟨h,hk q hq h,by simp only[sg]; rw[show Nat.blt q k=true from cA h]⟩
    · have e:sg ρ k n q=n+q:=by
        simp only[sg]; rw[show Nat.blt q k=false from by
          cases hb:Nat.blt q k with
          | false=>rfl
          | true=>have:=aG hb; omega]
      rw[e]; exact .inr ⟨hfr q hq h,by omega⟩
  have hσi:∀q q',T'.al q→T'.al q'→sg ρ k n q=sg ρ k n q'→q=q':=fun q q' h1 h2 h=>Un hi' h1 h2 h
  generalize hs:sg ρ k n=σ at hσ hσi hi' ⊢
  classical
  let G:Gh:=⟨fun r'=>if h:∃q,T'.al q∧σ q=r' then gh'.h h.choose else gh.h r',fun r'=>if h:∃q,T'.al q∧σ q=r' then gh'.f h.choose else gh.f r',fun g=>gh.N g∨gh'.N g⟩
  have hG:∀q,T'.al q→G.h (σ q)=gh'.h q∧G.f (σ q)=gh'.f q:=fun q hq=>by
    have hex:∃q',T'.al q'∧σ q'=σ q:=⟨q,hq,rfl⟩
    have e1:hex.choose=q:=hσi _ _ hex.choose_spec.1 hq hex.choose_spec.2
    simp only[G]
    rw[dif_pos hex,dif_pos hex,e1]
    exact ⟨rfl,rfl⟩
  have hG0:∀r',(∀q,T'.al q→σ q≠r')→G.h r'=gh.h r'∧G.f r'=gh.f r':=fun r' h=>by
    have hnx:¬∃q,T'.al q∧σ q=r':=fun ⟨q,h1,h2⟩=>h q h1 h2
    simp only[G]
    rw[dif_neg hnx,dif_neg hnx]
    exact ⟨rfl,rfl⟩
  let U:Tab:=Tab.ren σ T'++(Uc (T.map fun p=>rn ρ p.1)++s.tab)
  have hused:∀q,T.al q→rn ρ q∈T.map fun p=>rn ρ p.1:=fun q hq=>Qqo hq
  have hU:∀r' e,U.ent r'=some e→(∃q e',T'.ent q=some e'∧r'=σ q∧e=e'.ren σ)∨(s.tab.ent r'=some e∧(∀q,T'.al q→σ q≠r')∧∀q,T.al q→rn ρ q≠r'):=fun r' e h=>by
    rcases Qfn h with h1 | ⟨h1,h2⟩
    · exact .inl h1
    · rw [Hk] at h1
      split at h1
      · cases h1
      · rename_i h3
        exact .inr ⟨h1,h2,fun q hq e=>h3 (e▸hused q hq)⟩
  have hUa:∀r',U.al r'→(∃q,T'.al q∧r'=σ q)∨(s.tab.al r'∧(∀q,T'.al q→σ q≠r')∧∀q,T.al q→rn ρ q≠r'):=fun r' ⟨e,h⟩=>by
    rcases hU r' e h with ⟨q,e',h1,h2,_⟩ | ⟨h1,h2,h3⟩
    · exact .inl ⟨q,⟨e',h1⟩,h2⟩
    · exact .inr ⟨⟨e,h1⟩,h2,h3⟩
  have kp2:∀r',s.tab.al r'→(∀q,T.al q→rn ρ q≠r')→∀g∈gh.f r',w'.heap[g]? =w.heap[g]? :=fun r' h1 h2 g hg=>
    fr.kp g (r.cx.lt h1 g hg) fun q hq hg'=>r.cx.dj _ _ h1 (hal q hq) (fun e=>h2 q hq e.symm) g hg hg'
  have kpN:∀g,gh.N g→w'.heap[g]? =w.heap[g]? :=fun g hN=>fr.kp g (r.cx.nl g hN) fun q hq hg=>r.cx.no _ (hal q hq) g hg hN
  have own2:∀q,T'.al q→∀g∈gh'.f q,w.heap.size≤g∨∃q',T.al q'∧g∈gh.f (rn ρ q'):=fr.ox
  have r2:Rg A ⟨s.tm,U⟩ G a w':=by
    refine r.step (gh':=G) ⟨fun r' e h=> ?_,fun r1 r2 h1 h2 hne g hg hg'=> ?_,fun r' h=> ?_,fun r' h g hg hN=> ?_,fun g hN=> ?_⟩ (fun r' h=> ?_) (fun g hN=>⟨.inl hN,kpN g hN⟩) fr.gw
      (fun g hg h=>fr.kp g hg fun q hq=>h _ (hal q hq)) (fun g hN=> ?_) fun r' h g hg=> ?_
    · rcases hU r' e h with ⟨q, e', h1, rfl, rfl⟩ | ⟨h1, h2, h3⟩
      · refine EntR.ren.2 ((cx.en q e' h1).mono (fun q' hq' _ => ?_) (fun g hg => ⟨.inr hg, rfl⟩) (hG q ⟨e', h1⟩).1 (hG q ⟨e', h1⟩).2 fun _ _ => rfl)
        have h4:=c2 q e' h1 q' hq'
        exact ⟨h4,(hG q' h4).1⟩
      · refine (r.cx.en r' e h1).mono (fun q' hq' hu => ?_) (fun g hN => ⟨.inl hN, kpN g hN⟩) (hG0 r' h2).1 (hG0 r' h2).2 fun g hg => kp2 r' ⟨e, h1⟩ h3 g hg
        rcases hUa q' hu with ⟨q,h4,rfl⟩ | ⟨h4,h5,_⟩
        · rcases hσ q h4 with ⟨h6, h7, h8⟩ | ⟨h6, _⟩
          · rw [(hG q h4).1, hkk q h6 h4]
            exact ⟨h8▸hal q h7,by rw[h8]⟩
          · exact absurd hq' (h6.en r' e h1)
        · exact ⟨h4,(hG0 q' h5).1⟩
    · rcases hUa r1 h1 with ⟨q1, k1, rfl⟩ | ⟨k1, k2, k3⟩ <;> rcases hUa r2 h2 with ⟨q2, l1, rfl⟩ | ⟨l1, l2, l3⟩
      · rw [(hG q1 k1).2] at hg
        rw[(hG q2 l1).2] at hg'
        exact cx.dj q1 q2 k1 l1 (fun e=>hne (e▸rfl)) g hg hg'
      · rw [(hG q1 k1).2] at hg
        rw[(hG0 r2 l2).2] at hg'
        rcases own2 q1 k1 g hg with h | ⟨q',h,h'⟩
        · have:=r.cx.lt l1 g hg'; omega
        · exact r.cx.dj _ _ (hal q' h) l1 (l3 q' h) g h' hg'
      · rw [(hG0 r1 k2).2] at hg
        rw[(hG q2 l1).2] at hg'
        rcases own2 q2 l1 g hg' with h | ⟨q',h,h'⟩
        · have:=r.cx.lt k1 g hg; omega
        · exact r.cx.dj _ _ (hal q' h) k1 (k3 q' h) g h' hg
      · rw [(hG0 r1 k2).2] at hg
        rw[(hG0 r2 l2).2] at hg'
        exact r.cx.dj r1 r2 k1 l1 hne g hg hg'
    · rcases hUa r' h with ⟨q1, k1, rfl⟩ | ⟨k1, k2, k3⟩
      · rw[(hG q1 k1).2]; exact cx.nd q1 k1
      · rw[(hG0 r' k2).2]; exact r.cx.nd r' k1
    · rcases hUa r' h with ⟨q1, k1, rfl⟩ | ⟨k1, k2, k3⟩
      · rw [(hG q1 k1).2] at hg
        rcases hN with hN | hN
        · rcases own2 q1 k1 g hg with h | ⟨q', h, h'⟩
          · have:=r.cx.nl g hN; omega
          · exact r.cx.no _ (hal q' h) g h' hN
        · exact cx.no q1 k1 g hg hN
      · rw [(hG0 r' k2).2] at hg
        rcases hN with hN | hN
        · exact r.cx.no r' k1 g hg hN
        · rcases fr.nn g hN with h | h | ⟨q', h, h'⟩
          · exact r.cx.no r' k1 g hg h
          · have:=r.cx.lt k1 g hg; omega
          · exact r.cx.dj _ _ (hal q' h) k1 (k3 q' h) g h' hg
    · rcases hN with hN | hN
      · exact bh (r.cx.nl g hN) fr.gw.size
      · exact cx.nl g hN
    · rcases hUa r' h with ⟨q1, k1, rfl⟩ | ⟨k1, k2, k3⟩
      · rcases hσ q1 k1 with ⟨h6, h7, h8⟩ | ⟨h6, h7⟩
        · refine .inl ⟨h8 ▸ hal q1 h7, ?_, fun _ => rfl⟩
          rw[(hG q1 k1).1,hkk q1 h6 k1,h8]
        · exact .inr ⟨h6,h7⟩
      · exact .inl ⟨k1,(hG0 r' k2).1,fun _=>rfl⟩
    · rcases hN with hN | hN
      · exact .inl hN
      · rcases fr.nn g hN with h | h | ⟨q', h, h'⟩
        · exact .inl h
        · exact .inr (.inl h)
        · exact .inr (.inr ⟨_,hal q' h,h',fun hl=>r.xn g hl (r.ox _ (hal q' h) g h' hl)⟩)
    · rcases hUa r' h with ⟨q1, k1, rfl⟩ | ⟨k1, k2, k3⟩
      · rw [(hG q1 k1).2] at hg
        rcases own2 q1 k1 g hg with h | ⟨q',h,h'⟩
        · exact .inl h
        · exact .inr ⟨_,hal q' h,h'⟩
      · rw [(hG0 r' k2).2] at hg
        exact .inr ⟨r',k1,hg⟩
  refine ⟨G, ?_⟩
  refine r2.put (aG hn) (pv:=pv.ren σ) ?_
  exact PVR.ren.2 (hp.mono (fun q hq _=>⟨c1 q hq,(hG q (c1 q hq)).1⟩) fun g hg=>⟨.inr hg,rfl⟩)
theorem Qb1 {o:Oper}{vals:Gh→Act→List Value}(n:Nat)(ρ:List (Nat×Nat))(hod:o.dst=some d)(hc:FC P f args T k (Is pv T'))
    (hup:∀gh a w K Q,Rg A s gh a w→Calls P f (vals gh a).toArray w (fun e w'=>match e with | .returned v=>K (a.put o.dst v) w' | _=>False)→o.wp P a w K Q)
    (ha:∀gh a w,Rg A s gh a w→CmsR s.tab.al gh w (args.map fun c=>(c.1,c.2.map (LV.ren (rn ρ)))) (vals gh a)) (hT:HasE s ρ T) (hi:XY (T.map fun p=>rn ρ p.1)=true)
    (hcl:Yd pv T'=true) (hi':XY (T'.map fun p=>sg ρ k n p.1)=true) (hk:∀q,T'.al q→q < k→T.al q) (hfr:∀q,T'.al q→k≤q→Fresh s (n+q)) (hk0:A.k0≤n) (hn:Nat.blt d A.n=true):
    Does A P o s (s.backP d (sg ρ k n) (T.map fun p=>rn ρ p.1) pv T'):=fun a w K Q r hK=>by
  obtain ⟨gh,r⟩:=r
  have hal:∀q,T.al q→s.tab.al (rn ρ q):=fun q ⟨e,h⟩=>⟨_,hT.get h⟩
  have hinj:∀q q',T.al q→T.al q'→rn ρ q=rn ρ q'→q=q':=fun q q' h1 h2 h=>Un hi h1 h2 h
  have cx0:Cx T (gh.via (rn ρ)) w:=⟨fun q e h=>(EntR.ren.1 (r.cx.en _ _ (hT.get h))).mono (fun r' _ h'=>⟨hal r' h',rfl⟩) (fun g hg=>⟨hg,rfl⟩) rfl rfl fun _ _=>rfl,
    fun q q' h1 h2 hne=>r.cx.dj _ _ (hal q h1) (hal q' h2) fun h=>hne (hinj q q' h1 h2 h),fun q h=>r.cx.nd _ (hal q h),fun q h=>r.cx.no _ (hal q h),r.cx.nl⟩
  have hv:=(CmsR.ren.1 (ha gh a w r)).mono (al':=T.al) (gh':=gh.via (rn ρ)) (w':=w) (fun q _ h=>⟨hal q h,rfl⟩) fun g hg=>⟨hg,rfl⟩
  refine hup gh a w K Q r (Calls.mono (hc _ w _ cx0 hv) fun e w' he=> ?_)
  obtain ⟨v,pv',T2,gh',rfl,⟨rfl,rfl⟩,cx,hp,fr,hkk⟩:=he
  refine hK _ _ ?_
  rw[hod]
  exact Qft n ρ r hT hi hcl hi' hk hfr hk0 hn cx hp fr hkk
def FrK (s:St)(n k:Nat):List Nat→Prop
  | []=>True
  | q :: l=>(match Nat.blt q k with
    | true=>True
    | false=>Fresh s (n+q))∧FrK s n k l
theorem FrK.get {n k:Nat}{l:List Nat}(h:FrK s n k l):∀q∈l,k≤q→Fresh s (n+q):=by
  induction l with
  | nil=>simp
  | cons q l ih=>
    intro r hr hk
    rcases aE.1 hr with rfl | hr
    · have h1 := h.1
      rw[show Nat.blt r k=false from by
        cases hb:Nat.blt r k with
        | false=>rfl
        | true=>have:=aG hb; omega] at h1
      exact h1
    · exact ih h.2 r hr hk
def Qfu (T T':Tab)(k:Nat):Bool:=(Zz T').all fun q=> !(Nat.blt q k)||(T.ent q).isSome
theorem Qf2 (n:Nat)(ρ:List (Nat×Nat))(hc:FC P f args T k (Is pv T'))(hE:Qe P f)(ha:EvL A s xs (args.map fun c=>(c.1,c.2.map (LV.ren (rn ρ)))))(hT:HasE s ρ T)(hi:XY (T.map fun p=>rn ρ p.1)=true)
    (hcl:Yd pv T'=true) (hi':XY (T'.map fun p=>sg ρ k n p.1)=true) (hk:∀q,T'.al q→q < k→T.al q) (hfr:∀q,T'.al q→k≤q→Fresh s (n+q)) (hk0:A.k0≤n) (hn:Nat.blt d A.n=true):
    Does A P ⟨some d, .call ⟨.value (.func f),xs.toArray,tys⟩,ty,pos,af,g⟩ s (s.backP d (sg ρ k n) (T.map fun p=>rn ρ p.1) pv T'):=
  Qb1 (vals:=fun _ a=>xs.map a.eval) n ρ rfl hc (fun _ _ _ _ _ _ h=>Ka hE rfl h) (fun _ _ _ r=>ha.cms r) hT hi hcl hi' hk hfr hk0 hn
theorem Qhx {P:Program}{o:Oper}{f:FuncId}{x0:Operand}{xs:List Operand}{tys:Array TypeId}{a:Act}{w:World}{K:Act→World→Prop}{Q:Exit→Act→World→Prop}{cs:List Value}(hE:Qe P f)(ho:o.op= .call ⟨.value x0,xs.toArray,tys⟩)(hx:a.eval x0= .func (.func f) #[] cs.toArray)
    (h:Calls P f (xs.map a.eval++cs).toArray w fun e w'=>match e with | .returned v=>K (a.put o.dst v) w' | _=>False):o.wp P a w K Q:=by
  have e:(execOp a.eval o).run P w= .ok (.enter f (xs.map a.eval++cs).toArray) w:=by
    unfold execOp
    simp only[ho,resolve,hx,Deferred.ofValue,aw]
    have:=hE (xs.map a.eval++cs).toArray w
    simpa [invoke] using this
  unfold Oper.wp
  rw[e,Oper.upon_enter]
  refine Calls.mono h fun e w' he=> ?_
  cases e <;> first | exact he | exact he.elim
def Qmt (T:Tab)(q:Nat):Bool:=match T.ent q with
  | some (.box _ _)=>true
  | _=>false
theorem Qe6 {gh:Gh}{w:World}{T:Tab}(cx:Cx T gh w){q:Nat}(h:Qmt T q=true):T.al q∧∃g,gh.h q= .pointer (some ⟨g,0,none⟩):=by
  unfold Qmt at h
  cases he:T.ent q with
  | none=>rw[he] at h; cases h
  | some e=>
    rw[he] at h
    cases e with
    | box E cs=>obtain ⟨g,cur,h1,_⟩:=cx.en q _ he; exact ⟨⟨_,he⟩,g,h1⟩
    | _=>cases h
def EvCaps (A:Amb)(s:St):List Operand→List Nat→Prop
  | [],qs=>qs=[]
  | x :: xs,qs=>∃q qs',qs=q :: qs'∧Evl A s x (.ptr q 0)∧Qmt s.tab q=true∧EvCaps A s xs qs'
theorem EvCaps.vals {xs:List Operand}{qs:List Nat}(h:EvCaps A s xs qs){gh:Gh}{a:Act}{w:World}(r:Rg A s gh a w):xs.map a.eval=qs.map gh.h:=by
  induction xs generalizing qs with
  | nil=>rw[show qs=[] from h]; rfl
  | cons x xs ih=>
    obtain ⟨q,qs',rfl,h1,h2,h3⟩:=h
    obtain ⟨h4,g,h5⟩:=Qe6 r.cx h2
    obtain ⟨g',h6,h7⟩:=h1 gh a w r h4
    rw[bg,bg,ih h3,h7,h6]
theorem Zj {cs:List Operand}{qs:List Nat}(hc:EvCaps A s cs qs)(hn:Nat.blt d A.n=true):Does A P ⟨some d, .makeFunc (.func f) #[] cs.toArray,ty,pos,af,g⟩ s (s.put d (lf (.clo f qs))):=
  Qg rfl hn fun gh a w r=>by
    refine ⟨.func (.func f) #[] (qs.map gh.h).toArray, ?_,_,rfl,fun _=>rfl⟩
    simp only[execOp,Instr.makeFunc]
    simp[hc.vals r]
theorem Zk {x0:Operand}{args0:List (Bool×List LV)}{caps qs:List Nat}(n:Nat)(ρ:List (Nat×Nat))(hc:FC P f args T k (Is pv T'))(hE:Qe P f)(h0:args=args0++caps.map fun q=>(false,[.ptr q 0]))(hf:Evl A s x0 (.clo f qs))(hq:qs=caps.map (rn ρ))(hb:(caps.all fun q=>Qmt s.tab (rn ρ q))=true)
    (ha:EvL A s xs (args0.map fun c=>(c.1,c.2.map (LV.ren (rn ρ))))) (hT:HasE s ρ T)
    (hB:(XY (T.map fun p=>rn ρ p.1)&&Yd pv T'&&XY (T'.map fun p=>sg ρ k n p.1)&&Qfu T T' k&&Nat.blt d A.n)=true) (hfr:FrK s n k (Zz T')) (hk0:A.k0≤n):
    Does A P ⟨some d, .call ⟨.value x0,xs.toArray,tys⟩,ty,pos,af,g⟩ s (s.backP d (sg ρ k n) (T.map fun p=>rn ρ p.1) pv T'):=by
  simp only[aL] at hB
  obtain ⟨⟨⟨⟨h1,h2⟩,h3⟩,h4⟩,h5⟩:=hB
  subst h0 hq
  have hbx:∀q∈caps,Qmt s.tab (rn ρ q)=true:=aB.1 hb
  refine Qb1 (vals:=fun gh a=>xs.map a.eval++(caps.map (rn ρ)).map gh.h) n ρ rfl hc (fun gh a w K Q r h=>Qhx hE rfl (hf gh a w r fun q hq=> ?_) h) (fun gh a w r=> ?_) hT h1 h2 h3 (fun q ⟨e,hq⟩ hk=> ?_) (fun q ⟨e,hq⟩ hk=>hfr.get q (Zb hq).1 hk) hk0 h5
  · obtain ⟨q', h6, rfl⟩ := ba.1 hq
    exact (Qe6 r.cx (hbx q' h6)).1
  · rw [ce]
    have h6:=ha.cms r
    have h7:CmsR s.tab.al gh w ((caps.map fun q=>(false,[.ptr q 0])).map fun c:Bool×List LV=>(c.1,c.2.map (LV.ren (rn ρ)))) ((caps.map (rn ρ)).map gh.h):=by
      clear h6 hc hb hf
      induction caps with
      | nil=>exact rfl
      | cons q qs ih=>
        obtain ⟨h8,g,h9⟩:=Qe6 r.cx (hbx q (az ..))
        exact ⟨_,_,rfl,⟨_,rfl,fun _=>⟨g,h9,h9⟩⟩,ih fun q' hq'=>hbx q' (ax _ hq')⟩
    clear hc
    generalize (args0.map fun c=>(c.1,c.2.map (LV.ren (rn ρ))))=L at h6 ⊢
    generalize xs.map a.eval=vs at h6 ⊢
    induction L generalizing vs with
    | nil=>rw[show vs=[] from h6]; exact h7
    | cons c cs ih=>obtain ⟨v,vs',rfl,h8,h9⟩:=h6; exact ⟨v,_,rfl,h8,ih _ h9⟩
  · have := aB.1 h4 q (Zb hq).1
    rw[show Nat.blt q k=true from cA hk] at this
    exact b7.1 (by simpa using this)
theorem KU (n:Nat)(ρ:List (Nat×Nat))(hc:FC P f args T k (Is pv T'))(hE:Qe P f)(ha:EvL A s xs (args.map fun c=>(c.1,c.2.map (LV.ren (rn ρ)))))(hT:HasE s ρ T)
    (hB:(XY (T.map fun p=>rn ρ p.1)&&Yd pv T'&&XY (T'.map fun p=>sg ρ k n p.1)&&Qfu T T' k&&Nat.blt d A.n)=true) (hfr:FrK s n k (Zz T')) (hk0:A.k0≤n):
    Does A P ⟨some d, .call ⟨.value (.func f),xs.toArray,tys⟩,ty,pos,af,g⟩ s (s.backP d (sg ρ k n) (T.map fun p=>rn ρ p.1) pv T'):=by
  simp only[aL] at hB
  obtain ⟨⟨⟨⟨h1,h2⟩,h3⟩,h4⟩,h5⟩:=hB
  refine Qf2 n ρ hc hE ha hT h1 h2 h3 (fun q ⟨e,hq⟩ hk=> ?_) (fun q ⟨e,hq⟩ hk=>hfr.get q (Zb hq).1 hk) hk0 h5
  have:=aB.1 h4 q (Zb hq).1
  rw[show Nat.blt q k=true from cA hk] at this
  exact b7.1 (by simpa using this)
def ThL (s:St):List LV→List LV→Prop
  | [],ls'=>ls'=[]
  | l :: ls,ls'=>∃l' r,ls'=l' :: r∧(l=l'∨∃q E e xs,l= .ref q∧s.tab.ent q=some (.arr E e xs)∧l'= .dat (.sl E e) xs)∧ThL s ls r
theorem LVs.th {gh:Gh}{a:Act}{w:World}(r:Rg A s gh a w){ls ls':List LV}{vs:List Value}(h:LVs s.tab.al gh w ls vs)(k:ThL s ls ls'):LVs (fun _=>False) ⟨gh.h,gh.f,fun g=>g < w.heap.size⟩ w ls' vs:=by
  induction ls generalizing ls' vs with
  | nil=>rw[show ls'=[] from k]; exact h
  | cons l ls ih=>
    obtain ⟨v,vs',rfl,h1,h2⟩:=h
    obtain ⟨l',r',rfl,h3,h4⟩:=k
    refine ⟨v,vs',rfl, ?_,ih h2 h4⟩
    rcases h3 with rfl | ⟨q,E,e,xs,rfl,h5,rfl⟩
    · exact h1.mono (fun _ _ h=>h.elim) fun g hg=>⟨r.cx.nl g hg,rfl⟩
    · have hv : v = gh.h q := h1 ⟨_, h5⟩
      have hO:Own (.sl E e) w (gh.f q) [gh.h q] xs:=r.cx.en q _ h5
      rw[hv]
      exact hO.rd fun g hg=>Own.lt hO g hg
theorem QdO {x:Operand}{b:Bool}{ls ls':List LV}(h:Ev A s x (b,ls))(k:ThL s ls ls'):EvB A s x (b,ls'):=fun gh a w r=>by
  have h1:=h gh a w r
  cases b with
  | true=>obtain ⟨vs,h2,h3⟩:=h1; exact ⟨vs,h2,h3.th r k⟩
  | false=>
    obtain ⟨l,rfl,h3⟩:=h1
    have h6:LVs s.tab.al gh w [l] [a.eval x]:=⟨_,[],rfl,h3,rfl⟩
    obtain ⟨l',r',rfl,h4,h5⟩:=k
    have h5:r'=[]:=h5
    subst h5
    obtain ⟨v,vs,h7,h8,_⟩:=h6.th r (ls':=[l']) ⟨l',[],rfl,h4,rfl⟩
    simp only[aI] at h7
    exact ⟨l',rfl,h7.1▸h8⟩
end
end Go.Proofs.YtfkmmpfdncopdaaGreat
namespace Go.Proofs.YtfkmmpfdncopdaaGreat
open Go.RowKit
def szv (left:Int)(t:Nat):Int:=if left < t then -1 else left - t
theorem Qmo (left:Int)(t:Nat):(left < t∧szv left t= -1)∨((t:Int)≤left∧szv left t=left - t):=by
  unfold szv
  split
  · exact .inl ⟨by assumption,rfl⟩
  · exact .inr ⟨by omega,rfl⟩
theorem Qp1 {w w':World}{l:Int}{t:Nat}{e:Ending}(h:SzPost w l t e w'):e= .returned (.int .i64 (szv l t))∧Nw w w':=by
  obtain ⟨l',rfl,h1,h2⟩:=h
  have h3:=Qmo l t
  unfold CutTo at h1
  have:l'=Go.Proofs.YtfkmmpfdncopdaaGreat.szv l t:=by omega
  exact ⟨by rw[this],h2⟩
theorem QlA {P:Program}{f:FuncId}{args:List (Bool×List LV)}{pv:PV}(h:∀(gh:Gh) (w:World) (vs:List Value),CmsR (Tab.al []) gh w args vs→Calls P f vs.toArray w fun e w'=>∃v,e= .returned v∧Nw w w'∧PVR (Tab.al []) gh w' pv v):FC P f args [] 0 (QH pv):=fun gh w vs cx ha=>
  Calls.mono (h gh w vs ha) fun e w' he=>by
    obtain ⟨v,rfl,h2,h3⟩:=he
    exact ⟨_,_,[],gh,rfl,⟨rfl,rfl⟩,Wh ZJ gh w' fun g hg=>bh (cx.nl g hg) h2.size,h3,⟨h2.grw,fun g hg _=>Below.block h2 g hg,fun g hg=> .inl hg,fun q hq=>absurd hq (ZJ q)⟩,fun q hq=>absurd hq (by omega)⟩
section
variable {al:Nat→Prop}{gh:Gh}{w:World}{t:Ty}{x:t.Den}{cs:List (Bool×List LV)}{vs:List Value}
theorem CmsR.leaf_cons (h:CmsR al gh w ((false,[.dat t x]) :: cs) vs):∃v vs',vs=v :: vs'∧Rep t w [v] x∧CmsR al gh w cs vs':=by
  obtain ⟨v,vs',rfl,⟨l,hl,h1⟩,h2⟩:=h
  simp only[aI,and_true] at hl
  subst hl
  exact ⟨v,vs',rfl,Rd.rep h1,h2⟩
theorem CmsR.nil_ (h:CmsR al gh w [] vs):vs=[]:=h
end
section
variable {P:Program}{f:FuncId}{t:Ty}{x:t.Den}
end
def Ty.sls:Ty→Nat
  | .int=>0
  | .bool=>0
  | .str=>0
  | .u8=>0
  | .vl=>0
  | .sl _ _=>1
  | .pr a b=>a.sls+b.sls
def oL:(t:Ty)→t.Den→Nat→List LV
  | .int,x,_=>[.dat .int x]
  | .bool,x,_=>[.dat .bool x]
  | .str,x,_=>[.dat .str x]
  | .u8,x,_=>[.dat .u8 x]
  | .vl,x,_=>[.dat .vl x]
  | .sl _ _,_,n=>[.ref n]
  | .pr a b,x,n=>oL a x.1 n++oL b x.2 (n+a.sls)
def oT:(t:Ty)→t.Den→Nat→Tab
  | .int,_,_=>[]
  | .bool,_,_=>[]
  | .str,_,_=>[]
  | .u8,_,_=>[]
  | .vl,_,_=>[]
  | .sl E e,xs,n=>[(n,some (.arr E e xs))]
  | .pr a b,x,n=>oT a x.1 n++oT b x.2 (n+a.sls)
theorem QaW:∀(t:Ty) (x:t.Den) (n q:Nat),q∈Qw (oL t x n)→n≤q∧q < n+t.sls
  | .int,_,_,_,h=>by cases h
  | .bool,_,_,_,h=>by cases h
  | .str,_,_,_,h=>by cases h
  | .u8,_,_,_,h=>by cases h
  | .vl,_,_,_,h=>by cases h
  | .sl _ _,_,n,q,h=>by
    have:q=n:=by simpa [oL,Qw,LV.tags] using h
    subst this
    exact ⟨aO _,Nat.lt_succ_self _⟩
  | .pr a b,x,n,q,h=>by
    rw[oL,XV] at h
    rcases aK.1 h with h | h
    · have:=QaW a x.1 n q h; simp only[Ty.sls]; omega
    · have:=QaW b x.2 _ q h; simp only[Ty.sls]; omega
theorem Qgy {A B:Tab}{q:Nat}{e:Ent}(h:Tab.ent (A++B) q=some e):A.ent q=some e∨B.ent q=some e:=by
  induction A with
  | nil=>exact .inr h
  | cons x A ih=>
    obtain ⟨j,o⟩:=x
    rw[cJ,Qh] at h
    rw[Qh]
    by_cases e1:q=j
    · rw[if_pos e1] at h ⊢; exact .inl h
    · rw[if_neg e1] at h ⊢; exact ih h
structure Parts (t:Ty) (w:World) (fp:List Nat) (cs:List Value) (x:t.Den) (n:Nat) (hh:Nat→Value) (ff:Nat→List Nat):Prop where
  lv:∀(al:Nat→Prop) (N:Nat→Prop),LVs al ⟨hh,ff,N⟩ w (oL t x n) cs
  rg:∀q e,(oT t x n).ent q=some e→n≤q∧q < n+t.sls∧(∃E' e' xs,e= .arr E' e' xs∧Own (.sl E' e') w (ff q) [hh q] xs)∧(∀g∈ff q,g∈fp)∧(ff q).Nodup
  dj:∀q q',(oT t x n).al q→(oT t x n).al q'→q≠q'→∀g∈ff q,g∉ff q'
theorem Wi {t:Ty}{w:World}{cs:List Value}{x:t.Den}{n:Nat}(fp:List Nat)(hr:Rep t w cs x)(hf:t.flat=true)(h1:∀y m,oL t y m=leaves t y)(h2:∀y m,oT t y m=[]):Parts t w fp cs x n (fun _=>undef) fun _=>[] where
  lv al N:=by rw[h1]; exact (Rep.rd0 (N:=N) (w':=w) hr hf).leaves
  rg q e h:=by rw[h2] at h; cases h
  dj q q' h:=by rw[h2] at h; exact absurd h (ZJ q)
theorem Own.parts:∀{t:Ty} {w:World} {fp:List Nat} {cs:List Value} {x:t.Den} (n:Nat),Own t w fp cs x→fp.Nodup→∃hh ff,Parts t w fp cs x n hh ff
  | .int,_,fp,_,_,_,h,_=>⟨_,_,Wi fp h.rep rfl (fun _ _=>rfl) fun _ _=>rfl⟩
  | .bool,_,fp,_,_,_,h,_=>⟨_,_,Wi fp h.rep rfl (fun _ _=>rfl) fun _ _=>rfl⟩
  | .str,_,fp,_,_,_,h,_=>⟨_,_,Wi fp h.rep rfl (fun _ _=>rfl) fun _ _=>rfl⟩
  | .u8,_,fp,_,_,_,h,_=>⟨_,_,Wi fp h.rep rfl (fun _ _=>rfl) fun _ _=>rfl⟩
  | .vl,_,fp,_,_,_,h,_=>⟨_,_,Wi fp h.rep rfl (fun _ _=>rfl) fun _ _=>rfl⟩
  | .sl E e,w,fp,cs,xs,n,h,hd=>by
    have hl:=h.len
    match cs,hl with
    | [v],_=>
      refine ⟨fun _=>v,fun _=>fp,⟨fun al N=>⟨v,[],rfl,fun _=>rfl,rfl⟩,fun q e' he=> ?_,fun q q' h1 h2 hne=> ?_⟩⟩
      · rw [oT, Qh] at he
        by_cases e1:q=n
        · rw [if_pos e1] at he
          cases he
          exact ⟨by omega,by simp only[Ty.sls]; omega,⟨_,_,_,rfl,h⟩,fun g hg=>hg,hd⟩
        · rw[if_neg e1] at he; cases he
      · exact absurd (own1_al' h1 |>.trans (own1_al' h2).symm) hne
  | .pr a b,w,fp,cs,x,n,h,hd=>by
    obtain ⟨f1,f2,l,r,rfl,rfl,h1,h2⟩:=h
    obtain ⟨d1,d2,d3⟩:=b9.1 hd
    obtain ⟨ha,fa,pa⟩:=Own.parts n h1 d1
    obtain ⟨hb,fb,pb⟩:=Own.parts (n+a.sls) h2 d2
    have ea:∀q,q < n+a.sls→(if q < n+a.sls then ha q else hb q)=ha q∧(if q < n+a.sls then fa q else fb q)=fa q:=fun q h=>⟨if_pos h,if_pos h⟩
    have eb:∀q,n+a.sls≤q→(if q < n+a.sls then ha q else hb q)=hb q∧(if q < n+a.sls then fa q else fb q)=fb q:=fun q h=>⟨if_neg (by omega),if_neg (by omega)⟩
    refine ⟨fun q=>if q < n+a.sls then ha q else hb q,fun q=>if q < n+a.sls then fa q else fb q,⟨fun al N=> ?_,fun q e he=> ?_,fun q q' k1 k2 hne=> ?_⟩⟩
    · exact LVs.app ((pa.lv al N).mono (fun q hq k=>⟨k,(ea q (QaW a x.1 n q hq).2).1⟩) fun g hg=>⟨hg,rfl⟩) ((pb.lv al N).mono (fun q hq k=>⟨k,(eb q (QaW b x.2 _ q hq).1).1⟩) fun g hg=>⟨hg,rfl⟩)
    · rcases Qgy he with he | he
      · obtain ⟨k1, k2, k3, k4, k5⟩ := pa.rg q e he
        refine ⟨k1,by simp only[Ty.sls]; omega, ?_, ?_, ?_⟩
        · rw[(ea q k2).1,(ea q k2).2]; exact k3
        · rw[(ea q k2).2]; exact fun g hg=>aQ _ (k4 g hg)
        · rw[(ea q k2).2]; exact k5
      · obtain ⟨k1, k2, k3, k4, k5⟩ := pb.rg q e he
        refine ⟨by omega,by simp only[Ty.sls]; omega, ?_, ?_, ?_⟩
        · rw[(eb q k1).1,(eb q k1).2]; exact k3
        · rw[(eb q k1).2]; exact fun g hg=>aT _ (k4 g hg)
        · rw[(eb q k1).2]; exact k5
    · obtain ⟨e, k1⟩ := k1
      obtain ⟨e',k2⟩:=k2
      rcases Qgy k1 with k1 | k1 <;> rcases Qgy k2 with k2 | k2
      · obtain ⟨_, p2, _, p4, _⟩ := pa.rg q e k1
        obtain ⟨_,q2,_,q4,_⟩:=pa.rg q' e' k2
        rw[(ea q p2).2,(ea q' q2).2]
        exact pa.dj q q' ⟨_,k1⟩ ⟨_,k2⟩ hne
      · obtain ⟨_, p2, _, p4, _⟩ := pa.rg q e k1
        obtain ⟨q2,_,_,q4,_⟩:=pb.rg q' e' k2
        rw[(ea q p2).2,(eb q' q2).2]
        exact fun g h1 h2=>d3 _ (p4 g h1) _ (q4 g h2) rfl
      · obtain ⟨p2, _, _, p4, _⟩ := pb.rg q e k1
        obtain ⟨_,q2,_,q4,_⟩:=pa.rg q' e' k2
        rw[(eb q p2).2,(ea q' q2).2]
        exact fun g h1 h2=>d3 _ (q4 g h2) _ (p4 g h1) rfl
      · obtain ⟨p2, _, _, p4, _⟩ := pb.rg q e k1
        obtain ⟨q2,_,_,q4,_⟩:=pb.rg q' e' k2
        rw[(eb q p2).2,(eb q' q2).2]
        exact pb.dj q q' ⟨_,k1⟩ ⟨_,k2⟩ hne
where
  own1_al' {E:TypeId} {e:Ty} {zs:List e.Den} {q n:Nat} (h:Tab.al [(n,some (.arr E e zs))] q):q=n:=by
    obtain ⟨e',h⟩:=h
    rw[Qh] at h
    by_cases h1:q=n
    · exact h1
    · rw[if_neg h1] at h; cases h
section
variable {P:Program}{f:FuncId}{t:Ty}{x:t.Den}{args:List (Bool×List LV)}
end
def gh0 (w:World):Gh:=⟨fun _=>undef,fun _=>[],fun g=>g < w.heap.size⟩
theorem QkJ {al:Nat→Prop}{gh:Gh}{w:World}:CmsR al gh w [] []:=rfl
theorem QsN {al:Nat→Prop}{w:World}{t:Ty}{x:t.Den}{us vs:List Value}{cs:List (Bool×List LV)}(h:Rep t w us x)(k:CmsR al (gh0 w) w cs vs):CmsR al (gh0 w) w ((true,leaves t x) :: cs) (.agg us.toArray :: vs):=
  ⟨_,_,rfl,⟨us,rfl,(h.rd fun _ hg=>hg).leaves⟩,k⟩
theorem Qgc {al:Nat→Prop}{w:World}{t:Ty}{x:t.Den}{v:Value}{vs:List Value}{cs:List (Bool×List LV)}(h:Rep t w [v] x)(k:CmsR al (gh0 w) w cs vs):CmsR al (gh0 w) w ((false,[.dat t x]) :: cs) (v :: vs):=
  ⟨_,_,rfl,⟨_,rfl,h.rd fun _ hg=>hg⟩,k⟩
theorem Qmv {P:Program}{f:FuncId}{args:List (Bool×List LV)}{b:Bool}(h:FC P f args [] 0 (QH (lf (dB b)))){w:World}{vs:List Value}(ha:CmsR (Tab.al []) (gh0 w) w args vs):
    Calls P f vs.toArray w fun e w'=>e= .returned (.bool b)∧Nw w w':=
  Calls.mono (h (gh0 w) w vs (Wh ZJ _ _ fun _ hg=>hg) ha) fun e w' he=>by
    obtain ⟨v,pv,T',gh',rfl,⟨rfl,rfl⟩,_,⟨l,hl,hp⟩,fr,_⟩:=he
    simp only[aI,and_true] at hl
    subst hl
    exact ⟨by rw[LVR.bool hp],⟨fr.gw.os,fr.gw.tape,fr.gw.output,fr.gw.size,fun g hg=>fr.kp g hg fun q hq=>absurd hq (ZJ q)⟩⟩
end Go.Proofs.YtfkmmpfdncopdaaGreat
