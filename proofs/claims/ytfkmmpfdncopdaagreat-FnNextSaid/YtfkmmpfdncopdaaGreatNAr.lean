/- Abstract states: renaming (loop heads), freezing, calls. No program is named here. -/
import Derived.Test.YtfkmmpfdncopdaaGreatNAq
set_option linter.unusedSimpArgs false
set_option linter.unusedVariables false
set_option linter.unusedSectionVars false
namespace Go.Proofs.YtfkmmpfdncopdaaGreat
open Go.RowKit
def LV.ren (σ:Nat→Nat):LV→LV
  | .val v=> .val v
  | .dat t x=> .dat t x
  | .ref q=> .ref (σ q)
  | .ptr q o=> .ptr (σ q) o
  | .ept q a b c=> .ept (σ q) a b c
  | .sub q a b c=> .sub (σ q) a b c
  | .elt t x o=> .elt t x o
  | .clo f qs=> .clo f (qs.map σ)
def PV.ren (σ:Nat→Nat):PV→PV
  | .cm b ls=> .cm b (ls.map (LV.ren σ))
  | .tup cs=> .tup (cs.map fun c=>(c.1,c.2.map (LV.ren σ)))
def Ent.ren (σ:Nat→Nat):Ent→Ent
  | .box E cs=> .box E (cs.map (LV.ren σ))
  | .arr E e xs=> .arr E e xs
  | .obx E wd n ls ov=> .obx E wd n (ls.map (LV.ren σ)) (ov.map fun p=>(p.1,p.2.ren σ))
  | .mp kb k vb v m=> .mp kb k vb v m
  | .bys E l=> .bys E l
  | .pl o e vs f=> .pl o e vs f
  | .fz E e xs=> .fz E e xs
  | .res R=> .res R
def Tab.ren (σ:Nat→Nat)(T:Tab):Tab:=T.map fun p=>(σ p.1,p.2.map (Ent.ren σ))
@[reducible] def Gh.via (gh:Gh) (σ:Nat→Nat):Gh:=⟨fun q=>gh.h (σ q),fun q=>gh.f (σ q),gh.N⟩
section
variable {al:Nat→Prop}{gh:Gh}{w:World}{σ:Nat→Nat}
theorem LVR.ren {l:LV}{v:Value}:LVR al gh w (l.ren σ) v↔LVR (fun q=>al (σ q)) (gh.via σ) w l v:=by
  cases l <;> simp only[LV.ren,LVR] <;> try exact Iff.rfl
  rename_i f qs
  simp only[ba,forall_exists_index,and_imp,forall_apply_eq_imp_iff₂,dn,Function.comp_def]
theorem LVs.ren {ls:List LV}{vs:List Value}:LVs al gh w (ls.map (LV.ren σ)) vs↔LVs (fun q=>al (σ q)) (gh.via σ) w ls vs:=by
  induction ls generalizing vs with
  | nil=>exact Iff.rfl
  | cons l ls ih=>simp only[bg,LVs,LVR.ren,ih]
theorem CmR.ren {c:Bool×List LV}{v:Value}:CmR al gh w (c.1,c.2.map (LV.ren σ)) v↔CmR (fun q=>al (σ q)) (gh.via σ) w c v:=by
  obtain ⟨b,ls⟩:=c
  cases b with
  | true=>simp only[CmR,LVs.ren]
  | false=>
    simp only[CmR]
    constructor
    · rintro ⟨l, h, h2⟩
      match ls,h with
      | [l0],h=>
        simp only[bg,d9,aI,and_true] at h
        subst h
        exact ⟨l0,rfl,LVR.ren.1 h2⟩
    · rintro ⟨l, rfl, h2⟩
      exact ⟨l.ren σ,rfl,LVR.ren.2 h2⟩
theorem CmsR.ren {cs:List (Bool×List LV)}{vs:List Value}:CmsR al gh w (cs.map fun c=>(c.1,c.2.map (LV.ren σ))) vs↔CmsR (fun q=>al (σ q)) (gh.via σ) w cs vs:=by
  induction cs generalizing vs with
  | nil=>exact Iff.rfl
  | cons c cs ih=>simp only[bg,CmsR,CmR.ren,ih]
theorem PVR.ren {pv:PV}{v:Value}:PVR al gh w (pv.ren σ) v↔PVR (fun q=>al (σ q)) (gh.via σ) w pv v:=by
  cases pv with
  | cm b ls=>exact CmR.ren (c:=(b,ls))
  | tup cs=>simp only[PV.ren,PVR,CmsR.ren]
theorem LOs.ren {ls:List LV}{f:List Nat}{vs:List Value}:LOs al gh w (ls.map (LV.ren σ)) f vs↔LOs (fun q=>al (σ q)) (gh.via σ) w ls f vs:=by
  induction ls generalizing f vs with
  | nil=>exact Iff.rfl
  | cons l ls ih=>
    simp only[bg,LOs,ih]
    cases l <;> exact Iff.rfl
theorem LV.tags_ren (l:LV):(l.ren σ).tags=l.tags.map σ:=by cases l <;> rfl
theorem WR (ls:List LV):Qw (ls.map (LV.ren σ))=(Qw ls).map σ:=by
  induction ls with
  | nil=>rfl
  | cons l ls ih=>simp[Qw,LV.tags_ren,ih]
theorem QoR (ls:List LV)(ov:List (Nat×LV)):ovr (ls.map (LV.ren σ)) (ov.map fun p=>(p.1,p.2.ren σ))=(ovr ls ov).map (LV.ren σ):=by
  induction ov with
  | nil=>rfl
  | cons p ov ih=>simp only[bg,ovr,ih,List.map_set]
theorem QhX (ov:List (Nat×LV)):KJ (ov.map fun p=>(p.1,p.2.ren σ))=(KJ ov).map σ:=by
  induction ov with
  | nil=>rfl
  | cons p ov ih=>simp[KJ,LV.tags_ren,ih]
theorem EntR.ren {q:Nat}{e:Ent}:EntR al gh w (σ q) (e.ren σ)↔EntR (fun q=>al (σ q)) (gh.via σ) w q e:=by
  cases e with
  | box E cs=>simp only[Ent.ren,EntR,LVs.ren]
  | arr E e xs=>exact Iff.rfl
  | obx E wd n ls ov=>simp only[Ent.ren,EntR,QoR,LOs.ren,aP,WR,List.map_eq_nil_iff]
  | mp kb k vb v m=>
    have hp:∀es:List MapEntry,MpL gh w kb k vb v es m↔MpL (gh.via σ) w kb k vb v es m:=fun es=>⟨fun h=>h.mono fun g hg=>⟨hg,rfl⟩,fun h=>h.mono fun g hg=>⟨hg,rfl⟩⟩
    simp only[Ent.ren,EntR,hp]
  | bys E l=>exact Iff.rfl
  | pl o e vs f=>cases o <;> exact Iff.rfl
  | fz E e xs=>exact Iff.rfl
  | res R=>exact Iff.rfl
theorem Qf0 (cs:List (Bool×List LV)):Wd (cs.map fun c=>(c.1,c.2.map (LV.ren σ)))=(Wd cs).map σ:=by
  induction cs with
  | nil=>rfl
  | cons c cs ih=>simp[Wd,WR,ih]
theorem PV.tags_ren (pv:PV):(pv.ren σ).tags=pv.tags.map σ:=by
  cases pv with
  | cm b ls=>exact WR ls
  | tup cs=>exact Qf0 cs
theorem Ent.tags_ren (e:Ent):(e.ren σ).tags=e.tags.map σ:=by
  cases e with
  | box E cs=>exact WR cs
  | arr E e xs=>rfl
  | obx E wd n ls ov=>exact QhX ov
  | mp kb k vb v m=>rfl
  | bys E l=>rfl
  | pl o e vs f=>rfl
  | fz E e xs=>rfl
  | res R=>rfl
end
def rn (ρ:List (Nat×Nat))(q:Nat):Nat:=match lk ρ q with
  | some r=>r
  | none=>q
def HasT (s:St)(ρ:List (Nat×Nat)):List (Nat×PV)→Prop
  | []=>True
  | (i,pv) :: l=>lk s.tm i=some (pv.ren (rn ρ))∧HasT s ρ l
def HasE (s:St)(ρ:List (Nat×Nat)):Tab→Prop
  | []=>True
  | (_,none) :: l=>HasE s ρ l
  | (q,some e) :: l=>s.tab.ent (rn ρ q)=some (e.ren (rn ρ))∧HasE s ρ l
theorem HasT.get {s:St}{ρ:List (Nat×Nat)}{l:List (Nat×PV)}(h:HasT s ρ l){i:Nat}{pv:PV}(hi:lk l i=some pv):lk s.tm i=some (pv.ren (rn ρ)):=by
  induction l with
  | nil=>cases hi
  | cons x l ih=>
    obtain ⟨j,pv'⟩:=x
    rw[Y8] at hi
    by_cases e:i=j
    · rw[if_pos e] at hi; cases hi; rw[e]; exact h.1
    · rw[if_neg e] at hi; exact ih h.2 hi
theorem HasE.get {s:St}{ρ:List (Nat×Nat)}{T:Tab}(h:HasE s ρ T){q:Nat}{e:Ent}(hq:T.ent q=some e):s.tab.ent (rn ρ q)=some (e.ren (rn ρ)):=by
  induction T with
  | nil=>cases hq
  | cons x T ih=>
    obtain ⟨j,o⟩:=x
    rw[Qh] at hq
    by_cases e1:q=j
    · rw[if_pos e1] at hq; subst hq; rw[e1]; exact h.1
    · rw [if_neg e1] at hq
      cases o with
      | none=>exact ih h hq
      | some e'=>exact ih h.2 hq
def XY:List Nat→Bool
  | []=>true
  | q :: qs=> !(qs.any (Nat.beq q))&&XY qs
theorem Un {T:Tab}{ρ:Nat→Nat}(h:XY (T.map fun p=>ρ p.1)=true){q q':Nat}(hq:T.al q)(hq':T.al q')(he:ρ q=ρ q'):q=q':=by
  induction T with
  | nil=>obtain ⟨e,hq⟩:=hq; cases hq
  | cons x T ih=>
    obtain ⟨j,o⟩:=x
    simp only[bg,XY,aL,bM,cq] at h
    have key:∀r,Tab.al T r→ρ r≠ρ j:=fun r ⟨e,hr⟩ hb=>by
      have hm:r∈T.map (·.1):=by
        clear h ih hq hq' he
        induction T with
        | nil=>cases hr
        | cons y T ih2=>
          obtain ⟨j2,o2⟩:=y
          rw[Qh] at hr
          by_cases e2:r=j2
          · simp[e2]
          · rw[if_neg e2] at hr; simp only[bg,aE]; exact .inr (ih2 ⟨e,hr⟩ hr)
      obtain ⟨p,hp,hpr⟩:=ba.1 hm
      have:=h.1 (ρ p.1) (ba.2 ⟨p,hp,rfl⟩)
      rw[hpr,hb,d8] at this
      exact this rfl
    unfold Tab.al at hq hq'
    rw[Qh] at hq hq'
    by_cases e1:q=j <;> by_cases e2:q'=j
    · rw[e1,e2]
    · rw [if_neg e2] at hq'
      rw[e1] at he
      exact absurd he.symm (key q' hq')
    · rw [if_neg e1] at hq
      rw[e2] at he
      exact absurd he (key q hq)
    · rw [if_neg e1] at hq
      rw[if_neg e2] at hq'
      exact ih h.2 hq hq'
def idB (ρ:List (Nat×Nat)):Nat→Bool
  | 0=>true
  | k+1=>Nat.beq (rn ρ k) k&&idB ρ k
theorem Qfw {ρ:List (Nat×Nat)}{k:Nat}(h:idB ρ k=true):∀q,q < k→rn ρ q=q:=by
  induction k with
  | zero=>intro q hq; omega
  | succ k ih=>
    simp only[idB,aL] at h
    intro q hq
    by_cases e:q=k
    · subst e; exact aX h.1
    · exact ih h.2 q (by omega)
section
variable {A:Amb}{P:Program}{s t:St}
theorem Wk.of (ρ:List (Nat×Nat)){k:Nat}(hk:A.k0=k)(hT:HasT s ρ t.tm)(hE:HasE s ρ t.tab)(hi:XY (t.tab.map fun p=>rn ρ p.1)=true)
    (hid:idB ρ k=true):Wk A s t:=fun a w r=>by
  obtain ⟨gh,r⟩:=r
  have hal:∀q,t.tab.al q→s.tab.al (rn ρ q):=fun q ⟨e,h⟩=>⟨_,hE.get h⟩
  have hinj:∀q q',t.tab.al q→t.tab.al q'→rn ρ q=rn ρ q'→q=q':=fun q q' h1 h2 h=>Un hi h1 h2 h
  refine ⟨gh.via (rn ρ),⟨fun q e h=> ?_,fun q q' h1 h2 hne=>r.cx.dj _ _ (hal q h1) (hal q' h2) fun h=>hne (hinj q q' h1 h2 h),fun q h=>r.cx.nd _ (hal q h),fun q h=>r.cx.no _ (hal q h),r.cx.nl⟩,r.sz,r.df,fun i pv h=> ?_,
    r.gw,r.kp,r.fr,fun q h=>r.ox _ (hal q h),fun q hq h=> ?_,r.xn⟩
  · exact (EntR.ren.1 (r.cx.en _ _ (hE.get h))).mono (fun r' _ h'=>⟨hal r' h',rfl⟩) (fun g hg=>⟨hg,rfl⟩) rfl rfl fun _ _=>rfl
  · obtain ⟨v, h1, h2⟩ := r.tm i _ (hT.get h)
    exact ⟨v,h1,(PVR.ren.1 h2).mono (fun q _ h'=>⟨hal q h',rfl⟩) fun g hg=>⟨hg,rfl⟩⟩
  · have hq' := Qfw hid q (hk ▸ hq)
    have:=r.hh (rn ρ q) (by rw[hq']; exact hq) (hal q h)
    rw[hq'] at this
    show gh.h (rn ρ q)=_
    rw[hq']
    exact this
theorem Rg.freeze {gh:Gh}{a:Act}{w:World}(r:Rg A s gh a w){q:Nat}{e:Ent}(he:s.tab.ent q=some e):Rg A ⟨s.tm,(q,none) :: s.tab⟩ ⟨gh.h,gh.f,fun g=>gh.N g∨g∈gh.f q⟩ a w:=by
  have hq:s.tab.al q:=⟨e,he⟩
  have hal:∀q',Tab.al ((q,none) :: s.tab) q'→q'≠q∧s.tab.al q':=fun q' h=>by
    unfold Tab.al at h
    rw[Qh] at h
    by_cases h1:q'=q
    · rw[if_pos h1] at h; obtain ⟨_,h⟩:=h; cases h
    · rw[if_neg h1] at h; exact ⟨h1,h⟩
  have hent:∀q' e',Tab.ent ((q,none) :: s.tab) q'=some e'→s.tab.ent q'=some e':=fun q' e' h=>by
    rw[Qh] at h
    by_cases h1:q'=q
    · rw[if_pos h1] at h; cases h
    · rwa [if_neg h1] at h
  refine r.step ⟨fun q' e' h=> ?_,fun q1 q2 h1 h2=>r.cx.dj q1 q2 (hal _ h1).2 (hal _ h2).2,fun q' h=>r.cx.nd q' (hal _ h).2,fun q' h g hg hN=> ?_,fun g hN=> ?_⟩ (fun q' h=> .inl ⟨(hal _ h).2,rfl,fun _=>rfl⟩) (fun g hN=>⟨.inl hN,rfl⟩)
    (ZE w) (fun _ _ _=>rfl) (fun g hN=> ?_) fun q' h g hg=> .inr ⟨q',(hal _ h).2,hg⟩
  · exact (r.cx.en q' e' (hent q' e' h)).mono (fun r' _ h=>⟨(hal _ h).2,rfl⟩) (fun g hN=>⟨.inl hN,rfl⟩) rfl rfl fun _ _=>rfl
  · rcases hN with hN | hN
    · exact r.cx.no q' (hal _ h).2 g hg hN
    · exact r.cx.dj q' q (hal _ h).2 hq (hal _ h).1 g hg hN
  · rcases hN with hN | hN
    · exact r.cx.nl g hN
    · exact r.cx.lt hq g hN
  · rcases hN with hN | hN
    · exact .inl hN
    · exact .inr (.inr ⟨q,hq,hN,fun hl=>r.xn g hl (r.ox q hq g hN hl)⟩)
theorem Wk.freeze {i q:Nat}{E:TypeId}{e:Ty}{xs:List e.Den}(hi:lk s.tm i=some (lf (.ref q)))(he:s.tab.ent q=some (.arr E e xs)):Wk A s ⟨(i,lf (.dat (.sl E e) xs)) :: s.tm,(q,none) :: s.tab⟩:=fun a w r=>by
  obtain ⟨gh,r⟩:=r
  obtain ⟨v,h1,l,h2,h3⟩:=r.tm i _ hi
  simp only[aI,and_true] at h2
  subst h2
  have hv:v=gh.h q:=h3 ⟨_,he⟩
  have hO:Own (.sl E e) w (gh.f q) [gh.h q] xs:=r.cx.en q _ he
  refine ⟨_,(r.freeze he).know h1 (pv:=lf (.dat (.sl E e) xs)) ⟨_,rfl, ?_⟩⟩
  rw[hv]
  exact hO.rd fun g hg=> .inr hg
theorem QT {p off q:Nat}{E' E:TypeId}{cs:List LV}{e:Ty}{xs:List e.Den}(hp:s.tab.ent p=some (.box E' cs))(ho:cs[off]? =some (.ref q))(he:s.tab.ent q=some (.arr E e xs)):
    Wk A s ⟨s.tm,(p,some (.box E' (splice cs off [.dat (.sl E e) xs]))) :: (q,none) :: s.tab⟩:=fun a w r=>by
  obtain ⟨gh,r⟩:=r
  have hne:p≠q:=fun h=>by rw[h,he] at hp; cases hp
  obtain ⟨g,cur,h1,h2,h3,h4⟩:=r.cx.en p _ hp
  obtain ⟨v,h5,h6⟩:=h4.nth ho
  have hv:v=gh.h q:=h6 ⟨_,he⟩
  have hO:Own (.sl E e) w (gh.f q) [gh.h q] xs:=r.cx.en q _ he
  have hp':Tab.ent ((q,none) :: s.tab) p=some (.box E' cs):=by rw[Qh,if_neg hne]; exact hp
  have r2:=r.freeze he
  obtain ⟨g',cur',k1,k2,k3,k4⟩:=r2.cx.en p _ hp'
  rw[show gh.h p=_ from h1] at k1
  cases k1
  rw[h3] at k3
  cases k3
  have hD:LVs (Tab.al ((q,none) :: s.tab)) ⟨gh.h,gh.f,fun g=>gh.N g∨g∈gh.f q⟩ w [.dat (.sl E e) xs] [v]:=⟨v,[],rfl,by rw[hv]; exact hO.rd fun g hg=> .inr hg,rfl⟩
  have hS:=k4.splice hD (off:=off)
  have hsame:cur.toList.take off++[v]++cur.toList.drop (off+[v].length)=cur.toList:=by
    have hl:=(ah.1 h5)
    obtain ⟨hl,hl2⟩:=hl
    conv=>rhs; rw[← bI (off+1) cur.toList,bN hl,hl2]
    rfl
  rw[hsame] at hS
  refine ⟨_,r2.mod hp' (ZE w) (fun _ _ _=>rfl) ⟨g,cur,h1,h2,h3,hS⟩⟩
def DoesT (A:Amb)(P:Program)(o:Oper)(s:St)(S:St→Prop):Prop:=∀a w K Q,R A s a w→(∀s' a' w',S s'→R A s' a' w'→K a' w')→o.wp P a w K Q
theorem Qnf {ops:Array Oper}{o:Oper}{l:List Oper}{Q:Exit→St→Prop}{S:St→Prop}(hg:o.guard=none)(h:DoesT A P o s S)(k:∀s',S s'→AL A P ops l Q s'):AL A P ops (o :: l) Q s:=
  fun a w r=>wpList_plain hg fun _ hK=>h a w _ _ r fun s' a' w' hs r'=>hK _ _ (k s' hs a' w' r')
theorem DoesT.one {o:Oper}{s':St}(h:DoesT A P o s (· =s')):Does A P o s s':=fun a w K Q r hK=>h a w K Q r fun _ a' w' hs r'=>hK a' w' (hs▸r')
def Tab.is (T:Tab)(n q:Nat):Bool:=Nat.ble n q&&(T.ent (q - n)).isSome
theorem Ut {T:Tab}{n q:Nat}(h:T.is n q=true):n≤q∧T.al (q - n):=by
  simp only[Tab.is,aL] at h
  exact ⟨aG h.1,b7.1 h.2⟩
theorem HE {T:Tab}{n p:Nat}(h:T.al p):T.is n (n+p)=true:=by
  simp only[Tab.is,aL,bo]
  exact ⟨cA (Nat.le_add_right _ _),b7.2 h⟩
theorem UT {T T0:Tab}{n q:Nat}{e:Ent}(h:Tab.ent (T.ren (n+·)++T0) q=some e):(T.is n q=false∧T0.ent q=some e)∨∃e',T.is n q=true∧T.ent (q - n)=some e'∧e=e'.ren (n+·):=by
  induction T with
  | nil=>exact .inl ⟨by simp[Tab.is,Tab.ent,lk],h⟩
  | cons x T ih=>
    obtain ⟨j,o⟩:=x
    have h:Tab.ent ((n+j,o.map (Ent.ren (n+·))) :: (Tab.ren (n+·) T++T0)) q=some e:=h
    rw[Qh] at h
    by_cases h2:q=n+j
    · rw [if_pos h2] at h
      obtain ⟨e',rfl,rfl⟩:=cw.1 h
      refine .inr ⟨e', ?_, ?_,rfl⟩
      · rw[h2]; exact HE ⟨e',by rw[Qh,if_pos rfl]⟩
      · rw[h2,bo,Qh,if_pos rfl]
    · rw [if_neg h2] at h
      have hkey:n≤q→Tab.ent ((j,o) :: T) (q - n)=Tab.ent T (q - n):=fun hq=>by rw[Qh,if_neg (by omega)]
      have his:Tab.is ((j,o) :: T) n q=Tab.is T n q:=by
        unfold Tab.is
        cases hb:Nat.ble n q with
        | false=>rfl
        | true=>rw[hkey (aG hb)]
      rcases ih h with ⟨h3,h4⟩ | ⟨e',h3,h4,h5⟩
      · exact .inl ⟨his.trans h3,h4⟩
      · exact .inr ⟨e',his.trans h3,(hkey (Ut h3).1).trans h4,h5⟩
theorem QgS {T T0:Tab}{n p:Nat}(h0:¬T0.al (n+p))(h:Tab.al (T.ren (n+·)++T0) (n+p)):T.al p:=by
  obtain ⟨e,h⟩:=h
  rcases UT h with ⟨_,h2⟩ | ⟨e',_,h2,_⟩
  · exact absurd ⟨e,h2⟩ h0
  · rw[bo] at h2; exact ⟨e',h2⟩
theorem Rg.after {gh:Gh}{a:Act}{w w':World}(r:Rg A s gh a w)(n:Nat){T:Tab}(hfr:∀q,T.al q→Fresh s (n+q))(hk0:A.k0≤n){gh':Gh}(cx:Cx T gh' w')(gw:Grw w w')(kp:∀g,g < w.heap.size→w'.heap[g]? =w.heap[g]?)(ox:∀q,T.al q→∀g∈gh'.f q,w.heap.size≤g)
    (nn:∀g,gh'.N g→gh.N g∨w.heap.size≤g) (htg:∀q e,T.ent q=some e→∀r∈e.tags,T.al r∨¬s.tab.al (n+r)):
    Rg A ⟨s.tm,T.ren (n+·)++s.tab⟩ ⟨fun q=>if T.is n q=true then gh'.h (q - n) else gh.h q,fun q=>if T.is n q=true then gh'.f (q - n) else gh.f q,fun g=>gh.N g∨gh'.N g⟩ a w':=by
  have hal:∀q,Tab.al (T.ren (n+·)++s.tab) q→(T.is n q=false∧s.tab.al q)∨(T.is n q=true∧∃p,q=n+p∧T.al p):=fun q ⟨e,h⟩=>by
    rcases UT h with ⟨h1,h2⟩ | ⟨e',h1,h2,_⟩
    · exact .inl ⟨h1,e,h2⟩
    · exact .inr ⟨h1,q - n,by have:=(Ut h1).1; omega,e',h2⟩
  refine r.step ⟨fun q e h=> ?_,fun q q' h1 h2 hne g hg hg'=> ?_,fun q h=> ?_,fun q h g hg hN=> ?_,fun g hN=> ?_⟩ (fun q h=> ?_) (fun g hN=>⟨.inl hN,kp g (r.cx.nl g hN)⟩) gw (fun g hg _=>kp g hg)
    (fun g hN=> ?_) fun q h g hg=> ?_
  · rcases UT h with ⟨h1, h⟩ | ⟨e', h1, h2, rfl⟩
    · refine (r.cx.en q e h).mono (fun r' hr' h' => ?_) (fun g hN => ⟨.inl hN, kp g (r.cx.nl g hN)⟩) (by simp [h1]) (by simp [h1]) fun g hg => kp g (r.cx.lt ⟨e, h⟩ g hg)
      rcases hal r' h' with ⟨h3,h2⟩ | ⟨_,p,rfl,h2⟩
      · exact ⟨h2,by simp[h3]⟩
      · exact absurd hr' ((hfr p h2).en q e h)
    · have h3 := cx.en _ _ h2
      obtain ⟨p,rfl⟩:∃p,q=n+p:=⟨q - n,by have:=(Ut h1).1; omega⟩
      rw[bo] at h3 h2
      refine (EntR.ren (σ:=(n+·))).2 ?_
      refine h3.mono (fun r' hr' h'=> ?_) (fun g hN=>⟨.inr hN,rfl⟩) (by simp[Gh.via,h1]) (by simp[Gh.via,h1]) fun _ _=>rfl
      have h4:T.al r':=by
        rcases htg p e' h2 r' hr' with h | h
        · exact h
        · exact QgS h h'
      exact ⟨h4,by simp[Gh.via,HE h4]⟩
  · rcases hal q h1 with ⟨l1, k1⟩ | ⟨l1, p, rfl, k1⟩ <;> rcases hal q' h2 with ⟨l2, k2⟩ | ⟨l2, p', rfl, k2⟩
    · simp only [l1, bQ, if_false] at hg
      simp only[l2,bQ,if_false] at hg'
      exact r.cx.dj q q' k1 k2 hne g hg hg'
    · simp only [l1, bQ, if_false] at hg
      simp only[l2,if_true] at hg'
      have:=r.cx.lt k1 g hg
      have:=ox _ (by rw[bo]; exact k2) g hg'
      omega
    · simp only [l1, if_true] at hg
      simp only[l2,bQ,if_false] at hg'
      have:=r.cx.lt k2 g hg'
      have:=ox _ (by rw[bo]; exact k1) g hg
      omega
    · simp only [l1, if_true, bo] at hg
      simp only[l2,if_true,bo] at hg'
      exact cx.dj _ _ k1 k2 (by omega) g hg hg'
  · rcases hal q h with ⟨l1, k1⟩ | ⟨l1, p, rfl, k1⟩
    · simp only[l1,bQ,if_false]; exact r.cx.nd q k1
    · simp only[l1,if_true,bo]; exact cx.nd _ k1
  · rcases hal q h with ⟨l1, k1⟩ | ⟨l1, p, rfl, k1⟩
    · simp only [l1, bQ, if_false] at hg
      rcases hN with hN | hN
      · exact r.cx.no q k1 g hg hN
      · rcases nn g hN with h3 | h3
        · exact r.cx.no q k1 g hg h3
        · have:=r.cx.lt k1 g hg; omega
    · simp only [l1, if_true, bo] at hg
      rcases hN with hN | hN
      · have := r.cx.nl g hN
        have:=ox _ k1 g hg
        omega
      · exact cx.no _ k1 g hg hN
  · rcases hN with hN | hN
    · exact bh (r.cx.nl g hN) gw.size
    · exact cx.nl g hN
  · rcases hal q h with ⟨l1, k1⟩ | ⟨l1, p, rfl, k1⟩
    · exact .inl ⟨k1,by simp[l1],fun _=>by simp[l1]⟩
    · exact .inr ⟨hfr p k1,by omega⟩
  · rcases hN with hN | hN
    · exact .inl hN
    · rcases nn g hN with h | h
      · exact .inl h
      · exact .inr (.inl h)
  · rcases hal q h with ⟨l1, k1⟩ | ⟨l1, p, rfl, k1⟩
    · simp only [l1, bQ, if_false] at hg
      exact .inr ⟨q,k1,hg⟩
    · simp only [l1, if_true, bo] at hg
      exact .inl (ox _ k1 g hg)
def Yd (pv:PV)(T:Tab):Bool:=(pv.tags++Zz T).all fun q=>(T.ent q).isSome
theorem Hd {pv:PV}{T:Tab}(h:Yd pv T=true):(∀q∈pv.tags,T.al q)∧∀q e,T.ent q=some e→∀r∈e.tags,T.al r:=by
  have h:=aB.1 h
  exact ⟨fun q hq=>b7.1 (h q (aQ _ hq)),fun q e he r hr=>b7.1 (h r (aT _ ((Zb he).2 r hr)))⟩
@[reducible] def St.back (s:St) (d n:Nat) (pv:PV) (T:Tab):St:=⟨(d,pv.ren (n+·)) :: s.tm,T.ren (n+·)++s.tab⟩
theorem Wh {T:Tab}(h:∀q,¬T.al q)(gh:Gh)(w:World)(hN:∀g,gh.N g→g < w.heap.size):Cx T gh w:=
  ⟨fun q e he=>absurd ⟨e,he⟩ (h q),fun q _ hq=>absurd hq (h q),fun q hq=>absurd hq (h q),fun q hq=>absurd hq (h q),hN⟩
theorem Ka {o:Oper}{f:FuncId}{xs:List Operand}{tys:Array TypeId}{a:Act}{w:World}{K:Act→World→Prop}{Q:Exit→Act→World→Prop}(hE:Qe P f)(ho:o.op= .call ⟨.value (.func f),xs.toArray,tys⟩)
    (h:Calls P f (xs.map a.eval).toArray w fun e w'=>match e with | .returned v=>K (a.put o.dst v) w' | _=>False):o.wp P a w K Q:=by
  have e:(execOp a.eval o).run P w= .ok (.enter f (xs.map a.eval).toArray) w:=by
    unfold execOp
    simp only[ho,resolve,Act.eval,Deferred.ofValue,aw]
    have:=hE (xs.map a.eval).toArray w
    simpa [invoke] using this
  unfold Oper.wp
  rw[e,Oper.upon_enter]
  refine Calls.mono h fun e w' he=> ?_
  cases e <;> first | exact he | exact he.elim
theorem ZJ (q:Nat):¬Tab.al [] q:=fun ⟨_,h⟩=>by cases h
theorem Qi4 {gh gh2:Gh}{a:Act}{w':World}{n d:Nat}{pv:PV}{T:Tab}{gh':Gh}{v:Value}{N:Nat→Prop}(hfr:∀q,T.al q→Fresh s (n+q))(hcl:∀q∈pv.tags,T.al q)(r2:Rg A ⟨s.tm,T.ren (n+·)++s.tab⟩ ⟨fun q=>if T.is n q=true then gh'.h (q - n) else gh.h q,fun q=>if T.is n q=true then gh'.f (q - n) else gh.f q,N⟩ a w')
    (hp:PVR T.al gh' w' pv v) (hN:∀g,gh'.N g→N g) (hn:Nat.blt d A.n=true):R A (s.back d n pv T) (a.put (some d) v) w':=by
  refine ⟨_,r2.put (aG hn) (pv:=pv.ren (n+·)) ?_⟩
  refine PVR.ren.2 (hp.mono (fun q hq _=> ?_) fun g hg=>⟨hN g hg,rfl⟩)
  exact ⟨hcl q hq,by simp[Gh.via,HE (hcl q hq)]⟩
theorem DoesT.call {f:FuncId}{xs:List Operand}{tys:Array TypeId}{args:List (Bool×List LV)}{O:PV→Tab→Prop}{d:Nat}{ty:TypeId}{pos:String}{af:Array Edge}{g:Option (Nat×Bool)}(n:Nat)(hc:FC P f args [] 0 O)(hE:Qe P f)(ha:EvL A s xs args)
    (hcl:∀pv T,O pv T→Yd pv T=true) (hfr:∀pv T,O pv T→∀q,T.al q→Fresh s (n+q)) (hk0:A.k0≤n) (hn:Nat.blt d A.n=true):
    DoesT A P ⟨some d, .call ⟨.value (.func f),xs.toArray,tys⟩,ty,pos,af,g⟩ s fun s'=>∃pv T,O pv T∧s'=s.back d n pv T:=fun a w K Q r hK=>by
  obtain ⟨gh,r⟩:=r
  have hv:=ha.cms r
  refine Ka hE rfl (Calls.mono (hc gh w _ (Wh ZJ gh w r.cx.nl) ?_) fun e w' he=> ?_)
  · clear hc hK hcl hfr
    generalize xs.map a.eval=vs at hv
    induction args generalizing vs xs with
    | nil=>exact hv
    | cons c cs ih=>
      obtain ⟨v,vs',rfl,h1,h2⟩:=hv
      cases xs with
      | nil=>cases (show c :: cs=[] from ha)
      | cons x xs=>
        obtain ⟨c',cs',he,_,h4⟩:=ha
        simp only[aI] at he
        obtain ⟨rfl,rfl⟩:=he
        exact ⟨v,vs',rfl,h1.mono (fun q _ h=>absurd h (ZJ q)) fun g hg=>⟨hg,rfl⟩,ih h4 _ h2⟩
  · obtain ⟨v, pv, T, gh', rfl, hO, cx, hp, fr, _⟩ := he
    obtain ⟨c1,c2⟩:=Hd (hcl pv T hO)
    have r2:=r.after n (hfr pv T hO) hk0 cx fr.gw (fun g hg=>fr.kp g hg fun q hq=>absurd hq (ZJ q)) (fun q hq g hg=>by
      rcases fr.ox q hq g hg with h | ⟨q',h,_⟩
      · exact h
      · exact absurd h (ZJ q')) (fun g hg=>by
      rcases fr.nn g hg with h | h | ⟨q',h,_⟩
      · exact .inl h
      · exact .inr h
      · exact absurd h (ZJ q')) fun q e he r hr=> .inl (c2 q e he r hr)
    exact hK _ _ _ ⟨pv,T,hO,rfl⟩ (Qi4 (gh2:=gh) (hfr pv T hO) c1 r2 hp (fun g hg=> .inr hg) hn)
end
def LV.fl:LV→Bool
  | .dat t _=>t.flat
  | .elt _ _ _=>false
  | .val _=>true
  | .ref _=>true
  | .ptr _ _=>true
  | .ept _ _ _ _=>true
  | .sub _ _ _ _=>true
  | .clo _ _=>true
def PV.fl:PV→Bool
  | .cm _ ls=>ls.all LV.fl
  | .tup cs=>cs.all fun c=>c.2.all LV.fl
def Tab.fl (T:Tab):Bool:=T.all fun p=>match p.2 with
  | some (.box _ cs)=>cs.all LV.fl
  | some (.mp _ k _ v _)=>k.flat&&v.flat
  | some (.pl o _ _ _)=>o
  | some (.fz _ _ _)=>false
  | some (.res R)=>R.fl
  | _=>true
section
variable {al:Nat→Prop}{gh:Gh}{w:World}{N:Nat→Prop}
theorem LVR.fl {l:LV}{v:Value}(h:LVR al gh w l v)(hf:l.fl=true):LVR al ⟨gh.h,gh.f,N⟩ w l v:=by
  cases l with
  | dat t x=>exact (Rd.rep h).rd0 hf
  | elt t x o=>cases hf
  | val u=>exact h
  | ref q=>exact h
  | ptr q o=>exact h
  | ept q a b c=>exact h
  | sub q a b c=>exact h
  | clo f qs=>exact h
theorem LVs.fl {ls:List LV}{vs:List Value}(h:LVs al gh w ls vs)(hf:ls.all LV.fl=true):LVs al ⟨gh.h,gh.f,N⟩ w ls vs:=by
  induction ls generalizing vs with
  | nil=>exact h
  | cons l ls ih=>
    simp only[bm,aL] at hf
    obtain ⟨v,vs',rfl,h1,h2⟩:=h
    exact ⟨v,vs',rfl,h1.fl hf.1,ih h2 hf.2⟩
theorem CmR.fl {c:Bool×List LV}{v:Value}(h:CmR al gh w c v)(hf:c.2.all LV.fl=true):CmR al ⟨gh.h,gh.f,N⟩ w c v:=by
  obtain ⟨b,ls⟩:=c
  cases b with
  | true=>obtain ⟨vs,rfl,h1⟩:=h; exact ⟨vs,rfl,h1.fl hf⟩
  | false=>obtain ⟨l,rfl,h1⟩:=h; simp only[bm,bJ,cU] at hf; exact ⟨l,rfl,h1.fl hf⟩
theorem PVR.fl {pv:PV}{v:Value}(h:PVR al gh w pv v)(hf:pv.fl=true):PVR al ⟨gh.h,gh.f,N⟩ w pv v:=by
  cases pv with
  | cm b ls=>exact CmR.fl (c:=(b,ls)) h hf
  | tup cs=>
    obtain ⟨vs,rfl,h1⟩:=h
    refine ⟨vs,rfl, ?_⟩
    change cs.all (fun c=>c.2.all LV.fl)=true at hf
    induction cs generalizing vs with
    | nil=>exact h1
    | cons c cs ih=>
      simp only[bm,aL] at hf
      obtain ⟨v,vs',rfl,h2,h3⟩:=h1
      exact ⟨v,vs',rfl,h2.fl hf.1,ih vs' h3 hf.2⟩
theorem Qhm {T:Tab}(h:T.fl=true){q:Nat}{E:TypeId}{cs:List LV}(hq:T.ent q=some (.box E cs)):cs.all LV.fl=true:=by
  induction T with
  | nil=>cases hq
  | cons x T ih=>
    obtain ⟨j,o⟩:=x
    unfold Tab.fl at h
    simp only[bm,aL] at h
    rw[Qh] at hq
    by_cases e:q=j
    · rw[if_pos e] at hq; subst hq; exact h.1
    · rw[if_neg e] at hq; exact ih h.2 hq
theorem Qc7 {T:Tab}(h:T.fl=true){q:Nat}{kb vb:Bool}{k v:Ty}{m:List (k.Den×v.Den)}(hq:T.ent q=some (.mp kb k vb v m)):k.flat=true∧v.flat=true:=by
  induction T with
  | nil=>cases hq
  | cons x T ih=>
    obtain ⟨j,o⟩:=x
    unfold Tab.fl at h
    simp only[bm,aL] at h
    rw[Qh] at hq
    by_cases e:q=j
    · rw[if_pos e] at hq; subst hq; simpa using h.1
    · rw[if_neg e] at hq; exact ih h.2 hq
theorem QkN {T:Tab}(h:T.fl=true){q:Nat}{b:Bool}{e:Ty}{vs:List Hdr}{f:Hdr→e.Den}(hq:T.ent q=some (.pl b e vs f)):b=true:=by
  induction T with
  | nil=>cases hq
  | cons x T ih=>
    obtain ⟨j,o⟩:=x
    unfold Tab.fl at h
    simp only[bm,aL] at h
    rw[Qh] at hq
    by_cases e:q=j
    · rw[if_pos e] at hq; subst hq; simpa using h.1
    · rw[if_neg e] at hq; exact ih h.2 hq
theorem Qk9 {T:Tab}(h:T.fl=true){q:Nat}{E:TypeId}{e:Ty}{xs:List e.Den}(hq:T.ent q=some (.fz E e xs)):False:=by
  induction T with
  | nil=>cases hq
  | cons x T ih=>
    obtain ⟨j,o⟩:=x
    unfold Tab.fl at h
    simp only[bm,aL] at h
    rw[Qh] at hq
    by_cases e:q=j
    · rw[if_pos e] at hq; subst hq; simp at h
    · rw[if_neg e] at hq; exact ih h.2 hq
theorem QhY {T:Tab}(h:T.fl=true){q:Nat}{R:Rsc}(hq:T.ent q=some (.res R)):R.fl=true:=by
  induction T with
  | nil=>cases hq
  | cons x T ih=>
    obtain ⟨j,o⟩:=x
    unfold Tab.fl at h
    simp only[bm,aL] at h
    rw[Qh] at hq
    by_cases e:q=j
    · rw[if_pos e] at hq; subst hq; simpa using h.1
    · rw[if_neg e] at hq; exact ih h.2 hq
theorem MV.fl {b:Bool}{t:Ty}{v:Value}{x:t.Den}(h:MV gh w b t v x)(hf:t.flat=true):MV ⟨gh.h,gh.f,N⟩ w b t v x:=by
  cases b with
  | true=>obtain ⟨cs,h1,h2⟩:=h; exact ⟨cs,h1,(Rd.rep h2).rd0 hf⟩
  | false=>exact (Rd.rep h).rd0 hf
theorem MpL.fl {kb vb:Bool}{k v:Ty}{es:List MapEntry}{m:List (k.Den×v.Den)}(h:MpL gh w kb k vb v es m)(h1:k.flat=true)(h2:v.flat=true):MpL ⟨gh.h,gh.f,N⟩ w kb k vb v es m:=by
  induction es generalizing m with
  | nil=>exact h
  | cons e es ih=>
    obtain ⟨x,y,m',h0,k1,k2,k3⟩:=h
    exact ⟨x,y,m',h0,k1.fl h1,k2.fl h2,ih k3⟩
theorem Cx.fl {T:Tab}(h:Cx T gh w)(hf:T.fl=true):Cx T ⟨gh.h,gh.f,fun _=>False⟩ w:=
  ⟨fun q e he=>by
    have h1:=h.en q e he
    cases e with
    | box E cs=>obtain ⟨g,cur,k1,k2,k3,k4⟩:=h1; exact ⟨g,cur,k1,k2,k3,k4.fl (Qhm hf he)⟩
    | arr E e xs=>exact h1
    | obx E wd n ls0 ov=>obtain ⟨h0,g,cap,cur,fps,k1,k2,k3,k4,k5,k6,k7,k8⟩:=h1; exact ⟨h0,g,cap,cur,fps,k1,k2,k3,k4,k5,k6,k7,k8.mono (fun _ _ h=>⟨h,rfl⟩) fun _ _=>rfl⟩
    | bys E l=>exact h1
    | pl o e vs f=>
      obtain rfl:o=true:=QkN hf he
      exact h1
    | fz E e xs=>exact (Qk9 hf he).elim
    | res R=>exact R.noN (QhY hf he) h1
    | mp kb k vb v m=>obtain ⟨g,es,clock,k1,k2,k3,k0,k4,k5⟩:=h1; exact ⟨g,es,clock,k1,k2,k3,k0,k4,k5.fl (Qc7 hf he).1 (Qc7 hf he).2⟩,h.dj,h.nd,fun _ _ _ _ h=>h,fun _ h=>h.elim⟩
end
section
variable {A:Amb}{P:Program}{s:St}
def EvB (A:Amb)(s:St)(x:Operand)(c:Bool×List LV):Prop:=∀gh a w,Rg A s gh a w→CmR (fun _=>False) ⟨gh.h,gh.f,fun g=>g < w.heap.size⟩ w c (a.eval x)
theorem Ev.b {x:Operand}{c:Bool×List LV}(h:Ev A s x c):EvB A s x c:=fun gh a w r=>(h gh a w r).mono (fun _ _ h=>h.elim) fun g hg=>⟨r.cx.nl g hg,rfl⟩
theorem Qtk {x:Operand}{l:LV}(h:Evl A s x l):EvB A s x (false,[l]):=h.ev.b
theorem Qex {x:Operand}{q:Nat}{E:TypeId}{e:Ty}{xs:List e.Den}(h:Evl A s x (.ref q))(he:s.tab.ent q=some (.arr E e xs)):EvB A s x (false,[.dat (.sl E e) xs]):=fun gh a w r=>by
  rw[show a.eval x=gh.h q from h gh a w r ⟨_,he⟩]
  have hO:Own (.sl E e) w (gh.f q) [gh.h q] xs:=r.cx.en q _ he
  exact ⟨_,rfl,hO.rd fun g hg=>Own.lt hO g hg⟩
def EvLB (A:Amb)(s:St):List Operand→List (Bool×List LV)→Prop
  | [],cs=>cs=[]
  | x :: xs,cs=>∃c cs',cs=c :: cs'∧EvB A s x c∧EvLB A s xs cs'
theorem EvLB.cms {xs:List Operand}{cs:List (Bool×List LV)}(h:EvLB A s xs cs){gh:Gh}{a:Act}{w:World}(r:Rg A s gh a w):CmsR (Tab.al []) ⟨gh.h,gh.f,fun g=>g < w.heap.size⟩ w cs (xs.map a.eval):=by
  induction xs generalizing cs with
  | nil=>rw[show cs=[] from h]; rfl
  | cons x xs ih=>obtain ⟨c,cs',rfl,h1,h2⟩:=h; exact ⟨_,_,rfl,(h1 gh a w r).mono (fun q _ h=>absurd h (ZJ q)) fun g hg=>⟨hg,rfl⟩,ih h2⟩
theorem UU {f:FuncId}{xs:List Operand}{tys:Array TypeId}{args:List (Bool×List LV)}{O:PV→Tab→Prop}{d:Nat}{ty:TypeId}{pos:String}{af:Array Edge}{g:Option (Nat×Bool)}(n:Nat)(hc:FC P f args [] 0 O)(hE:Qe P f)(ha:EvLB A s xs args)
    (hcl:∀pv T,O pv T→Yd pv T=true) (hf:∀pv T,O pv T→pv.fl=true∧T.fl=true) (hfr:∀pv T,O pv T→∀q,T.al q→Fresh s (n+q)) (hk0:A.k0≤n) (hn:Nat.blt d A.n=true):
    DoesT A P ⟨some d, .call ⟨.value (.func f),xs.toArray,tys⟩,ty,pos,af,g⟩ s fun s'=>∃pv T,O pv T∧s'=s.back d n pv T:=fun a w K Q r hK=>by
  obtain ⟨gh,r⟩:=r
  have hv:=ha.cms r
  refine Ka hE rfl (Calls.mono (hc ⟨gh.h,gh.f,fun g=>g < w.heap.size⟩ w _ (Wh ZJ _ w fun g hg=>hg) hv) fun e w' he=> ?_)
  obtain ⟨v,pv,T,gh',rfl,hO,cx,hp,fr,_⟩:=he
  obtain ⟨f1,f2⟩:=hf pv T hO
  obtain ⟨c1,c2⟩:=Hd (hcl pv T hO)
  have r2:=r.after n (hfr pv T hO) hk0 (cx.fl f2) fr.gw (fun g hg=>fr.kp g hg fun q hq=>absurd hq (ZJ q)) (fun q hq g hg=>by
    rcases fr.ox q hq g hg with h | ⟨q',h,_⟩
    · exact h
    · exact absurd h (ZJ q')) (fun g hg=>hg.elim) fun q e he r hr=> .inl (c2 q e he r hr)
  exact hK _ _ _ ⟨pv,T,hO,rfl⟩ (Qi4 (gh2:=gh) (hfr pv T hO) c1 r2 (hp.fl (N:=fun _=>False) f1) (fun g hg=>hg.elim) hn)
@[reducible] def QH (pv:PV):PV→Tab→Prop:=fun p T=>p=pv∧T=[]
@[reducible] def WC (E:TypeId) (e:Ty) (xs:List e.Den):PV→Tab→Prop:=fun p T=>p=lf (.ref 0)∧T=[(0,some (.arr E e xs))]
theorem LV.ren_id {σ:Nat→Nat}{l:LV}(h:l.tags=[]):l.ren σ=l:=by
  cases l with
  | clo f qs=>have h:qs=[]:=h; subst h; rfl
  | ref q=>cases h
  | ptr q o=>cases h
  | ept q a b c=>cases h
  | sub q a b c=>cases h
  | _=>rfl
theorem Qb2 {σ:Nat→Nat}{ls:List LV}(h:Qw ls=[]):ls.map (LV.ren σ)=ls:=by
  induction ls with
  | nil=>rfl
  | cons l ls ih=>
    obtain ⟨h1,h2⟩:=List.append_eq_nil_iff.1 h
    simp[LV.ren_id h1,ih h2]
theorem PV.ren_id {σ:Nat→Nat}{pv:PV}(h:pv.tags=[]):pv.ren σ=pv:=by
  cases pv with
  | cm b ls=>simp only[PV.ren]; rw[Qb2 h]
  | tup cs=>
    simp only[PV.ren]
    congr 1
    change Wd cs=[] at h
    induction cs with
    | nil=>rfl
    | cons c cs ih=>
      obtain ⟨h1,h2⟩:=List.append_eq_nil_iff.1 h
      simp[Qb2 h1,ih h2]
section
variable {f:FuncId}{xs:List Operand}{tys:Array TypeId}{args:List (Bool×List LV)}{d:Nat}{ty:TypeId}{pos:String}{af:Array Edge}{g:Option (Nat×Bool)}{pv:PV}
theorem U3 (hc:FC P f args [] 0 (QH pv))(hE:Qe P f)(ha:EvL A s xs args)(ht:pv.tags=[])(hn:Nat.blt d A.n=true):Does A P ⟨some d, .call ⟨.value (.func f),xs.toArray,tys⟩,ty,pos,af,g⟩ s (s.put d pv):=
  fun a w K Q r hK=>DoesT.call A.k0 hc hE ha (by rintro _ _ ⟨rfl,rfl⟩; simp[Yd,ht,Zz]) (by rintro _ _ ⟨rfl,rfl⟩ q hq; exact absurd hq (ZJ q)) (aO _) hn a w K Q r (by
    rintro s' a' w' ⟨_,_,⟨rfl,rfl⟩,rfl⟩ r'
    rw[St.back,PV.ren_id ht] at r'
    exact hK _ _ r')
theorem VW (hc:FC P f args [] 0 (QH pv))(hE:Qe P f)(ha:EvLB A s xs args)(ht:pv.tags=[])(hf:pv.fl=true)(hn:Nat.blt d A.n=true):Does A P ⟨some d, .call ⟨.value (.func f),xs.toArray,tys⟩,ty,pos,af,g⟩ s (s.put d pv):=
  fun a w K Q r hK=>UU A.k0 hc hE ha (by rintro _ _ ⟨rfl,rfl⟩; simp[Yd,ht,Zz]) (by rintro _ _ ⟨rfl,rfl⟩; exact ⟨hf,rfl⟩) (by rintro _ _ ⟨rfl,rfl⟩ q hq; exact absurd hq (ZJ q)) (aO _) hn a w K Q r (by
    rintro s' a' w' ⟨_,_,⟨rfl,rfl⟩,rfl⟩ r'
    rw[St.back,PV.ren_id ht] at r'
    exact hK _ _ r')
theorem QiN {E:TypeId}{e:Ty}{zs:List e.Den}{q:Nat}(h:Tab.al [(0,some (.arr E e zs))] q):q=0:=by
  obtain ⟨e',h⟩:=h
  rw[Qh] at h
  by_cases h1:q=0
  · exact h1
  · rw[if_neg h1] at h; cases h
theorem QgK (t:Nat){E:TypeId}{e:Ty}{zs:List e.Den}(hc:FC P f args [] 0 (WC E e zs))(hE:Qe P f)(ha:EvL A s xs args)(hn:Nat.blt d A.n=true)(hfr:Fresh s t)(hk0:A.k0≤t):
    Does A P ⟨some d, .call ⟨.value (.func f),xs.toArray,tys⟩,ty,pos,af,g⟩ s (s.mk_ d t [] E e zs):=
  fun a w K Q r hK=>DoesT.call t hc hE ha (by rintro _ _ ⟨rfl,rfl⟩; rfl) (by rintro _ _ ⟨rfl,rfl⟩ q hq; rw[QiN hq]; exact hfr) hk0 hn a w K Q r (by
    rintro s' a' w' ⟨_,_,⟨rfl,rfl⟩,rfl⟩ r'
    exact hK _ _ r')
theorem Qab (t:Nat){E:TypeId}{e:Ty}{zs:List e.Den}(hc:FC P f args [] 0 (WC E e zs))(hE:Qe P f)(ha:EvLB A s xs args)(hn:Nat.blt d A.n=true)(hfr:Fresh s t)(hk0:A.k0≤t):
    Does A P ⟨some d, .call ⟨.value (.func f),xs.toArray,tys⟩,ty,pos,af,g⟩ s (s.mk_ d t [] E e zs):=
  fun a w K Q r hK=>UU t hc hE ha (by rintro _ _ ⟨rfl,rfl⟩; rfl) (by rintro _ _ ⟨rfl,rfl⟩; exact ⟨rfl,rfl⟩) (by rintro _ _ ⟨rfl,rfl⟩ q hq; rw[QiN hq]; exact hfr) hk0 hn a w K Q r (by
    rintro s' a' w' ⟨_,_,⟨rfl,rfl⟩,rfl⟩ r'
    exact hK _ _ r')
end
theorem FC.mono {f:FuncId}{args:List (Bool×List LV)}{T:Tab}{k:Nat}{O O':PV→Tab→Prop}(h:FC P f args T k O)(hO:∀pv T,O pv T→O' pv T):FC P f args T k O':=fun gh w vs cx ha=>
  Calls.mono (h gh w vs cx ha) fun e w' he=>by
    obtain ⟨v,pv,T',gh',h1,h2,h3⟩:=he
    exact ⟨v,pv,T',gh',h1,hO _ _ h2,h3⟩
theorem FC.frozen {f:FuncId}{args:List (Bool×List LV)}{E:TypeId}{e:Ty}{zs:List e.Den}(h:FC P f args [] 0 (WC E e zs)):FC P f args [] 0 (QH (lf (.dat (.sl E e) zs))):=fun gh w vs cx ha=>
  Calls.mono (h gh w vs cx ha) fun e' w' he=>by
    obtain ⟨v,pv,T',gh',rfl,⟨rfl,rfl⟩,cx',hp,fr,_⟩:=he
    have hO:Own (.sl E e) w' (gh'.f 0) [gh'.h 0] zs:=cx'.en 0 _ rfl
    obtain ⟨l,hl,hp⟩:=hp
    simp only[aI,and_true] at hl
    subst hl
    have hv:v=gh'.h 0:=hp ⟨_,rfl⟩
    refine ⟨v,_,[],⟨gh'.h,gh'.f,fun g=>gh'.N g∨g∈gh'.f 0⟩,rfl,⟨rfl,rfl⟩,Wh ZJ _ _ fun g hg=>hg.elim (cx'.nl g) (Own.lt hO g),⟨_,rfl, ?_⟩,⟨fr.gw,fr.kp,fun g hg=> ?_,fun q hq=>absurd hq (ZJ q)⟩,fun q hq=>absurd hq (by omega)⟩
    · rw [hv]
      exact hO.rd fun g hg=> .inr hg
    · rcases hg with hg | hg
      · exact fr.nn g hg
      · rcases fr.ox 0 ⟨_, rfl⟩ g hg with h | ⟨q', h, _⟩
        · exact .inr (.inl h)
        · exact absurd h (ZJ q')
end
end Go.Proofs.YtfkmmpfdncopdaaGreat
