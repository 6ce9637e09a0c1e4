/- Abstract states: maps whose elements are slices of one's own; ranging over maps. No program is named here. -/
import Derived.Test.YtfkmmpfdncopdaaGreatNAl
import Derived.Maps.RangeRun
import Derived.Laws.CopyRow
set_option linter.unusedSimpArgs false
set_option linter.unusedVariables false
set_option linter.unusedSectionVars false
namespace Go.Proofs.YtfkmmpfdncopdaaGreat
open Go.RowKit
open Go.ChangeMaps (setBlock)
section
variable {A:Amb}{P:Program}{s:St}
theorem Rg.redo {gh gh':Gh}{a:Act}{w w':World}{T:Tab}(r:Rg A s gh a w)(C:Nat→Prop)(hN:gh'.N=gh.N)
    (hold:∀u,¬C u→T.ent u=s.tab.ent u∧gh'.h u=gh.h u∧gh'.f u=gh.f u)
    (hnew:∀u e,C u→T.ent u=some e→(∀al,EntR al gh' w' u e)∧(gh'.f u).Nodup∧(∀g∈gh'.f u,w.heap.size≤g∨∃v,C v∧s.tab.al v∧g∈gh.f v)∧((s.tab.al u∧gh'.h u=gh.h u)∨(Fresh s u∧A.k0≤u)))
    (hdis:∀u v,C u→C v→T.al u→T.al v→u≠v→∀g∈gh'.f u,g∉gh'.f v)
    (hg:Grw w w') (hb:∀g,g < w.heap.size→(∀v,C v→s.tab.al v→g∉gh.f v)→w'.heap[g]? =w.heap[g]?):Rg A ⟨s.tm,T⟩ gh' a w':=by
  have hNk:∀g,gh.N g→gh'.N g∧w'.heap[g]? =w.heap[g]? :=fun g h=>⟨by rw[hN]; exact h,hb g (r.cx.nl g h) fun v _ hv hgv=>r.cx.no v hv g hgv h⟩
  have hal:∀u,¬C u→(T.al u↔s.tab.al u):=fun u hu=>by unfold Tab.al; rw[(hold u hu).1]
  have src:∀u,T.al u→∀g∈gh'.f u,w.heap.size≤g∨∃v,s.tab.al v∧g∈gh.f v∧(C u→C v)∧(¬C u→v=u):=fun u ⟨e,he⟩ g hgu=>by
    by_cases hu:C u
    · rcases (hnew u e hu he).2.2.1 g hgu with h | ⟨v, h1, h2, h3⟩
      · exact .inl h
      · exact .inr ⟨v,h2,h3,fun _=>h1,fun h=>absurd hu h⟩
    · rw [(hold u hu).2.2] at hgu
      exact .inr ⟨u,(hal u hu).1 ⟨e,he⟩,hgu,fun h=>absurd h hu,fun _=>rfl⟩
  have stay:∀u,T.al u→(s.tab.al u∧gh'.h u=gh.h u)∨(Fresh s u∧A.k0≤u):=fun u ⟨e,he⟩=>by
    by_cases hu:C u
    · exact (hnew u e hu he).2.2.2
    · exact .inl ⟨(hal u hu).1 ⟨e,he⟩,(hold u hu).2.1⟩
  refine r.step ⟨fun u e he=> ?_,fun u v hu hv hne g h1 h2=> ?_,fun u hu=> ?_,fun u hu g h1 h2=> ?_,fun g h=> ?_⟩ (fun u hu=>(stay u hu).imp (fun h=>⟨h.1,h.2,fun _=>rfl⟩) id) hNk hg (fun g hl hx=>hb g hl fun v _ hv=>hx v hv)
    (fun g h=> .inl (by rwa [hN] at h)) fun u hu g h1=>(src u hu g h1).imp id fun ⟨v,h2,h3,_⟩=>⟨v,h2,h3⟩
  · by_cases hu : C u
    · exact (hnew u e hu he).1 _
    · obtain ⟨h1, h2, h3⟩ := hold u hu
      rw[h1] at he
      refine (r.cx.en u e he).mono (fun v hv hva=> ?_) hNk h2 h3 fun g hgu=>hb g (r.cx.lt ⟨e,he⟩ g hgu) fun v hv hva=>r.cx.dj u v ⟨e,he⟩ hva (fun h=>hu (h▸hv)) g hgu
      rcases stay v hva with h | h
      · exact h
      · exact absurd hv (h.1.en u e he)
  · rcases src u hu g h1 with h3 | ⟨a1, k1, k2, k3, k4⟩
    · rcases src v hv g h2 with h4 | ⟨a2, j1, j2, j3, j4⟩
      · by_cases hu2 : C u
        · by_cases hv2 : C v
          · exact hdis u v hu2 hv2 hu hv hne g h1 h2
          · rw [(hold v hv2).2.2] at h2
            have:=r.cx.lt ((hal v hv2).1 hv) g h2; omega
        · rw [(hold u hu2).2.2] at h1
          have:=r.cx.lt ((hal u hu2).1 hu) g h1; omega
      · have:=r.cx.lt j1 g j2; omega
    · rcases src v hv g h2 with h4 | ⟨a2, j1, j2, j3, j4⟩
      · have:=r.cx.lt k1 g k2; omega
      · by_cases hu2 : C u
        · by_cases hv2 : C v
          · exact hdis u v hu2 hv2 hu hv hne g h1 h2
          · exact r.cx.dj a1 a2 k1 j1 (fun h=>hv2 (by rw[← j4 hv2,← h]; exact k3 hu2)) g k2 j2
        · by_cases hv2 : C v
          · exact r.cx.dj a1 a2 k1 j1 (fun h=>hu2 (by rw[← k4 hu2,h]; exact j3 hv2)) g k2 j2
          · exact r.cx.dj a1 a2 k1 j1 (fun h=>hne (by rw[← k4 hu2,← j4 hv2,h])) g k2 j2
  · by_cases hu2 : C u
    · obtain ⟨e, he⟩ := hu
      exact (hnew u e hu2 he).2.1
    · rw[(hold u hu2).2.2]; exact r.cx.nd u ((hal u hu2).1 hu)
  · rw [hN] at h2
    rcases src u hu g h1 with h3 | ⟨v,k1,k2,_⟩
    · have:=r.cx.nl g h2; omega
    · exact r.cx.no v k1 g k2 h2
  · rw [hN] at h
    exact bh (r.cx.nl g h) hg.size
end
structure Vrl (X:Type) where
  rel:(Nat→Prop)→World→List Nat→Value→X→Prop
  fl:Bool
  keep:∀{N N':Nat→Prop} {w w':World} {f:List Nat} {v:Value} {x:X},rel N w f v x→(∀g∈f,w'.heap[g]? =w.heap[g]?)→(∀g,N g→N' g∧w'.heap[g]? =w.heap[g]?)→rel N' w' f v x
  lt:∀{N:Nat→Prop} {w:World} {f:List Nat} {v:Value} {x:X},rel N w f v x→∀g∈f,g < w.heap.size
  noN:fl=true→∀{N N':Nat→Prop} {w:World} {f:List Nat} {v:Value} {x:X},rel N w f v x→rel N' w f v x
def vFz (t:Ty):Vrl t.Den where
  rel N w f v x:=f=[]∧Rd N t w [v] x
  fl:=t.flat
  keep:=fun h _ hN=>⟨h.1,h.2.mono hN⟩
  lt:=fun h g hg=>by rw[h.1] at hg; cases hg
  noN:=fun hf _ _ _ _ _ _ h=>⟨h.1,(Rd.rep h.2).rd0 hf⟩
def vOw (E:TypeId)(e:Ty):Vrl (List e.Den) where
  rel _ w f v x:=Own (.sl E e) w f [v] x
  fl:=true
  keep:=fun h hf _=>Own.keep h hf
  lt:=fun h=>Own.lt h
  noN:=fun _ _ _ _ _ _ _ h=>h
def ZR {X:Type}(V:Vrl X)(k:Ty)(N:Nat→Prop)(w:World)(own:MapEntry×k.Den×X→Bool):List (MapEntry×k.Den×X)→List Nat→Prop
  | [],f=>f=[]
  | z :: zs,f=>∃f1 f2,f=f1++f2∧KV false k z.1.key z.2.1∧(if own z=true then V.rel N w f1 z.1.val z.2.2 else f1=[])∧ZR V k N w own zs f2
section
variable {X:Type}{V:Vrl X}{k:Ty}{N N':Nat→Prop}{w w':World}{own own':MapEntry×k.Den×X→Bool}{zs ys:List (MapEntry×k.Den×X)}{f:List Nat}{z:MapEntry×k.Den×X}
theorem ZR.keep (h:ZR V k N w own zs f)(hf:∀g∈f,w'.heap[g]? =w.heap[g]?)(hN:∀g,N g→N' g∧w'.heap[g]? =w.heap[g]?):ZR V k N' w' own zs f:=by
  induction zs generalizing f with
  | nil=>exact h
  | cons z zs ih=>
    obtain ⟨f1,f2,rfl,h1,h2,h3⟩:=h
    refine ⟨f1,f2,rfl,h1, ?_,ih h3 fun g hg=>hf g (aT _ hg)⟩
    split
    · rename_i hc; rw[if_pos hc] at h2; exact V.keep h2 (fun g hg=>hf g (aQ _ hg)) hN
    · rename_i hc; rw[if_neg hc] at h2; exact h2
theorem ZR.lt (h:ZR V k N w own zs f):∀g∈f,g < w.heap.size:=by
  induction zs generalizing f with
  | nil=>intro g hg; rw[show f=[] from h] at hg; cases hg
  | cons z zs ih=>
    obtain ⟨f1,f2,rfl,h1,h2,h3⟩:=h
    intro g hg
    rcases aK.1 hg with hg | hg
    · split at h2
      · exact V.lt h2 g hg
      · rw[h2] at hg; cases hg
    · exact ih h3 g hg
theorem ZR.noN (hv:V.fl=true)(h:ZR V k N w own zs f):ZR V k N' w own zs f:=by
  induction zs generalizing f with
  | nil=>exact h
  | cons z zs ih=>
    obtain ⟨f1,f2,rfl,h1,h2,h3⟩:=h
    refine ⟨f1,f2,rfl,h1, ?_,ih h3⟩
    split
    · rename_i hc; rw[if_pos hc] at h2; exact V.noN hv h2
    · rename_i hc; rw[if_neg hc] at h2; exact h2
theorem ZR.congr (h:ZR V k N w own zs f)(he:∀z∈zs,own z=own' z):ZR V k N w own' zs f:=by
  induction zs generalizing f with
  | nil=>exact h
  | cons z zs ih=>
    obtain ⟨f1,f2,rfl,h1,h2,h3⟩:=h
    rw[he z (az ..)] at h2
    exact ⟨f1,f2,rfl,h1,h2,ih h3 fun z hz=>he z (ax _ hz)⟩
theorem ZR.app (h:ZR V k N w own (ys++zs) f):∃f1 f2,f=f1++f2∧ZR V k N w own ys f1∧ZR V k N w own zs f2:=by
  induction ys generalizing f with
  | nil=>exact ⟨[],f,rfl,rfl,h⟩
  | cons z ys ih=>
    obtain ⟨f1,f2,rfl,h1,h2,h3⟩:=h
    obtain ⟨f3,f4,rfl,h4,h5⟩:=ih h3
    exact ⟨f1++f3,f4,(aZ ..).symm,⟨f1,f3,rfl,h1,h2,h4⟩,h5⟩
theorem ZR.join {f1 f2:List Nat}(h1:ZR V k N w own ys f1)(h2:ZR V k N w own zs f2):ZR V k N w own (ys++zs) (f1++f2):=by
  induction ys generalizing f1 with
  | nil=>rw[show f1=[] from h1]; exact h2
  | cons z ys ih=>
    obtain ⟨f3,f4,rfl,k1,k2,k3⟩:=h1
    exact ⟨f3,f4++f2,by rw[aZ],k1,k2,ih k3⟩
end
section
variable {A:Amb}{P:Program}{s:St}{x y z:Operand}{d:Nat}{T T' ty:TypeId}{pos:String}{af:Array Edge}{g:Option (Nat×Bool)}{X:Type}{V:Vrl X}{k:Ty}{N N':Nat→Prop}{w w':World}
theorem ZR.at {own:MapEntry×k.Den×X→Bool}{zs:List (MapEntry×k.Den×X)}{f:List Nat}(h:ZR V k N w own zs f):∀z∈zs,KV false k z.1.key z.2.1:=by
  induction zs generalizing f with
  | nil=>intro z hz; cases hz
  | cons z zs ih=>
    obtain ⟨f1,f2,rfl,h1,h2,h3⟩:=h
    intro z' hz
    rcases aE.1 hz with rfl | hz
    · exact h1
    · exact ih h3 z' hz
theorem ZR.find {own:MapEntry×k.Den×X→Bool}{zs:List (MapEntry×k.Den×X)}{f:List Nat}{kt:TypeId}(KL:KeyL P kt false k)(h:ZR V k N w own zs f){key:Value}{q:k.Den}(hk:KV false k key q):
    ((Instr.findKey kt key (zs.map (·.1))).run P w= .ok none w∧∀z∈zs,z.2.1≠q)∨∃(ya yb:List (MapEntry×k.Den×X)) (z:MapEntry×k.Den×X),zs=ya++z :: yb∧(Instr.findKey kt key (zs.map (·.1))).run P w= .ok (some (ya.length,z.1.val)) w∧z.2.1=q∧z.1.key=key:=by
  obtain ⟨l,hl⟩:=KL.rd _ _ hk
  rcases KL.K.find w hl (zs.map (·.1)) fun e he=>by
      obtain ⟨z,hz,rfl⟩:=ba.1 he
      exact KL.rd _ _ (h.at z hz) with ⟨h1,h2⟩ | ⟨j,e,h1,h2,h3⟩
  · refine .inl ⟨h1, fun z hz e1 => ?_⟩
    exact h2 _ (ba.2 ⟨z,hz,rfl⟩) ((QeN (h.at z hz) hk KL.flat).2 e1)
  · rw [bq] at h2
    cases hz:zs[j]? with
    | none=>rw[hz] at h2; cases h2
    | some z=>
      rw[hz] at h2
      have h2:z.1=e:=by simpa using h2
      subst h2
      obtain ⟨hl2,hz2⟩:=ah.1 hz
      refine .inr ⟨zs.take j,zs.drop (j+1),z, ?_, ?_,(QeN (h.at z (ap hz)) hk KL.flat).1 h3,h3⟩
      · rw[← hz2]; exact (bI j zs).symm.trans (by rw[br hl2])
      · rw[aq,cu (by omega)]; exact h1
def Qit (hl:Option k.Den)(z:MapEntry×k.Den×X):Bool:=match hl with
  | none=>true
  | some p=> !k.beq z.2.1 p
def MoP (V:Vrl X)(k:Ty)(m:List (k.Den×X))(hl:Option k.Den)(N:Nat→Prop)(w:World)(f:List Nat)(v:Value):Prop:=
  ∃g es clock zs fs,v= .map (some g)∧f=g :: fs∧w.heap[g]? =some (.map es clock)∧Born es.toList clock∧m.Pairwise (fun p q=>p.1≠q.1)∧es.toList=zs.map (·.1)∧m=zs.map (·.2)∧ZR V k N w (Qit hl) zs fs
theorem Wn {o:Obj}{g:Nat}(h:w.heap[g]? =some o):g < w.heap.size:=(bP.1 h).1
def moR (V:Vrl X)(k:Ty)(m:List (k.Den×X))(hl:Option k.Den):Rsc where
  rel:=MoP V k m hl
  fl:=V.fl
  keep:=fun ⟨g,es,clock,zs,fs,h1,h2,h3,h4,h5,h6,h7,h8⟩ hf hN=>⟨g,es,clock,zs,fs,h1,h2,(hf g (by rw[h2]; exact az ..)).trans h3,h4,h5,h6,h7,h8.keep (fun g' hg=>hf g' (by rw[h2]; exact ax _ hg)) hN⟩
  lt:=fun ⟨g,es,clock,zs,fs,h1,h2,h3,h4,h5,h6,h7,h8⟩ g' hg=>by
    rw[h2] at hg
    rcases aE.1 hg with rfl | hg
    · exact Wn h3
    · exact h8.lt g' hg
  one:=fun ⟨g,es,clock,zs,fs,h1,h2⟩=>by rw[h1]; rfl
  noN:=fun hv _ _ _ _ _ ⟨g,es,clock,zs,fs,h1,h2,h3,h4,h5,h6,h7,h8⟩=>⟨g,es,clock,zs,fs,h1,h2,h3,h4,h5,h6,h7,h8.noN hv⟩
def Qqq (cn b:Bool)(seen:Array Nat)(z:MapEntry×k.Den×X):Bool:= !cn|| !seen.contains z.1.born||(b&&seen.back? ==some z.1.born)
def ItP (V:Vrl X)(k:Ty)(cn:Bool)(m left:List (k.Den×X))(cur:Option (k.Den×X))(p:Value)(N:Nat→Prop)(w:World)(f:List Nat)(v:Value):Prop:=
  ∃g gi es clock since seen c0 zs fs,(v= .map (some g)∧p= .pointer (some ⟨gi,0,none⟩)∧f=gi :: g :: fs)∧(w.heap[gi]? =some (.mapIter (some g) since seen c0)∧w.heap[g]? =some (.map es clock))∧(Born es.toList clock∧(∀x∈es.toList,x.born < since)∧since≤c0∧since≤clock)∧
    m.Pairwise (fun p q=>p.1≠q.1)∧es.toList=zs.map (·.1)∧m=zs.map (·.2)∧left=(zs.filter fun z=> !seen.contains z.1.born).map (·.2)∧(∀c,cur=some c→∃z∈zs,z.2=c∧(∃s0:Array Nat,seen=s0.push z.1.born)∧c0=clock)∧ZR V k N w (Qqq cn cur.isSome seen) zs fs
def itR (V:Vrl X)(k:Ty)(cn:Bool)(m left:List (k.Den×X))(cur:Option (k.Den×X))(p:Value):Rsc where
  rel:=ItP V k cn m left cur p
  fl:=V.fl
  keep:=fun ⟨g,gi,es,clock,since,seen,c0,zs,fs,⟨h1,h2,h3⟩,⟨h4,h5⟩,h6,h7,h8,h9,h10,h11,h12⟩ hf hN=>
    ⟨g,gi,es,clock,since,seen,c0,zs,fs,⟨h1,h2,h3⟩,⟨(hf gi (by rw[h3]; simp)).trans h4,(hf g (by rw[h3]; simp)).trans h5⟩,h6,h7,h8,h9,h10,h11,h12.keep (fun g' hg=>hf g' (by rw[h3]; exact ax _ (ax _ hg))) hN⟩
  lt:=fun ⟨g,gi,es,clock,since,seen,c0,zs,fs,⟨h1,h2,h3⟩,⟨h4,h5⟩,h6,h7,h8,h9,h10,h11,h12⟩ g' hg=>by
    rw[h3] at hg
    rcases aE.1 hg with rfl | hg
    · exact Wn h4
    · rcases aE.1 hg with rfl | hg
      · exact Wn h5
      · exact h12.lt g' hg
  one:=fun ⟨g,gi,es,clock,since,seen,c0,zs,fs,⟨h1,h2,h3⟩,_⟩=>by rw[h1]; rfl
  noN:=fun hv _ _ _ _ _ ⟨g,gi,es,clock,since,seen,c0,zs,fs,h1,h4,h6,h7,h8,h9,h10,h11,h12⟩=>⟨g,gi,es,clock,since,seen,c0,zs,fs,h1,h4,h6,h7,h8,h9,h10,h11,h12.noN hv⟩
end
section
variable {A:Amb}{P:Program}{s:St}{x y z:Operand}{d:Nat}{T T' ty:TypeId}{pos:String}{af:Array Edge}{g:Option (Nat×Bool)}{X:Type}{V:Vrl X}{k:Ty}{N N':Nat→Prop}{w w':World}
theorem MoP.take {E:TypeId}{e:Ty}{kt et:TypeId}{m:List (k.Den×List e.Den)}{f:List Nat}{v key:Value}{q:k.Den}(KL:KeyL P kt false k)(hT:P.underlying T=some (.map kt et))(hz:zer P et=some (.slice none 0 0))(h:MoP (vOw E e) k m none N w f v)(hk:KV false k key q)(hf:f.Nodup):
    ∃u fq ft,(Instr.lookup T v key false).run P w= .ok u w∧MoP (vOw E e) k m (some q) N w fq v∧Own (.sl E e) w ft [u] ((X3 k m q).getD [])∧fq.Nodup∧ft.Nodup∧(∀g∈fq,g∈f∧g∉ft)∧∀g∈ft,g∈f:=by
  obtain ⟨g,es,clock,zs,fs,rfl,rfl,h3,h4,h5,h6,h7,h8⟩:=h
  obtain ⟨l,hl⟩:=KL.rd _ _ hk
  obtain ⟨hf1,hf2⟩:=bl.1 hf
  rcases h8.find (P:=P) KL hk with ⟨h1,h2⟩ | ⟨ya,yb,z,h1,h2,h9,h10⟩
  · have hm:∀p∈m,p.1≠q:=fun p hp=>by
      rw[h7] at hp
      obtain ⟨z,hz,rfl⟩:=ba.1 hp
      exact h2 z hz
    have hz':=XT (w:=w) hz
    refine ⟨.slice none 0 0,g :: fs,[], ?_,⟨g,es,clock,zs,fs,rfl,rfl,h3,h4,h5,h6,h7,h8.congr fun z hz=> ?_⟩, ?_,hf,bt,fun g' hg=>⟨hg,by simp⟩,by simp⟩
    · rw [← h6] at h1
      simp[Instr.lookup,run_underlying hT,MapKept.run_getObj_map h3,KL.K.check w _ hl,h1,hz',Result.andThen]
    · simp only [Qit]
      have:k.beq z.2.1 q=false:=cr.2 fun e=>h2 z hz ((k.beq_iff _ _).1 e)
      rw[this]; rfl
    · rw [U5 hm]
      exact .inl ⟨rfl,rfl,rfl⟩
  · subst h1
    obtain ⟨fa,fb,rfl,k1,f1,fc,rfl,k2,k3,k4⟩:=h8.app
    have hd:∀z'∈ya++yb,z'.2.1≠q:=fun z' hz' e=>by
      have h11:((ya++z :: yb).map (·.2)).Pairwise fun p q=>p.1≠q.1:=by rw[← h7]; exact h5
      rw[ce,bg,List.pairwise_append] at h11
      obtain ⟨_,h12,h13⟩:=h11
      obtain ⟨h14,_⟩:=bi.1 h12
      rcases aK.1 hz' with hz' | hz'
      · exact h13 _ (ba.2 ⟨z',hz',rfl⟩) z.2 (az ..) (e.trans h9.symm)
      · exact h14 _ (ba.2 ⟨z',hz',rfl⟩) (h9.trans e.symm)
    have cg:∀z'∈ya++yb,Qit (X:=List e.Den) none z'=Qit (some q) z':=fun z' hz'=>by
      simp only[Qit]
      have:k.beq z'.2.1 q=false:=cr.2 fun e=>hd z' hz' ((k.beq_iff _ _).1 e)
      rw[this]; rfl
    have k3:Own (.sl E e) w f1 [z.1.val] z.2.2:=k3
    have hmg:(X3 k m q).getD []=z.2.2:=by
      have:m[ya.length]? =some z.2:=by rw[h7,bq,bj (aO _)]; simp
      rw[V9 h5 this h9]; rfl
    have hsub:List.Sublist (g :: (fa++fc)) (g :: (fa++(f1++fc))):=(List.Sublist.append (List.Sublist.refl _) (List.sublist_append_right ..)).cons_cons g
    refine ⟨z.1.val,g :: (fa++fc),f1, ?_,⟨g,es,clock,ya++z :: yb,fa++fc,rfl,rfl,h3,h4,h5,h6,h7, ?_⟩,by rw[hmg]; exact k3,hsub.nodup hf, ?_,fun g' hg=>⟨hsub.subset hg,fun hg'=> ?_⟩,fun g' hg=> ?_⟩
    · rw [← h6] at h2
      simp[Instr.lookup,run_underlying hT,MapKept.run_getObj_map h3,KL.K.check w _ hl,h2,Result.andThen]
    · refine (k1.congr fun z' hz' => cg z' (aQ _ hz')).join ⟨[], fc, rfl, k2, ?_, k4.congr fun z' hz' => cg z' (aT _ hz')⟩
      simp[Qit,(k.beq_iff _ _).2 h9]
    · exact (b9.1 (b9.1 hf2).2.1).1
    · rcases aE.1 hg with rfl | hg
      · exact hf1 (aT _ (aQ _ hg'))
      · obtain ⟨_, n2, n3⟩ := b9.1 hf2
        obtain ⟨_,_,n5⟩:=b9.1 n2
        rcases aK.1 hg with hg | hg
        · exact n3 g' hg g' (aQ _ hg') rfl
        · exact n5 g' hg' g' hg rfl
    · exact ax _ (aT _ (aQ _ hg))
def upd {α:Type}(f:Nat→α)(q:Nat)(x:α):Nat→α:=fun u=>if u=q then x else f u
theorem Y4 {α:Type}(f:Nat→α)(q:Nat)(x:α):upd f q x q=x:=if_pos rfl
theorem WX {α:Type}(f:Nat→α){q u:Nat}(x:α)(h:u≠q):upd f q x u=f u:=if_neg h
theorem Rg.part {gh:Gh}{a:Act}{w w':World}(r:Rg A s gh a w){q t:Nat}{e0:Ent}{R:Rsc}{E:TypeId}{e:Ty}{xs:List e.Den}{u:Value}{fq ft:List Nat}(he:s.tab.ent q=some e0)(hfr:Fresh s t)(hk:A.k0≤t)(hg:Grw w w')(hb:∀g,g < w.heap.size→g∉gh.f q→w'.heap[g]? =w.heap[g]?)
    (h1:R.rel gh.N w' fq (gh.h q)) (h2:Own (.sl E e) w' ft [u] xs) (n1:fq.Nodup) (n2:ft.Nodup) (i1:∀g∈fq,g∈gh.f q∧g∉ft) (i2:∀g∈ft,g∈gh.f q):
    Rg A ⟨s.tm,(q,some (.res R)) :: (t,some (.arr E e xs)) :: s.tab⟩ ⟨upd gh.h t u,upd (upd gh.f t ft) q fq,gh.N⟩ a w':=by
  have hq:s.tab.al q:=⟨e0,he⟩
  have hne:q≠t:=fun h=>hfr.al (h▸hq)
  refine r.redo (fun v=>v=q∨v=t) rfl (fun v hv=> ?_) (fun v e' hv he'=> ?_) (fun v v' hv hv' _ _ hn g g1 g2=> ?_) hg fun g hl hx=>hb g hl (hx q (.inl rfl) hq)
  · have h3 : v ≠ q := fun h => hv (.inl h)
    have h4:v≠t:=fun h=>hv (.inr h)
    refine ⟨by rw[Qh,if_neg h3,Qh,if_neg h4],WX _ _ h4, ?_⟩
    show upd (upd gh.f t ft) q fq v=_
    rw[WX _ _ h3,WX _ _ h4]
  · rw [Qh] at he'
    by_cases h3:v=q
    · subst h3
      rw[if_pos rfl] at he'
      cases he'
      refine ⟨fun al=> ?_, ?_,fun g hg=> .inr ⟨v, .inl rfl,hq, ?_⟩, .inl ⟨hq,WX _ _ hne⟩⟩
      · show R.rel gh.N w' (upd (upd gh.f t ft) v fq v) (upd gh.h t u v)
        rw[Y4,WX _ _ hne]; exact h1
      · show (upd (upd gh.f t ft) v fq v).Nodup
        rw[Y4]; exact n1
      · have hg : g ∈ upd (upd gh.f t ft) v fq v := hg
        rw[Y4] at hg
        exact (i1 g hg).1
    · have h4 : v = t := hv.resolve_left h3
      subst h4
      rw[if_neg h3,Qh,if_pos rfl] at he'
      cases he'
      have e1:upd (upd gh.f v ft) q fq v=ft:=by rw[WX _ _ h3,Y4]
      refine ⟨fun al=> ?_, ?_,fun g hg=> .inr ⟨q, .inl rfl,hq, ?_⟩, .inr ⟨hfr,hk⟩⟩
      · show Own (.sl E e) w' (upd (upd gh.f v ft) q fq v) [upd gh.h v u v] xs
        rw[e1,Y4]; exact h2
      · show (upd (upd gh.f v ft) q fq v).Nodup
        rw[e1]; exact n2
      · have hg : g ∈ upd (upd gh.f v ft) q fq v := hg
        rw[e1] at hg
        exact i2 g hg
  · have e1 : upd (upd gh.f t ft) q fq t = ft := by rw [WX _ _ hne.symm, Y4]
    have e2:upd (upd gh.f t ft) q fq q=fq:=Y4 ..
    have g1:g∈upd (upd gh.f t ft) q fq v:=g1
    have g2:g∈upd (upd gh.f t ft) q fq v':=g2
    rcases hv with rfl | rfl <;> rcases hv' with rfl | rfl
    · exact hn rfl
    · rw[e2] at g1; rw[e1] at g2; exact (i1 g g1).2 g2
    · rw[e1] at g1; rw[e2] at g2; exact (i1 g g2).2 g1
    · exact hn rfl
end
section
variable {A:Amb}{P:Program}{s:St}{x y z:Operand}{d:Nat}{T T' ty:TypeId}{pos:String}{af:Array Edge}{g:Option (Nat×Bool)}{X:Type}{V:Vrl X}{k:Ty}{N N':Nat→Prop}{w w':World}
end
section
variable {A:Amb}{P:Program}{s:St}{x y z:Operand}{d:Nat}{T T' ty:TypeId}{pos:String}{af:Array Edge}{g:Option (Nat×Bool)}{X:Type}{V:Vrl X}{k:Ty}{N N':Nat→Prop}{w w':World}{ops:Array Oper}{l:List Oper}{Q:Exit→St→Prop}
theorem Rg.turn {gh:Gh}{a:Act}{w w':World}(r:Rg A s gh a w){q:Nat}{e0 e:Ent}{fq:List Nat}(he:s.tab.ent q=some e0)(hg:Grw w w')(hb:∀g,g < w.heap.size→g∉gh.f q→w'.heap[g]? =w.heap[g]?)
    (h1:∀al,EntR al ⟨gh.h,upd gh.f q fq,gh.N⟩ w' q e) (n1:fq.Nodup) (i1:∀g∈fq,w.heap.size≤g∨g∈gh.f q):Rg A ⟨s.tm,(q,some e) :: s.tab⟩ ⟨gh.h,upd gh.f q fq,gh.N⟩ a w':=by
  have hq:s.tab.al q:=⟨e0,he⟩
  refine r.redo (fun v=>v=q) rfl (fun v hv=>⟨by rw[Qh,if_neg hv],rfl,WX _ _ hv⟩) (fun v e' hv he'=> ?_) (fun v v' hv hv' av av' hn=>absurd (hv.trans hv'.symm) hn) hg fun g hl hx=>hb g hl (hx q rfl hq)
  subst hv
  rw[Qh,if_pos rfl] at he'
  cases he'
  refine ⟨h1, ?_,fun g hg=> ?_, .inl ⟨hq,rfl⟩⟩
  · show (upd gh.f v fq v).Nodup
    rw[Y4]; exact n1
  · have hg : g ∈ upd gh.f v fq v := hg
    rw[Y4] at hg
    exact (i1 g hg).imp id fun h=>⟨v,rfl,hq,h⟩
theorem Qr3 (cn:Bool){q:Nat}{m:List (k.Den×X)}{kt et:TypeId}(hT:P.underlying T=some (.map kt et))(hx:Evl A s x (.ref q))(he:s.tab.ent q=some (.res (moR V k m none)))(hn:Nat.blt d A.n=true)
    (k1:∀p:Value,AL A P ops l Q ⟨(d,lf (.val p)) :: s.tm,(q,some (.res (itR V k cn m m none p))) :: s.tab⟩):AL A P ops (⟨some d, .range T x,ty,pos,af,none⟩ :: l) Q s:=fun a w r=>wpList_plain rfl fun _ hK=>by
  obtain ⟨gh,r⟩:=r
  have hv:a.eval x=gh.h q:=hx gh a w r ⟨_,he⟩
  obtain ⟨g,es,clock,zs,fs,h1,h2,h3,hB,h4,h5,h6,h7⟩:=r.cx.en q _ he
  have e1:(execOp a.eval ⟨some d, .range T x,ty,pos,af,none⟩).run P w= .ok (.value (.pointer (some ⟨w.heap.size,0,none⟩))) (w.alloc (.mapIter (some g) clock #[] clock)):=by
    simp only[execOp,hv,h1,aw,run_range_map w T kt et g es clock hT h3]
    simp
  unfold Oper.wp
  rw[e1,Oper.upon_value]
  have hlt:=Wn h3
  have hfl:∀g'∈gh.f q,g' < w.heap.size:=r.cx.lt ⟨_,he⟩
  have hbl:∀g',g' < w.heap.size→(w.alloc (.mapIter (some g) clock #[] clock)).heap[g']? =w.heap[g']? :=fun g' hg=>Below.heap_alloc w _ g' hg
  refine hK _ _ (k1 _ _ _ ⟨_,(r.turn (w':=w.alloc (.mapIter (some g) clock #[] clock)) (fq:=w.heap.size :: gh.f q) (e:= .res (itR V k cn m m none (.pointer (some ⟨w.heap.size,0,none⟩)))) he ⟨rfl,rfl,rfl,by simp⟩ (fun g' hg _=>hbl g' hg) (fun al=> ?_) (bl.2 ⟨fun h=>Nat.lt_irrefl _ (hfl _ h),r.cx.nd q ⟨_,he⟩⟩) (fun g' hg=> ?_)).put (aG hn) (pv:=lf (.val _)) ⟨_,rfl,rfl⟩⟩)
  · refine ⟨g, w.heap.size, es, clock, clock, #[], clock, zs, fs, ⟨h1, rfl, (Y4 ..).trans (by rw [h2])⟩, ⟨heap_alloc_new w _, (hbl g hlt).trans h3⟩, ⟨hB, hB.1, aO _, aO _⟩, h4, h5, h6, ?_, (fun c hc => by cases hc), (h7.keep (fun g' hg => hbl g' (hfl g' (by rw [h2]; exact ax _ hg))) fun g' hg => ⟨hg, hbl g' (r.cx.nl g' hg)⟩).congr fun z _ => ?_⟩
    · rw[h6]; refine congrArg _ (cv.2 fun z _=> ?_).symm; simp
    · simp[Qit,Qqq]
  · rcases aE.1 hg with rfl | hg
    · exact .inl (aO _)
    · exact .inr hg
end
section
variable {A:Amb}{P:Program}{s:St}{x y z:Operand}{d:Nat}{T T' ty:TypeId}{pos:String}{af:Array Edge}{g:Option (Nat×Bool)}{X:Type}{V:Vrl X}{k:Ty}{N N':Nat→Prop}{w w':World}{ops:Array Oper}{l:List Oper}{Q:Exit→St→Prop}
theorem QdH {seen:Array Nat}{b c:Nat}:(seen.push b).contains c=(seen.contains c||b==c):=by
  have h:(c==b)=(b==c):=by
    by_cases e:b=c
    · rw[e]
    · rw[beq_eq_false_iff_ne.2 e,beq_eq_false_iff_ne.2 (Ne.symm e)]
  rw[Array.contains_push,h]
theorem QkX {zs:List (MapEntry×k.Den×X)}{seen:Array Nat}{e:MapEntry}(hn:((zs.map (·.1)).map (·.born)).Nodup)(he:e∈(zs.map (·.1)).filter fun e=> !seen.contains e.born):
    ∃z l1 l2,z∈zs∧z.1=e∧seen.contains e.born=false∧(zs.filter fun z=> !seen.contains z.1.born).map (·.2)=l1++z.2 :: l2∧(zs.filter fun z=> !(seen.push e.born).contains z.1.born).map (·.2)=l1++l2:=by
  obtain ⟨h1,h2⟩:=bR.1 he
  obtain ⟨z,hz,rfl⟩:=ba.1 h1
  have h2:seen.contains z.1.born=false:=by simpa using h2
  have hf:z∈zs.filter fun z=> !seen.contains z.1.born:=bR.2 ⟨hz,by rw[h2]; rfl⟩
  obtain ⟨ya,yb,hs⟩:=List.append_of_mem hf
  refine ⟨z,ya.map (·.2),yb.map (·.2),hz,rfl,h2,by rw[hs]; simp, ?_⟩
  have e1:(zs.filter fun z'=> !(seen.push z.1.born).contains z'.1.born)=(zs.filter fun z=> !seen.contains z.1.born).filter fun z'=> !(z.1.born==z'.1.born):=by
    rw[List.filter_filter]
    congr 1
    funext z'
    rw[QdH,Bool.not_or,Bool.and_comm]
  have hn2:(((ya++z :: yb).map (·.1)).map (·.born)).Nodup:=by
    rw[← hs]
    exact (((List.filter_sublist).map _).map _).nodup hn
  rw[ce,ce,bg,bg,b9] at hn2
  obtain ⟨_,h4,h5⟩:=hn2
  obtain ⟨h6,_⟩:=bl.1 h4
  rw[e1,hs,bH,dd]
  have e2:(!(z.1.born==z.1.born))=false:=by simp
  rw[e2]
  rw[cv.2 fun z' hz'=> ?_,if_neg (by decide),cv.2 fun z' hz'=> ?_,ce]
  · have : z.1.born ≠ z'.1.born := fun e => h6 (by rw [e]; exact ba.2 ⟨z'.1, ba.2 ⟨z', hz', rfl⟩, rfl⟩)
    simpa using this
  · have : z'.1.born ≠ z.1.born := h5 _ (ba.2 ⟨z'.1, ba.2 ⟨z', hz', rfl⟩, rfl⟩) _ (az ..)
    simpa using fun e=>this e.symm
theorem QsQ {q:Nat}{cn:Bool}{m left:List (k.Den×X)}{cur:Option (k.Den×X)}{p:Value}(hx:Evl A s x (.val p))(he:s.tab.ent q=some (.res (itR V k cn m left cur p)))(hc:cn=false∨cur=none)(hn:Nat.blt d A.n=true)
    (k0:left=[]→AL A P ops l Q (s.put d (.tup [(false,[dB false])])))
    (k1:∀(ky vl:Value) (l1:List (k.Den×X)) (c:k.Den×X) (l2:List (k.Den×X)),left=l1++c :: l2→AL A P ops l Q ⟨(d, .tup [(false,[dB true]),(false,[.val ky]),(false,[.val vl])]) :: s.tm,(q,some (.res (itR V k cn m (l1++l2) (some c) p))) :: s.tab⟩):AL A P ops (⟨some d, .next x false,ty,pos,af,none⟩ :: l) Q s:=fun a w r=>wpList_plain rfl fun _ hK=>by
  obtain ⟨gh,r⟩:=r
  have hv:a.eval x=p:=hx gh a w r
  obtain ⟨g,gi,es,clock,since,seen,c0,zs,fs,⟨h1,h2,h3⟩,⟨h4,h5⟩,⟨h6,hsi,hsc,hsl⟩,h7,h8,h9,h10,h11,h12⟩:=r.cx.en q _ he
  have hlf:(leftOf es seen).toList=(zs.map (·.1)).filter fun e=> !seen.contains e.born:=by rw[← h8]; simp[leftOf]
  rcases run_next_at (P:=P) w ty gi g since c0 seen es clock h4 h5 hsi hsc with ⟨j1,j2⟩ | ⟨e,j1,w1,j2,j3⟩
  · have e1:(execOp a.eval ⟨some d, .next x false,ty,pos,af,none⟩).run P w= .ok (.value (.tuple #[.bool false])) w:=by
      simp only[execOp,hv,h2,aw,j2]
      simp
    unfold Oper.wp
    rw[e1,Oper.upon_value]
    refine hK _ _ (k0 ?_ _ _ ⟨gh,r.put (aG hn) (pv:= .tup [(false,[dB false])]) ⟨_,rfl,_,_,rfl,⟨_,rfl,ZC⟩,rfl⟩⟩)
    have:((zs.map (·.1)).filter fun e=> !seen.contains e.born)=[]:=by rw[← hlf]; exact bB (by simpa using j1)
    rw[h10]
    rw[List.filter_map,List.map_eq_nil_iff] at this
    rw[List.map_eq_nil_iff]
    exact this
  · rw [hlf] at j1
    obtain ⟨z,l1,l2,hz,e2,e3,e4,e5⟩:=QkX (by rw[← h8]; exact h6.2) j1
    have e1:(execOp a.eval ⟨some d, .next x false,ty,pos,af,none⟩).run P w= .ok (.value (.tuple #[.bool true,e.key,e.val])) (setBlock w1 gi (.mapIter (some g) since (seen.push e.born) clock)):=by
      simp only[execOp,hv,h2,aw,j3]
      simp
    unfold Oper.wp
    rw[e1,Oper.upon_value]
    have hh:w1.heap=w.heap:=by rcases j2 with rfl | rfl <;> rfl
    have hgw:Grw w (setBlock w1 gi (.mapIter (some g) since (seen.push e.born) clock)):=by
      have hs:w.heap.size≤(w1.heap.setIfInBounds gi (.mapIter (some g) since (seen.push e.born) clock)).size:=by rw[Array.size_setIfInBounds,hh]; exact aO _
      rcases j2 with rfl | rfl <;> exact ⟨rfl,rfl,rfl,hs⟩
    have hgi:∀g',g'≠gi→(setBlock w1 gi (.mapIter (some g) since (seen.push e.born) clock)).heap[g']? =w.heap[g']? :=fun g' hne=>by
      show (w1.heap.setIfInBounds gi _)[g']? =_
      rw[hh]; exact Array.getElem?_setIfInBounds_ne fun e=>hne e.symm
    have hnd:=r.cx.nd q ⟨_,he⟩
    have hgq:gi∈gh.f q:=by rw[h3]; exact az ..
    rw[h3] at hnd
    have hgg:g≠gi:=fun e=>(bl.1 hnd).1 (by rw[e]; exact az ..)
    refine hK _ _ (k1 e.key e.val l1 z.2 l2 (h10.trans e4) _ _ ⟨_,(r.turn (fq:=gh.f q) (e:= .res (itR V k cn m (l1++l2) (some z.2) p)) he hgw (fun g' _ hg=>hgi g' fun e=>hg (e▸hgq)) (fun al=> ?_) (r.cx.nd q ⟨_,he⟩) (fun g' hg=> .inr hg)).put (aG hn) (pv:= .tup [(false,[dB true]),(false,[.val e.key]),(false,[.val e.val])]) ⟨_,rfl,_,_,rfl,⟨_,rfl,ZC⟩,_,_,rfl,⟨_,rfl,rfl⟩,_,_,rfl,⟨_,rfl,rfl⟩,rfl⟩⟩)
    refine ⟨g,gi,es,clock,since,seen.push e.born,clock,zs,fs,⟨h1,h2,(Y4 ..).trans h3⟩,⟨?_,(hgi g hgg).trans h5⟩,⟨h6,hsi,hsl,hsl⟩,h7,h8,h9,e5.symm,fun c hc=> ?_,(h12.keep (fun g' hg=>hgi g' fun e=> ?_) fun g' hg=>⟨hg,hgi g' fun e=>r.cx.no q ⟨_,he⟩ gi hgq (e▸hg)⟩).congr fun z' hz'=> ?_⟩
    · show (w1.heap.setIfInBounds gi _)[gi]? = _
      rw[hh]; simp[Wn h4]
    · cases hc; exact ⟨z,hz,rfl,⟨seen,by rw[e2]⟩,rfl⟩
    · exact (bl.1 hnd).1 (e▸ax _ hg)
    · simp only [Qqq, Option.isSome_some, Bool.true_and, Array.back?_push]
      rcases hc with rfl | rfl
      · rfl
      · simp only [Option.isSome_none, Bool.false_and, Bool.or_false, QdH]
        by_cases e6:e.born=z'.1.born
        · rw[← e6,e3]; simp
        · have : (e.born == z'.1.born) = false := by simpa using e6
          simp[this,e6]
end
section
variable {A:Amb}{P:Program}{s:St}{x y z:Operand}{d:Nat}{T T' ty:TypeId}{pos:String}{af:Array Edge}{g:Option (Nat×Bool)}{X:Type}{V:Vrl X}{k:Ty}{N N':Nat→Prop}{w w':World}
end
end Go.Proofs.YtfkmmpfdncopdaaGreat
namespace Go.Proofs.YtfkmmpfdncopdaaGreat
open Go.RowKit
theorem QsY {A:Amb}{s s':St}(ht:∀i pv,lk s'.tm i=some pv→lk s.tm i=some pv)(he:∀q,s'.tab.ent q=s.tab.ent q):Wk A s s':=fun a w ⟨gh,r⟩=>by
  have hal:s'.tab.al=s.tab.al:=funext fun q=>by unfold Tab.al; rw[he]
  refine ⟨gh,⟨fun q e h=> ?_,fun q q' h1 h2=> ?_,fun q h=> ?_,fun q h=> ?_,r.cx.nl⟩,r.sz,r.df,fun i pv h=> ?_,r.gw,r.kp,r.fr,fun q h=> ?_,fun q hq h=> ?_,r.xn⟩
  · rw[hal]; exact r.cx.en q e (by rw[← he]; exact h)
  · rw[hal] at h1 h2; exact r.cx.dj q q' h1 h2
  · rw[hal] at h; exact r.cx.nd q h
  · rw[hal] at h; exact r.cx.no q h
  · rw[hal]; exact r.tm i pv (ht i pv h)
  · rw[hal] at h; exact r.ox q h
  · rw[hal] at h; exact r.hh q hq h
end Go.Proofs.YtfkmmpfdncopdaaGreat
namespace Go.Proofs.YtfkmmpfdncopdaaGreat
open Go.RowKit
section
variable {A:Amb}{P:Program}{s:St}{x y:Operand}{d:Nat}{T T' ty:TypeId}{pos:String}{af:Array Edge}{g:Option (Nat×Bool)}
variable {E:TypeId}{e:Ty}{xs:List e.Den}{q lo n:Nat}
theorem SubR.all {h:Value}{w:World}{fp:List Nat}{wd:Nat}(hO:Own (.sl E e) w fp [h] xs):SubR h wd 0 xs.length h:=by
  rcases hO with ⟨_,h1,h2⟩ | ⟨b,cap,cur,fps,_,h1,_⟩
  · subst h2
    simp only[aI,and_true] at h1
    exact ⟨none,0,0,h1,by rw[h1]; rfl⟩
  · simp only [aI, and_true] at h1
    refine ⟨some ⟨b,0,none⟩,xs.length,cap,h1, ?_⟩
    rw[h1]
    congr 1
    split
    · rfl
    · simp[Addr.add_lit]
theorem SubR.rep {h v:Value}{w:World}{fp:List Nat}(hO:Own (.sl E e) w fp [h] xs)(hs:SubR h e.wd lo n v)(hb:lo+n≤xs.length):Rep (.sl E e) w [v] ((xs.take (lo+n)).drop lo):=by
  obtain ⟨B,m,c,rfl,rfl⟩:=hs
  have hR:=hO.rep
  obtain ⟨B',c',k,_⟩:=hR
  have hR:=hO.rep
  simp only[aI,Value.slice.injEq,and_true] at k
  obtain ⟨rfl,rfl,rfl⟩:=k
  have:=hR.part (lo:=lo) (hi:=lo+n) (by omega) hb
  rwa [bo] at this
theorem Zo {lo hi:Option Operand}{l h:Option Int}{bb:Bool}(hx:Evl A s x (.ref q))(he:s.tab.ent q=some (.arr E e xs))(hlo:opI A s lo l)(hhi:opI A s hi h){E':TypeId}(hT:P.underlying T=some (.slice E'))(hE:tsh P E'=some (bb,e.wd))(hn:Nat.blt d A.n=true)
    (h0:0≤l.getD 0) (h1:l.getD 0≤h.getD xs.length) (h2:h.getD xs.length≤xs.length) {a b:Nat} (ha:a=(l.getD 0).toNat) (hb:b=(h.getD xs.length).toNat - (l.getD 0).toNat):Does A P ⟨some d, .slice T x lo hi none,ty,pos,af,g⟩ s (s.put d (lf (.sub q e.wd a b))):=
  Qg rfl hn fun gh a' w r=>by
    subst ha hb
    have hv:a'.eval x=gh.h q:=hx gh a' w r ⟨_,he⟩
    have hO:Own (.sl E e) w (gh.f q) [gh.h q] xs:=r.cx.en q _ he
    obtain ⟨B,c,k1,k2,k3⟩:=hO.rep.slv
    refine ⟨_, ?_,_,rfl,fun _=>⟨B,xs.length,c,k1,rfl⟩⟩
    simp only[execOp,hv,k1,hlo.ev r,hhi.ev r,de,Instr.sliceAt,Instr.slice,aw,run_underlying hT,aH,X6 h0 h1 h2 k2,Yu hE]
    simp
theorem WE (h:Evl A s x (.sub q e.wd lo n))(he:s.tab.ent q=some (.arr E e xs))(hb:lo+n≤xs.length):JT A s x (.sl E e) ((xs.take (lo+n)).drop lo):=fun gh a w r=>by
  have hO:Own (.sl E e) w (gh.f q) [gh.h q] xs:=r.cx.en q _ he
  exact (h gh a w r ⟨_,he⟩).rep hO hb
theorem Qgo {Tl:TypeId}(hx:Evl A s x (.sub q e.wd lo n))(he:s.tab.ent q=some (.arr E e xs))(hb:lo+n≤xs.length)(hT:P.underlying Tl=some (.slice E))(hn:Nat.blt d A.n=true):
    Does A P ⟨some d, .call ⟨.builtin .len, #[x], #[Tl]⟩,ty,pos,af,g⟩ s (s.put d (lf (dI n))):=
  Qg rfl hn fun gh a w r=>by
    have hO:Own (.sl E e) w (gh.f q) [gh.h q] xs:=r.cx.en q _ he
    obtain ⟨B,m,c,h1,h2⟩:=hx gh a w r ⟨_,he⟩
    obtain ⟨B',c',k1,k2,k3⟩:=hO.rep.slv
    refine ⟨.int .i64 n, ?_,_,rfl,Ye (by unfold maxLen at k3; omega)⟩
    simp only[execOp,resolve,invoke,builtin]
    simp[aw,h2,Builtin.len_,run_underlying hT,goInt,Result.andThen]
theorem WV {i:Int}{E':TypeId}{bb:Bool}(hx:Evl A s x (.sub q e.wd lo n))(he:s.tab.ent q=some (.arr E e xs))(hb:lo+n≤xs.length)(hy:Evl A s y (dI i))(hT:P.underlying T=some (.slice E'))(hE:tsh P E'=some (bb,e.wd))(hn:Nat.blt d A.n=true)
    (h0:0≤i) (h1:i < n) {k:Nat} (hk:k=lo+i.toNat):Does A P ⟨some d, .indexAddr T x y,ty,pos,af,g⟩ s (s.put d (lf (.ept q e.wd k 0))):=
  Qg rfl hn fun gh a w r=>by
    subst hk
    have hi:=hy.i r
    have hO:Own (.sl E e) w (gh.f q) [gh.h q] xs:=r.cx.en q _ he
    obtain ⟨B,m,c,h2,h3⟩:=hx gh a w r ⟨_,he⟩
    rcases hO with ⟨_,_,h⟩ | ⟨b,cap,cur,fps,k2,k3,k4,k5,k6,k7,k8⟩
    · subst h; simp at hb; omega
    · simp only [aI, and_true] at k3
      rw[h2] at k3
      simp only[Value.slice.injEq] at k3
      obtain ⟨rfl,rfl,rfl⟩:=k3
      rw[if_neg (by omega)] at h3
      simp only[cM,Addr.add_lit] at h3
      refine ⟨.pointer (some ⟨b,(0+lo*e.wd)+i.toNat*e.wd,none⟩), ?_,_,rfl,fun _=>⟨b,xs.length,c,h2,by rw[bD]; simp⟩⟩
      simp only[execOp,h3,hi,aw,XS hT hE h0 h1]
      simp
def cpy {α:Type}(xs:List α)(lo n:Nat)(ys:List α):List α:=xs.take lo++ys.take (min ys.length n)++xs.drop (lo+min ys.length n)
theorem Qe5 {α:Type}{xs:List α}{lo n:Nat}{ys:List α}(h:lo+n≤xs.length):(cpy xs lo n ys).length=xs.length:=by
  simp[cpy]; omega
theorem H6 {α:Type}{l:List α}{len lo:Nat}{cs:List α}(h:lo+cs.length≤len)(h2:len≤l.length):(l.take lo++cs++l.drop (lo+cs.length)).take len=(l.take len).take lo++cs++(l.take len).drop (lo+cs.length):=by
  have hA:(l.take lo++cs).length=lo+cs.length:=by simp; omega
  rw[List.take_append,aU (by omega),hA,List.take_take,cu (by omega),List.drop_take]
theorem OwnL.fp0 {w:World}(hf:e.flat=true):∀{xs:List e.Den} {fp:List Nat} {cs:List Value},OwnL (Own e w) fp cs xs→fp=[]
  | [],_,_,h=>h.1
  | _ :: _,_,_,⟨f1,f2,c1,c2,h1,h2,h3,h4⟩=>by rw[h1,WM hf h3,OwnL.fp0 hf h4]; rfl
theorem OwnL.takeN {w:World}(hw:e.wd=1)(hf:e.flat=true):∀{xs:List e.Den} {fp:List Nat} {cs:List Value} (k:Nat),OwnL (Own e w) fp cs xs→OwnL (Own e w) [] (cs.take k) (xs.take k)
  | [],_,_,k,h=>by rw[h.2]; simp[OwnL]
  | x :: xs,_,_,0,_=>by simp[OwnL]
  | x :: xs,_,_,k+1,⟨f1,f2,c1,c2,h1,h2,h3,h4⟩=>by
    have hl:=h3.len
    rw[hw] at hl
    have hf1:=WM hf h3
    subst hf1
    match c1,hl with
    | [c],_=>
      rw[h2]
      exact ⟨[],[],[c],c2.take k,rfl,rfl,h3,OwnL.takeN hw hf k h4⟩
theorem OwnL.dropN {w:World}(hw:e.wd=1)(hf:e.flat=true):∀{xs:List e.Den} {fp:List Nat} {cs:List Value} (k:Nat),OwnL (Own e w) fp cs xs→OwnL (Own e w) [] (cs.drop k) (xs.drop k)
  | [],_,_,k,h=>by rw[h.2]; simp[OwnL]
  | x :: xs,_,_,0,h=>by have:=h.fp0 hf; subst this; exact h
  | x :: xs,_,_,k+1,⟨f1,f2,c1,c2,h1,h2,h3,h4⟩=>by
    have hl:=h3.len
    rw[hw] at hl
    match c1,hl with
    | [c],_=>
      rw[h2]
      exact OwnL.dropN hw hf k h4
theorem QcT {w:World}{dT sT ty elem:TypeId}{b o dLen dCap:Nat}{a:Addr}{sLen sCap:Nat}{cur:Array Value}{cs:List Value}(hu:P.underlying dT=some (.slice elem))(hs:(P.info? elem).map (·.size)=some 1)
    (hg:w.heap[b]? =some (.cells cur E (0,0))) (hn:cs.length=Nat.min sLen dLen) (hsrc:∀j v,cs[j]? =some v→w.cell? (a.add j)=some v) (hfit:o+cs.length≤cur.size) (h1:∀v∈cs,v.oneCell'=true):
    (Builtin.copy_ #[dT,sT] ty #[.slice (some ⟨b,o,none⟩) dLen dCap, .slice (some a) sLen sCap]).run P w= .ok (goInt cs.length) (Xs w b o cs):=by
  have hl:=run_loadCells_list (P:=P) w a cs hsrc
  have hst:=Ws (P:=P) (b:=b) (E:=E) cs o 0 w cur hg (by omega) h1
  cases hq:P.info? elem with
  | none=>simp[hq] at hs
  | some i=>
    have hi:i.size=1:=by simpa [hq] using hs
    simp[Builtin.copy_,run_underlying hu,Builtin.lenOf,Builtin.firstCells,sizeOf,typeInfo,hq,hi,← hn,hl,hst]
def Qmk (A:Amb)(s:St)(x:Operand)(q wd lo n:Nat):Prop:=∀gh a w,Rg A s gh a w→SubR (gh.h q) wd lo n (a.eval x)
theorem Qmc (h:Evl A s x (.sub q e.wd lo n))(he:s.tab.ent q=some (.arr E e xs)):Qmk A s x q e.wd lo n:=fun gh a w r=>h gh a w r ⟨_,he⟩
theorem QmS (h:Evl A s x (.ref q))(he:s.tab.ent q=some (.arr E e xs)):Qmk A s x q e.wd 0 xs.length:=fun gh a w r=>by
  have hO:Own (.sl E e) w (gh.f q) [gh.h q] xs:=r.cx.en q _ he
  rw[show a.eval x=gh.h q from h gh a w r ⟨_,he⟩]
  exact SubR.all hO
theorem Qcz {T1 T2 elem:TypeId}{z:Value}{bytes:Nat}{ys:List e.Den}(hx:Qmk A s x q e.wd lo n)(he:s.tab.ent q=some (.arr E e xs))(hb:lo+n≤xs.length)(hy:JT A s y (.sl E e) ys)(hw:e.wd=1)(hf:e.flat=true)
    (hu:P.underlying T1=some (.slice elem)) (hi:(P.info? elem).map (fun i=>(i.zero,i.size,i.bytes))=some (some z,1,bytes)) (hn:Nat.blt d A.n=true):
    Does A P ⟨some d, .call ⟨.builtin .copy, #[x,y], #[T1,T2]⟩,ty,pos,af,g⟩ s ⟨(d,lf (dI (min ys.length n:Nat))) :: s.tm,(q,some (.arr E e (cpy xs lo n ys))) :: s.tab⟩:=fun a w K Q r hK=>by
  obtain ⟨gh,r⟩:=r
  have hs:(P.info? elem).map (·.size)=some 1:=by
    cases hq:P.info? elem with
    | none=>rw[hq] at hi; simp at hi
    | some i=>rw[hq] at hi; simp at hi; simp[hi.2.1]
  have hO:Own (.sl E e) w (gh.f q) [gh.h q] xs:=r.cx.en q _ he
  have hO':=hO
  obtain ⟨B,m,c,q1,q2⟩:=hx gh a w r
  have hr:=hy gh a w r
  obtain ⟨A',c2,hv2,h3,h4⟩:=hr.slv
  obtain ⟨B0,c0,z1,z2,z3⟩:=hO.rep.slv
  have hsz:(min ys.length n:Nat)≤9223372036854775807:=by unfold maxLen at z3; omega
  by_cases hz:min ys.length n=0
  · have hc : cpy xs lo n ys = xs := by simp [cpy, hz]
    have e0:(execOp a.eval ⟨some d, .call ⟨.builtin .copy, #[x,y], #[T1,T2]⟩,ty,pos,af,g⟩).run P w= .ok (.value (goInt ((min ys.length n:Nat):Int))) w:=by
      have h5:=run_copy_none (P:=P) w T1 T2 ty elem (if c=lo then B else B.map (·.add (lo*e.wd))) A' n (c - lo) ys.length c2 hu hs hz
      rw[hz]
      simp only[execOp,resolve,invoke,builtin,q2,hv2,aw,b5,aH,dc,bg,d9,h5]
      rfl
    unfold Oper.wp
    rw[e0,Oper.upon_value]
    refine hK _ _ ⟨gh,Rg.put (s:=⟨s.tm,(q,some (.arr E e (cpy xs lo n ys))) :: s.tab⟩) (r.mod he (ZE w) (fun _ _ _=>rfl) ?_) (aG hn) (pv:=lf (dI (min ys.length n:Nat))) ⟨_,rfl,Ye (n:=((min ys.length n:Nat):Int)) (by omega)⟩⟩
    rw[hc]
    exact hO'
  · rcases hO with ⟨_, _, h⟩ | ⟨b, cap, cur, fps, p2, p3, p4, p5, p6, p7, p8⟩
    · subst h; simp at hb; omega
    have hfp:=p8.fp0 hf
    subst hfp
    simp only[aI,and_true] at p3
    rw[q1] at p3
    simp only[Value.slice.injEq] at p3
    obtain ⟨rfl,rfl,rfl⟩:=p3
    rw[if_neg (by omega)] at q2
    simp only[cM,Addr.add_lit,hw,cX,bn] at q2
    rw[hv2] at hr
    obtain ⟨_,hsrc⟩:=hr.src (M:=0) hf
    rcases hsrc with ⟨_,h0⟩ | ⟨ad,news,rfl,⟨fp,n1,_,_⟩,n4⟩
    · omega
    have hnl:=n1.len
    rw[hw,cX] at hnl
    have n5:=n1.takeN hw hf (min ys.length n)
    have hcl:(news.take (min ys.length n)).length=min ys.length n:=by rw[aq]; omega
    have hcs:cur.size=c:=by rw[p7,hw,cX]
    have h5:=QcT (P:=P) (w:=w) (dT:=T1) (sT:=T2) (ty:=ty) (o:=lo) (dCap:=c - lo) (sCap:=c2) (sLen:=ys.length) (dLen:=n) (a:=ad) (cs:=news.take (min ys.length n)) hu hs p4 hcl
      (fun j v hj=>n4 j v (by rw[be] at hj; split at hj; exact hj; cases hj)) (by rw[hcl]; omega) (OwnL.one (fp:=[]) n5)
    have e0:(execOp a.eval ⟨some d, .call ⟨.builtin .copy, #[x,y], #[T1,T2]⟩,ty,pos,af,g⟩).run P w= .ok (.value (goInt ((min ys.length n:Nat):Int))) (Xs w b lo (news.take (min ys.length n))):=by
      rw[hcl] at h5
      simp only[execOp,resolve,invoke,builtin,q2,hv2,aw,b5,aH,dc,bg,d9,h5]
    unfold Oper.wp
    rw[e0,Oper.upon_value]
    obtain ⟨cur',m1,m2,m3⟩:=Ww b E (0,0) (news.take (min ys.length n)) w lo cur p4 (by rw[hcl]; omega)
    refine hK _ _ ⟨gh,Rg.put (s:=⟨s.tm,(q,some (.arr E e (cpy xs lo n ys))) :: s.tab⟩) (r.mod he (Vj w b lo _) (fun g0 _ hg0=>Yp w b lo _ g0 fun h=>hg0 (by rw[p2,h]; simp)) ?_) (aG hn) (pv:=lf (dI (min ys.length n:Nat))) ⟨_,rfl,Ye (n:=((min ys.length n:Nat):Int)) (by omega)⟩⟩
    have hcp:=Qe5 (ys:=ys) hb
    refine .inr ⟨b,c,cur',[],p2,by rw[q1,hcp],m1,by omega,p6,by rw[m2]; exact p7, ?_⟩
    rw[hw,cX] at p8 ⊢
    rw[hcp]
    have hlist:cur'.toList.take xs.length=(cur.toList.take xs.length).take lo++news.take (min ys.length n)++(cur.toList.take xs.length).drop (lo+min ys.length n):=by
      have h9:=H6 (l:=cur.toList) (len:=xs.length) (lo:=lo) (cs:=news.take (min ys.length n)) (by rw[hcl]; omega) (by simp; omega)
      rw[m3,h9,hcl]
    rw[hlist]
    have keep:∀{cs:List Value} {zs:List e.Den},OwnL (Own e w) [] cs zs→OwnL (Own e (Xs w b lo (news.take (min ys.length n)))) [] cs zs:=fun h=>h.mono fun f c x hf' ho=>ho.keep fun g hg=>absurd (hf' g hg) (by simp)
    exact ((keep (p8.takeN hw hf lo)).append (keep n5)).append (keep (p8.dropN hw hf (lo+min ys.length n)))
theorem QhN (i:Nat)(hi:lk s.tm i=some (lf (.ref q)))(he:s.tab.ent q=some (.arr E e xs)):Wk A s ⟨(i,lf (.dat (.sl E e) xs)) :: s.tm,(q,none) :: s.tab⟩:=fun a w r=>by
  obtain ⟨gh,r⟩:=r
  obtain ⟨v,h1,l,h2,h3⟩:=r.tm i _ hi
  simp only[aI,and_true] at h2
  subst h2
  have hv:v=gh.h q:=h3 ⟨_,he⟩
  have hO:Own (.sl E e) w (gh.f q) [gh.h q] xs:=r.cx.en q _ he
  have hal:∀q',Tab.al ((q,none) :: s.tab) q'→q'≠q∧s.tab.al q':=fun q' ⟨e',h⟩=>by
    rw[Qh] at h
    by_cases e2:q'=q
    · rw[if_pos e2] at h; cases h
    · rw[if_neg e2] at h; exact ⟨e2,e',h⟩
  have r2:=r.step (T:=(q,none) :: s.tab) (gh':=⟨gh.h,gh.f,fun g=>gh.N g∨g∈gh.f q⟩) (w':=w) ⟨fun q' e' h=> ?_,fun q1 q2 k1 k2 hne=>r.cx.dj q1 q2 (hal q1 k1).2 (hal q2 k2).2 hne,fun q' h=>r.cx.nd q' (hal q' h).2,fun q' h g hg hN=> ?_,fun g hN=> ?_⟩
    (fun q' h=> .inl ⟨(hal q' h).2,rfl,fun _=>rfl⟩) (fun g hg=>⟨.inl hg,rfl⟩) (ZE w) (fun _ _ _=>rfl) (fun g hN=> ?_) (fun q' h g hg=> .inr ⟨q',(hal q' h).2,hg⟩)
  · exact ⟨_,r2.know h1 (pv:=lf (.dat (.sl E e) xs)) ⟨_,rfl,by rw[hv]; exact hO.rd fun g hg=> .inr hg⟩⟩
  · rw [Qh] at h
    by_cases e2:q'=q
    · rw[if_pos e2] at h; cases h
    · rw [if_neg e2] at h
      exact (r.cx.en q' e' h).mono (fun r' _ h'=>⟨(hal r' h').2,rfl⟩) (fun g hg=>⟨.inl hg,rfl⟩) rfl rfl fun _ _=>rfl
  · rcases hN with hN | hN
    · exact r.cx.no q' (hal q' h).2 g hg hN
    · exact r.cx.dj q' q (hal q' h).2 ⟨_,he⟩ (hal q' h).1 g hg hN
  · rcases hN with hN | hN
    · exact r.cx.nl g hN
    · exact Own.lt hO g hN
  · rcases hN with hN | hN
    · exact .inl hN
    · exact .inr (.inr ⟨q,⟨_,he⟩,hN,fun hl=>r.xn g hl (r.ox q ⟨_,he⟩ g hN hl)⟩)
end
end Go.Proofs.YtfkmmpfdncopdaaGreat
