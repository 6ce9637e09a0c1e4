/- Walks over abstract states: the values of a signal as the reference finds them, and the plain law that they are the same. -/
import Derived.Test.YtjaadeknhofhpaaGreatWm
set_option linter.unusedSimpArgs false
set_option linter.unusedVariables false
set_option linter.unusedSectionVars false
namespace Go.Proofs.YtjaadeknhofhpaaGreat
open Go.RowKit
set_option maxRecDepth 100000
set_option maxHeartbeats 4000000
def Xi (sig:Int)(a:DAr)(us:List UInt8):Option (List UInt8):=
  if a.2.1=sig then
    (if (bv us a.1.toNat≠63∧bv us a.1.toNat≠(if (!a.2.2.1)=true then 49 else 48))∨(bv us a.2.2.2.toNat≠63∧bv us a.2.2.2.toNat≠(if a.2.2.1=true then 49 else 48)) then none
    else some ((us.set a.1.toNat (if (!a.2.2.1)=true then 49 else 48)).set a.2.2.2.toNat (if a.2.2.1=true then 49 else 48)))
  else if bv us a.1.toNat=63 then some ((us.set a.1.toNat (bv us a.2.2.2.toNat)).set a.2.2.2.toNat (bv us a.2.2.2.toNat))
  else if bv us a.2.2.2.toNat≠63∧bv us a.2.2.2.toNat≠bv us a.1.toNat then none
  else some ((us.set a.1.toNat (bv us a.1.toNat)).set a.2.2.2.toNat (bv us a.1.toNat))
def XU (sig:Int):List DAr→List UInt8→Option (List UInt8)
  | [],us=>some us
  | a :: rs,us=>match Xi sig a us with
    | none=>none
    | some us'=>XU sig rs us'
def WV (sig:Int)(arcs:List DAr):Nat→List UInt8→Option (List UInt8)
  | 0,us=>some us
  | f+1,us=>match XU sig arcs us with
    | none=>none
    | some us'=>WV sig arcs f us'
def Qaj (sig:Int)(arcs:List DAr)(f:Nat):Option (List UInt8)→Option (List UInt8)
  | none=>none
  | some us'=>WV sig arcs f us'
def l5V (n:Nat)(arcs:List DAr)(sig:Int):ByteArray×Bool:=match WV sig arcs (n+1) (List.replicate n 63) with
  | none=>(⟨#[]⟩,false)
  | some us=>(⟨us.toArray⟩,true)
section
variable {sig:Int}{a:DAr}{us us' vs vs':List UInt8}{arcs rs:List DAr}{f k m:Nat}{cf ct x:UInt8}{ch ch':Bool}{i j:Nat}
theorem Vv (hx:arcs[k]? =some a)(h:Xi sig a us=some us'):XU sig (arcs.drop k) us=XU sig (arcs.drop (k+1)) us':=by rw[YC hx,XU,h]
theorem Wt (hx:arcs[k]? =some a)(h:Xi sig a us=none):XU sig (arcs.drop k) us=none:=by rw[YC hx,XU,h]
theorem QmG (hk:arcs.length≤k):XU sig (arcs.drop k) us=some us:=by rw[bk hk,XU]
theorem QoU (f:Nat)(us:List UInt8):WV sig arcs (f+1) us=Qaj sig arcs f (XU sig arcs us):=by
  rw[WV]; cases XU sig arcs us <;> rfl
theorem VC {n:Nat}(h:WV sig arcs (n+1) (List.replicate n 63)=none):l5V n arcs sig=(⟨#[]⟩,false):=by unfold l5V; rw[h]
theorem Qhh {n:Nat}(h:WV sig arcs (n+1) (List.replicate n 63)=some us):l5V n arcs sig=(⟨us.toArray⟩,true):=by unfold l5V; rw[h]
def qm (c:UInt8):UInt8:=if c=0 then 63 else c
def Kn (vs:List UInt8):Prop:=∀c∈vs,c=0∨c=48∨c=49
theorem Kn.set (h:Kn vs){c:UInt8}(hc:c=0∨c=48∨c=49)(i:Nat):Kn (vs.set i c):=fun d hd=>by
  rcases c9 hd with h1 | h1
  · exact h d h1
  · rw[h1]; exact hc
theorem Kn.at (h:Kn vs)(hi:i < vs.length):∃c,vs[i]? =some c∧(c=0∨c=48∨c=49):=⟨_,ap hi,h _ (cR hi)⟩
theorem U7 {c:UInt8}(h:vs[i]? =some c):vs.set i c=vs:=by
  apply bp
  intro j
  by_cases e:i=j
  · subst e; rw[aU (au.1 h).1,h]
  · rw[aX e]
theorem Qns (hi:vs[i]? =some cf):bv (vs.map qm) i=qm cf:=YT (by rw[bj,hi]; rfl)
theorem QtE (b:Bool):((if b=true then (49:UInt8) else 48)=49∧(if (!b)=true then (49:UInt8) else 48)=48)∨((if b=true then (49:UInt8) else 48)=48∧(if (!b)=true then (49:UInt8) else 48)=49):=by cases b <;> simp
theorem Qqz (hne:i≠j)(c:UInt8)(h:vs[j]? =some ct):(agb vs i c).1[j]? =some ct:=by
  unfold agb
  split
  · exact h
  · split
    · show (vs.set i c)[j]? = _
      rw[aX hne]; exact h
    · exact h
theorem QmP (hk:Kn vs)(hr:InR vs.length a)(hself:a.2.1=sig→a.1≠a.2.2.2):Xi sig a (vs.map qm)=(XI sig a vs).map (fun r=>r.1.map qm)∧∀vs' c,XI sig a vs=some (vs',c)→Kn vs':=by
  obtain ⟨⟨r1,r2⟩,r3,r4⟩:=hr
  obtain ⟨cf,hf,kf⟩:=hk.at (i:=a.1.toNat) (by omega)
  obtain ⟨ct,ht,kt⟩:=hk.at (i:=a.2.2.2.toNat) (by omega)
  unfold Xi XI
  rw[Qns hf,Qns ht]
  by_cases hl:a.2.1=sig
  · rw [if_pos hl, if_pos hl]
    have hne:a.1.toNat≠a.2.2.2.toNat:=by have:=hself hl; omega
    have hg:=fun c=>Qqz (vs:=vs) hne c ht
    rw[VH (hg _),VH hf]
    have hset:∀c d:UInt8,((vs.map qm).set a.1.toNat c).set a.2.2.2.toNat d=((vs.map qm).set a.2.2.2.toNat d).set a.1.toNat c:=fun c d=>List.set_comm _ _ hne
    have hf2:∀d,(vs.set a.2.2.2.toNat d)[a.1.toNat]? =some cf:=fun d=>by rw[aX (Ne.symm hne)]; exact hf
    have mf:(vs.map qm)[a.1.toNat]? =some (qm cf):=by rw[bj,hf]; rfl
    have mt:(vs.map qm)[a.2.2.2.toNat]? =some (qm ct):=by rw[bj,ht]; rfl
    have mt2:∀d,((vs.map qm).set a.1.toNat d)[a.2.2.2.toNat]? =some (qm ct):=fun d=>by rw[aX hne]; exact mt
    have s1:=U7 mf
    have s2:=U7 mt
    have s3:=fun d=>U7 (mt2 d)
    rcases QtE a.2.2.1 with ⟨e1,e2⟩ | ⟨e1,e2⟩ <;> rw[e1,e2] <;> rcases kf with rfl | rfl | rfl <;> rcases kt with rfl | rfl | rfl <;> simp only[qm] at s1 s2 s3 ⊢ <;> simp[List.map_set,qm,s1,s2,s3] at* <;> first | done | (refine ⟨?_, ?_⟩ <;> first | (simp_all; done) | (intros; subst_vars; first | exact (hk.set (.inr (.inl rfl)) _).set (.inr (.inr rfl)) _ | exact (hk.set (.inr (.inr rfl)) _).set (.inr (.inl rfl)) _ | exact hk.set (.inr (.inl rfl)) _ | exact hk.set (.inr (.inr rfl)) _ | exact hk)) | (intros; subst_vars; first | exact (hk.set (.inr (.inl rfl)) _).set (.inr (.inr rfl)) _ | exact (hk.set (.inr (.inr rfl)) _).set (.inr (.inl rfl)) _ | exact hk.set (.inr (.inl rfl)) _ | exact hk.set (.inr (.inr rfl)) _ | exact hk) | (simp_all; done)
  · rw [if_neg hl, if_neg hl, WN hf ht]
    have mf:(vs.map qm)[a.1.toNat]? =some (qm cf):=by rw[bj,hf]; rfl
    have mt:(vs.map qm)[a.2.2.2.toNat]? =some (qm ct):=by rw[bj,ht]; rfl
    have s1:=U7 mf
    have s2:=U7 mt
    have s3:((vs.map qm).set a.1.toNat (qm ct)).set a.2.2.2.toNat (qm ct)=(vs.map qm).set a.1.toNat (qm ct):=by
      by_cases e:a.1.toNat=a.2.2.2.toNat
      · rw[e,List.set_set]
      · exact U7 (by rw[aX e]; exact mt)
    rcases kf with rfl | rfl | rfl <;> rcases kt with rfl | rfl | rfl <;> simp only[qm] at s1 s2 s3 ⊢ <;> simp[List.map_set,qm,s1,s2,s3] at* <;> first | done | (refine ⟨?_, ?_⟩ <;> first | (simp_all; done) | (intros; subst_vars; first | exact hk.set (.inr (.inl rfl)) _ | exact hk.set (.inr (.inr rfl)) _ | exact hk)) | (intros; subst_vars; first | exact hk.set (.inr (.inl rfl)) _ | exact hk.set (.inr (.inr rfl)) _ | exact hk) | (simp_all; done)
theorem QmS (hr:∀a∈rs,InR m a)(hs:∀a∈rs,a.2.1=sig→a.1≠a.2.2.2)(hk:Kn vs)(hl:vs.length=m):XU sig rs (vs.map qm)=(XA sig rs vs ch).map (fun r=>r.1.map qm)∧∀vs' c,XA sig rs vs ch=some (vs',c)→Kn vs':=by
  induction rs generalizing vs ch with
  | nil=>exact ⟨rfl,fun vs' c h=>by rw[XA] at h; cases h; exact hk⟩
  | cons a rs ih=>
    obtain ⟨h1,h2⟩:=QmP hk (by rw[hl]; exact hr a (aA ..)) (hs a (aA ..))
    rw[XU,XA,h1]
    cases hst:XI sig a vs with
    | none=>exact ⟨rfl,fun vs' c h=>by cases h⟩
    | some r=>
      obtain ⟨v1,c1⟩:=r
      exact ih (fun b hb=>hr b (aD _ hb)) (fun b hb=>hs b (aD _ hb)) (h2 _ _ hst) ((XN (by rw[hl]; exact hr a (aA ..)) hst).1.trans hl)
theorem Qgt (h:XU sig arcs us=some us):∀f,WV sig arcs f us=some us
  | 0=>rfl
  | f+1=>by rw[WV,h]; exact Qgt h f
theorem QhM (hr:∀a∈arcs,InR m a)(hs:∀a∈arcs,a.2.1=sig→a.1≠a.2.2.2):∀{f:Nat} {vs:List UInt8},Kn vs→vs.length=m→Yx vs < f→WV sig arcs f (vs.map qm)=(WZ sig arcs f vs).map (List.map qm)∧∀vs',WZ sig arcs f vs=some vs'→Kn vs'
  | 0,_,_,_,h=>by omega
  | f+1,vs,hk,hl,h=>by
    obtain ⟨h1,h2⟩:=QmS (ch:=false) hr hs hk hl
    rw[WV,WZ,h1]
    cases hp:XA sig arcs vs false with
    | none=>exact ⟨rfl,fun vs' h=>by cases h⟩
    | some r=>
      obtain ⟨v1,c1⟩:=r
      obtain ⟨k1,k2,k3,k4⟩:=Qap hr hl hp
      cases c1 with
      | true=>
        rcases k3 rfl with h3 | h3
        · cases h3
        · have h3 : Yx v1 < Yx vs := h3
          exact QhM hr hs (h2 _ _ hp) k1 (show Yx v1 < f by omega)
      | false=>
        obtain ⟨rfl,_⟩:=k4 rfl
        rw[hp] at h1
        exact ⟨Qgt h1 f,fun vs' h=>by cases h; exact hk⟩
theorem Qk5 (vs:List UInt8)(i:Nat)(c:UInt8):agb vs i c=if bv vs i=c then (vs,true,false) else if bv vs i=0 then (vs.set i c,true,true) else (vs,false,false):=rfl
theorem Qjy (hl:a.2.1=sig)(he:a.1=a.2.2.2)(hi:a.1.toNat < vs.length):XI sig a vs=none:=by
  unfold XI
  rw[if_pos hl,← he]
  have h0:=Qhu a.2.2.1
  have h1:=Qhu (!a.2.2.1)
  have h2:(if (!a.2.2.1)=true then (49:UInt8) else 48)≠(if a.2.2.1=true then 49 else 48):=by cases a.2.2.1 <;> decide
  generalize (if (!a.2.2.1)=true then (49:UInt8) else 48)=f0 at h1 h2 ⊢
  generalize (if a.2.2.1=true then (49:UInt8) else 48)=t0 at h0 h2 ⊢
  rw[if_neg]
  rintro ⟨k1,k2⟩
  have k3:bv (agb vs a.1.toNat f0).1 a.1.toNat=f0:=by
    rw[Qk5] at k1 ⊢
    split
    · assumption
    · rename_i h3
      rw[if_neg h3] at k1
      split
      · exact YT (aU hi)
      · rename_i h4
        rw[if_neg h4] at k1
        cases k1
  rw[Qk5 (agb vs a.1.toNat f0).1,k3,if_neg h2,if_neg h1] at k2
  cases k2
theorem Qki {b:DAr}(hr:∀a∈rs,InR m a)(hlen:vs.length=m)(hm:b∈rs)(hl:b.2.1=sig)(he:b.1=b.2.2.2):XA sig rs vs ch=none:=by
  induction rs generalizing vs ch with
  | nil=>cases hm
  | cons a rs ih=>
    have ha:=hr a (aA ..)
    rw[XA]
    cases hst:XI sig a vs with
    | none=>rfl
    | some r=>
      obtain ⟨v1,c1⟩:=r
      rcases aG.1 hm with rfl | hm
      · have := ha.1
        rw[Qjy hl he (by omega)] at hst
        cases hst
      · exact ih (fun b hb=>hr b (aD _ hb)) ((XN (by rw[hlen]; exact ha) hst).1.trans hlen) hm
theorem Qnh (h:Xi sig a us=some us'):us'.length=us.length:=by
  unfold Xi at h
  generalize (if (!a.2.2.1)=true then (49:UInt8) else 48)=f0 at h
  generalize (if a.2.2.1=true then (49:UInt8) else 48)=t0 at h
  split at h
  · split at h
    · cases h
    · cases h; simp
  · split at h
    · cases h; simp
    · split at h
      · cases h
      · cases h; simp
theorem QdO {c:UInt8}(h:Xi sig a us=some us')(hc:us[i]? =some c)(h0:c≠63):us'[i]? =some c:=by
  have hi:=(au.1 hc).1
  have hset:∀x y:UInt8,(i=a.2.2.2.toNat→y=c)→(i=a.1.toNat→x=c)→((us.set a.1.toNat x).set a.2.2.2.toNat y)[i]? =some c:=fun x y h1 h2=>by
    by_cases e1:a.2.2.2.toNat=i
    · rw[e1,aU (by simpa using hi),h1 e1.symm]
    · rw [aX e1]
      by_cases e2:a.1.toNat=i
      · rw[e2,aU hi,h2 e2.symm]
      · rw[aX e2]; exact hc
  unfold Xi at h
  generalize (if (!a.2.2.1)=true then (49:UInt8) else 48)=f0 at h
  generalize (if a.2.2.1=true then (49:UInt8) else 48)=t0 at h
  split at h
  · split at h
    · cases h
    · rename_i h2
      cases h
      refine hset _ _ (fun e=> ?_) (fun e=> ?_)
      · rw [← e, YT hc] at h2
        exact bV fun h3=>h2 (.inr ⟨h0,fun e=>h3 e.symm⟩)
      · rw [← e, YT hc] at h2
        exact bV fun h3=>h2 (.inl ⟨h0,fun e=>h3 e.symm⟩)
  · split at h
    · rename_i h2
      cases h
      refine hset _ _ (fun e=> ?_) (fun e=> ?_)
      · rw[← e,YT hc]
      · rw[← e,YT hc] at h2; exact absurd h2 h0
    · split at h
      · cases h
      · rename_i h2 h3
        cases h
        refine hset _ _ (fun e=> ?_) (fun e=> ?_)
        · rw [← e, YT hc] at h3
          exact bV fun h4=>h3 ⟨h0,fun e=>h4 e.symm⟩
        · rw[← e,YT hc]
theorem Qji {c:UInt8}(h:XU sig rs us=some us')(hc:us[i]? =some c)(h0:c≠63):us'[i]? =some c:=by
  induction rs generalizing us with
  | nil=>rw[XU] at h; cases h; exact hc
  | cons a rs ih=>
    rw[XU] at h
    cases hst:Xi sig a us with
    | none=>rw[hst] at h; cases h
    | some u1=>rw[hst] at h; exact ih h (QdO hst hc h0)
theorem QkK {b:DAr}(hm:b∈rs)(hl:b.2.1=sig)(he:b.1=b.2.2.2)(hi:b.1.toNat < us.length)(h:XU sig rs us=some us'):∃c,us'[b.1.toNat]? =some c∧c≠63:=by
  induction rs generalizing us with
  | nil=>cases hm
  | cons a rs ih=>
    rw[XU] at h
    cases hst:Xi sig a us with
    | none=>rw[hst] at h; cases h
    | some u1=>
      rw[hst] at h
      rcases aG.1 hm with rfl | hm
      · have h2:u1[b.1.toNat]? =some (if b.2.2.1=true then 49 else 48):=by
          unfold Xi at hst
          rw[if_pos hl] at hst
          generalize (if (!b.2.2.1)=true then (49:UInt8) else 48)=f0 at hst
          generalize (if b.2.2.1=true then (49:UInt8) else 48)=t0 at hst ⊢
          split at hst
          · cases hst
          · cases hst
            rw[← he,aU (by simpa using hi)]
        have h3:(if b.2.2.1=true then (49:UInt8) else 48)≠63:=by cases b.2.2.1 <;> decide
        exact ⟨_,Qji h h2 h3,h3⟩
      · exact ih hm (by rw[Qnh hst]; exact hi) h
theorem Qjg {b:DAr}{c:UInt8}(hm:b∈rs)(hl:b.2.1=sig)(he:b.1=b.2.2.2)(hc:us[b.1.toNat]? =some c)(h0:c≠63):XU sig rs us=none:=by
  induction rs generalizing us with
  | nil=>cases hm
  | cons a rs ih=>
    rw[XU]
    rcases aG.1 hm with rfl | hm
    · have:Xi sig b us=none:=by
        unfold Xi
        rw[if_pos hl,← he,YT hc,if_pos]
        have h2:(if (!b.2.2.1)=true then (49:UInt8) else 48)≠(if b.2.2.1=true then 49 else 48):=by cases b.2.2.1 <;> decide
        by_cases e:c=(if (!b.2.2.1)=true then (49:UInt8) else 48)
        · exact .inr ⟨h0,fun e2=>h2 (e.symm.trans e2)⟩
        · exact .inl ⟨h0,e⟩
      rw[this]
    · cases hst : Xi sig a us with
      | none=>rfl
      | some u1=>exact ih hm (QdO hst hc h0)
def q0 (c:UInt8):UInt8:=if c=63 then 48 else c
theorem Qs4 (hk:Kn vs):(vs.map qm).map q0=vs.map fz:=by
  rw[cG]
  refine ck fun c hc=> ?_
  rcases hk c hc with rfl | rfl | rfl <;> rfl
theorem QeN {n:Nat}(hr:∀a∈arcs,InR n a):((l5V n arcs sig).2=false∧(YG n arcs sig).2=false∧l5V n arcs sig=(⟨#[]⟩,false)∧YG n arcs sig=([],false))∨∃us:List UInt8,l5V n arcs sig=(⟨us.toArray⟩,true)∧us.length=n∧YG n arcs sig=(us.map q0,true):=by
  by_cases hself:∃b∈arcs,b.2.1=sig∧b.1=b.2.2.2
  · obtain ⟨b, hb, hl, he⟩ := hself
    have hV:WZ sig arcs (n+1) (List.replicate n 0)=none:=by rw[WZ,Qki hr (by simp) hb hl he]
    obtain ⟨⟨r1,r2⟩,_,_⟩:=hr b hb
    have hS:WV sig arcs (n+1) (List.replicate n 63)=none:=by
      obtain ⟨n',rfl⟩:∃n',n=n'+1:=⟨n - 1,by omega⟩
      rw[WV]
      cases hp:XU sig arcs (List.replicate (n'+1) 63) with
      | none=>rfl
      | some u1=>
        obtain ⟨c,h1,h2⟩:=QkK hb hl he (by simp; omega) hp
        show WV sig arcs (n'+1) u1=none
        rw[WV,Qjg hb hl he h1 h2]
    exact .inl ⟨by rw[VC hS],by rw[Wb hV],VC hS,Wb hV⟩
  · have hs : ∀ a ∈ arcs, a.2.1 = sig → a.1 ≠ a.2.2.2 := fun a ha h1 h2 => hself ⟨a, ha, h1, h2⟩
    obtain ⟨h1,h2⟩:=QhM (f:=n+1) (vs:=List.replicate n 0) hr hs (fun c hc=> .inl (cq hc)) (by simp) (by rw[QhO]; omega)
    have e:(List.replicate n (0:UInt8)).map qm=List.replicate n 63:=by rw[List.map_replicate]; rfl
    rw[e] at h1
    cases hv:WZ sig arcs (n+1) (List.replicate n 0) with
    | none=>
      rw[hv] at h1
      exact .inl ⟨by rw[VC h1],by rw[Wb hv],VC h1,Wb hv⟩
    | some vs=>
      rw[hv] at h1
      refine .inr ⟨vs.map qm,Qhh h1, ?_, ?_⟩
      · have:∀{f:Nat} {v v':List UInt8},v.length=n→WZ sig arcs f v=some v'→v'.length=n:=fun {f}=>by
          induction f with
          | zero=>intro v v' hl h; rw[WZ] at h; cases h; exact hl
          | succ f ih=>
            intro v v' hl h
            rw[WZ] at h
            cases hp:XA sig arcs v false with
            | none=>rw[hp] at h; cases h
            | some r=>
              obtain ⟨v1,c1⟩:=r
              rw[hp] at h
              have k1:=(Qap hr hl hp).1
              cases c1 with
              | true=>exact ih k1 h
              | false=>cases h; exact k1
        rw[av]
        exact this (by simp) hv
      · rw[QbR hv,Qs4 (h2 _ hv)]
end
end Go.Proofs.YtjaadeknhofhpaaGreat
namespace Go.Proofs.YtjaadeknhofhpaaGreat
open Go.RowKit
set_option maxRecDepth 100000
set_option maxHeartbeats 4000000
section
variable {sig:Int}{us us':List UInt8}{arcs:List DAr}{f k n:Nat}{cf ct b1 b2:UInt8}{mv:DMv}{lb:ZD}{ls:List ZD}{ms:List DMv}
theorem Qpw (ls:List ZD)(ms:List DMv):(Q1 ls ms).length=ms.length:=by simp[Q1]
theorem YH (hx:ms[k]? =some mv)(hla:Qd7 ls mv.2.1=lb):(Q1 ls ms)[k]? =some (mv.1,lb.1,lb.2,mv.2.2):=by
  unfold Q1
  rw[bj,hx]
  simp[Qel,hla]
def ar4 (mv:DMv)(lb:ZD):DAr:=(mv.1,lb.1,lb.2,mv.2.2)
theorem Wy (hl:¬lb.1=sig)(hf:us[mv.1.toNat]? =some cf)(hq:decide (cf=63)=true)(ht:us[mv.2.2.toNat]? =some ct):Xi sig (mv.1,lb.1,lb.2,mv.2.2) us=some ((us.set mv.1.toNat ct).set mv.2.2.toNat ct):=by
  unfold Xi
  simp only
  rw[if_neg hl,YT hf,YT ht,if_pos (a8 hq)]
theorem Wq (hl:¬lb.1=sig)(hf:us[mv.1.toNat]? =some cf)(hq:decide (cf=63)=false)(ht:us[mv.2.2.toNat]? =some ct)(h2:ct=63∨ct=cf):Xi sig (mv.1,lb.1,lb.2,mv.2.2) us=some ((us.set mv.1.toNat cf).set mv.2.2.toNat cf):=by
  unfold Xi
  simp only
  rw[if_neg hl,YT hf,YT ht,if_neg (a7 hq),if_neg]
  rintro ⟨h3,h4⟩
  rcases h2 with h | h
  · exact h3 h
  · exact h4 h
theorem WB (hl:¬lb.1=sig)(hf:us[mv.1.toNat]? =some cf)(hq:decide (cf=63)=false)(ht:us[mv.2.2.toNat]? =some ct)(h1:¬ct=63)(h2:¬ct=cf):Xi sig (mv.1,lb.1,lb.2,mv.2.2) us=none:=by
  unfold Xi
  simp only
  rw[if_neg hl,YT hf,YT ht,if_neg (a7 hq),if_pos ⟨h1,h2⟩]
theorem QcY {b:Bool}{c:UInt8}(h:(KX b)[((0:Int)).toNat]? =some c):(if b=true then 49 else 48)=c:=by
  have:(KX b)[((0:Int)).toNat]? =some (if b=true then 49 else 48):=by cases b <;> rfl
  rw[this] at h
  exact Option.some.inj h
theorem Wz (hl:lb.1=sig)(h1:(KX (!lb.2))[((0:Int)).toNat]? =some b1)(h2:(KX lb.2)[((0:Int)).toNat]? =some b2)(hf:cf=63∨cf=b1)(ht:ct=63∨ct=b2)(hcf:us[mv.1.toNat]? =some cf)(hct:us[mv.2.2.toNat]? =some ct):
    Xi sig (mv.1,lb.1,lb.2,mv.2.2) us=some ((us.set mv.1.toNat b1).set mv.2.2.toNat b2):=by
  unfold Xi
  simp only
  rw[if_pos hl,QcY h1,QcY h2,YT hcf,YT hct,if_neg]
  rintro (⟨h3,h4⟩ | ⟨h3,h4⟩)
  · rcases hf with h | h
    · exact h3 h
    · exact h4 h
  · rcases ht with h | h
    · exact h3 h
    · exact h4 h
theorem XT (hl:lb.1=sig)(h1:(KX (!lb.2))[((0:Int)).toNat]? =some b1)(hcf:us[mv.1.toNat]? =some cf)(h3:¬cf=63)(h4:¬cf=b1):Xi sig (mv.1,lb.1,lb.2,mv.2.2) us=none:=by
  unfold Xi
  simp only
  rw[if_pos hl,QcY h1,YT hcf,if_pos (.inl ⟨h3,h4⟩)]
theorem XO (hl:lb.1=sig)(h1:(KX lb.2)[((0:Int)).toNat]? =some b2)(hct:us[mv.2.2.toNat]? =some ct)(h3:¬ct=63)(h4:¬ct=b2):Xi sig (mv.1,lb.1,lb.2,mv.2.2) us=none:=by
  unfold Xi
  simp only
  rw[if_pos hl,QcY h1,YT hct,if_pos (.inr ⟨h3,h4⟩)]
def H7 (n k:Nat):List UInt8:=List.replicate k 63++List.replicate (n - k) 0
theorem QfD (n k:Nat)(h:k≤n):(H7 n k).length=n:=by simp[H7]; omega
theorem QmC (h:n≤k)(h2:k≤n):H7 n k=List.replicate n 63:=by
  obtain rfl:k=n:=by omega
  simp[H7]
theorem Qme (h:k < n):(H7 n k).set k 63=H7 n (k+1):=by
  unfold H7
  rw[List.set_append_right _ _ (by simp),az,Nat.sub_self,show n - k=(n - (k+1))+1 by omega,List.replicate_succ,List.set_cons_zero,List.replicate_succ']
  simp
def WR (n:Nat)(arcs:List DAr):Nat→List Int
  | 0=>[]
  | k+1=>WR n arcs k++(if (l5V n arcs (k:Int)).2=true then [] else [(k:Int)])
theorem Qm2 (n:Nat)(arcs:List DAr)(k:Nat):(WR n arcs k).length≤k:=by
  induction k with
  | zero=>simp[WR]
  | succ k ih=>simp only[WR,aa]; split <;> simp <;> omega
theorem Qgr (h:(l5V n arcs (k:Int)).2=true):WR n arcs k=WR n arcs (k+1):=by simp[WR,h]
theorem QiT (h:(l5V n arcs (k:Int)).2=false):WR n arcs k++[(k:Int)]=WR n arcs (k+1):=by simp[WR,h]
end
def MvOk (n m:Nat)(v:DMv):Prop:=(0≤v.1∧v.1 < (n:Int))∧(0≤v.2.1∧v.2.1 < (m:Int))∧0≤v.2.2∧v.2.2 < (n:Int)
theorem Qac (up:Bool):FC Tryz.prog 272 [(false,[dB up])] [] 0 (Yj (lf (dS (KX up)))):=by
 refine QO Tryz.func272 rfl rfl Tryz.ntmps272 fun O_ hO w0_ N0_ X_ h0_ f0_=> ?_
 iterate 7 refine w_ ?_
 cases hb1:(up)
 iterate 6 refine w_ ?_
 subst hO
 have e2:((⟨#[48]⟩:ByteArray):ByteArray)=(KX up):=by
  simp[KX, *]
 exact Qi (Qg rfl (Qd rfl)) (by rw[e2] <;> rfl) rfl
 iterate 5 refine w_ ?_
 subst hO
 have e3:((⟨#[49]⟩:ByteArray):ByteArray)=(KX up):=by
  simp[KX, *]
 exact Qi (Qg rfl (Qd rfl)) (by rw[e3] <;> rfl) rfl
theorem Kc (s:(Int×(List (List Int×List Int)))×(List (ByteArray×Int))×(List (Int×Bool))×ByteArray)(r:List ByteArray×(List (Int×Int×Int)))(sig:Int)(hm:∀m∈r.2,MvOk r.1.length s.2.2.1.length m)(hl1:r.1.length≤1000000):FC Tryz.prog 208 [(true,[dI s.1.1, .dat QZ s.1.2, .dat QJ s.2.1, .dat QR s.2.2.1,dS s.2.2.2]),(true,[.dat Zr r.1, .dat Xu r.2]),(false,[dI sig])] [] 0 (Yj (PV.tup [(false,[dS ((l5V r.1.length (Q1 s.2.2.1 r.2) sig).1)]),(false,[dB ((l5V r.1.length (Q1 s.2.2.1 r.2) sig).2)])])):=by
 have hrl:(List.replicate r.1.length (Ty.zero .u8)).length=r.1.length:=az ..
 refine QO Tryz.func208 rfl rfl Tryz.ntmps208 fun O_ hO w0_ N0_ X_ h0_ f0_=> ?_
 refine AC.fact (QI (x:= .tmp 0) (i:=0) (Qb rfl) rfl) fun hi1=>AC.fact (QC (x:= .tmp 2) (Qa rfl)) fun hi2=> ?_
 refine w_ ?_
 refine lc (Qy 0 (Qb rfl) rfl rfl (Fresh.of rfl) (nlr rfl))<|lc (Qy 1 (Qb rfl) rfl rfl (Fresh.of rfl) (nlr rfl)) ?_
 iterate 6 refine w_ ?_
 refine AL.fact (Qo (x:= .tmp 18) (Qa rfl)) fun hl3=> ?_
 refine w_ ?_
 refine lc (Kg 2 (e:= .u8) (n:=r.1.length) (Qa rfl) (Qa rfl) Ze Qq5 rfl (by omega) (by omega) rfl (Fresh.of rfl) (nlr rfl)) ?_
 iterate 9 refine w_ ?_
 refine Qu (fun m_ s_=>∃(k:Nat),k≤r.1.length∧m_=r.1.length - k∧s_=⟨[(2,lI sig),(3,lP 0 0),(4,lP 1 0),(6,lf (dS (⟨#[]⟩:ByteArray))),(7,lB false),(8,lR 3),(22,lI ((List.replicate r.1.length (Ty.zero .u8)).length:Int)),(23,lI (k:Int))],[(0,some (.box 29 [dI s.1.1, .dat QZ s.1.2, .dat QJ s.2.1, .dat QR s.2.2.1,dS s.2.2.2])),(1,some (.box 164 [.dat Zr r.1, .dat Xu r.2])),(3,some (.arr 5 .u8 (H7 r.1.length k)))]⟩) ⟨0,aw _,rfl,rfl⟩ ?_ ?_
 exact wp [(0,0),(1,1),(3,2)] ⟨rfl,rfl,(Qp (rfl)),trivial⟩
 rintro m_ s_ ⟨k,hk4,hm5,rfl⟩
 have hfq:=QfD r.1.length k (by omega)
 iterate 4 refine w_ ?_
 cases hb6:(decide ((k:Int) < ((List.replicate r.1.length (Ty.zero .u8)).length:Int)))
 have hb6':=a7 hb6
 iterate 8 refine w_ ?_
 refine Qu (fun m_ s_=>∃(p:Nat) (us:List UInt8),p≤(r.1.length+1)∧m_=(r.1.length+1) - p∧(WV sig (Q1 s.2.2.1 r.2) (r.1.length+1) (List.replicate r.1.length 63)=WV sig (Q1 s.2.2.1 r.2) (r.1.length+1 - p) us)∧(us.length=r.1.length)∧s_=⟨[(2,lI sig),(3,lP 0 0),(4,lP 1 0),(8,lR 4),(10,lI (p:Int))],[(0,some (.box 29 [dI s.1.1, .dat QZ s.1.2, .dat QJ s.2.1, .dat QR s.2.2.1,dS s.2.2.2])),(1,some (.box 164 [.dat Zr r.1, .dat Xu r.2])),(4,some (.arr 5 .u8 us))]⟩) ⟨0,H7 r.1.length k,aw _,rfl,(by rw[QmC (by omega) (by omega)]; rfl),(QfD _ _ (by omega)),rfl⟩ ?_ ?_
 exact wp [(0,0),(1,1),(4,3)] ⟨rfl,rfl,(Qp (by first | rfl | simp)),trivial⟩
 rintro m_ s_ ⟨p,us,hk7,hm8,hA,hL,rfl⟩
 iterate 5 refine w_ ?_
 refine AL.fact (Qo (x:= .tmp 32) (Qa rfl)) fun hl9=> ?_
 iterate 3 refine w_ ?_
 cases hb10:(decide ((p:Int)≤(r.1.length:Int)))
 have hb10':=a7 hb10
 iterate 5 refine w_ ?_
 refine lc (Xp (ys:=us) (Uq (Qa rfl) rfl) Ze JA ZS rfl) ?_
 iterate 4 refine w_ ?_
 subst hO
 have e11:((⟨(us).toArray⟩:ByteArray):ByteArray)=((l5V r.1.length (Q1 s.2.2.1 r.2) sig).1):=by
  first | (rw[Qhh (us:=us) (by rw[hA,show r.1.length+1 - p=0 by omega]; rfl)]; done)
 have e12:(true:Bool)=((l5V r.1.length (Q1 s.2.2.1 r.2) sig).2):=by
  first | (rw[Qhh (us:=us) (by rw[hA,show r.1.length+1 - p=0 by omega]; rfl)]; done)
 exact Qi (QB rfl (Qd rfl) (Qd rfl)) (by rw[e11,← e12] <;> rfl) rfl
 have hb10':=a8 hb10
 iterate 7 refine w_ ?_
 refine AL.fact (Qo (x:= .tmp 38) (Qa rfl)) fun hl13=> ?_
 iterate 4 refine w_ ?_
 refine Qu (fun m_ s_=>∃(i:Nat) (us2:List UInt8),i≤r.2.length∧m_=r.2.length - i∧(WV sig (Q1 s.2.2.1 r.2) (r.1.length+1) (List.replicate r.1.length 63)=Qaj sig (Q1 s.2.2.1 r.2) (r.1.length - p) (XU sig ((Q1 s.2.2.1 r.2).drop i) us2))∧(us2.length=r.1.length)∧s_=⟨[(2,lI sig),(3,lP 0 0),(4,lP 1 0),(8,lR 5),(10,lI (p:Int)),(30,lI (p:Int)),(31,lP 1 0),(32,lf (.dat Zr r.1)),(33,lI (r.1.length:Int)),(34,lB true),(37,lP 1 1),(38,lf (.dat Xu r.2)),(39,lI (r.2.length:Int)),(40,lI (i:Int))],[(0,some (.box 29 [dI s.1.1, .dat QZ s.1.2, .dat QJ s.2.1, .dat QR s.2.2.1,dS s.2.2.2])),(1,some (.box 164 [.dat Zr r.1, .dat Xu r.2])),(5,some (.arr 5 .u8 us2))]⟩) ⟨0,us,aw _,rfl,(by rw[hA,show r.1.length+1 - p=(r.1.length - p)+1 by omega]; exact QoU _ _),hL,rfl⟩ ?_ ?_
 exact wo [(0,0),(1,1),(5,4)]
 rintro m_ s_ ⟨i,us2,hk14,hm15,hA2,hL2,rfl⟩
 iterate 4 refine w_ ?_
 cases hb16:(decide ((i:Int) < (r.2.length:Int)))
 have hb16':=a7 hb16
 iterate 7 refine w_ ?_
 refine Qm<|QV ⟨p+1,us2,by omega,rfl,(by rw[hA2,QmG (by rw[Qpw]; omega),show r.1.length+1 - (p+1)=r.1.length - p by omega]; rfl),hL2,rfl⟩ (by omega) ?_
 exact wo [(0,0),(1,1),(4,5)]
 have hb16':=a8 hb16
 iterate 5 refine w_ ?_
 obtain ⟨mv,hx18⟩:=gx r.2 i
 obtain ⟨⟨hm1,hm2⟩,⟨hm3,hm4⟩,hm5,hm6⟩:=hm _ (ai hx18)
 refine lc (Qh (Qa rfl) (Qa rfl) Ys Yc rfl (by omega) hx18) ?_
 refine w_ ?_
 refine lc (Qj 6 ZZ Xm rfl rfl (Fresh.of rfl) (nlr rfl))<|lc (Qc (Qa rfl) rfl (Qb rfl) rfl Yc rfl) ?_
 iterate 6 refine w_ ?_
 refine AL.fact (QC (x:= .tmp 47) (Qa rfl)) fun hi19=> ?_
 obtain ⟨lb,hx21⟩:=gx s.2.2.1 ((mv.2.1).toNat)
 have hla:=Qdm hx21
 refine lc (Qh (Qa rfl) (Qa rfl) Yq ZO rfl (by omega) hx21) ?_
 refine w_ ?_
 refine lc (Qj 7 Q5 WF rfl rfl (Fresh.of rfl) (nlr rfl))<|lc (Qc (Qa rfl) rfl (Qb rfl) rfl ZO rfl) ?_
 iterate 5 refine w_ ?_
 refine AL.fact (QC (x:= .tmp 51) (Qa rfl)) fun hi22=> ?_
 iterate 3 refine w_ ?_
 cases hb23:(!decide (lb.1=sig))
 have hb23':(lb.1=sig):=Zm hb23
 iterate 2 refine w_ ?_
 obtain ⟨c24,hc25⟩:∃z,(KX (!lb.2))[(0:Int).toNat]? =some z:=by first | exact ⟨_,getElem?_pos _ _ (by omega)⟩ | exact ⟨_,rfl⟩
 obtain ⟨c26,hc27⟩:∃z,(KX lb.2)[(0:Int).toNat]? =some z:=by first | exact ⟨_,getElem?_pos _ _ (by omega)⟩ | exact ⟨_,rfl⟩
 refine dw [io 95 (lP 7 1),io 96 (lB lb.2),io 97 (lB (!lb.2)),io 98 (lf (dS (KX (!lb.2)))),io 99 (lf (.dat .u8 c24)),io 100 (lP 7 1),io 101 (lB lb.2),io 102 (lf (dS (KX lb.2))),io 103 (lf (.dat .u8 c26)),io 15 (lf (.dat .u8 c24)),io 16 (lf (.dat .u8 c26))] [0,1,3,7,15,0,32,111,239,255,1023] mixed rfl (by kernel_rfl) ⟨dxf QiW rfl rfl rfl,dxl Uj rfl rfl rfl rfl rfl,fun _ h_=>ac (WD (h_.v rfl) rfl) rfl,fun _ h_=>ac (Ql (Qac (!lb.2)) Qee ⟨_,_,rfl,(h_.w rfl),rfl⟩ rfl rfl) rfl,fun _ h_=>ac (ZY (h_.v rfl) (Qv rfl) rfl ZS (by omega) hc25) rfl,dxf QiW rfl rfl rfl,dxl Uj rfl rfl rfl rfl rfl,fun _ h_=>ac (Ql (Qac lb.2) Qee ⟨_,_,rfl,(h_.w rfl),rfl⟩ rfl rfl) rfl,fun _ h_=>ac (ZY (h_.v rfl) (Qv rfl) rfl ZS (by omega) hc27) rfl,dxt rfl rfl,dxt rfl rfl,⟨⟩⟩ ?_
 iterate 5 refine w_ ?_
 refine AL.fact (QC (x:= .tmp 106) (Qa rfl)) fun hi28=>lc (Qw (e:= .u8) (Qa rfl) rfl (Qa rfl) Ze Q2 rfl (by omega) (by first | omega | (simp only[aq]; omega))) ?_
 obtain ⟨cf,hx30⟩:=gx us2 ((mv.1).toNat)
 refine lc (QP (e:= .u8) (Qa rfl) rfl hx30 rfl Q2 rfl rfl)<|lc (YU (Qa rfl) (ZJ 63 rfl) rfl) ?_
 refine w_ ?_
 cases hb31:(!decide (cf=63))
 have hb31':(cf=63):=Zm hb31
 iterate 12 refine w_ ?_
 refine lgy rfl rfl (Qw (e:= .u8) (Qa rfl) rfl (Qa rfl) Ze Q2 rfl (by omega) (by first | omega | (simp only[aq]; omega))) ?_
 obtain ⟨ct,hx33⟩:=gx us2 ((mv.2.2).toNat)
 refine lgy rfl rfl (QP (e:= .u8) (Qa rfl) rfl hx33 rfl Q2 rfl rfl)<|lgy rfl rfl (YU (Qa rfl) (ZJ 63 rfl) rfl) ?_
 refine w_ ?_
 cases hb34:(!decide (ct=63))
 have hb34':(ct=63):=Zm hb34
 iterate 17 refine w_ ?_
 refine lc (Qw (e:= .u8) (Qa rfl) rfl (Qa rfl) Ze Q2 rfl (by omega) (by first | omega | (simp only[aq]; omega)))<|lc (Q6 (e:= .u8) (z':=c24) (Qa rfl) rfl hx30 rfl (Qb rfl) rfl Q2 rfl rfl) ?_
 iterate 5 refine w_ ?_
 refine AL.fact (QC (x:= .tmp 143) (Qa rfl)) fun hi35=> ?_
 refine w_ ?_
 refine lc (Qw (e:= .u8) (Qa rfl) rfl (Qa rfl) Ze Q2 rfl (by omega) (by first | omega | (simp only[aq]; omega))) ?_
 obtain ⟨x36,hx37⟩:∃z,(us2.set ((mv.1).toNat) c24)[(mv.2.2).toNat]? =some z:=⟨_,ap (by first | omega | (simp only[aq]; omega))⟩
 refine lc (Q6 (e:= .u8) (z':=c26) (Qa rfl) rfl hx37 rfl (Qb rfl) rfl Q2 rfl rfl)<|Qm ?_
 iterate 4 refine w_ ?_
 refine Qm<|QV ⟨i+1,((us2.set ((mv.1).toNat) c24).set ((mv.2.2).toNat) c26),by omega,rfl,hA2.trans (congrArg (Qaj sig (Q1 s.2.2.1 r.2) (r.1.length - p)) (Vv (YH hx18 hla) (by first | exact Wy (cf:=cf) (ct:=ct) ‹_› ‹_› ‹_› ‹_› | exact Wq (cf:=cf) (ct:=ct) ‹_› ‹_› ‹_› ‹_› (by first | exact .inl ‹_› | exact .inr ‹_›) | exact Wz (cf:=cf) (ct:=ct) ‹_› ‹_› ‹_› (by first | exact .inl ‹_› | exact .inr ‹_›) (by first | exact .inl ‹_› | exact .inr ‹_›) ‹_› ‹_›))),(by simp only[aq]; exact hL2),rfl⟩ (by omega) ?_
 exact wp [(0,0),(1,1),(5,5)] ⟨rfl,rfl,(Qp (by first | rfl | simp)),trivial⟩
 have hb34':¬(ct=63):=Zx hb34
 iterate 3 refine w_ ?_
 refine lgy rfl rfl (Qw (e:= .u8) (Qa rfl) rfl (Qa rfl) Ze Q2 rfl (by omega) (by first | omega | (simp only[aq]; omega)))<|lgy rfl rfl (QP (e:= .u8) (Qa rfl) rfl hx33 rfl Q2 rfl rfl) ?_
 iterate 5 refine w_ ?_
 cases hb38:(!decide (ct=c26))
 have hb38':(ct=c26):=Zm hb38
 iterate 7 refine w_ ?_
 refine lc (Qw (e:= .u8) (Qa rfl) rfl (Qa rfl) Ze Q2 rfl (by omega) (by first | omega | (simp only[aq]; omega)))<|lc (Q6 (e:= .u8) (z':=c24) (Qa rfl) rfl hx30 rfl (Qb rfl) rfl Q2 rfl rfl) ?_
 iterate 5 refine w_ ?_
 refine AL.fact (QC (x:= .tmp 143) (Qa rfl)) fun hi39=> ?_
 refine w_ ?_
 refine lc (Qw (e:= .u8) (Qa rfl) rfl (Qa rfl) Ze Q2 rfl (by omega) (by first | omega | (simp only[aq]; omega))) ?_
 obtain ⟨x40,hx41⟩:∃z,(us2.set ((mv.1).toNat) c24)[(mv.2.2).toNat]? =some z:=⟨_,ap (by first | omega | (simp only[aq]; omega))⟩
 refine lc (Q6 (e:= .u8) (z':=c26) (Qa rfl) rfl hx41 rfl (Qb rfl) rfl Q2 rfl rfl)<|Qm ?_
 iterate 4 refine w_ ?_
 refine Qm<|QV ⟨i+1,((us2.set ((mv.1).toNat) c24).set ((mv.2.2).toNat) c26),by omega,rfl,hA2.trans (congrArg (Qaj sig (Q1 s.2.2.1 r.2) (r.1.length - p)) (Vv (YH hx18 hla) (by first | exact Wy (cf:=cf) (ct:=ct) ‹_› ‹_› ‹_› ‹_› | exact Wq (cf:=cf) (ct:=ct) ‹_› ‹_› ‹_› ‹_› (by first | exact .inl ‹_› | exact .inr ‹_›) | exact Wz (cf:=cf) (ct:=ct) ‹_› ‹_› ‹_› (by first | exact .inl ‹_› | exact .inr ‹_›) (by first | exact .inl ‹_› | exact .inr ‹_›) ‹_› ‹_›))),(by simp only[aq]; exact hL2),rfl⟩ (by omega) ?_
 exact wp [(0,0),(1,1),(5,5)] ⟨rfl,rfl,(Qp (by first | rfl | simp)),trivial⟩
 have hb38':¬(ct=c26):=Zx hb38
 iterate 6 refine w_ ?_
 subst hO
 have e42:((⟨#[]⟩:ByteArray):ByteArray)=((l5V r.1.length (Q1 s.2.2.1 r.2) sig).1):=by
  (rw[VC (by rw[hA2,Wt (YH hx18 hla) (by first | exact WB (cf:=cf) (ct:=ct) ‹_› ‹_› ‹_› ‹_› ‹_› ‹_› | exact XT (cf:=cf) ‹_› ‹_› ‹_› ‹_› ‹_› | exact XO (ct:=ct) ‹_› ‹_› ‹_› ‹_› ‹_›)]; rfl)]; done)
 have e43:(false:Bool)=((l5V r.1.length (Q1 s.2.2.1 r.2) sig).2):=by
  (rw[VC (by rw[hA2,Wt (YH hx18 hla) (by first | exact WB (cf:=cf) (ct:=ct) ‹_› ‹_› ‹_› ‹_› ‹_› ‹_› | exact XT (cf:=cf) ‹_› ‹_› ‹_› ‹_› ‹_› | exact XO (ct:=ct) ‹_› ‹_› ‹_› ‹_› ‹_›)]; rfl)]; done)
 exact Qi (QB rfl (Qd rfl) (Qd rfl)) (by rw[e42,← e43] <;> rfl) rfl
 have hb31':¬(cf=63):=Zx hb31
 iterate 3 refine w_ ?_
 refine lgy rfl rfl (Qw (e:= .u8) (Qa rfl) rfl (Qa rfl) Ze Q2 rfl (by omega) (by first | omega | (simp only[aq]; omega)))<|lgy rfl rfl (QP (e:= .u8) (Qa rfl) rfl hx30 rfl Q2 rfl rfl) ?_
 iterate 4 refine w_ ?_
 cases hb44:(!decide (cf=c24))
 have hb44':(cf=c24):=Zm hb44
 iterate 3 refine w_ ?_
 refine lgy rfl rfl (Qw (e:= .u8) (Qa rfl) rfl (Qa rfl) Ze Q2 rfl (by omega) (by first | omega | (simp only[aq]; omega))) ?_
 obtain ⟨ct,hx46⟩:=gx us2 ((mv.2.2).toNat)
 refine lgy rfl rfl (QP (e:= .u8) (Qa rfl) rfl hx46 rfl Q2 rfl rfl)<|lgy rfl rfl (YU (Qa rfl) (ZJ 63 rfl) rfl) ?_
 refine w_ ?_
 cases hb47:(!decide (ct=63))
 have hb47':(ct=63):=Zm hb47
 iterate 17 refine w_ ?_
 refine lc (Qw (e:= .u8) (Qa rfl) rfl (Qa rfl) Ze Q2 rfl (by omega) (by first | omega | (simp only[aq]; omega)))<|lc (Q6 (e:= .u8) (z':=c24) (Qa rfl) rfl hx30 rfl (Qb rfl) rfl Q2 rfl rfl) ?_
 iterate 5 refine w_ ?_
 refine AL.fact (QC (x:= .tmp 143) (Qa rfl)) fun hi48=> ?_
 refine w_ ?_
 refine lc (Qw (e:= .u8) (Qa rfl) rfl (Qa rfl) Ze Q2 rfl (by omega) (by first | omega | (simp only[aq]; omega))) ?_
 obtain ⟨x49,hx50⟩:∃z,(us2.set ((mv.1).toNat) c24)[(mv.2.2).toNat]? =some z:=⟨_,ap (by first | omega | (simp only[aq]; omega))⟩
 refine lc (Q6 (e:= .u8) (z':=c26) (Qa rfl) rfl hx50 rfl (Qb rfl) rfl Q2 rfl rfl)<|Qm ?_
 iterate 4 refine w_ ?_
 refine Qm<|QV ⟨i+1,((us2.set ((mv.1).toNat) c24).set ((mv.2.2).toNat) c26),by omega,rfl,hA2.trans (congrArg (Qaj sig (Q1 s.2.2.1 r.2) (r.1.length - p)) (Vv (YH hx18 hla) (by first | exact Wy (cf:=cf) (ct:=ct) ‹_› ‹_› ‹_› ‹_› | exact Wq (cf:=cf) (ct:=ct) ‹_› ‹_› ‹_› ‹_› (by first | exact .inl ‹_› | exact .inr ‹_›) | exact Wz (cf:=cf) (ct:=ct) ‹_› ‹_› ‹_› (by first | exact .inl ‹_› | exact .inr ‹_›) (by first | exact .inl ‹_› | exact .inr ‹_›) ‹_› ‹_›))),(by simp only[aq]; exact hL2),rfl⟩ (by omega) ?_
 exact wp [(0,0),(1,1),(5,5)] ⟨rfl,rfl,(Qp (by first | rfl | simp)),trivial⟩
 have hb47':¬(ct=63):=Zx hb47
 iterate 3 refine w_ ?_
 refine lgy rfl rfl (Qw (e:= .u8) (Qa rfl) rfl (Qa rfl) Ze Q2 rfl (by omega) (by first | omega | (simp only[aq]; omega)))<|lgy rfl rfl (QP (e:= .u8) (Qa rfl) rfl hx46 rfl Q2 rfl rfl) ?_
 iterate 5 refine w_ ?_
 cases hb51:(!decide (ct=c26))
 have hb51':(ct=c26):=Zm hb51
 iterate 7 refine w_ ?_
 refine lc (Qw (e:= .u8) (Qa rfl) rfl (Qa rfl) Ze Q2 rfl (by omega) (by first | omega | (simp only[aq]; omega)))<|lc (Q6 (e:= .u8) (z':=c24) (Qa rfl) rfl hx30 rfl (Qb rfl) rfl Q2 rfl rfl) ?_
 iterate 5 refine w_ ?_
 refine AL.fact (QC (x:= .tmp 143) (Qa rfl)) fun hi52=> ?_
 refine w_ ?_
 refine lc (Qw (e:= .u8) (Qa rfl) rfl (Qa rfl) Ze Q2 rfl (by omega) (by first | omega | (simp only[aq]; omega))) ?_
 obtain ⟨x53,hx54⟩:∃z,(us2.set ((mv.1).toNat) c24)[(mv.2.2).toNat]? =some z:=⟨_,ap (by first | omega | (simp only[aq]; omega))⟩
 refine lc (Q6 (e:= .u8) (z':=c26) (Qa rfl) rfl hx54 rfl (Qb rfl) rfl Q2 rfl rfl)<|Qm ?_
 iterate 4 refine w_ ?_
 refine Qm<|QV ⟨i+1,((us2.set ((mv.1).toNat) c24).set ((mv.2.2).toNat) c26),by omega,rfl,hA2.trans (congrArg (Qaj sig (Q1 s.2.2.1 r.2) (r.1.length - p)) (Vv (YH hx18 hla) (by first | exact Wy (cf:=cf) (ct:=ct) ‹_› ‹_› ‹_› ‹_› | exact Wq (cf:=cf) (ct:=ct) ‹_› ‹_› ‹_› ‹_› (by first | exact .inl ‹_› | exact .inr ‹_›) | exact Wz (cf:=cf) (ct:=ct) ‹_› ‹_› ‹_› (by first | exact .inl ‹_› | exact .inr ‹_›) (by first | exact .inl ‹_› | exact .inr ‹_›) ‹_› ‹_›))),(by simp only[aq]; exact hL2),rfl⟩ (by omega) ?_
 exact wp [(0,0),(1,1),(5,5)] ⟨rfl,rfl,(Qp (by first | rfl | simp)),trivial⟩
 have hb51':¬(ct=c26):=Zx hb51
 iterate 6 refine w_ ?_
 subst hO
 have e55:((⟨#[]⟩:ByteArray):ByteArray)=((l5V r.1.length (Q1 s.2.2.1 r.2) sig).1):=by
  (rw[VC (by rw[hA2,Wt (YH hx18 hla) (by first | exact WB (cf:=cf) (ct:=ct) ‹_› ‹_› ‹_› ‹_› ‹_› ‹_› | exact XT (cf:=cf) ‹_› ‹_› ‹_› ‹_› ‹_› | exact XO (ct:=ct) ‹_› ‹_› ‹_› ‹_› ‹_›)]; rfl)]; done)
 have e56:(false:Bool)=((l5V r.1.length (Q1 s.2.2.1 r.2) sig).2):=by
  (rw[VC (by rw[hA2,Wt (YH hx18 hla) (by first | exact WB (cf:=cf) (ct:=ct) ‹_› ‹_› ‹_› ‹_› ‹_› ‹_› | exact XT (cf:=cf) ‹_› ‹_› ‹_› ‹_› ‹_› | exact XO (ct:=ct) ‹_› ‹_› ‹_› ‹_› ‹_›)]; rfl)]; done)
 exact Qi (QB rfl (Qd rfl) (Qd rfl)) (by rw[e55,← e56] <;> rfl) rfl
 have hb44':¬(cf=c24):=Zx hb44
 iterate 7 refine w_ ?_
 refine QQ rfl rfl rfl ?_ rfl
 refine QQ rfl rfl rfl ?_ rfl
 refine QQ rfl rfl rfl ?_ rfl
 refine QQ rfl rfl rfl ?_ rfl
 refine QQ rfl rfl rfl ?_ rfl
 refine QQ rfl rfl rfl ?_ rfl
 refine QQ rfl rfl rfl ?_ rfl
 iterate 9 refine w_ ?_
 subst hO
 have e57:((⟨#[]⟩:ByteArray):ByteArray)=((l5V r.1.length (Q1 s.2.2.1 r.2) sig).1):=by
  (rw[VC (by rw[hA2,Wt (YH hx18 hla) (by first | exact WB (cf:=cf) (ct:=ct) ‹_› ‹_› ‹_› ‹_› ‹_› ‹_› | exact XT (cf:=cf) ‹_› ‹_› ‹_› ‹_› ‹_› | exact XO (ct:=ct) ‹_› ‹_› ‹_› ‹_› ‹_›)]; rfl)]; done)
 have e58:(false:Bool)=((l5V r.1.length (Q1 s.2.2.1 r.2) sig).2):=by
  (rw[VC (by rw[hA2,Wt (YH hx18 hla) (by first | exact WB (cf:=cf) (ct:=ct) ‹_› ‹_› ‹_› ‹_› ‹_› ‹_› | exact XT (cf:=cf) ‹_› ‹_› ‹_› ‹_› ‹_› | exact XO (ct:=ct) ‹_› ‹_› ‹_› ‹_› ‹_›)]; rfl)]; done)
 exact Qi (QB rfl (Qd rfl) (Qd rfl)) (by rw[e57,← e58] <;> rfl) rfl
 have hb23':¬(lb.1=sig):=Zx hb23
 iterate 5 refine w_ ?_
 refine AL.fact (QC (x:= .tmp 56) (Qa rfl)) fun hi59=>lc (Qw (e:= .u8) (Qa rfl) rfl (Qa rfl) Ze Q2 rfl (by omega) (by first | omega | (simp only[aq]; omega))) ?_
 obtain ⟨cf,hx61⟩:=gx us2 ((mv.1).toNat)
 refine lc (QP (e:= .u8) (Qa rfl) rfl hx61 rfl Q2 rfl rfl) ?_
 iterate 5 refine w_ ?_
 refine lc (Z7 (Qa rfl) (ZJ 63 rfl) rfl) ?_
 refine w_ ?_
 cases hb62:(decide (cf=63))
 have hb62':=a7 hb62
 iterate 5 refine w_ ?_
 refine lc (YU (Qa rfl) (ZJ 63 rfl) rfl) ?_
 refine w_ ?_
 have hb63:(!decide (cf=63))=true:=Qo3 (hb62)
 try rw[hb63]
 iterate 3 refine w_ ?_
 refine lgy rfl rfl (Qw (e:= .u8) (Qa rfl) rfl (Qa rfl) Ze Q2 rfl (by omega) (by first | omega | (simp only[aq]; omega))) ?_
 obtain ⟨ct,hx65⟩:=gx us2 ((mv.2.2).toNat)
 refine lgy rfl rfl (QP (e:= .u8) (Qa rfl) rfl hx65 rfl Q2 rfl rfl)<|lgy rfl rfl (YU (Qa rfl) (ZJ 63 rfl) rfl) ?_
 iterate 2 refine w_ ?_
 cases hb66:(!decide (ct=63))
 have hb66':(ct=63):=Zm hb66
 iterate 16 refine w_ ?_
 refine lc (Qw (e:= .u8) (Qa rfl) rfl (Qa rfl) Ze Q2 rfl (by omega) (by first | omega | (simp only[aq]; omega)))<|lc (Q6 (e:= .u8) (z':=cf) (Qa rfl) rfl hx61 rfl (Qb rfl) rfl Q2 rfl rfl) ?_
 iterate 5 refine w_ ?_
 refine AL.fact (QC (x:= .tmp 92) (Qa rfl)) fun hi67=> ?_
 refine w_ ?_
 refine lc (Qw (e:= .u8) (Qa rfl) rfl (Qa rfl) Ze Q2 rfl (by omega) (by first | omega | (simp only[aq]; omega))) ?_
 obtain ⟨x68,hx69⟩:∃z,(us2.set ((mv.1).toNat) cf)[(mv.2.2).toNat]? =some z:=⟨_,ap (by first | omega | (simp only[aq]; omega))⟩
 refine lc (Q6 (e:= .u8) (z':=cf) (Qa rfl) rfl hx69 rfl (Qb rfl) rfl Q2 rfl rfl) ?_
 iterate 6 refine w_ ?_
 refine Qm<|QV ⟨i+1,((us2.set ((mv.1).toNat) cf).set ((mv.2.2).toNat) cf),by omega,rfl,hA2.trans (congrArg (Qaj sig (Q1 s.2.2.1 r.2) (r.1.length - p)) (Vv (YH hx18 hla) (by first | exact Wy (cf:=cf) (ct:=ct) ‹_› ‹_› ‹_› ‹_› | exact Wq (cf:=cf) (ct:=ct) ‹_› ‹_› ‹_› ‹_› (by first | exact .inl ‹_› | exact .inr ‹_›) | exact Wz (cf:=cf) (ct:=ct) ‹_› ‹_› ‹_› (by first | exact .inl ‹_› | exact .inr ‹_›) (by first | exact .inl ‹_› | exact .inr ‹_›) ‹_› ‹_›))),(by simp only[aq]; exact hL2),rfl⟩ (by omega) ?_
 exact wp [(0,0),(1,1),(5,5)] ⟨rfl,rfl,(Qp (by first | rfl | simp)),trivial⟩
 have hb66':¬(ct=63):=Zx hb66
 iterate 3 refine w_ ?_
 refine lgy rfl rfl (Qw (e:= .u8) (Qa rfl) rfl (Qa rfl) Ze Q2 rfl (by omega) (by first | omega | (simp only[aq]; omega)))<|lgy rfl rfl (QP (e:= .u8) (Qa rfl) rfl hx65 rfl Q2 rfl rfl) ?_
 iterate 4 refine w_ ?_
 cases hb70:(!decide (ct=cf))
 have hb70':(ct=cf):=Zm hb70
 iterate 7 refine w_ ?_
 refine lc (Qw (e:= .u8) (Qa rfl) rfl (Qa rfl) Ze Q2 rfl (by omega) (by first | omega | (simp only[aq]; omega)))<|lc (Q6 (e:= .u8) (z':=cf) (Qa rfl) rfl hx61 rfl (Qb rfl) rfl Q2 rfl rfl) ?_
 iterate 5 refine w_ ?_
 refine AL.fact (QC (x:= .tmp 92) (Qa rfl)) fun hi71=> ?_
 refine w_ ?_
 refine lc (Qw (e:= .u8) (Qa rfl) rfl (Qa rfl) Ze Q2 rfl (by omega) (by first | omega | (simp only[aq]; omega))) ?_
 obtain ⟨x72,hx73⟩:∃z,(us2.set ((mv.1).toNat) cf)[(mv.2.2).toNat]? =some z:=⟨_,ap (by first | omega | (simp only[aq]; omega))⟩
 refine lc (Q6 (e:= .u8) (z':=cf) (Qa rfl) rfl hx73 rfl (Qb rfl) rfl Q2 rfl rfl) ?_
 iterate 6 refine w_ ?_
 refine Qm<|QV ⟨i+1,((us2.set ((mv.1).toNat) cf).set ((mv.2.2).toNat) cf),by omega,rfl,hA2.trans (congrArg (Qaj sig (Q1 s.2.2.1 r.2) (r.1.length - p)) (Vv (YH hx18 hla) (by first | exact Wy (cf:=cf) (ct:=ct) ‹_› ‹_› ‹_› ‹_› | exact Wq (cf:=cf) (ct:=ct) ‹_› ‹_› ‹_› ‹_› (by first | exact .inl ‹_› | exact .inr ‹_›) | exact Wz (cf:=cf) (ct:=ct) ‹_› ‹_› ‹_› (by first | exact .inl ‹_› | exact .inr ‹_›) (by first | exact .inl ‹_› | exact .inr ‹_›) ‹_› ‹_›))),(by simp only[aq]; exact hL2),rfl⟩ (by omega) ?_
 exact wp [(0,0),(1,1),(5,5)] ⟨rfl,rfl,(Qp (by first | rfl | simp)),trivial⟩
 have hb70':¬(ct=cf):=Zx hb70
 iterate 6 refine w_ ?_
 subst hO
 have e74:((⟨#[]⟩:ByteArray):ByteArray)=((l5V r.1.length (Q1 s.2.2.1 r.2) sig).1):=by
  (rw[VC (by rw[hA2,Wt (YH hx18 hla) (by first | exact WB (cf:=cf) (ct:=ct) ‹_› ‹_› ‹_› ‹_› ‹_› ‹_› | exact XT (cf:=cf) ‹_› ‹_› ‹_› ‹_› ‹_› | exact XO (ct:=ct) ‹_› ‹_› ‹_› ‹_› ‹_›)]; rfl)]; done)
 have e75:(false:Bool)=((l5V r.1.length (Q1 s.2.2.1 r.2) sig).2):=by
  (rw[VC (by rw[hA2,Wt (YH hx18 hla) (by first | exact WB (cf:=cf) (ct:=ct) ‹_› ‹_› ‹_› ‹_› ‹_› ‹_› | exact XT (cf:=cf) ‹_› ‹_› ‹_› ‹_› ‹_› | exact XO (ct:=ct) ‹_› ‹_› ‹_› ‹_› ‹_›)]; rfl)]; done)
 exact Qi (QB rfl (Qd rfl) (Qd rfl)) (by rw[e74,← e75] <;> rfl) rfl
 have hb62':=a8 hb62
 iterate 5 refine w_ ?_
 refine AL.fact (QC (x:= .tmp 63) (Qa rfl)) fun hi76=>lc (Qw (e:= .u8) (Qa rfl) rfl (Qa rfl) Ze Q2 rfl (by omega) (by first | omega | (simp only[aq]; omega))) ?_
 obtain ⟨ct,hx78⟩:=gx us2 ((mv.2.2).toNat)
 refine lc (QP (e:= .u8) (Qa rfl) rfl hx78 rfl Q2 rfl rfl) ?_
 iterate 5 refine w_ ?_
 refine lc (YU (Qa rfl) (ZJ 63 rfl) rfl) ?_
 refine w_ ?_
 cases hb79:(!decide (ct=63))
 have hb79':(ct=63):=Zm hb79
 iterate 24 refine w_ ?_
 refine lc (Qw (e:= .u8) (Qa rfl) rfl (Qa rfl) Ze Q2 rfl (by omega) (by first | omega | (simp only[aq]; omega)))<|lc (Q6 (e:= .u8) (z':=ct) (Qa rfl) rfl hx61 rfl (Qb rfl) rfl Q2 rfl rfl) ?_
 iterate 6 refine w_ ?_
 refine lc (Qw (e:= .u8) (Qa rfl) rfl (Qa rfl) Ze Q2 rfl (by omega) (by first | omega | (simp only[aq]; omega))) ?_
 obtain ⟨x80,hx81⟩:∃z,(us2.set ((mv.1).toNat) ct)[(mv.2.2).toNat]? =some z:=⟨_,ap (by first | omega | (simp only[aq]; omega))⟩
 refine lc (Q6 (e:= .u8) (z':=ct) (Qa rfl) rfl hx81 rfl (Qb rfl) rfl Q2 rfl rfl) ?_
 iterate 6 refine w_ ?_
 refine Qm<|QV ⟨i+1,((us2.set ((mv.1).toNat) ct).set ((mv.2.2).toNat) ct),by omega,rfl,hA2.trans (congrArg (Qaj sig (Q1 s.2.2.1 r.2) (r.1.length - p)) (Vv (YH hx18 hla) (by first | exact Wy (cf:=cf) (ct:=ct) ‹_› ‹_› ‹_› ‹_› | exact Wq (cf:=cf) (ct:=ct) ‹_› ‹_› ‹_› ‹_› (by first | exact .inl ‹_› | exact .inr ‹_›) | exact Wz (cf:=cf) (ct:=ct) ‹_› ‹_› ‹_› (by first | exact .inl ‹_› | exact .inr ‹_›) (by first | exact .inl ‹_› | exact .inr ‹_›) ‹_› ‹_›))),(by simp only[aq]; exact hL2),rfl⟩ (by omega) ?_
 exact wp [(0,0),(1,1),(5,5)] ⟨rfl,rfl,(Qp (by first | rfl | simp)),trivial⟩
 have hb79':¬(ct=63):=Zx hb79
 iterate 3 refine w_ ?_
 refine lgy rfl rfl (Qw (e:= .u8) (Qa rfl) rfl (Qa rfl) Ze Q2 rfl (by omega) (by first | omega | (simp only[aq]; omega)))<|lgy rfl rfl (QP (e:= .u8) (Qa rfl) rfl hx78 rfl Q2 rfl rfl)<|lgy rfl rfl (YU (Qa rfl) (ZJ 63 rfl) rfl) ?_
 iterate 2 refine w_ ?_
 have hb82:(!decide (ct=63))=true:=Qo3 (QsK hb79)
 try rw[hb82]
 iterate 3 refine w_ ?_
 refine lgy rfl rfl (Qw (e:= .u8) (Qa rfl) rfl (Qa rfl) Ze Q2 rfl (by omega) (by first | omega | (simp only[aq]; omega)))<|lgy rfl rfl (QP (e:= .u8) (Qa rfl) rfl hx78 rfl Q2 rfl rfl) ?_
 iterate 4 refine w_ ?_
 have hb83:(!decide (ct=ct))=false:=Qo3 (aK rfl)
 have hb83':(ct=ct):=Zm hb83
 try rw[hb83]
 iterate 7 refine w_ ?_
 refine lc (Qw (e:= .u8) (Qa rfl) rfl (Qa rfl) Ze Q2 rfl (by omega) (by first | omega | (simp only[aq]; omega)))<|lc (Q6 (e:= .u8) (z':=ct) (Qa rfl) rfl hx61 rfl (Qb rfl) rfl Q2 rfl rfl) ?_
 iterate 6 refine w_ ?_
 refine lc (Qw (e:= .u8) (Qa rfl) rfl (Qa rfl) Ze Q2 rfl (by omega) (by first | omega | (simp only[aq]; omega))) ?_
 obtain ⟨x84,hx85⟩:∃z,(us2.set ((mv.1).toNat) ct)[(mv.2.2).toNat]? =some z:=⟨_,ap (by first | omega | (simp only[aq]; omega))⟩
 refine lc (Q6 (e:= .u8) (z':=ct) (Qa rfl) rfl hx85 rfl (Qb rfl) rfl Q2 rfl rfl) ?_
 iterate 6 refine w_ ?_
 refine Qm<|QV ⟨i+1,((us2.set ((mv.1).toNat) ct).set ((mv.2.2).toNat) ct),by omega,rfl,hA2.trans (congrArg (Qaj sig (Q1 s.2.2.1 r.2) (r.1.length - p)) (Vv (YH hx18 hla) (by first | exact Wy (cf:=cf) (ct:=ct) ‹_› ‹_› ‹_› ‹_› | exact Wq (cf:=cf) (ct:=ct) ‹_› ‹_› ‹_› ‹_› (by first | exact .inl ‹_› | exact .inr ‹_›) | exact Wz (cf:=cf) (ct:=ct) ‹_› ‹_› ‹_› (by first | exact .inl ‹_› | exact .inr ‹_›) (by first | exact .inl ‹_› | exact .inr ‹_›) ‹_› ‹_›))),(by simp only[aq]; exact hL2),rfl⟩ (by omega) ?_
 exact wp [(0,0),(1,1),(5,5)] ⟨rfl,rfl,(Qp (by first | rfl | simp)),trivial⟩
 have hb6':=a8 hb6
 iterate 11 refine w_ ?_
 refine lc (Qw (e:= .u8) (Qa rfl) rfl (Qa rfl) Ze Q2 rfl (by omega) (by first | omega | (simp only[aq]; omega))) ?_
 obtain ⟨x86,hx87⟩:=gx (H7 r.1.length k) k
 refine lc (Q6 (e:= .u8) (z':=63) (Qa rfl) rfl hx87 rfl (Evl.ev (ZJ 63 rfl)) rfl Q2 rfl rfl)<|Qm ?_
 iterate 4 refine w_ ?_
 refine Qm<|QV ⟨k+1,by omega,rfl,rfl⟩ (by omega) ?_
 exact wp [(0,0),(1,1),(3,3)] ⟨rfl,rfl,(Qp (Qme (by omega))),trivial⟩
theorem QcI (s:(Int×(List (List Int×List Int)))×(List (ByteArray×Int))×(List (Int×Bool))×ByteArray)(r:List ByteArray×(List (Int×Int×Int)))(hm:∀m∈r.2,MvOk r.1.length s.2.2.1.length m)(hl1:r.1.length≤1000000)(hl2:s.2.1.length≤1000000):FC Tryz.prog 207 [(true,[dI s.1.1, .dat QZ s.1.2, .dat QJ s.2.1, .dat QR s.2.2.1,dS s.2.2.2]),(true,[.dat Zr r.1, .dat Xu r.2])] [] 0 (Uz 3 .int (WR r.1.length (Q1 s.2.2.1 r.2) s.2.1.length)):=by
 refine QO Tryz.func207 rfl rfl Tryz.ntmps207 fun O_ hO w0_ N0_ X_ h0_ f0_=> ?_
 refine AC.fact (QI (x:= .tmp 0) (i:=0) (Qb rfl) rfl) fun hi1=> ?_
 refine w_ ?_
 refine lc (Qy 0 (Qb rfl) rfl rfl (Fresh.of rfl) (nlr rfl))<|lc (Qy 1 (Qb rfl) rfl rfl (Fresh.of rfl) (nlr rfl)) ?_
 iterate 9 refine w_ ?_
 refine AL.fact (Qo (x:= .tmp 10) (Qa rfl)) fun hl2=> ?_
 iterate 4 refine w_ ?_
 refine AC.wk (Wk.nilS 2 5 3 .int rfl (Fresh.of rfl) (nlr rfl)) ?_
 refine Qu (fun m_ s_=>∃(k:Nat),k≤s.2.1.length∧m_=s.2.1.length - k∧s_=⟨[(2,lP 0 0),(3,lP 1 0),(4,lf (.val (.slice none 0 0))),(5,lR 3),(11,lI (s.2.1.length:Int)),(12,lI (k:Int))],[(0,some (.box 29 [dI s.1.1, .dat QZ s.1.2, .dat QJ s.2.1, .dat QR s.2.2.1,dS s.2.2.2])),(1,some (.box 164 [.dat Zr r.1, .dat Xu r.2])),(3,some (.arr 3 .int (WR r.1.length (Q1 s.2.2.1 r.2) k)))]⟩) ⟨0,aw _,rfl,rfl⟩ ?_ ?_
 exact wp [(0,0),(1,1),(3,2)] ⟨rfl,rfl,(Qp (by first | rfl | simp)),trivial⟩
 rintro m_ s_ ⟨k,hk3,hm4,rfl⟩
 have hcl:=Qm2 r.1.length (Q1 s.2.2.1 r.2) k
 iterate 4 refine w_ ?_
 cases hb5:(decide ((k:Int) < (s.2.1.length:Int)))
 have hb5':=a7 hb5
 iterate 8 refine w_ ?_
 subst hO
 refine Z3 (e:= .int) (xs:=(WR r.1.length (Q1 s.2.2.1 r.2) k)) (Qg rfl (Qd rfl)) rfl ?_
 rw[show k=s.2.1.length by omega]
 have hb5':=a8 hb5
 iterate 12 refine w_ ?_
 refine lc (Ql (Kc s r (k:Int) hm hl1) QdI ⟨_,_,rfl,(Qb rfl),⟨_,_,rfl,(Qb rfl),⟨_,_,rfl,(Qb rfl),rfl⟩⟩⟩ rfl rfl) ?_
 iterate 10 refine w_ ?_
 cases hb6:((l5V r.1.length (Q1 s.2.2.1 r.2) (k:Int)).2)
 iterate 4 refine w_ ?_
 refine lc (Qf 4 (e:= .int) QN QL Yu rfl ⟨_,_,rfl,(Qb rfl),rfl⟩ (ae.1 rfl) ⟨_,_,_,_,rfl,⟨rfl,rfl⟩,⟨rfl,rfl⟩,rfl⟩ (by decide) rfl rfl (Fresh.of rfl) (nlr rfl))<|lc (QH 5 (Qa rfl) rfl (Qa rfl) rfl rfl QN Wd (by first | omega | (simp only[aa,av,ab,ah,aj]; omega) | (simp only[aa,ay,ab,ah,aj]; omega)) rfl (Fresh.of rfl) (nlr rfl)) ?_
 refine w_ ?_
 refine Qm ?_
 iterate 4 refine w_ ?_
 refine Qm<|QV ⟨k+1,by omega,rfl,rfl⟩ (by omega) ?_
 exact wp [(0,0),(1,1),(3,5)] ⟨rfl,rfl,(Qp (by first | exact Qgr ‹_› | exact QiT ‹_›)),trivial⟩
 iterate 6 refine w_ ?_
 refine Qm<|QV ⟨k+1,by omega,rfl,rfl⟩ (by omega) ?_
 exact wp [(0,0),(1,1),(3,3)] ⟨rfl,rfl,(Qp (by first | exact Qgr ‹_› | exact QiT ‹_›)),trivial⟩
end Go.Proofs.YtjaadeknhofhpaaGreat
