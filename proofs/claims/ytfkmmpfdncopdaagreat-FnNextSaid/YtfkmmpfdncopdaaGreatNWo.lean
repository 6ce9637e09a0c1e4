/- Walks over abstract states: the values of a signal as the reference finds them, and the plain law that they are the same. -/
import Derived.Test.YtfkmmpfdncopdaaGreatNWm
set_option linter.unusedSimpArgs false
set_option linter.unusedVariables false
set_option linter.unusedSectionVars false
namespace Go.Proofs.YtfkmmpfdncopdaaGreat
open Go.RowKit
set_option maxRecDepth 100000
set_option maxHeartbeats 4000000
def Yh (sig:Int)(a:DAr)(us:List UInt8):Option (List UInt8):=
  if a.2.1=sig then
    (if (bv us a.1.toNat≠63∧bv us a.1.toNat≠(if (!a.2.2.1)=true then 49 else 48))∨(bv us a.2.2.2.toNat≠63∧bv us a.2.2.2.toNat≠(if a.2.2.1=true then 49 else 48)) then none
    else some ((us.set a.1.toNat (if (!a.2.2.1)=true then 49 else 48)).set a.2.2.2.toNat (if a.2.2.1=true then 49 else 48)))
  else if bv us a.1.toNat=63 then some ((us.set a.1.toNat (bv us a.2.2.2.toNat)).set a.2.2.2.toNat (bv us a.2.2.2.toNat))
  else if bv us a.2.2.2.toNat≠63∧bv us a.2.2.2.toNat≠bv us a.1.toNat then none
  else some ((us.set a.1.toNat (bv us a.1.toNat)).set a.2.2.2.toNat (bv us a.1.toNat))
def YF (sig:Int):List DAr→List UInt8→Option (List UInt8)
  | [],us=>some us
  | a :: rs,us=>match Yh sig a us with
    | none=>none
    | some us'=>YF sig rs us'
def Xu (sig:Int)(arcs:List DAr):Nat→List UInt8→Option (List UInt8)
  | 0,us=>some us
  | f+1,us=>match YF sig arcs us with
    | none=>none
    | some us'=>Xu sig arcs f us'
def Ky (sig:Int)(arcs:List DAr)(f:Nat):Option (List UInt8)→Option (List UInt8)
  | none=>none
  | some us'=>Xu sig arcs f us'
def l5V (n:Nat)(arcs:List DAr)(sig:Int):ByteArray×Bool:=match Xu sig arcs (n+1) (List.replicate n 63) with
  | none=>(⟨#[]⟩,false)
  | some us=>(⟨us.toArray⟩,true)
section
variable {sig:Int}{a:DAr}{us us' vs vs':List UInt8}{arcs rs:List DAr}{f k m:Nat}{cf ct x:UInt8}{ch ch':Bool}{i j:Nat}
theorem XU (hx:arcs[k]? =some a)(h:Yh sig a us=some us'):YF sig (arcs.drop k) us=YF sig (arcs.drop (k+1)) us':=by rw[ZW hx,YF,h]
theorem Xi (hx:arcs[k]? =some a)(h:Yh sig a us=none):YF sig (arcs.drop k) us=none:=by rw[ZW hx,YF,h]
theorem Qj2 (hk:arcs.length≤k):YF sig (arcs.drop k) us=some us:=by rw[bE hk,YF]
theorem Qlg (f:Nat)(us:List UInt8):Xu sig arcs (f+1) us=Ky sig arcs f (YF sig arcs us):=by
  rw[Xu]; cases YF sig arcs us <;> rfl
theorem X8 {n:Nat}(h:Xu sig arcs (n+1) (List.replicate n 63)=none):l5V n arcs sig=(⟨#[]⟩,false):=by unfold l5V; rw[h]
theorem Qep {n:Nat}(h:Xu sig arcs (n+1) (List.replicate n 63)=some us):l5V n arcs sig=(⟨us.toArray⟩,true):=by unfold l5V; rw[h]
def qm (c:UInt8):UInt8:=if c=0 then 63 else c
def Kn (vs:List UInt8):Prop:=∀c∈vs,c=0∨c=48∨c=49
theorem Kn.set (h:Kn vs){c:UInt8}(hc:c=0∨c=48∨c=49)(i:Nat):Kn (vs.set i c):=fun d hd=>by
  rcases c9 hd with h1 | h1
  · exact h d h1
  · rw[h1]; exact hc
theorem Kn.at (h:Kn vs)(hi:i < vs.length):∃c,vs[i]? =some c∧(c=0∨c=48∨c=49):=⟨_,aa hi,h _ (cI hi)⟩
theorem Vd {c:UInt8}(h:vs[i]? =some c):vs.set i c=vs:=by
  apply bA
  intro j
  by_cases e:i=j
  · subst e; rw[aW (ah.1 h).1,h]
  · rw[b6 e]
theorem QmR (hi:vs[i]? =some cf):bv (vs.map qm) i=qm cf:=Z2 (by rw[bq,hi]; rfl)
theorem QtI (b:Bool):((if b=true then (49:UInt8) else 48)=49∧(if (!b)=true then (49:UInt8) else 48)=48)∨((if b=true then (49:UInt8) else 48)=48∧(if (!b)=true then (49:UInt8) else 48)=49):=by cases b <;> simp
theorem Qod (hne:i≠j)(c:UInt8)(h:vs[j]? =some ct):(agb vs i c).1[j]? =some ct:=by
  unfold agb
  split
  · exact h
  · split
    · show (vs.set i c)[j]? = _
      rw[b6 hne]; exact h
    · exact h
theorem QjQ (hk:Kn vs)(hr:InR vs.length a)(hself:a.2.1=sig→a.1≠a.2.2.2):Yh sig a (vs.map qm)=(UL sig a vs).map (fun r=>r.1.map qm)∧∀vs' c,UL sig a vs=some (vs',c)→Kn vs':=by
  obtain ⟨⟨r1,r2⟩,r3,r4⟩:=hr
  obtain ⟨cf,hf,kf⟩:=hk.at (i:=a.1.toNat) (by omega)
  obtain ⟨ct,ht,kt⟩:=hk.at (i:=a.2.2.2.toNat) (by omega)
  unfold Yh UL
  rw[QmR hf,QmR ht]
  by_cases hl:a.2.1=sig
  · rw [if_pos hl, if_pos hl]
    have hne:a.1.toNat≠a.2.2.2.toNat:=by have:=hself hl; omega
    have hg:=fun c=>Qod (vs:=vs) hne c ht
    rw[QgX (hg _),QgX hf]
    have hset:∀c d:UInt8,((vs.map qm).set a.1.toNat c).set a.2.2.2.toNat d=((vs.map qm).set a.2.2.2.toNat d).set a.1.toNat c:=fun c d=>List.set_comm _ _ hne
    have hf2:∀d,(vs.set a.2.2.2.toNat d)[a.1.toNat]? =some cf:=fun d=>by rw[b6 (Ne.symm hne)]; exact hf
    have mf:(vs.map qm)[a.1.toNat]? =some (qm cf):=by rw[bq,hf]; rfl
    have mt:(vs.map qm)[a.2.2.2.toNat]? =some (qm ct):=by rw[bq,ht]; rfl
    have mt2:∀d,((vs.map qm).set a.1.toNat d)[a.2.2.2.toNat]? =some (qm ct):=fun d=>by rw[b6 hne]; exact mt
    have s1:=Vd mf
    have s2:=Vd mt
    have s3:=fun d=>Vd (mt2 d)
    rcases QtI a.2.2.1 with ⟨e1,e2⟩ | ⟨e1,e2⟩ <;> rw[e1,e2] <;> rcases kf with rfl | rfl | rfl <;> rcases kt with rfl | rfl | rfl <;> simp only[qm] at s1 s2 s3 ⊢ <;> simp[List.map_set,qm,s1,s2,s3] at* <;> first | done | (refine ⟨?_, ?_⟩ <;> first | (simp_all; done) | (intros; subst_vars; first | exact (hk.set (.inr (.inl rfl)) _).set (.inr (.inr rfl)) _ | exact (hk.set (.inr (.inr rfl)) _).set (.inr (.inl rfl)) _ | exact hk.set (.inr (.inl rfl)) _ | exact hk.set (.inr (.inr rfl)) _ | exact hk)) | (intros; subst_vars; first | exact (hk.set (.inr (.inl rfl)) _).set (.inr (.inr rfl)) _ | exact (hk.set (.inr (.inr rfl)) _).set (.inr (.inl rfl)) _ | exact hk.set (.inr (.inl rfl)) _ | exact hk.set (.inr (.inr rfl)) _ | exact hk) | (simp_all; done)
  · rw [if_neg hl, if_neg hl, Qm1 hf ht]
    have mf:(vs.map qm)[a.1.toNat]? =some (qm cf):=by rw[bq,hf]; rfl
    have mt:(vs.map qm)[a.2.2.2.toNat]? =some (qm ct):=by rw[bq,ht]; rfl
    have s1:=Vd mf
    have s2:=Vd mt
    have s3:((vs.map qm).set a.1.toNat (qm ct)).set a.2.2.2.toNat (qm ct)=(vs.map qm).set a.1.toNat (qm ct):=by
      by_cases e:a.1.toNat=a.2.2.2.toNat
      · rw[e,dl]
      · exact Vd (by rw[b6 e]; exact mt)
    rcases kf with rfl | rfl | rfl <;> rcases kt with rfl | rfl | rfl <;> simp only[qm] at s1 s2 s3 ⊢ <;> simp[List.map_set,qm,s1,s2,s3] at* <;> first | done | (refine ⟨?_, ?_⟩ <;> first | (simp_all; done) | (intros; subst_vars; first | exact hk.set (.inr (.inl rfl)) _ | exact hk.set (.inr (.inr rfl)) _ | exact hk)) | (intros; subst_vars; first | exact hk.set (.inr (.inl rfl)) _ | exact hk.set (.inr (.inr rfl)) _ | exact hk) | (simp_all; done)
theorem QjM (hr:∀a∈rs,InR m a)(hs:∀a∈rs,a.2.1=sig→a.1≠a.2.2.2)(hk:Kn vs)(hl:vs.length=m):YF sig rs (vs.map qm)=(Vl sig rs vs ch).map (fun r=>r.1.map qm)∧∀vs' c,Vl sig rs vs ch=some (vs',c)→Kn vs':=by
  induction rs generalizing vs ch with
  | nil=>exact ⟨rfl,fun vs' c h=>by rw[Vl] at h; cases h; exact hk⟩
  | cons a rs ih=>
    obtain ⟨h1,h2⟩:=QjQ hk (by rw[hl]; exact hr a (az ..)) (hs a (az ..))
    rw[YF,Vl,h1]
    cases hst:UL sig a vs with
    | none=>exact ⟨rfl,fun vs' c h=>by cases h⟩
    | some r=>
      obtain ⟨v1,c1⟩:=r
      exact ih (fun b hb=>hr b (ax _ hb)) (fun b hb=>hs b (ax _ hb)) (h2 _ _ hst) ((K1 (by rw[hl]; exact hr a (az ..)) hst).1.trans hl)
theorem QdP (h:YF sig arcs us=some us):∀f,Xu sig arcs f us=some us
  | 0=>rfl
  | f+1=>by rw[Xu,h]; exact QdP h f
theorem QfN (hr:∀a∈arcs,InR m a)(hs:∀a∈arcs,a.2.1=sig→a.1≠a.2.2.2):∀{f:Nat} {vs:List UInt8},Kn vs→vs.length=m→XQ vs < f→Xu sig arcs f (vs.map qm)=(Jj sig arcs f vs).map (List.map qm)∧∀vs',Jj sig arcs f vs=some vs'→Kn vs'
  | 0,_,_,_,h=>by omega
  | f+1,vs,hk,hl,h=>by
    obtain ⟨h1,h2⟩:=QjM (ch:=false) hr hs hk hl
    rw[Xu,Jj,h1]
    cases hp:Vl sig arcs vs false with
    | none=>exact ⟨rfl,fun vs' h=>by cases h⟩
    | some r=>
      obtain ⟨v1,c1⟩:=r
      obtain ⟨k1,k2,k3,k4⟩:=QbW hr hl hp
      cases c1 with
      | true=>
        rcases k3 rfl with h3 | h3
        · cases h3
        · have h3 : XQ v1 < XQ vs := h3
          exact QfN hr hs (h2 _ _ hp) k1 (show XQ v1 < f by omega)
      | false=>
        obtain ⟨rfl,_⟩:=k4 rfl
        rw[hp] at h1
        exact ⟨QdP h1 f,fun vs' h=>by cases h; exact hk⟩
theorem Qi2 (vs:List UInt8)(i:Nat)(c:UInt8):agb vs i c=if bv vs i=c then (vs,true,false) else if bv vs i=0 then (vs.set i c,true,true) else (vs,false,false):=rfl
theorem Qh8 (hl:a.2.1=sig)(he:a.1=a.2.2.2)(hi:a.1.toNat < vs.length):UL sig a vs=none:=by
  unfold UL
  rw[if_pos hl,← he]
  have h0:=QeM a.2.2.1
  have h1:=QeM (!a.2.2.1)
  have h2:(if (!a.2.2.1)=true then (49:UInt8) else 48)≠(if a.2.2.1=true then 49 else 48):=by cases a.2.2.1 <;> decide
  generalize (if (!a.2.2.1)=true then (49:UInt8) else 48)=f0 at h1 h2 ⊢
  generalize (if a.2.2.1=true then (49:UInt8) else 48)=t0 at h0 h2 ⊢
  rw[if_neg]
  rintro ⟨k1,k2⟩
  have k3:bv (agb vs a.1.toNat f0).1 a.1.toNat=f0:=by
    rw[Qi2] at k1 ⊢
    split
    · assumption
    · rename_i h3
      rw[if_neg h3] at k1
      split
      · exact Z2 (aW hi)
      · rename_i h4
        rw[if_neg h4] at k1
        cases k1
  rw[Qi2 (agb vs a.1.toNat f0).1,k3,if_neg h2,if_neg h1] at k2
  cases k2
theorem Qhu {b:DAr}(hr:∀a∈rs,InR m a)(hlen:vs.length=m)(hm:b∈rs)(hl:b.2.1=sig)(he:b.1=b.2.2.2):Vl sig rs vs ch=none:=by
  induction rs generalizing vs ch with
  | nil=>cases hm
  | cons a rs ih=>
    have ha:=hr a (az ..)
    rw[Vl]
    cases hst:UL sig a vs with
    | none=>rfl
    | some r=>
      obtain ⟨v1,c1⟩:=r
      rcases aE.1 hm with rfl | hm
      · have := ha.1
        rw[Qh8 hl he (by omega)] at hst
        cases hst
      · exact ih (fun b hb=>hr b (ax _ hb)) ((K1 (by rw[hlen]; exact ha) hst).1.trans hlen) hm
theorem Qke (h:Yh sig a us=some us'):us'.length=us.length:=by
  unfold Yh at h
  generalize (if (!a.2.2.1)=true then (49:UInt8) else 48)=f0 at h
  generalize (if a.2.2.1=true then (49:UInt8) else 48)=t0 at h
  split at h
  · split at h
    · cases h
    · cases h; simp
  · split at h
    · cases h; simp
    · split at h
      · cases h
      · cases h; simp
theorem Qb3 {c:UInt8}(h:Yh sig a us=some us')(hc:us[i]? =some c)(h0:c≠63):us'[i]? =some c:=by
  have hi:=(ah.1 hc).1
  have hset:∀x y:UInt8,(i=a.2.2.2.toNat→y=c)→(i=a.1.toNat→x=c)→((us.set a.1.toNat x).set a.2.2.2.toNat y)[i]? =some c:=fun x y h1 h2=>by
    by_cases e1:a.2.2.2.toNat=i
    · rw[e1,aW (by simpa using hi),h1 e1.symm]
    · rw [b6 e1]
      by_cases e2:a.1.toNat=i
      · rw[e2,aW hi,h2 e2.symm]
      · rw[b6 e2]; exact hc
  unfold Yh at h
  generalize (if (!a.2.2.1)=true then (49:UInt8) else 48)=f0 at h
  generalize (if a.2.2.1=true then (49:UInt8) else 48)=t0 at h
  split at h
  · split at h
    · cases h
    · rename_i h2
      cases h
      refine hset _ _ (fun e=> ?_) (fun e=> ?_)
      · rw [← e, Z2 hc] at h2
        exact cd fun h3=>h2 (.inr ⟨h0,fun e=>h3 e.symm⟩)
      · rw [← e, Z2 hc] at h2
        exact cd fun h3=>h2 (.inl ⟨h0,fun e=>h3 e.symm⟩)
  · split at h
    · rename_i h2
      cases h
      refine hset _ _ (fun e=> ?_) (fun e=> ?_)
      · rw[← e,Z2 hc]
      · rw[← e,Z2 hc] at h2; exact absurd h2 h0
    · split at h
      · cases h
      · rename_i h2 h3
        cases h
        refine hset _ _ (fun e=> ?_) (fun e=> ?_)
        · rw [← e, Z2 hc] at h3
          exact cd fun h4=>h3 ⟨h0,fun e=>h4 e.symm⟩
        · rw[← e,Z2 hc]
theorem QhB {c:UInt8}(h:YF sig rs us=some us')(hc:us[i]? =some c)(h0:c≠63):us'[i]? =some c:=by
  induction rs generalizing us with
  | nil=>rw[YF] at h; cases h; exact hc
  | cons a rs ih=>
    rw[YF] at h
    cases hst:Yh sig a us with
    | none=>rw[hst] at h; cases h
    | some u1=>rw[hst] at h; exact ih h (Qb3 hst hc h0)
theorem QhO {b:DAr}(hm:b∈rs)(hl:b.2.1=sig)(he:b.1=b.2.2.2)(hi:b.1.toNat < us.length)(h:YF sig rs us=some us'):∃c,us'[b.1.toNat]? =some c∧c≠63:=by
  induction rs generalizing us with
  | nil=>cases hm
  | cons a rs ih=>
    rw[YF] at h
    cases hst:Yh sig a us with
    | none=>rw[hst] at h; cases h
    | some u1=>
      rw[hst] at h
      rcases aE.1 hm with rfl | hm
      · have h2:u1[b.1.toNat]? =some (if b.2.2.1=true then 49 else 48):=by
          unfold Yh at hst
          rw[if_pos hl] at hst
          generalize (if (!b.2.2.1)=true then (49:UInt8) else 48)=f0 at hst
          generalize (if b.2.2.1=true then (49:UInt8) else 48)=t0 at hst ⊢
          split at hst
          · cases hst
          · cases hst
            rw[← he,aW (by simpa using hi)]
        have h3:(if b.2.2.1=true then (49:UInt8) else 48)≠63:=by cases b.2.2.1 <;> decide
        exact ⟨_,QhB h h2 h3,h3⟩
      · exact ih hm (by rw[Qke hst]; exact hi) h
theorem QgL {b:DAr}{c:UInt8}(hm:b∈rs)(hl:b.2.1=sig)(he:b.1=b.2.2.2)(hc:us[b.1.toNat]? =some c)(h0:c≠63):YF sig rs us=none:=by
  induction rs generalizing us with
  | nil=>cases hm
  | cons a rs ih=>
    rw[YF]
    rcases aE.1 hm with rfl | hm
    · have:Yh sig b us=none:=by
        unfold Yh
        rw[if_pos hl,← he,Z2 hc,if_pos]
        have h2:(if (!b.2.2.1)=true then (49:UInt8) else 48)≠(if b.2.2.1=true then 49 else 48):=by cases b.2.2.1 <;> decide
        by_cases e:c=(if (!b.2.2.1)=true then (49:UInt8) else 48)
        · exact .inr ⟨h0,fun e2=>h2 (e.symm.trans e2)⟩
        · exact .inl ⟨h0,e⟩
      rw[this]
    · cases hst : Yh sig a us with
      | none=>rfl
      | some u1=>exact ih hm (Qb3 hst hc h0)
def q0 (c:UInt8):UInt8:=if c=63 then 48 else c
theorem Qsv (hk:Kn vs):(vs.map qm).map q0=vs.map fz:=by
  rw[dn]
  refine List.map_congr_left fun c hc=> ?_
  rcases hk c hc with rfl | rfl | rfl <;> rfl
theorem Qca {n:Nat}(hr:∀a∈arcs,InR n a):((l5V n arcs sig).2=false∧(Wg n arcs sig).2=false∧l5V n arcs sig=(⟨#[]⟩,false)∧Wg n arcs sig=([],false))∨∃us:List UInt8,l5V n arcs sig=(⟨us.toArray⟩,true)∧us.length=n∧Wg n arcs sig=(us.map q0,true):=by
  by_cases hself:∃b∈arcs,b.2.1=sig∧b.1=b.2.2.2
  · obtain ⟨b, hb, hl, he⟩ := hself
    have hV:Jj sig arcs (n+1) (List.replicate n 0)=none:=by rw[Jj,Qhu hr (by simp) hb hl he]
    obtain ⟨⟨r1,r2⟩,_,_⟩:=hr b hb
    have hS:Xu sig arcs (n+1) (List.replicate n 63)=none:=by
      obtain ⟨n',rfl⟩:∃n',n=n'+1:=⟨n - 1,by omega⟩
      rw[Xu]
      cases hp:YF sig arcs (List.replicate (n'+1) 63) with
      | none=>rfl
      | some u1=>
        obtain ⟨c,h1,h2⟩:=QhO hb hl he (by simp; omega) hp
        show Xu sig arcs (n'+1) u1=none
        rw[Xu,QgL hb hl he h1 h2]
    exact .inl ⟨by rw[X8 hS],by rw[Jx hV],X8 hS,Jx hV⟩
  · have hs : ∀ a ∈ arcs, a.2.1 = sig → a.1 ≠ a.2.2.2 := fun a ha h1 h2 => hself ⟨a, ha, h1, h2⟩
    obtain ⟨h1,h2⟩:=QfN (f:=n+1) (vs:=List.replicate n 0) hr hs (fun c hc=> .inl (cF hc)) (by simp) (by rw[QmL]; omega)
    have e:(List.replicate n (0:UInt8)).map qm=List.replicate n 63:=by rw[List.map_replicate]; rfl
    rw[e] at h1
    cases hv:Jj sig arcs (n+1) (List.replicate n 0) with
    | none=>
      rw[hv] at h1
      exact .inl ⟨by rw[X8 h1],by rw[Jx hv],X8 h1,Jx hv⟩
    | some vs=>
      rw[hv] at h1
      refine .inr ⟨vs.map qm,Qep h1, ?_, ?_⟩
      · have:∀{f:Nat} {v v':List UInt8},v.length=n→Jj sig arcs f v=some v'→v'.length=n:=fun {f}=>by
          induction f with
          | zero=>intro v v' hl h; rw[Jj] at h; cases h; exact hl
          | succ f ih=>
            intro v v' hl h
            rw[Jj] at h
            cases hp:Vl sig arcs v false with
            | none=>rw[hp] at h; cases h
            | some r=>
              obtain ⟨v1,c1⟩:=r
              rw[hp] at h
              have k1:=(QbW hr hl hp).1
              cases c1 with
              | true=>exact ih k1 h
              | false=>cases h; exact k1
        rw[aP]
        exact this (by simp) hv
      · rw[Qk0 hv,Qsv (h2 _ hv)]
end
end Go.Proofs.YtfkmmpfdncopdaaGreat
namespace Go.Proofs.YtfkmmpfdncopdaaGreat
open Go.RowKit
set_option maxRecDepth 100000
set_option maxHeartbeats 4000000
section
variable {sig:Int}{us us':List UInt8}{arcs:List DAr}{f k n:Nat}{cf ct b1 b2:UInt8}{mv:DMv}{lb:ZF}{ls:List ZF}{ms:List DMv}
theorem Qnm (ls:List ZF)(ms:List DMv):(Qv ls ms).length=ms.length:=by simp[Qv]
theorem ZP (hx:ms[k]? =some mv)(hla:Qcx ls mv.2.1=lb):(Qv ls ms)[k]? =some (mv.1,lb.1,lb.2,mv.2.2):=by
  unfold Qv
  rw[bq,hx]
  simp[QjH,hla]
def ar4 (mv:DMv)(lb:ZF):DAr:=(mv.1,lb.1,lb.2,mv.2.2)
theorem Xf (hl:¬lb.1=sig)(hf:us[mv.1.toNat]? =some cf)(hq:decide (cf=63)=true)(ht:us[mv.2.2.toNat]? =some ct):Yh sig (mv.1,lb.1,lb.2,mv.2.2) us=some ((us.set mv.1.toNat ct).set mv.2.2.toNat ct):=by
  unfold Yh
  simp only
  rw[if_neg hl,Z2 hf,Z2 ht,if_pos (ae hq)]
theorem Xg (hl:¬lb.1=sig)(hf:us[mv.1.toNat]? =some cf)(hq:decide (cf=63)=false)(ht:us[mv.2.2.toNat]? =some ct)(h2:ct=63∨ct=cf):Yh sig (mv.1,lb.1,lb.2,mv.2.2) us=some ((us.set mv.1.toNat cf).set mv.2.2.toNat cf):=by
  unfold Yh
  simp only
  rw[if_neg hl,Z2 hf,Z2 ht,if_neg (ab hq),if_neg]
  rintro ⟨h3,h4⟩
  rcases h2 with h | h
  · exact h3 h
  · exact h4 h
theorem Xk (hl:¬lb.1=sig)(hf:us[mv.1.toNat]? =some cf)(hq:decide (cf=63)=false)(ht:us[mv.2.2.toNat]? =some ct)(h1:¬ct=63)(h2:¬ct=cf):Yh sig (mv.1,lb.1,lb.2,mv.2.2) us=none:=by
  unfold Yh
  simp only
  rw[if_neg hl,Z2 hf,Z2 ht,if_neg (ab hq),if_pos ⟨h1,h2⟩]
theorem QaR {b:Bool}{c:UInt8}(h:(YH b)[((0:Int)).toNat]? =some c):(if b=true then 49 else 48)=c:=by
  have:(YH b)[((0:Int)).toNat]? =some (if b=true then 49 else 48):=by cases b <;> rfl
  rw[this] at h
  exact Option.some.inj h
theorem Xj (hl:lb.1=sig)(h1:(YH (!lb.2))[((0:Int)).toNat]? =some b1)(h2:(YH lb.2)[((0:Int)).toNat]? =some b2)(hf:cf=63∨cf=b1)(ht:ct=63∨ct=b2)(hcf:us[mv.1.toNat]? =some cf)(hct:us[mv.2.2.toNat]? =some ct):
    Yh sig (mv.1,lb.1,lb.2,mv.2.2) us=some ((us.set mv.1.toNat b1).set mv.2.2.toNat b2):=by
  unfold Yh
  simp only
  rw[if_pos hl,QaR h1,QaR h2,Z2 hcf,Z2 hct,if_neg]
  rintro (⟨h3,h4⟩ | ⟨h3,h4⟩)
  · rcases hf with h | h
    · exact h3 h
    · exact h4 h
  · rcases ht with h | h
    · exact h3 h
    · exact h4 h
theorem YD (hl:lb.1=sig)(h1:(YH (!lb.2))[((0:Int)).toNat]? =some b1)(hcf:us[mv.1.toNat]? =some cf)(h3:¬cf=63)(h4:¬cf=b1):Yh sig (mv.1,lb.1,lb.2,mv.2.2) us=none:=by
  unfold Yh
  simp only
  rw[if_pos hl,QaR h1,Z2 hcf,if_pos (.inl ⟨h3,h4⟩)]
theorem YI (hl:lb.1=sig)(h1:(YH lb.2)[((0:Int)).toNat]? =some b2)(hct:us[mv.2.2.toNat]? =some ct)(h3:¬ct=63)(h4:¬ct=b2):Yh sig (mv.1,lb.1,lb.2,mv.2.2) us=none:=by
  unfold Yh
  simp only
  rw[if_pos hl,QaR h1,Z2 hct,if_pos (.inr ⟨h3,h4⟩)]
def KE (n k:Nat):List UInt8:=List.replicate k 63++List.replicate (n - k) 0
theorem QdY (n k:Nat)(h:k≤n):(KE n k).length=n:=by simp[KE]; omega
theorem Qk4 (h:n≤k)(h2:k≤n):KE n k=List.replicate n 63:=by
  obtain rfl:k=n:=by omega
  simp[KE]
theorem QkZ (h:k < n):(KE n k).set k 63=KE n (k+1):=by
  unfold KE
  rw[List.set_append_right _ _ (by simp),aA,Nat.sub_self,show n - k=(n - (k+1))+1 by omega,List.replicate_succ,List.set_cons_zero,List.replicate_succ']
  simp
def Xz (n:Nat)(arcs:List DAr):Nat→List Int
  | 0=>[]
  | k+1=>Xz n arcs k++(if (l5V n arcs (k:Int)).2=true then [] else [(k:Int)])
theorem Qk6 (n:Nat)(arcs:List DAr)(k:Nat):(Xz n arcs k).length≤k:=by
  induction k with
  | zero=>simp[Xz]
  | succ k ih=>simp only[Xz,ai]; split <;> simp <;> omega
theorem QdQ (h:(l5V n arcs (k:Int)).2=true):Xz n arcs k=Xz n arcs (k+1):=by simp[Xz,h]
theorem Qgd (h:(l5V n arcs (k:Int)).2=false):Xz n arcs k++[(k:Int)]=Xz n arcs (k+1):=by simp[Xz,h]
end
def MvOk (n m:Nat)(v:DMv):Prop:=(0≤v.1∧v.1 < (n:Int))∧(0≤v.2.1∧v.2.1 < (m:Int))∧0≤v.2.2∧v.2.2 < (n:Int)
theorem Y7 (up:Bool):FC Tryz.prog 235 [(false,[dB up])] [] 0 (QH (lf (dS (YH up)))):=by
 refine Ql Tryz.func235 rfl rfl Tryz.ntmps235 fun O_ hO w0_ N0_ X_ h0_ f0_=> ?_
 iterate 7 refine w_ ?_
 refine cb_ (fun hb1=> ?_) fun hb1=> ?_
 ·iterate 4 refine w_ ?_
  refine Qb<|fqS hO ?_
  simp[YH, *]
 ·iterate 3 refine w_ ?_
  refine Qb<|fqS hO ?_
  simp[YH, *]
theorem Vt (s:(Int×(List (List Int×List Int)))×(List (ByteArray×Int))×(List (Int×Bool))×ByteArray)(r:List ByteArray×(List (Int×Int×Int)))(sig:Int)(hm:∀m∈r.2,MvOk r.1.length s.2.2.1.length m)(hl1:r.1.length≤1000000):FC Tryz.prog 146 [(true,[dI s.1.1, .dat (.sl 237 (.pr (.sl 3 .int) (.sl 3 .int))) s.1.2, .dat (.sl 203 (.pr .str .int)) s.2.1, .dat (.sl 120 (.pr .int .bool)) s.2.2.1,dS s.2.2.2]),(true,[.dat (.sl 9 .str) r.1, .dat (.sl 184 (.pr .int (.pr .int .int))) r.2]),(false,[dI sig])] [] 0 (QH (PV.tup [(false,[dS ((l5V r.1.length (Qv s.2.2.1 r.2) sig).1)]),(false,[dB ((l5V r.1.length (Qv s.2.2.1 r.2) sig).2)])])):=by
 have hrl:(List.replicate r.1.length (Ty.zero .u8)).length=r.1.length:=aA ..
 refine Ql Tryz.func146 rfl rfl Tryz.ntmps146 fun O_ hO w0_ N0_ X_ h0_ f0_=> ?_
 refine acG 0 0 fun hi1=> ?_
 refine acI 2 fun hi2=> ?_
 refine w_ ?_
 refine xbx 0 ?_
 refine xbx 1 ?_
 iterate 6 refine w_ ?_
 refine alL 18 fun hl3=> ?_
 refine w_ ?_
 refine lc (U2 2 (e:= .u8) (n:=r.1.length) (Qa rfl) (Qa rfl) UF QrN rfl (by omega) (by omega) rfl (Fresh.of rfl) (nlr rfl)) ?_
 iterate 9 refine w_ ?_
 refine lp0 r.1.length (fun k=>⟨[(2,lI sig),(3,lP 0 0),(4,lP 1 0),(6,lf (dS (⟨#[]⟩:ByteArray))),(7,lB false),(8,lR 3),(22,lI ((List.replicate r.1.length (Ty.zero .u8)).length:Int)),(23,lI (k:Int))],[bx 0 83 [dI s.1.1, .dat (.sl 237 (.pr (.sl 3 .int) (.sl 3 .int))) s.1.2, .dat (.sl 203 (.pr .str .int)) s.2.1, .dat (.sl 120 (.pr .int .bool)) s.2.2.1,dS s.2.2.2],bx 1 178 [.dat (.sl 9 .str) r.1, .dat (.sl 184 (.pr .int (.pr .int .int))) r.2],ar 3 5 .u8 (KE r.1.length k)]⟩) ?_ fun k hk4=> ?_
 · exact Wk.of [(3,2)] rfl ⟨rfl,rfl,rfl,rfl,rfl,rfl,rfl,rfl,trivial⟩ ⟨rfl,rfl,(Qn (rfl)),trivial⟩ rfl rfl
 have hfq:=QdY r.1.length k (by omega)
 iterate 4 refine w_ ?_
 cases hb5:(decide ((k:Int) < ((List.replicate r.1.length (Ty.zero .u8)).length:Int)))
 ·have hb5':=ab hb5
  refine w_ ?_
  refine Qj ?_
  refine (?_:AC _ _ _ _ _)
  iterate 5 refine w_ ?_
  refine Qy (fun m_ s_=>∃(p:Nat) (us:List UInt8),p≤(r.1.length+1)∧m_=(r.1.length+1) - p∧(Xu sig (Qv s.2.2.1 r.2) (r.1.length+1) (List.replicate r.1.length 63)=Xu sig (Qv s.2.2.1 r.2) (r.1.length+1 - p) us)∧(us.length=r.1.length)∧s_=⟨[(2,lI sig),(3,lP 0 0),(4,lP 1 0),(8,lR 4),(10,lI (p:Int))],[bx 0 83 [dI s.1.1, .dat (.sl 237 (.pr (.sl 3 .int) (.sl 3 .int))) s.1.2, .dat (.sl 203 (.pr .str .int)) s.2.1, .dat (.sl 120 (.pr .int .bool)) s.2.2.1,dS s.2.2.2],bx 1 178 [.dat (.sl 9 .str) r.1, .dat (.sl 184 (.pr .int (.pr .int .int))) r.2],ar 4 5 .u8 us]⟩) ⟨0,KE r.1.length k,aR _,rfl,(by rw[Qk4 (by omega) (by omega)]; rfl),(QdY _ _ (by omega)),rfl⟩ ?_ ?_
  · exact Wk.of [(4,3)] rfl ⟨rfl,rfl,rfl,rfl,rfl,trivial⟩ ⟨rfl,rfl,(Qn (by first | rfl | simp)),trivial⟩ rfl rfl
  rintro m_ s_ ⟨p,us,hk6,hm7,hA,hL,rfl⟩
  iterate 5 refine w_ ?_
  refine alL 32 fun hl8=> ?_
  iterate 3 refine w_ ?_
  cases hb9:(decide ((p:Int)≤(r.1.length:Int)))
  ·have hb9':=ab hb9
   refine w_ ?_
   refine Qj ?_
   refine (?_:AC _ _ _ _ _)
   iterate 2 refine w_ ?_
   refine lc (VU (ys:=us) (Qch (Qa rfl) rfl) UF Qgm Zc rfl) ?_
   iterate 3 refine w_ ?_
   refine Qb ?_
   have e10:((⟨(us).toArray⟩:ByteArray):ByteArray)=((l5V r.1.length (Qv s.2.2.1 r.2) sig).1):=by
    first | (rw[Qep (us:=us) (by rw[hA,show r.1.length+1 - p=0 by omega]; rfl)]; done)
   have e11:(true:Bool)=((l5V r.1.length (Qv s.2.2.1 r.2) sig).2):=by
    first | (rw[Qep (us:=us) (by rw[hA,show r.1.length+1 - p=0 by omega]; rfl)]; done)
   exact fr_ hO (e:=((congrArg (fun z_=>PV.tup [(false,[dS z_]),(false,[dB true])]) e10)).trans (congrArg (fun z_=>PV.tup [(false,[dS ((l5V r.1.length (Qv s.2.2.1 r.2) sig).1)]),(false,[dB z_])]) e11))
  ·have hb9':=ae hb9
   iterate 7 refine w_ ?_
   refine alL 38 fun hl12=> ?_
   iterate 4 refine w_ ?_
   refine Qy (fun m_ s_=>∃(i:Nat) (us2:List UInt8),i≤r.2.length∧m_=r.2.length - i∧(Xu sig (Qv s.2.2.1 r.2) (r.1.length+1) (List.replicate r.1.length 63)=Ky sig (Qv s.2.2.1 r.2) (r.1.length - p) (YF sig ((Qv s.2.2.1 r.2).drop i) us2))∧(us2.length=r.1.length)∧s_=⟨[(2,lI sig),(3,lP 0 0),(4,lP 1 0),(8,lR 5),(10,lI (p:Int)),(30,lI (p:Int)),(31,lP 1 0),(32,lf (.dat (.sl 9 .str) r.1)),(33,lI (r.1.length:Int)),(34,lB true),(37,lP 1 1),(38,lf (.dat (.sl 184 (.pr .int (.pr .int .int))) r.2)),(39,lI (r.2.length:Int)),(40,lI (i:Int))],[bx 0 83 [dI s.1.1, .dat (.sl 237 (.pr (.sl 3 .int) (.sl 3 .int))) s.1.2, .dat (.sl 203 (.pr .str .int)) s.2.1, .dat (.sl 120 (.pr .int .bool)) s.2.2.1,dS s.2.2.2],bx 1 178 [.dat (.sl 9 .str) r.1, .dat (.sl 184 (.pr .int (.pr .int .int))) r.2],ar 5 5 .u8 us2]⟩) ⟨0,us,aR _,rfl,(by rw[hA,show r.1.length+1 - p=(r.1.length - p)+1 by omega]; exact Qlg _ _),hL,rfl⟩ ?_ ?_
   · exact Wk.of [(5,4)] rfl ⟨rfl,rfl,rfl,rfl,rfl,rfl,rfl,rfl,rfl,rfl,rfl,rfl,rfl,rfl,trivial⟩ ⟨rfl,rfl,rfl,trivial⟩ rfl rfl
   rintro m_ s_ ⟨i,us2,hk13,hm14,hA2,hL2,rfl⟩
   iterate 4 refine w_ ?_
   cases hb15:(decide ((i:Int) < (r.2.length:Int)))
   ·have hb15':=ab hb15
    refine w_ ?_
    refine Qj ?_
    refine (?_:AC _ _ _ _ _)
    iterate 4 refine w_ ?_
    refine Qd<|Q0 ⟨p+1,us2,by omega,rfl,(by rw[hA2,Qj2 (by rw[Qnm]; omega),show r.1.length+1 - (p+1)=r.1.length - p by omega]; rfl),hL2,rfl⟩ (by omega) ?_
    exact Wk.of [(4,5)] rfl ⟨rfl,rfl,rfl,rfl,rfl,trivial⟩ ⟨rfl,rfl,rfl,trivial⟩ rfl rfl
   ·have hb15':=ae hb15
    iterate 5 refine w_ ?_
    obtain ⟨mv,hx17⟩:∃z,r.2[i]? =some z:=⟨_,aa (by omega)⟩
    obtain ⟨⟨hm1,hm2⟩,⟨hm3,hm4⟩,hm5,hm6⟩:=hm _ (ap hx17)
    iterate 2 refine w_ ?_
    refine lc (xal 6 (.pr .int (.pr .int .int)) VQ) ?_
    iterate 7 refine w_ ?_
    refine alI 47 fun hi18=> ?_
    obtain ⟨lb,hx20⟩:∃z,s.2.2.1[(mv.2.1).toNat]? =some z:=⟨_,aa (by omega)⟩
    have hla:=QeI hx20
    iterate 2 refine w_ ?_
    refine lc (xal 7 (.pr .int .bool) XH) ?_
    iterate 6 refine w_ ?_
    refine alI 51 fun hi21=> ?_
    iterate 3 refine w_ ?_
    cases hb22:(!decide (lb.1=sig))
    ·have hb22':(lb.1=sig):=QA hb22
     iterate 2 refine w_ ?_
     obtain ⟨c23,hc24⟩:∃z,(YH (!lb.2))[(0:Int).toNat]? =some z:=by first | exact ⟨_,aY _ _ (by omega)⟩ | exact ⟨_,rfl⟩
     obtain ⟨c25,hc26⟩:∃z,(YH lb.2)[(0:Int).toNat]? =some z:=by first | exact ⟨_,aY _ _ (by omega)⟩ | exact ⟨_,rfl⟩
     apply dW (i3 95 _ _ _ (io 98 (lf (dS (YH (!lb.2)))) :: i3 99 _ _ _ (io 102 (lf (dS (YH lb.2))) :: io 103 _ :: i2 15 _ _ []))) [0,0,0,0,0,31,31,16,16,256,0]
     iterate 3 refine z_ ?_
     refine zz (fun _ h_=>ac (dK (Y7 (!lb.2)) WA) rfl) ?_
     iterate 3 refine z_ ?_
     refine zz (fun _ h_=>ac (dK (Y7 lb.2) WA) rfl) ?_
     iterate 3 refine z_ ?_
     exact zN
     iterate 5 refine w_ ?_
     refine alI 106 fun hi27=> ?_
     refine w_ ?_
     obtain ⟨cf,hx29⟩:∃z,us2[(mv.1).toNat]? =some z:=⟨_,aa (by omega)⟩
     refine w_ ?_
     refine lc (QD (Qa rfl) (QG 63 rfl) rfl) ?_
     refine w_ ?_
     cases hb30:(!decide (cf=63))
     ·have hb30':(cf=63):=QA hb30
      iterate 13 refine w_ ?_
      obtain ⟨ct,hx32⟩:∃z,us2[(mv.2.2).toNat]? =some z:=⟨_,aa (by omega)⟩
      refine w_ ?_
      refine lgy rfl rfl (QD (Qa rfl) (QG 63 rfl) rfl) ?_
      refine w_ ?_
      cases hb33:(!decide (ct=63))
      ·have hb33':(ct=63):=QA hb33
       iterate 18 refine w_ ?_
       refine lc (Qs (e:= .u8) (z':=c23) (Qa rfl) rfl hx29 rfl (Qm rfl) rfl YJ rfl rfl) ?_
       iterate 5 refine w_ ?_
       refine alI 143 fun hi34=> ?_
       iterate 2 refine w_ ?_
       obtain ⟨x35,hx36⟩:∃z,(us2.set ((mv.1).toNat) c23)[(mv.2.2).toNat]? =some z:=⟨_,aa (by first | omega | (simp only[aD]; omega))⟩
       refine lc (Qs (e:= .u8) (z':=c25) (Qa rfl) rfl hx36 rfl (Qm rfl) rfl YJ rfl rfl)<|Qd ?_
       refine (?_:AC _ _ _ _ _)
       iterate 3 refine w_ ?_
       refine Qd<|Q0 ⟨i+1,((us2.set ((mv.1).toNat) c23).set ((mv.2.2).toNat) c25),by omega,rfl,hA2.trans (congrArg (Ky sig (Qv s.2.2.1 r.2) (r.1.length - p)) (XU (ZP hx17 hla) (by first | exact Xf (cf:=cf) (ct:=ct) (by assumption) (by assumption) (by assumption) (by assumption) | exact Xg (cf:=cf) (ct:=ct) (by assumption) (by assumption) (by assumption) (by assumption) (by first | exact .inl (by assumption) | exact .inr (by assumption)) | exact Xj (cf:=cf) (ct:=ct) (by assumption) (by assumption) (by assumption) (by first | exact .inl (by assumption) | exact .inr (by assumption)) (by first | exact .inl (by assumption) | exact .inr (by assumption)) (by assumption) (by assumption)))),(by simp only[aD]; exact hL2),rfl⟩ (by omega) ?_
       exact Wk.of [] rfl ⟨rfl,rfl,rfl,rfl,rfl,rfl,rfl,rfl,rfl,rfl,rfl,rfl,rfl,rfl,trivial⟩ ⟨rfl,rfl,(Qn (by first | rfl | simp)),trivial⟩ rfl rfl
      ·have hb33':¬(ct=63):=QS hb33
       iterate 10 refine w_ ?_
       cases hb37:(!decide (ct=c25))
       ·have hb37':(ct=c25):=QA hb37
        iterate 8 refine w_ ?_
        refine lc (Qs (e:= .u8) (z':=c23) (Qa rfl) rfl hx29 rfl (Qm rfl) rfl YJ rfl rfl) ?_
        iterate 5 refine w_ ?_
        refine alI 143 fun hi38=> ?_
        iterate 2 refine w_ ?_
        obtain ⟨x39,hx40⟩:∃z,(us2.set ((mv.1).toNat) c23)[(mv.2.2).toNat]? =some z:=⟨_,aa (by first | omega | (simp only[aD]; omega))⟩
        refine lc (Qs (e:= .u8) (z':=c25) (Qa rfl) rfl hx40 rfl (Qm rfl) rfl YJ rfl rfl)<|Qd ?_
        refine (?_:AC _ _ _ _ _)
        iterate 3 refine w_ ?_
        refine Qd<|Q0 ⟨i+1,((us2.set ((mv.1).toNat) c23).set ((mv.2.2).toNat) c25),by omega,rfl,hA2.trans (congrArg (Ky sig (Qv s.2.2.1 r.2) (r.1.length - p)) (XU (ZP hx17 hla) (by first | exact Xf (cf:=cf) (ct:=ct) (by assumption) (by assumption) (by assumption) (by assumption) | exact Xg (cf:=cf) (ct:=ct) (by assumption) (by assumption) (by assumption) (by assumption) (by first | exact .inl (by assumption) | exact .inr (by assumption)) | exact Xj (cf:=cf) (ct:=ct) (by assumption) (by assumption) (by assumption) (by first | exact .inl (by assumption) | exact .inr (by assumption)) (by first | exact .inl (by assumption) | exact .inr (by assumption)) (by assumption) (by assumption)))),(by simp only[aD]; exact hL2),rfl⟩ (by omega) ?_
        exact Wk.of [] rfl ⟨rfl,rfl,rfl,rfl,rfl,rfl,rfl,rfl,rfl,rfl,rfl,rfl,rfl,rfl,trivial⟩ ⟨rfl,rfl,(Qn (by first | rfl | simp)),trivial⟩ rfl rfl
       ·have hb37':¬(ct=c25):=QS hb37
        iterate 5 refine w_ ?_
        refine Qb ?_
        have e41:((⟨#[]⟩:ByteArray):ByteArray)=((l5V r.1.length (Qv s.2.2.1 r.2) sig).1):=by
         (rw[X8 (by rw[hA2,Xi (ZP hx17 hla) (by first | exact Xk (cf:=cf) (ct:=ct) (by assumption) (by assumption) (by assumption) (by assumption) (by assumption) (by assumption) | exact YD (cf:=cf) (by assumption) (by assumption) (by assumption) (by assumption) (by assumption) | exact YI (ct:=ct) (by assumption) (by assumption) (by assumption) (by assumption) (by assumption))]; rfl)]; done)
        have e42:(false:Bool)=((l5V r.1.length (Qv s.2.2.1 r.2) sig).2):=by
         (rw[X8 (by rw[hA2,Xi (ZP hx17 hla) (by first | exact Xk (cf:=cf) (ct:=ct) (by assumption) (by assumption) (by assumption) (by assumption) (by assumption) (by assumption) | exact YD (cf:=cf) (by assumption) (by assumption) (by assumption) (by assumption) (by assumption) | exact YI (ct:=ct) (by assumption) (by assumption) (by assumption) (by assumption) (by assumption))]; rfl)]; done)
        exact fr_ hO (e:=((congrArg (fun z_=>PV.tup [(false,[dS z_]),(false,[dB false])]) e41)).trans (congrArg (fun z_=>PV.tup [(false,[dS ((l5V r.1.length (Qv s.2.2.1 r.2) sig).1)]),(false,[dB z_])]) e42))
     ·have hb30':¬(cf=63):=QS hb30
      iterate 9 refine w_ ?_
      cases hb43:(!decide (cf=c23))
      ·have hb43':(cf=c23):=QA hb43
       iterate 4 refine w_ ?_
       obtain ⟨ct,hx45⟩:∃z,us2[(mv.2.2).toNat]? =some z:=⟨_,aa (by omega)⟩
       refine w_ ?_
       refine lgy rfl rfl (QD (Qa rfl) (QG 63 rfl) rfl) ?_
       refine w_ ?_
       cases hb46:(!decide (ct=63))
       ·have hb46':(ct=63):=QA hb46
        iterate 18 refine w_ ?_
        refine lc (Qs (e:= .u8) (z':=c23) (Qa rfl) rfl hx29 rfl (Qm rfl) rfl YJ rfl rfl) ?_
        iterate 5 refine w_ ?_
        refine alI 143 fun hi47=> ?_
        iterate 2 refine w_ ?_
        obtain ⟨x48,hx49⟩:∃z,(us2.set ((mv.1).toNat) c23)[(mv.2.2).toNat]? =some z:=⟨_,aa (by first | omega | (simp only[aD]; omega))⟩
        refine lc (Qs (e:= .u8) (z':=c25) (Qa rfl) rfl hx49 rfl (Qm rfl) rfl YJ rfl rfl)<|Qd ?_
        refine (?_:AC _ _ _ _ _)
        iterate 3 refine w_ ?_
        refine Qd<|Q0 ⟨i+1,((us2.set ((mv.1).toNat) c23).set ((mv.2.2).toNat) c25),by omega,rfl,hA2.trans (congrArg (Ky sig (Qv s.2.2.1 r.2) (r.1.length - p)) (XU (ZP hx17 hla) (by first | exact Xf (cf:=cf) (ct:=ct) (by assumption) (by assumption) (by assumption) (by assumption) | exact Xg (cf:=cf) (ct:=ct) (by assumption) (by assumption) (by assumption) (by assumption) (by first | exact .inl (by assumption) | exact .inr (by assumption)) | exact Xj (cf:=cf) (ct:=ct) (by assumption) (by assumption) (by assumption) (by first | exact .inl (by assumption) | exact .inr (by assumption)) (by first | exact .inl (by assumption) | exact .inr (by assumption)) (by assumption) (by assumption)))),(by simp only[aD]; exact hL2),rfl⟩ (by omega) ?_
        exact Wk.of [] rfl ⟨rfl,rfl,rfl,rfl,rfl,rfl,rfl,rfl,rfl,rfl,rfl,rfl,rfl,rfl,trivial⟩ ⟨rfl,rfl,(Qn (by first | rfl | simp)),trivial⟩ rfl rfl
       ·have hb46':¬(ct=63):=QS hb46
        iterate 10 refine w_ ?_
        cases hb50:(!decide (ct=c25))
        ·have hb50':(ct=c25):=QA hb50
         iterate 8 refine w_ ?_
         refine lc (Qs (e:= .u8) (z':=c23) (Qa rfl) rfl hx29 rfl (Qm rfl) rfl YJ rfl rfl) ?_
         iterate 5 refine w_ ?_
         refine alI 143 fun hi51=> ?_
         iterate 2 refine w_ ?_
         obtain ⟨x52,hx53⟩:∃z,(us2.set ((mv.1).toNat) c23)[(mv.2.2).toNat]? =some z:=⟨_,aa (by first | omega | (simp only[aD]; omega))⟩
         refine lc (Qs (e:= .u8) (z':=c25) (Qa rfl) rfl hx53 rfl (Qm rfl) rfl YJ rfl rfl)<|Qd ?_
         refine (?_:AC _ _ _ _ _)
         iterate 3 refine w_ ?_
         refine Qd<|Q0 ⟨i+1,((us2.set ((mv.1).toNat) c23).set ((mv.2.2).toNat) c25),by omega,rfl,hA2.trans (congrArg (Ky sig (Qv s.2.2.1 r.2) (r.1.length - p)) (XU (ZP hx17 hla) (by first | exact Xf (cf:=cf) (ct:=ct) (by assumption) (by assumption) (by assumption) (by assumption) | exact Xg (cf:=cf) (ct:=ct) (by assumption) (by assumption) (by assumption) (by assumption) (by first | exact .inl (by assumption) | exact .inr (by assumption)) | exact Xj (cf:=cf) (ct:=ct) (by assumption) (by assumption) (by assumption) (by first | exact .inl (by assumption) | exact .inr (by assumption)) (by first | exact .inl (by assumption) | exact .inr (by assumption)) (by assumption) (by assumption)))),(by simp only[aD]; exact hL2),rfl⟩ (by omega) ?_
         exact Wk.of [] rfl ⟨rfl,rfl,rfl,rfl,rfl,rfl,rfl,rfl,rfl,rfl,rfl,rfl,rfl,rfl,trivial⟩ ⟨rfl,rfl,(Qn (by first | rfl | simp)),trivial⟩ rfl rfl
        ·have hb50':¬(ct=c25):=QS hb50
         iterate 5 refine w_ ?_
         refine Qb ?_
         have e54:((⟨#[]⟩:ByteArray):ByteArray)=((l5V r.1.length (Qv s.2.2.1 r.2) sig).1):=by
          (rw[X8 (by rw[hA2,Xi (ZP hx17 hla) (by first | exact Xk (cf:=cf) (ct:=ct) (by assumption) (by assumption) (by assumption) (by assumption) (by assumption) (by assumption) | exact YD (cf:=cf) (by assumption) (by assumption) (by assumption) (by assumption) (by assumption) | exact YI (ct:=ct) (by assumption) (by assumption) (by assumption) (by assumption) (by assumption))]; rfl)]; done)
         have e55:(false:Bool)=((l5V r.1.length (Qv s.2.2.1 r.2) sig).2):=by
          (rw[X8 (by rw[hA2,Xi (ZP hx17 hla) (by first | exact Xk (cf:=cf) (ct:=ct) (by assumption) (by assumption) (by assumption) (by assumption) (by assumption) (by assumption) | exact YD (cf:=cf) (by assumption) (by assumption) (by assumption) (by assumption) (by assumption) | exact YI (ct:=ct) (by assumption) (by assumption) (by assumption) (by assumption) (by assumption))]; rfl)]; done)
         exact fr_ hO (e:=((congrArg (fun z_=>PV.tup [(false,[dS z_]),(false,[dB false])]) e54)).trans (congrArg (fun z_=>PV.tup [(false,[dS ((l5V r.1.length (Qv s.2.2.1 r.2) sig).1)]),(false,[dB z_])]) e55))
      ·have hb43':¬(cf=c23):=QS hb43
       iterate 7 refine w_ ?_
       refine Qf rfl rfl rfl ?_ rfl
       refine Qf rfl rfl rfl ?_ rfl
       refine Qf rfl rfl rfl ?_ rfl
       refine Qf rfl rfl rfl ?_ rfl
       refine Qf rfl rfl rfl ?_ rfl
       refine Qf rfl rfl rfl ?_ rfl
       refine Qf rfl rfl rfl ?_ rfl
       iterate 8 refine w_ ?_
       refine Qb ?_
       have e56:((⟨#[]⟩:ByteArray):ByteArray)=((l5V r.1.length (Qv s.2.2.1 r.2) sig).1):=by
        (rw[X8 (by rw[hA2,Xi (ZP hx17 hla) (by first | exact Xk (cf:=cf) (ct:=ct) (by assumption) (by assumption) (by assumption) (by assumption) (by assumption) (by assumption) | exact YD (cf:=cf) (by assumption) (by assumption) (by assumption) (by assumption) (by assumption) | exact YI (ct:=ct) (by assumption) (by assumption) (by assumption) (by assumption) (by assumption))]; rfl)]; done)
       have e57:(false:Bool)=((l5V r.1.length (Qv s.2.2.1 r.2) sig).2):=by
        (rw[X8 (by rw[hA2,Xi (ZP hx17 hla) (by first | exact Xk (cf:=cf) (ct:=ct) (by assumption) (by assumption) (by assumption) (by assumption) (by assumption) (by assumption) | exact YD (cf:=cf) (by assumption) (by assumption) (by assumption) (by assumption) (by assumption) | exact YI (ct:=ct) (by assumption) (by assumption) (by assumption) (by assumption) (by assumption))]; rfl)]; done)
       exact fr_ hO (e:=((congrArg (fun z_=>PV.tup [(false,[dS z_]),(false,[dB false])]) e56)).trans (congrArg (fun z_=>PV.tup [(false,[dS ((l5V r.1.length (Qv s.2.2.1 r.2) sig).1)]),(false,[dB z_])]) e57))
    ·have hb22':¬(lb.1=sig):=QS hb22
     iterate 5 refine w_ ?_
     refine alI 56 fun hi58=> ?_
     refine w_ ?_
     obtain ⟨cf,hx60⟩:∃z,us2[(mv.1).toNat]? =some z:=⟨_,aa (by omega)⟩
     iterate 6 refine w_ ?_
     refine lc (Zm (Qa rfl) (QG 63 rfl) rfl) ?_
     refine w_ ?_
     cases hb61:(decide (cf=63))
     ·have hb61':=ab hb61
      iterate 5 refine w_ ?_
      refine lc (QD (Qa rfl) (QG 63 rfl) rfl) ?_
      refine w_ ?_
      have hb62:(!decide (cf=63))=true:=Jw (hb61)
      try rw[hb62]
      iterate 4 refine w_ ?_
      obtain ⟨ct,hx64⟩:∃z,us2[(mv.2.2).toNat]? =some z:=⟨_,aa (by omega)⟩
      refine w_ ?_
      refine lgy rfl rfl (QD (Qa rfl) (QG 63 rfl) rfl) ?_
      iterate 2 refine w_ ?_
      cases hb65:(!decide (ct=63))
      ·have hb65':(ct=63):=QA hb65
       iterate 17 refine w_ ?_
       refine lc (Qs (e:= .u8) (z':=cf) (Qa rfl) rfl hx60 rfl (Qm rfl) rfl YJ rfl rfl) ?_
       iterate 5 refine w_ ?_
       refine alI 92 fun hi66=> ?_
       iterate 2 refine w_ ?_
       obtain ⟨x67,hx68⟩:∃z,(us2.set ((mv.1).toNat) cf)[(mv.2.2).toNat]? =some z:=⟨_,aa (by first | omega | (simp only[aD]; omega))⟩
       refine lc (Qs (e:= .u8) (z':=cf) (Qa rfl) rfl hx68 rfl (Qm rfl) rfl YJ rfl rfl) ?_
       refine w_ ?_
       refine Qj ?_
       refine (?_:AC _ _ _ _ _)
       iterate 3 refine w_ ?_
       refine Qd<|Q0 ⟨i+1,((us2.set ((mv.1).toNat) cf).set ((mv.2.2).toNat) cf),by omega,rfl,hA2.trans (congrArg (Ky sig (Qv s.2.2.1 r.2) (r.1.length - p)) (XU (ZP hx17 hla) (by first | exact Xf (cf:=cf) (ct:=ct) (by assumption) (by assumption) (by assumption) (by assumption) | exact Xg (cf:=cf) (ct:=ct) (by assumption) (by assumption) (by assumption) (by assumption) (by first | exact .inl (by assumption) | exact .inr (by assumption)) | exact Xj (cf:=cf) (ct:=ct) (by assumption) (by assumption) (by assumption) (by first | exact .inl (by assumption) | exact .inr (by assumption)) (by first | exact .inl (by assumption) | exact .inr (by assumption)) (by assumption) (by assumption)))),(by simp only[aD]; exact hL2),rfl⟩ (by omega) ?_
       exact Wk.of [] rfl ⟨rfl,rfl,rfl,rfl,rfl,rfl,rfl,rfl,rfl,rfl,rfl,rfl,rfl,rfl,trivial⟩ ⟨rfl,rfl,(Qn (by first | rfl | simp)),trivial⟩ rfl rfl
      ·have hb65':¬(ct=63):=QS hb65
       iterate 9 refine w_ ?_
       cases hb69:(!decide (ct=cf))
       ·have hb69':(ct=cf):=QA hb69
        iterate 8 refine w_ ?_
        refine lc (Qs (e:= .u8) (z':=cf) (Qa rfl) rfl hx60 rfl (Qm rfl) rfl YJ rfl rfl) ?_
        iterate 5 refine w_ ?_
        refine alI 92 fun hi70=> ?_
        iterate 2 refine w_ ?_
        obtain ⟨x71,hx72⟩:∃z,(us2.set ((mv.1).toNat) cf)[(mv.2.2).toNat]? =some z:=⟨_,aa (by first | omega | (simp only[aD]; omega))⟩
        refine lc (Qs (e:= .u8) (z':=cf) (Qa rfl) rfl hx72 rfl (Qm rfl) rfl YJ rfl rfl) ?_
        refine w_ ?_
        refine Qj ?_
        refine (?_:AC _ _ _ _ _)
        iterate 3 refine w_ ?_
        refine Qd<|Q0 ⟨i+1,((us2.set ((mv.1).toNat) cf).set ((mv.2.2).toNat) cf),by omega,rfl,hA2.trans (congrArg (Ky sig (Qv s.2.2.1 r.2) (r.1.length - p)) (XU (ZP hx17 hla) (by first | exact Xf (cf:=cf) (ct:=ct) (by assumption) (by assumption) (by assumption) (by assumption) | exact Xg (cf:=cf) (ct:=ct) (by assumption) (by assumption) (by assumption) (by assumption) (by first | exact .inl (by assumption) | exact .inr (by assumption)) | exact Xj (cf:=cf) (ct:=ct) (by assumption) (by assumption) (by assumption) (by first | exact .inl (by assumption) | exact .inr (by assumption)) (by first | exact .inl (by assumption) | exact .inr (by assumption)) (by assumption) (by assumption)))),(by simp only[aD]; exact hL2),rfl⟩ (by omega) ?_
        exact Wk.of [] rfl ⟨rfl,rfl,rfl,rfl,rfl,rfl,rfl,rfl,rfl,rfl,rfl,rfl,rfl,rfl,trivial⟩ ⟨rfl,rfl,(Qn (by first | rfl | simp)),trivial⟩ rfl rfl
       ·have hb69':¬(ct=cf):=QS hb69
        iterate 5 refine w_ ?_
        refine Qb ?_
        have e73:((⟨#[]⟩:ByteArray):ByteArray)=((l5V r.1.length (Qv s.2.2.1 r.2) sig).1):=by
         (rw[X8 (by rw[hA2,Xi (ZP hx17 hla) (by first | exact Xk (cf:=cf) (ct:=ct) (by assumption) (by assumption) (by assumption) (by assumption) (by assumption) (by assumption) | exact YD (cf:=cf) (by assumption) (by assumption) (by assumption) (by assumption) (by assumption) | exact YI (ct:=ct) (by assumption) (by assumption) (by assumption) (by assumption) (by assumption))]; rfl)]; done)
        have e74:(false:Bool)=((l5V r.1.length (Qv s.2.2.1 r.2) sig).2):=by
         (rw[X8 (by rw[hA2,Xi (ZP hx17 hla) (by first | exact Xk (cf:=cf) (ct:=ct) (by assumption) (by assumption) (by assumption) (by assumption) (by assumption) (by assumption) | exact YD (cf:=cf) (by assumption) (by assumption) (by assumption) (by assumption) (by assumption) | exact YI (ct:=ct) (by assumption) (by assumption) (by assumption) (by assumption) (by assumption))]; rfl)]; done)
        exact fr_ hO (e:=((congrArg (fun z_=>PV.tup [(false,[dS z_]),(false,[dB false])]) e73)).trans (congrArg (fun z_=>PV.tup [(false,[dS ((l5V r.1.length (Qv s.2.2.1 r.2) sig).1)]),(false,[dB z_])]) e74))
     ·have hb61':=ae hb61
      iterate 5 refine w_ ?_
      refine alI 63 fun hi75=> ?_
      refine w_ ?_
      obtain ⟨ct,hx77⟩:∃z,us2[(mv.2.2).toNat]? =some z:=⟨_,aa (by omega)⟩
      iterate 6 refine w_ ?_
      refine lc (QD (Qa rfl) (QG 63 rfl) rfl) ?_
      refine w_ ?_
      cases hb78:(!decide (ct=63))
      ·have hb78':(ct=63):=QA hb78
       iterate 25 refine w_ ?_
       refine lc (Qs (e:= .u8) (z':=ct) (Qa rfl) rfl hx60 rfl (Qm rfl) rfl YJ rfl rfl) ?_
       iterate 7 refine w_ ?_
       obtain ⟨x79,hx80⟩:∃z,(us2.set ((mv.1).toNat) ct)[(mv.2.2).toNat]? =some z:=⟨_,aa (by first | omega | (simp only[aD]; omega))⟩
       refine lc (Qs (e:= .u8) (z':=ct) (Qa rfl) rfl hx80 rfl (Qm rfl) rfl YJ rfl rfl) ?_
       refine w_ ?_
       refine Qj ?_
       refine (?_:AC _ _ _ _ _)
       iterate 3 refine w_ ?_
       refine Qd<|Q0 ⟨i+1,((us2.set ((mv.1).toNat) ct).set ((mv.2.2).toNat) ct),by omega,rfl,hA2.trans (congrArg (Ky sig (Qv s.2.2.1 r.2) (r.1.length - p)) (XU (ZP hx17 hla) (by first | exact Xf (cf:=cf) (ct:=ct) (by assumption) (by assumption) (by assumption) (by assumption) | exact Xg (cf:=cf) (ct:=ct) (by assumption) (by assumption) (by assumption) (by assumption) (by first | exact .inl (by assumption) | exact .inr (by assumption)) | exact Xj (cf:=cf) (ct:=ct) (by assumption) (by assumption) (by assumption) (by first | exact .inl (by assumption) | exact .inr (by assumption)) (by first | exact .inl (by assumption) | exact .inr (by assumption)) (by assumption) (by assumption)))),(by simp only[aD]; exact hL2),rfl⟩ (by omega) ?_
       exact Wk.of [] rfl ⟨rfl,rfl,rfl,rfl,rfl,rfl,rfl,rfl,rfl,rfl,rfl,rfl,rfl,rfl,trivial⟩ ⟨rfl,rfl,(Qn (by first | rfl | simp)),trivial⟩ rfl rfl
      ·have hb78':¬(ct=63):=QS hb78
       iterate 5 refine w_ ?_
       refine lgy rfl rfl (QD (Qa rfl) (QG 63 rfl) rfl) ?_
       iterate 2 refine w_ ?_
       have hb81:(!decide (ct=63))=true:=Jw (Qbc hb78)
       try rw[hb81]
       iterate 9 refine w_ ?_
       have hb82:(!decide (ct=ct))=false:=Jw (aJ rfl)
       have hb82':(ct=ct):=QA hb82
       try rw[hb82]
       iterate 8 refine w_ ?_
       refine lc (Qs (e:= .u8) (z':=ct) (Qa rfl) rfl hx60 rfl (Qm rfl) rfl YJ rfl rfl) ?_
       iterate 7 refine w_ ?_
       obtain ⟨x83,hx84⟩:∃z,(us2.set ((mv.1).toNat) ct)[(mv.2.2).toNat]? =some z:=⟨_,aa (by first | omega | (simp only[aD]; omega))⟩
       refine lc (Qs (e:= .u8) (z':=ct) (Qa rfl) rfl hx84 rfl (Qm rfl) rfl YJ rfl rfl) ?_
       refine w_ ?_
       refine Qj ?_
       refine (?_:AC _ _ _ _ _)
       iterate 3 refine w_ ?_
       refine Qd<|Q0 ⟨i+1,((us2.set ((mv.1).toNat) ct).set ((mv.2.2).toNat) ct),by omega,rfl,hA2.trans (congrArg (Ky sig (Qv s.2.2.1 r.2) (r.1.length - p)) (XU (ZP hx17 hla) (by first | exact Xf (cf:=cf) (ct:=ct) (by assumption) (by assumption) (by assumption) (by assumption) | exact Xg (cf:=cf) (ct:=ct) (by assumption) (by assumption) (by assumption) (by assumption) (by first | exact .inl (by assumption) | exact .inr (by assumption)) | exact Xj (cf:=cf) (ct:=ct) (by assumption) (by assumption) (by assumption) (by first | exact .inl (by assumption) | exact .inr (by assumption)) (by first | exact .inl (by assumption) | exact .inr (by assumption)) (by assumption) (by assumption)))),(by simp only[aD]; exact hL2),rfl⟩ (by omega) ?_
       exact Wk.of [] rfl ⟨rfl,rfl,rfl,rfl,rfl,rfl,rfl,rfl,rfl,rfl,rfl,rfl,rfl,rfl,trivial⟩ ⟨rfl,rfl,(Qn (by first | rfl | simp)),trivial⟩ rfl rfl
 ·have hb5':=ae hb5
  iterate 12 refine w_ ?_
  obtain ⟨x85,hx86⟩:∃z,(KE r.1.length k)[k]? =some z:=⟨_,aa (by omega)⟩
  refine lc (Qs (e:= .u8) (z':=63) (Qa rfl) rfl hx86 rfl (Evl.ev (QG 63 rfl)) rfl YJ rfl rfl)<|Qd ?_
  refine (?_:AC _ _ _ _ _)
  iterate 3 refine w_ ?_
  refine Qd ?_
  refine l0_ ?_
  exact Wk.of [] rfl ⟨rfl,rfl,rfl,rfl,rfl,rfl,rfl,rfl,trivial⟩ ⟨rfl,rfl,(Qn (QkZ (by omega))),trivial⟩ rfl rfl
theorem Qav (s:(Int×(List (List Int×List Int)))×(List (ByteArray×Int))×(List (Int×Bool))×ByteArray)(r:List ByteArray×(List (Int×Int×Int)))(hm:∀m∈r.2,MvOk r.1.length s.2.2.1.length m)(hl1:r.1.length≤1000000)(hl2:s.2.1.length≤1000000):FC Tryz.prog 145 [(true,[dI s.1.1, .dat (.sl 237 (.pr (.sl 3 .int) (.sl 3 .int))) s.1.2, .dat (.sl 203 (.pr .str .int)) s.2.1, .dat (.sl 120 (.pr .int .bool)) s.2.2.1,dS s.2.2.2]),(true,[.dat (.sl 9 .str) r.1, .dat (.sl 184 (.pr .int (.pr .int .int))) r.2])] [] 0 (WC 3 .int (Xz r.1.length (Qv s.2.2.1 r.2) s.2.1.length)):=by
 refine Ql Tryz.func145 rfl rfl Tryz.ntmps145 fun O_ hO w0_ N0_ X_ h0_ f0_=> ?_
 refine acG 0 0 fun hi1=> ?_
 refine w_ ?_
 refine xbx 0 ?_
 refine xbx 1 ?_
 iterate 9 refine w_ ?_
 refine alL 10 fun hl2=> ?_
 iterate 4 refine w_ ?_
 refine AC.wk (Wk.nilS 2 5 3 .int rfl (Fresh.of rfl) (nlr rfl)) ?_
 refine lp0 s.2.1.length (fun k=>⟨[(2,lP 0 0),(3,lP 1 0),(4,lf (.val (.slice none 0 0))),(5,lR 3),(11,lI (s.2.1.length:Int)),(12,lI (k:Int))],[bx 0 83 [dI s.1.1, .dat (.sl 237 (.pr (.sl 3 .int) (.sl 3 .int))) s.1.2, .dat (.sl 203 (.pr .str .int)) s.2.1, .dat (.sl 120 (.pr .int .bool)) s.2.2.1,dS s.2.2.2],bx 1 178 [.dat (.sl 9 .str) r.1, .dat (.sl 184 (.pr .int (.pr .int .int))) r.2],ar 3 3 .int (Xz r.1.length (Qv s.2.2.1 r.2) k)]⟩) ?_ fun k hk3=> ?_
 · exact Wk.of [(3,2)] rfl ⟨rfl,rfl,rfl,rfl,rfl,rfl,trivial⟩ ⟨rfl,rfl,(Qn (by first | rfl | simp)),trivial⟩ rfl rfl
 have hcl:=Qk6 r.1.length (Qv s.2.2.1 r.2) k
 iterate 4 refine w_ ?_
 cases hb4:(decide ((k:Int) < (s.2.1.length:Int)))
 ·have hb4':=ab hb4
  refine w_ ?_
  refine Qj ?_
  refine (?_:AC _ _ _ _ _)
  iterate 4 refine w_ ?_
  refine Qb<|fo_ hO ?_
  rw[show k=s.2.1.length by omega]
 ·have hb4':=ae hb4
  iterate 12 refine w_ ?_
  refine lc (dK (Vt s r (k:Int) hm hl1) QbN) ?_
  iterate 10 refine w_ ?_
  cases hb5:((l5V r.1.length (Qv s.2.2.1 r.2) (k:Int)).2)
  ·iterate 4 refine w_ ?_
   refine lc (dBs 4 (e:= .int) Vu) ?_
   refine lc (dA 5 Vz) ?_
   refine w_ ?_
   refine Qd ?_
   refine (?_:AC _ _ _ _ _)
   iterate 3 refine w_ ?_
   refine Qd ?_
   refine l0_ ?_
   exact Wk.of [(3,5)] rfl ⟨rfl,rfl,rfl,rfl,rfl,rfl,trivial⟩ ⟨rfl,rfl,(Qn (by first | exact QdQ (by assumption) | exact Qgd (by assumption))),trivial⟩ rfl rfl
  ·refine w_ ?_
   refine AC.skip ?_
   refine (?_:AC _ _ _ _ _)
   iterate 3 refine w_ ?_
   refine Qd ?_
   refine l0_ ?_
   exact Wk.of [] rfl ⟨rfl,rfl,rfl,rfl,rfl,rfl,trivial⟩ ⟨rfl,rfl,(Qn (by first | exact QdQ (by assumption) | exact Qgd (by assumption))),trivial⟩ rfl rfl
end Go.Proofs.YtfkmmpfdncopdaaGreat
