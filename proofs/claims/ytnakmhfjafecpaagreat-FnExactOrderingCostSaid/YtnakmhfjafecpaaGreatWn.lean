/- Walks over abstract states: the values of a signal as the reference finds them, and the plain law that they are the same. -/
import Derived.Test.YtnakmhfjafecpaaGreatWm
set_option linter.unusedSimpArgs false
set_option linter.unusedVariables false
set_option linter.unusedSectionVars false
namespace Go.Proofs.YtnakmhfjafecpaaGreat
open Go.RowKit
set_option maxRecDepth 100000
set_option maxHeartbeats 4000000
def Ym (sig:Int)(a:DAr)(us:List UInt8):Option (List UInt8):=
  if a.2.1=sig then
    (if (bv us a.1.toNat≠63∧bv us a.1.toNat≠(if (!a.2.2.1)=true then 49 else 48))∨(bv us a.2.2.2.toNat≠63∧bv us a.2.2.2.toNat≠(if a.2.2.1=true then 49 else 48)) then none
    else some ((us.set a.1.toNat (if (!a.2.2.1)=true then 49 else 48)).set a.2.2.2.toNat (if a.2.2.1=true then 49 else 48)))
  else if bv us a.1.toNat=63 then some ((us.set a.1.toNat (bv us a.2.2.2.toNat)).set a.2.2.2.toNat (bv us a.2.2.2.toNat))
  else if bv us a.2.2.2.toNat≠63∧bv us a.2.2.2.toNat≠bv us a.1.toNat then none
  else some ((us.set a.1.toNat (bv us a.1.toNat)).set a.2.2.2.toNat (bv us a.1.toNat))
def YV (sig:Int):List DAr→List UInt8→Option (List UInt8)
  | [],us=>some us
  | a :: rs,us=>match Ym sig a us with
    | none=>none
    | some us'=>YV sig rs us'
def XS (sig:Int)(arcs:List DAr):Nat→List UInt8→Option (List UInt8)
  | 0,us=>some us
  | f+1,us=>match YV sig arcs us with
    | none=>none
    | some us'=>XS sig arcs f us'
def Jk (sig:Int)(arcs:List DAr)(f:Nat):Option (List UInt8)→Option (List UInt8)
  | none=>none
  | some us'=>XS sig arcs f us'
def l5V (n:Nat)(arcs:List DAr)(sig:Int):ByteArray×Bool:=match XS sig arcs (n+1) (List.replicate n 63) with
  | none=>(⟨#[]⟩,false)
  | some us=>(⟨us.toArray⟩,true)
section
variable {sig:Int}{a:DAr}{us us' vs vs':List UInt8}{arcs rs:List DAr}{f k m:Nat}{cf ct x:UInt8}{ch ch':Bool}{i j:Nat}
theorem Wm (hx:arcs[k]? =some a)(h:Ym sig a us=some us'):YV sig (arcs.drop k) us=YV sig (arcs.drop (k+1)) us':=by rw[ZS hx,YV,h]
theorem Xm (hx:arcs[k]? =some a)(h:Ym sig a us=none):YV sig (arcs.drop k) us=none:=by rw[ZS hx,YV,h]
theorem Qkj (hk:arcs.length≤k):YV sig (arcs.drop k) us=some us:=by rw[List.drop_eq_nil_of_le hk,YV]
theorem Qly (f:Nat)(us:List UInt8):XS sig arcs (f+1) us=Jk sig arcs f (YV sig arcs us):=by
  rw[XS]; cases YV sig arcs us <;> rfl
theorem Wx {n:Nat}(h:XS sig arcs (n+1) (List.replicate n 63)=none):l5V n arcs sig=(⟨#[]⟩,false):=by unfold l5V; rw[h]
theorem Qfd {n:Nat}(h:XS sig arcs (n+1) (List.replicate n 63)=some us):l5V n arcs sig=(⟨us.toArray⟩,true):=by unfold l5V; rw[h]
def qm (c:UInt8):UInt8:=if c=0 then 63 else c
def Kn (vs:List UInt8):Prop:=∀c∈vs,c=0∨c=48∨c=49
theorem Kn.set (h:Kn vs){c:UInt8}(hc:c=0∨c=48∨c=49)(i:Nat):Kn (vs.set i c):=fun d hd=>by
  rcases List.mem_or_eq_of_mem_set hd with h1 | h1
  · exact h d h1
  · rw[h1]; exact hc
theorem Kn.at (h:Kn vs)(hi:i < vs.length):∃c,vs[i]? =some c∧(c=0∨c=48∨c=49):=⟨_,List.getElem?_eq_getElem hi,h _ (List.getElem_mem hi)⟩
theorem V6 {c:UInt8}(h:vs[i]? =some c):vs.set i c=vs:=by
  apply List.ext_getElem?
  intro j
  by_cases e:i=j
  · subst e; rw[List.getElem?_set_self (List.getElem?_eq_some_iff.1 h).1,h]
  · rw[List.getElem?_set_ne e]
theorem Ql1 (hi:vs[i]? =some cf):bv (vs.map qm) i=qm cf:=Z5 (by rw[List.getElem?_map,hi]; rfl)
theorem QpZ (b:Bool):((if b=true then (49:UInt8) else 48)=49∧(if (!b)=true then (49:UInt8) else 48)=48)∨((if b=true then (49:UInt8) else 48)=48∧(if (!b)=true then (49:UInt8) else 48)=49):=by cases b <;> simp
theorem Qm4 (hne:i≠j)(c:UInt8)(h:vs[j]? =some ct):(agb vs i c).1[j]? =some ct:=by
  unfold agb
  split
  · exact h
  · split
    · show (vs.set i c)[j]? = _
      rw[List.getElem?_set_ne hne]; exact h
    · exact h
theorem Qkq (hk:Kn vs)(hr:InR vs.length a)(hself:a.2.1=sig→a.1≠a.2.2.2):Ym sig a (vs.map qm)=(YT sig a vs).map (fun r=>r.1.map qm)∧∀vs' c,YT sig a vs=some (vs',c)→Kn vs':=by
  obtain ⟨⟨r1,r2⟩,r3,r4⟩:=hr
  obtain ⟨cf,hf,kf⟩:=hk.at (i:=a.1.toNat) (by omega)
  obtain ⟨ct,ht,kt⟩:=hk.at (i:=a.2.2.2.toNat) (by omega)
  unfold Ym YT
  rw[Ql1 hf,Ql1 ht]
  by_cases hl:a.2.1=sig
  · rw [if_pos hl, if_pos hl]
    have hne:a.1.toNat≠a.2.2.2.toNat:=by have:=hself hl; omega
    have hg:=fun c=>Qm4 (vs:=vs) hne c ht
    rw[Wy (hg _),Wy hf]
    have hset:∀c d:UInt8,((vs.map qm).set a.1.toNat c).set a.2.2.2.toNat d=((vs.map qm).set a.2.2.2.toNat d).set a.1.toNat c:=fun c d=>List.set_comm _ _ hne
    have hf2:∀d,(vs.set a.2.2.2.toNat d)[a.1.toNat]? =some cf:=fun d=>by rw[List.getElem?_set_ne (Ne.symm hne)]; exact hf
    have mf:(vs.map qm)[a.1.toNat]? =some (qm cf):=by rw[List.getElem?_map,hf]; rfl
    have mt:(vs.map qm)[a.2.2.2.toNat]? =some (qm ct):=by rw[List.getElem?_map,ht]; rfl
    have mt2:∀d,((vs.map qm).set a.1.toNat d)[a.2.2.2.toNat]? =some (qm ct):=fun d=>by rw[List.getElem?_set_ne hne]; exact mt
    have s1:=V6 mf
    have s2:=V6 mt
    have s3:=fun d=>V6 (mt2 d)
    rcases QpZ a.2.2.1 with ⟨e1,e2⟩ | ⟨e1,e2⟩ <;> rw[e1,e2] <;> rcases kf with rfl | rfl | rfl <;> rcases kt with rfl | rfl | rfl <;> simp only[qm] at s1 s2 s3 ⊢ <;> simp[List.map_set,qm,s1,s2,s3] at* <;> first | done | (refine ⟨?_, ?_⟩ <;> first | (simp_all; done) | (intros; subst_vars; first | exact (hk.set (.inr (.inl rfl)) _).set (.inr (.inr rfl)) _ | exact (hk.set (.inr (.inr rfl)) _).set (.inr (.inl rfl)) _ | exact hk.set (.inr (.inl rfl)) _ | exact hk.set (.inr (.inr rfl)) _ | exact hk)) | (intros; subst_vars; first | exact (hk.set (.inr (.inl rfl)) _).set (.inr (.inr rfl)) _ | exact (hk.set (.inr (.inr rfl)) _).set (.inr (.inl rfl)) _ | exact hk.set (.inr (.inl rfl)) _ | exact hk.set (.inr (.inr rfl)) _ | exact hk) | (simp_all; done)
  · rw [if_neg hl, if_neg hl, XI hf ht]
    have mf:(vs.map qm)[a.1.toNat]? =some (qm cf):=by rw[List.getElem?_map,hf]; rfl
    have mt:(vs.map qm)[a.2.2.2.toNat]? =some (qm ct):=by rw[List.getElem?_map,ht]; rfl
    have s1:=V6 mf
    have s2:=V6 mt
    have s3:((vs.map qm).set a.1.toNat (qm ct)).set a.2.2.2.toNat (qm ct)=(vs.map qm).set a.1.toNat (qm ct):=by
      by_cases e:a.1.toNat=a.2.2.2.toNat
      · rw[e,List.set_set]
      · exact V6 (by rw[List.getElem?_set_ne e]; exact mt)
    rcases kf with rfl | rfl | rfl <;> rcases kt with rfl | rfl | rfl <;> simp only[qm] at s1 s2 s3 ⊢ <;> simp[List.map_set,qm,s1,s2,s3] at* <;> first | done | (refine ⟨?_, ?_⟩ <;> first | (simp_all; done) | (intros; subst_vars; first | exact hk.set (.inr (.inl rfl)) _ | exact hk.set (.inr (.inr rfl)) _ | exact hk)) | (intros; subst_vars; first | exact hk.set (.inr (.inl rfl)) _ | exact hk.set (.inr (.inr rfl)) _ | exact hk) | (simp_all; done)
theorem QjT (hr:∀a∈rs,InR m a)(hs:∀a∈rs,a.2.1=sig→a.1≠a.2.2.2)(hk:Kn vs)(hl:vs.length=m):YV sig rs (vs.map qm)=(YD sig rs vs ch).map (fun r=>r.1.map qm)∧∀vs' c,YD sig rs vs ch=some (vs',c)→Kn vs':=by
  induction rs generalizing vs ch with
  | nil=>exact ⟨rfl,fun vs' c h=>by rw[YD] at h; cases h; exact hk⟩
  | cons a rs ih=>
    obtain ⟨h1,h2⟩:=Qkq hk (by rw[hl]; exact hr a (List.mem_cons_self ..)) (hs a (List.mem_cons_self ..))
    rw[YV,YD,h1]
    cases hst:YT sig a vs with
    | none=>exact ⟨rfl,fun vs' c h=>by cases h⟩
    | some r=>
      obtain ⟨v1,c1⟩:=r
      exact ih (fun b hb=>hr b (List.mem_cons_of_mem _ hb)) (fun b hb=>hs b (List.mem_cons_of_mem _ hb)) (h2 _ _ hst) ((YK (by rw[hl]; exact hr a (List.mem_cons_self ..)) hst).1.trans hl)
theorem Qes (h:YV sig arcs us=some us):∀f,XS sig arcs f us=some us
  | 0=>rfl
  | f+1=>by rw[XS,h]; exact Qes h f
theorem Qg7 (hr:∀a∈arcs,InR m a)(hs:∀a∈arcs,a.2.1=sig→a.1≠a.2.2.2):∀{f:Nat} {vs:List UInt8},Kn vs→vs.length=m→ZN vs < f→XS sig arcs f (vs.map qm)=(X3 sig arcs f vs).map (List.map qm)∧∀vs',X3 sig arcs f vs=some vs'→Kn vs'
  | 0,_,_,_,h=>by omega
  | f+1,vs,hk,hl,h=>by
    obtain ⟨h1,h2⟩:=QjT (ch:=false) hr hs hk hl
    rw[XS,X3,h1]
    cases hp:YD sig arcs vs false with
    | none=>exact ⟨rfl,fun vs' h=>by cases h⟩
    | some r=>
      obtain ⟨v1,c1⟩:=r
      obtain ⟨k1,k2,k3,k4⟩:=Jz hr hl hp
      cases c1 with
      | true=>
        rcases k3 rfl with h3 | h3
        · cases h3
        · have h3 : ZN v1 < ZN vs := h3
          exact Qg7 hr hs (h2 _ _ hp) k1 (show ZN v1 < f by omega)
      | false=>
        obtain ⟨rfl,_⟩:=k4 rfl
        rw[hp] at h1
        exact ⟨Qes h1 f,fun vs' h=>by cases h; exact hk⟩
theorem QjQ (vs:List UInt8)(i:Nat)(c:UInt8):agb vs i c=if bv vs i=c then (vs,true,false) else if bv vs i=0 then (vs.set i c,true,true) else (vs,false,false):=rfl
theorem Qik (hl:a.2.1=sig)(he:a.1=a.2.2.2)(hi:a.1.toNat < vs.length):YT sig a vs=none:=by
  unfold YT
  rw[if_pos hl,← he]
  have h0:=QeX a.2.2.1
  have h1:=QeX (!a.2.2.1)
  have h2:(if (!a.2.2.1)=true then (49:UInt8) else 48)≠(if a.2.2.1=true then 49 else 48):=by cases a.2.2.1 <;> decide
  generalize (if (!a.2.2.1)=true then (49:UInt8) else 48)=f0 at h1 h2 ⊢
  generalize (if a.2.2.1=true then (49:UInt8) else 48)=t0 at h0 h2 ⊢
  rw[if_neg]
  rintro ⟨k1,k2⟩
  have k3:bv (agb vs a.1.toNat f0).1 a.1.toNat=f0:=by
    rw[QjQ] at k1 ⊢
    split
    · assumption
    · rename_i h3
      rw[if_neg h3] at k1
      split
      · exact Z5 (List.getElem?_set_self hi)
      · rename_i h4
        rw[if_neg h4] at k1
        cases k1
  rw[QjQ (agb vs a.1.toNat f0).1,k3,if_neg h2,if_neg h1] at k2
  cases k2
theorem Qie {b:DAr}(hr:∀a∈rs,InR m a)(hlen:vs.length=m)(hm:b∈rs)(hl:b.2.1=sig)(he:b.1=b.2.2.2):YD sig rs vs ch=none:=by
  induction rs generalizing vs ch with
  | nil=>cases hm
  | cons a rs ih=>
    have ha:=hr a (List.mem_cons_self ..)
    rw[YD]
    cases hst:YT sig a vs with
    | none=>rfl
    | some r=>
      obtain ⟨v1,c1⟩:=r
      rcases List.mem_cons.1 hm with rfl | hm
      · have := ha.1
        rw[Qik hl he (by omega)] at hst
        cases hst
      · exact ih (fun b hb=>hr b (List.mem_cons_of_mem _ hb)) ((YK (by rw[hlen]; exact ha) hst).1.trans hlen) hm
theorem Qkm (h:Ym sig a us=some us'):us'.length=us.length:=by
  unfold Ym at h
  generalize (if (!a.2.2.1)=true then (49:UInt8) else 48)=f0 at h
  generalize (if a.2.2.1=true then (49:UInt8) else 48)=t0 at h
  split at h
  · split at h
    · cases h
    · cases h; simp
  · split at h
    · cases h; simp
    · split at h
      · cases h
      · cases h; simp
theorem QbX {c:UInt8}(h:Ym sig a us=some us')(hc:us[i]? =some c)(h0:c≠63):us'[i]? =some c:=by
  have hi:=(List.getElem?_eq_some_iff.1 hc).1
  have hset:∀x y:UInt8,(i=a.2.2.2.toNat→y=c)→(i=a.1.toNat→x=c)→((us.set a.1.toNat x).set a.2.2.2.toNat y)[i]? =some c:=fun x y h1 h2=>by
    by_cases e1:a.2.2.2.toNat=i
    · rw[e1,List.getElem?_set_self (by simpa using hi),h1 e1.symm]
    · rw [List.getElem?_set_ne e1]
      by_cases e2:a.1.toNat=i
      · rw[e2,List.getElem?_set_self hi,h2 e2.symm]
      · rw[List.getElem?_set_ne e2]; exact hc
  unfold Ym at h
  generalize (if (!a.2.2.1)=true then (49:UInt8) else 48)=f0 at h
  generalize (if a.2.2.1=true then (49:UInt8) else 48)=t0 at h
  split at h
  · split at h
    · cases h
    · rename_i h2
      cases h
      refine hset _ _ (fun e=> ?_) (fun e=> ?_)
      · rw [← e, Z5 hc] at h2
        exact Classical.byContradiction fun h3=>h2 (.inr ⟨h0,fun e=>h3 e.symm⟩)
      · rw [← e, Z5 hc] at h2
        exact Classical.byContradiction fun h3=>h2 (.inl ⟨h0,fun e=>h3 e.symm⟩)
  · split at h
    · rename_i h2
      cases h
      refine hset _ _ (fun e=> ?_) (fun e=> ?_)
      · rw[← e,Z5 hc]
      · rw[← e,Z5 hc] at h2; exact absurd h2 h0
    · split at h
      · cases h
      · rename_i h2 h3
        cases h
        refine hset _ _ (fun e=> ?_) (fun e=> ?_)
        · rw [← e, Z5 hc] at h3
          exact Classical.byContradiction fun h4=>h3 ⟨h0,fun e=>h4 e.symm⟩
        · rw[← e,Z5 hc]
theorem Qit {c:UInt8}(h:YV sig rs us=some us')(hc:us[i]? =some c)(h0:c≠63):us'[i]? =some c:=by
  induction rs generalizing us with
  | nil=>rw[YV] at h; cases h; exact hc
  | cons a rs ih=>
    rw[YV] at h
    cases hst:Ym sig a us with
    | none=>rw[hst] at h; cases h
    | some u1=>rw[hst] at h; exact ih h (QbX hst hc h0)
theorem QiO {b:DAr}(hm:b∈rs)(hl:b.2.1=sig)(he:b.1=b.2.2.2)(hi:b.1.toNat < us.length)(h:YV sig rs us=some us'):∃c,us'[b.1.toNat]? =some c∧c≠63:=by
  induction rs generalizing us with
  | nil=>cases hm
  | cons a rs ih=>
    rw[YV] at h
    cases hst:Ym sig a us with
    | none=>rw[hst] at h; cases h
    | some u1=>
      rw[hst] at h
      rcases List.mem_cons.1 hm with rfl | hm
      · have h2:u1[b.1.toNat]? =some (if b.2.2.1=true then 49 else 48):=by
          unfold Ym at hst
          rw[if_pos hl] at hst
          generalize (if (!b.2.2.1)=true then (49:UInt8) else 48)=f0 at hst
          generalize (if b.2.2.1=true then (49:UInt8) else 48)=t0 at hst ⊢
          split at hst
          · cases hst
          · cases hst
            rw[← he,List.getElem?_set_self (by simpa using hi)]
        have h3:(if b.2.2.1=true then (49:UInt8) else 48)≠63:=by cases b.2.2.1 <;> decide
        exact ⟨_,Qit h h2 h3,h3⟩
      · exact ih hm (by rw[Qkm hst]; exact hi) h
theorem QiB {b:DAr}{c:UInt8}(hm:b∈rs)(hl:b.2.1=sig)(he:b.1=b.2.2.2)(hc:us[b.1.toNat]? =some c)(h0:c≠63):YV sig rs us=none:=by
  induction rs generalizing us with
  | nil=>cases hm
  | cons a rs ih=>
    rw[YV]
    rcases List.mem_cons.1 hm with rfl | hm
    · have:Ym sig b us=none:=by
        unfold Ym
        rw[if_pos hl,← he,Z5 hc,if_pos]
        have h2:(if (!b.2.2.1)=true then (49:UInt8) else 48)≠(if b.2.2.1=true then 49 else 48):=by cases b.2.2.1 <;> decide
        by_cases e:c=(if (!b.2.2.1)=true then (49:UInt8) else 48)
        · exact .inr ⟨h0,fun e2=>h2 (e.symm.trans e2)⟩
        · exact .inl ⟨h0,e⟩
      rw[this]
    · cases hst : Ym sig a us with
      | none=>rfl
      | some u1=>exact ih hm (QbX hst hc h0)
def q0 (c:UInt8):UInt8:=if c=63 then 48 else c
theorem QpD (hk:Kn vs):(vs.map qm).map q0=vs.map fz:=by
  rw[List.map_map]
  refine List.map_congr_left fun c hc=> ?_
  rcases hk c hc with rfl | rfl | rfl <;> rfl
theorem QbQ {n:Nat}(hr:∀a∈arcs,InR n a):((l5V n arcs sig).2=false∧(ZX n arcs sig).2=false∧l5V n arcs sig=(⟨#[]⟩,false)∧ZX n arcs sig=([],false))∨∃us:List UInt8,l5V n arcs sig=(⟨us.toArray⟩,true)∧us.length=n∧ZX n arcs sig=(us.map q0,true):=by
  by_cases hself:∃b∈arcs,b.2.1=sig∧b.1=b.2.2.2
  · obtain ⟨b, hb, hl, he⟩ := hself
    have hV:X3 sig arcs (n+1) (List.replicate n 0)=none:=by rw[X3,Qie hr (by simp) hb hl he]
    obtain ⟨⟨r1,r2⟩,_,_⟩:=hr b hb
    have hS:XS sig arcs (n+1) (List.replicate n 63)=none:=by
      obtain ⟨n',rfl⟩:∃n',n=n'+1:=⟨n - 1,by omega⟩
      rw[XS]
      cases hp:YV sig arcs (List.replicate (n'+1) 63) with
      | none=>rfl
      | some u1=>
        obtain ⟨c,h1,h2⟩:=QiO hb hl he (by simp; omega) hp
        show XS sig arcs (n'+1) u1=none
        rw[XS,QiB hb hl he h1 h2]
    exact .inl ⟨by rw[Wx hS],by rw[Y9 hV],Wx hS,Y9 hV⟩
  · have hs : ∀ a ∈ arcs, a.2.1 = sig → a.1 ≠ a.2.2.2 := fun a ha h1 h2 => hself ⟨a, ha, h1, h2⟩
    obtain ⟨h1,h2⟩:=Qg7 (f:=n+1) (vs:=List.replicate n 0) hr hs (fun c hc=> .inl (List.eq_of_mem_replicate hc)) (by simp) (by rw[QfM]; omega)
    have e:(List.replicate n (0:UInt8)).map qm=List.replicate n 63:=by rw[List.map_replicate]; rfl
    rw[e] at h1
    cases hv:X3 sig arcs (n+1) (List.replicate n 0) with
    | none=>
      rw[hv] at h1
      exact .inl ⟨by rw[Wx h1],by rw[Y9 hv],Wx h1,Y9 hv⟩
    | some vs=>
      rw[hv] at h1
      refine .inr ⟨vs.map qm,Qfd h1, ?_, ?_⟩
      · have:∀{f:Nat} {v v':List UInt8},v.length=n→X3 sig arcs f v=some v'→v'.length=n:=fun {f}=>by
          induction f with
          | zero=>intro v v' hl h; rw[X3] at h; cases h; exact hl
          | succ f ih=>
            intro v v' hl h
            rw[X3] at h
            cases hp:YD sig arcs v false with
            | none=>rw[hp] at h; cases h
            | some r=>
              obtain ⟨v1,c1⟩:=r
              rw[hp] at h
              have k1:=(Jz hr hl hp).1
              cases c1 with
              | true=>exact ih k1 h
              | false=>cases h; exact k1
        rw[List.length_map]
        exact this (by simp) hv
      · rw[Qaz hv,QpD (h2 _ hv)]
end
end Go.Proofs.YtnakmhfjafecpaaGreat
