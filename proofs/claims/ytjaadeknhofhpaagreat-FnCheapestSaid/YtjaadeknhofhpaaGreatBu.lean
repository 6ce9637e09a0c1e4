/- Walks over abstract states: what an ordering costs, the best ordering, both sides. -/
import Derived.Test.YtjaadeknhofhpaaGreatCj
import Derived.Test.YtjaadeknhofhpaaGreatWk
import Derived.Test.YtjaadeknhofhpaaGreatUg
import Derived.Test.YtjaadeknhofhpaaGreatAv
import Derived.Test.YtjaadeknhofhpaaGreatFz
import Derived.Test.YtjaadeknhofhpaaGreatVe
import Derived.Test.YtjaadeknhofhpaaGreatWv
import Derived.Laws.Bits64b
set_option linter.unusedSimpArgs false
set_option linter.unusedVariables false
set_option linter.unusedSectionVars false
namespace Go.Proofs.YtjaadeknhofhpaaGreat
open Go.RowKit
set_option maxRecDepth 100000
set_option maxHeartbeats 4000000
theorem Ql6 {n:Nat}{arcs:List DAr}:∀{f k:Nat} {c d:List ByteArray},goS n arcs f k c=some d→d.length=c.length
  | 0,_,c,d,h=>by rw[goS] at h; cases h; rfl
  | f+1,k,c,d,h=>by
    rw[goS] at h
    split at h
    · rw[Ql6 h,Qic]
    · cases h
section
variable [∀s,Decidable (StgOk s)]{s:Q9}{o x:QR}{k:Nat}{l:List QR}
theorem QmN (h:(sgV s).2=true):SgW (sgV s).1:=by
  unfold sgV at h ⊢
  split at h
  · rename_i h1
    rw[if_pos h1]
    obtain ⟨hs,hN1,hN2,_,hM,hL⟩:=Yi h1.1
    split at h
    · rename_i c hg
      have hl:=Ql6 hg
      rw[ay] at hl
      refine ⟨hs.sigs.2.2,⟨by show 1≤c.length; omega,by show c.length≤300; omega⟩, ?_, ?_⟩
      · show (QW _ _).length ≤ _
        unfold QW
        rw[aF]; omega
      · intro a ha
        refine ⟨?_, ?_⟩
        · show InR c.length a
          rw[hl]; exact VX hM a ha
        · obtain ⟨v, hv, rfl⟩ := bQ.1 ha
          obtain ⟨_,⟨h2,h3⟩,_⟩:=hM v hv
          obtain ⟨l,hl2⟩:∃l,s.2.2.1[v.2.1.toNat]? =some l:=⟨_,ai (by omega)⟩
          have h4:=hs.labs l (a8 hl2)
          show Vs (s.2.1.length:Int) ((QeW s.2.2.1 v.2.1).1,(QeW s.2.2.1 v.2.1).2)
          rw[QgO hl2]; exact h4
    · cases h
  · cases h
def ocG (s:Q9)(o:QR):DSg:=(sgV (Qag s o)).1
def oc1 (s:Q9)(o:QR):Int:=((YT (ocG s o)).length:Int)
def oc2 (s:Q9)(o:QR):Int:=((ocG s o).2.1.length:Int)
def ocB (s:Q9)(o:QR):Bool:=(QsZ s).any fun y=>decide (o=y)
def ox1 (s:Q9)(o:QR):Int:=if ocB s o=true then oc1 s o else 0
def ox2 (s:Q9)(o:QR):Int:=if ocB s o=true then oc2 s o else 0
def QuB (s:Q9)(a:QR×Int×Int)(o:QR):QR×Int×Int:=
  if a.2.1 < 0∨oc1 s o < a.2.1∨(oc1 s o=a.2.1∧a.2.2 < oc2 s o) then (o,oc1 s o,oc2 s o) else a
def Qqm (s:Q9)(l:List QR):QR×Int×Int:=l.foldl (QuB s) ((0,0,false), -1,0)
def BeS (s:Q9)(l:List QR)(k:Nat)(b:QR)(c t:Int):Prop:=Qqm s (l.take k)=(b,c,t)
def BeI (s:Q9)(l:List QR)(k:Nat)(b:QR)(c t:Int):Prop:=Qqm s (l.take k)=(b,if k=0 then -1 else c,t)∧(k=0→c=0)
def boV (s:Q9):QR:=(Qqm s (QsZ s)).1
def boB (s:Q9):Bool:=decide (0 < ((QsZ s).length:Int))
end
end Go.Proofs.YtjaadeknhofhpaaGreat
namespace Go.Proofs.YtjaadeknhofhpaaGreat
open Go.RowKit
@[reducible] def Ex {X:Type} (Q:X→Prop) (pv:X→PV) (T:X→Tab):PV→Tab→Prop:=fun p T'=>∃x,Q x∧p=pv x∧T'=T x
section
variable {A:Amb}{P:Program}{s:St}{f:FuncId}{xs:List Operand}{tys:Array TypeId}{args:List (Bool×List LV)}{d:Nat}{ty:TypeId}{pos:String}{af:Array Edge}{g:Option (Nat×Bool)}{T:Tab}{k:Nat}
  {X:Type} {Qx:X→Prop} {pv:X→PV} {T':X→Tab} {ops:Array Oper} {l:List Oper} {Q:Exit→St→Prop}
theorem DoesT.callX (n:Nat)(ρ:List (Nat×Nat))(hc:FC P f args T k (Ex Qx pv T'))(hE:Qk P f)(ha:EvL A s xs (args.map fun c=>(c.1,c.2.map (LV.ren (rn ρ)))))(hT:HasE s ρ T)
    (hi:(Vg (T.map fun p=>rn ρ p.1)&&Nat.blt d A.n)=true) (hB:∀x,(YG (pv x) (T' x)&&Vg ((T' x).map fun p=>sg ρ k n p.1)&&Qiv T (T' x) k)=true) (hfr:∀x,FrK s n k (ZX (T' x))) (hk0:A.k0≤n):
    DoesT A P ⟨some d, .call ⟨.value (.func f),xs.toArray,tys⟩,ty,pos,af,g⟩ s (fun s'=>∃x,Qx x∧s'=s.backP d (sg ρ k n) (T.map fun p=>rn ρ p.1) (pv x) (T' x)):=fun a w K Q r hK=>by
  obtain ⟨gh,r⟩:=r
  rw[aG] at hi
  obtain ⟨hi,hn⟩:=hi
  have hal:∀q,T.al q→s.tab.al (rn ρ q):=fun q ⟨e,h⟩=>⟨_,hT.get h⟩
  have hinj:∀q q',T.al q→T.al q'→rn ρ q=rn ρ q'→q=q':=fun q q' h1 h2 h=>JE hi h1 h2 h
  have cx0:Cx T (gh.via (rn ρ)) w:=⟨fun q e h=>(EntR.ren.1 (r.cx.en _ _ (hT.get h))).mono (fun r' _ h'=>⟨hal r' h',rfl⟩) (fun g hg=>⟨hg,rfl⟩) rfl rfl fun _ _=>rfl,
    fun q q' h1 h2 hne=>r.cx.dj _ _ (hal q h1) (hal q' h2) fun h=>hne (hinj q q' h1 h2 h),fun q h=>r.cx.nd _ (hal q h),fun q h=>r.cx.no _ (hal q h),r.cx.nl⟩
  have hv:=(CmsR.ren.1 (ha.cms r)).mono (al':=T.al) (gh':=gh.via (rn ρ)) (w':=w) (fun q _ h=>⟨hal q h,rfl⟩) fun g hg=>⟨hg,rfl⟩
  refine JR hE rfl (Calls.mono (hc _ w _ cx0 hv) fun e w' he=> ?_)
  obtain ⟨v,pv',T2,gh',rfl,⟨x,hq,rfl,rfl⟩,cx,hp,fr,hkk⟩:=he
  have h2:=hB x
  simp only[aG] at h2
  refine hK _ _ _ ⟨x,hq,rfl⟩ (QiZ n ρ r hT hi h2.1.1 h2.1.2 (fun q ⟨e,hq⟩ hk=> ?_) (fun q ⟨e,hq⟩ hk=>(hfr x).get q (ZA hq).1 hk) hk0 hn cx hp fr hkk)
  have:=ah.1 h2.2 q (ZA hq).1
  rw[show Nat.blt q k=true from cw hk] at this
  exact aX.1 (by simpa using this)
theorem Y7 (n:Nat)(ρ:List (Nat×Nat))(hc:FC P f args T k (Ex Qx pv T'))(hE:Qk P f)(ha:EvL A s xs (args.map fun c=>(c.1,c.2.map (LV.ren (rn ρ)))))(hT:HasE s ρ T)
    (hi:(Vg (T.map fun p=>rn ρ p.1)&&Nat.blt d A.n)=true) (hB:∀x,(YG (pv x) (T' x)&&Vg ((T' x).map fun p=>sg ρ k n p.1)&&Qiv T (T' x) k)=true) (hfr:∀x,FrK s n k (ZX (T' x))) (hk0:A.k0≤n)
    (h:∀x,Qx x→AL A P ops l Q (s.backP d (sg ρ k n) (T.map fun p=>rn ρ p.1) (pv x) (T' x))):AL A P ops (⟨some d, .call ⟨.value (.func f),xs.toArray,tys⟩,ty,pos,af,none⟩ :: l) Q s:=
  Qo9 rfl (DoesT.callX n ρ hc hE ha hT hi hB hfr hk0) fun s' ⟨x,hq,e⟩=>e▸h x hq
theorem Zl {fn:Func}{s:St}(x:X)(ρ:List (Nat×Nat)){pv0:PV}(hq:Qx x)(h1:Res A P fn s pv0)(h0:pv0=(pv x).ren (rn ρ))(h2:HasE ⟨[],s.tab⟩ ρ (T' x))(h3:Vg ((T' x).map fun x=>rn ρ x.1)=true)(h4:idB ρ k=true):fin A P fn (Qkm (Ex Qx pv T') k) .ret s:=
  QcN (pv x) (T' x) ρ (h0▸h1) h2 h3 h4 ⟨x,hq,rfl,rfl⟩
end
section
variable {A:Amb}{P:Program}{s:St}{f:FuncId}{xs:List Operand}{tys:Array TypeId}{args:List (Bool×List LV)}{d:Nat}{ty T:TypeId}{pos:String}{af:Array Edge}{g:Option (Nat×Bool)}
  {X:Type} {Qx:X→Prop} {pv:X→PV} {ops:Array Oper} {l:List Oper} {Q:Exit→St→Prop} {x:Operand}
end
end Go.Proofs.YtjaadeknhofhpaaGreat
namespace Go.Proofs.YtjaadeknhofhpaaGreat
open Go.RowKit
structure Opens (t t':Ty) (E:TypeId) (e:Ty) where
  sub:t.Den→Hdr→t'.Den
  get:t'.Den→Hdr
  put:t'.Den→List e.Den→t.Den
  val:t.Den→List e.Den
  wd:t'.wd=t.wd
  h1:∀x z,get (sub x z)=z
  h2:∀x z,put (sub x z) (val x)=x
  own:∀{w:World} {fp:List Nat} {cs:List Value} {x:t.Den},Own t w fp cs x→∃z fg fi,fp.Perm (fg++fi)∧Own t' w fg cs (sub x z)∧Own (.sl E e) w fi [hdV z] (val x)
@[reducible] def QsX (E:TypeId) (e:Ty):Opens (.sl E e) .vl E e where
  sub:=fun _ z=>z
  get:=fun z=>z
  put:=fun _ y=>y
  val:=fun x=>x
  wd:=rfl
  h1:=fun _ _=>rfl
  h2:=fun _ _=>rfl
  own:=fun h=>by
    obtain ⟨z,rfl⟩:=Qds h
    exact ⟨z,[],_,List.Perm.refl _,⟨rfl,rfl⟩,h⟩
@[reducible] def Qt3 (a:Ty) {b b':Ty} {E:TypeId} {e:Ty} (o:Opens b b' E e):Opens (.pr a b) (.pr a b') E e where
  sub:=fun x z=>(x.1,o.sub x.2 z)
  get:=fun y=>o.get y.2
  put:=fun y l=>(y.1,o.put y.2 l)
  val:=fun x=>o.val x.2
  wd:=by show a.wd+b'.wd=a.wd+b.wd; rw[o.wd]
  h1:=fun x z=>o.h1 x.2 z
  h2:=fun x z=>Prod.ext rfl (o.h2 x.2 z)
  own:=fun h=>by
    obtain ⟨f1,f2,l,r,rfl,rfl,k1,k2⟩:=h
    obtain ⟨z,fg,fi,p,q1,q2⟩:=o.own k2
    exact ⟨z,f1++fg,fi,by rw[aM]; exact p.append_left f1,⟨f1,fg,l,r,rfl,rfl,k1,q1⟩,q2⟩
@[reducible] def Qt5 (b:Ty) {a a':Ty} {E:TypeId} {e:Ty} (o:Opens a a' E e):Opens (.pr a b) (.pr a' b) E e where
  sub:=fun x z=>(o.sub x.1 z,x.2)
  get:=fun y=>o.get y.1
  put:=fun y l=>(o.put y.1 l,y.2)
  val:=fun x=>o.val x.1
  wd:=by show a'.wd+b.wd=a.wd+b.wd; rw[o.wd]
  h1:=fun x z=>o.h1 x.1 z
  h2:=fun x z=>Prod.ext (o.h2 x.1 z) rfl
  own:=fun h=>by
    obtain ⟨f1,f2,l,r,rfl,rfl,k1,k2⟩:=h
    obtain ⟨z,fg,fi,p,q1,q2⟩:=o.own k1
    refine ⟨z,fg++f2,fi,(p.append_right f2).trans ?_,⟨fg,f2,l,r,rfl,rfl,q1,k2⟩,q2⟩
    rw[aM,aM]
    exact (List.perm_append_comm).append_left fg
section
variable {t t' e:Ty}{E E':TypeId}{w:World}
theorem Opens.list (o:Opens t t' E' e):∀{xs:List t.Den} {fp:List Nat} {cs:List Value},OwnL (Own t w) fp cs xs→
    ∃(ys:List t'.Den) (fg fi:List Nat),fp.Perm (fg++fi)∧ys.length=xs.length∧OwnL (Own t' w) fg cs ys∧OwnL (Own (.sl E' e) w) fi ((ys.map o.get).map hdV) ((ys.map o.get).map (rdF E' e w))∧(ys.map fun y=>o.put y (rdF E' e w (o.get y)))=xs
  | [],fp,cs,h=>⟨[],[],[],by rw[h.1]; exact List.Perm.refl _,rfl,⟨rfl,h.2⟩,⟨rfl,rfl⟩,rfl⟩
  | x :: xs,fp,cs,h=>by
    obtain ⟨f1,f2,c1,c2,rfl,rfl,h3,h4⟩:=h
    obtain ⟨z,fg1,fi1,p1,a1,b1⟩:=o.own h3
    obtain ⟨ys,fg,fi,p,hl,k1,k2,k3⟩:=Opens.list o h4
    refine ⟨o.sub x z :: ys,fg1++fg,fi1++fi,(p1.append p).trans ?_,by rw[ao,hl,ao],⟨fg1,fg,c1,c2,rfl,rfl,a1,k1⟩, ?_, ?_⟩
    · rw [aM, aM]
      exact List.Perm.append_left fg1 (List.perm_append_comm_assoc fi1 fg fi)
    · rw [bf, o.h1]
      exact ⟨fi1,fi,[hdV z],_,rfl,rfl,by rw[QdF b1.rep]; exact b1,k2⟩
    · rw[bf,k3,o.h1,QdF b1.rep,o.h2]
theorem Opens.arr (o:Opens t t' E' e){xs:List t.Den}{fp:List Nat}{v:Value}(h:Own (.sl E t) w fp [v] xs):
    ∃(ys:List t'.Den) (f:Hdr→List e.Den) (fg fi:List Nat),fp.Perm (fg++fi)∧Own (.sl E t') w fg [v] ys∧OwnL (Own (.sl E' e) w) fi ((ys.map o.get).map hdV) ((ys.map o.get).map f)∧(ys.map fun y=>o.put y (f (o.get y)))=xs∧f none=[]:=by
  rcases h with ⟨rfl,h,rfl⟩ | ⟨g,cap,cur,fps,rfl,h1,h2,h3,h4,h5,h6⟩
  · exact ⟨[],fun _=>[],[],[],List.Perm.refl _, .inl ⟨rfl,h,rfl⟩,⟨rfl,rfl⟩,rfl,rfl⟩
  · obtain ⟨ys, fg, fi, p, hl, k1, k2, k3⟩ := o.list h6
    refine ⟨ys,rdF E' e w,g :: fg,fi,p.cons g, .inr ⟨g,cap,cur,fg,rfl,by rw[hl]; exact h1,h2,by rw[hl]; exact h3,h4,by rw[o.wd]; exact h5, ?_⟩,k2,k3,QdF (x:=[]) (Own.rep (fp:=[]) (.inl ⟨rfl,rfl,rfl⟩))⟩
    rw[hl,o.wd]; exact k1
end
section
variable {A:Amb}{P:Program}{s:St}{Q:Exit→St→Prop}{c:Code}
theorem Rg.take (t:Nat){p:Nat}{E:TypeId}{e:Ty}{vs:List Hdr}{f:Hdr→List e.Den}{z:Hdr}{gh:Gh}{a:Act}{w:World}(hp:s.tab.ent p=some (.pl true (.sl E e) vs f))(hz:z∈vs)(hfr:Fresh s t)(hk:A.k0≤t)(r:Rg A s gh a w):
    ∃gh':Gh,gh'.h t=hdV z∧(∀u,u≠t→gh'.h u=gh.h u)∧Rg A ⟨s.tm,(t,some (.arr E e (f z))) :: (p,none) :: s.tab⟩ gh' a w:=by
  have hpa:s.tab.al p:=⟨_,hp⟩
  have hne:t≠p:=fun h=>hfr.al (h▸hpa)
  obtain ⟨_,h3⟩:=r.cx.en p _ hp
  obtain ⟨fv,m1,m2⟩:=QeX (List.singleton_sublist.2 hz) h3
  obtain ⟨f1,f2,c1,c2,e1,e2,k1,k2⟩:=m2
  have e3:f2=[]:=k2.1
  have e4:c2=[]:=k2.2
  rw[e3,bo] at e1
  rw[e4,bo] at e2
  subst e1
  rw[← e2] at k1
  have hO:Own (.sl E e) w fv [hdV z] (f z):=k1
  have mi:∀g∈fv,g∈gh.f p:=fun g hg=>m1.subset hg
  have nv:fv.Nodup:=m1.nodup (r.cx.nd p hpa)
  have hal:∀u,Tab.al ((t,some (.arr E e (f z))) :: (p,none) :: s.tab) u→u=t∨(u≠t∧u≠p∧s.tab.al u):=fun u ⟨x,hx⟩=>by
    by_cases e1:u=t
    · exact .inl e1
    · rw [Qq, if_neg e1, Qq] at hx
      by_cases e2:u=p
      · rw[if_pos e2] at hx; cases hx
      · rw[if_neg e2] at hx; exact .inr ⟨e1,e2,_,hx⟩
  let gh':Gh:=⟨fun u=>if u=t then hdV z else gh.h u,fun u=>if u=t then fv else gh.f u,gh.N⟩
  have ft:gh'.f t=fv:=if_pos rfl
  have fo:∀u,u≠t→gh'.f u=gh.f u:=fun u e1=>if_neg e1
  have ho:∀u,u≠t→gh'.h u=gh.h u:=fun u e1=>if_neg e1
  refine ⟨gh',if_pos rfl,ho,r.step ⟨fun u x hx=> ?_,fun u u' hu hu' hn g hg hg'=> ?_,fun u hu=> ?_,fun u hu g hg hgN=> ?_,r.cx.nl⟩ (fun u hu=> ?_) (fun g h=>⟨h,rfl⟩) (ZP w) (fun _ _ _=>rfl) (fun g hgN=> .inl hgN) fun u hu g hg=> ?_⟩
  · rw [Qq] at hx
    by_cases e1:u=t
    · rw [if_pos e1] at hx
      cases hx
      show Own (.sl E e) w (gh'.f u) [gh'.h u] (f z)
      rw[e1,ft,show gh'.h t=hdV z from if_pos rfl]
      exact hO
    · rw [if_neg e1, Qq] at hx
      by_cases e2:u=p
      · rw[if_pos e2] at hx; cases hx
      · rw [if_neg e2] at hx
        refine (r.cx.en u x hx).mono (fun r' hr' ha=> ?_) (fun g h=>⟨h,rfl⟩) (ho u e1) (fo u e1) fun _ _=>rfl
        have e3:r'≠t:=fun h=>hfr.en u x hx (h▸hr')
        rcases hal r' ha with h | ⟨_,_,h⟩
        · exact absurd h e3
        · exact ⟨h,ho r' e3⟩
  · rcases hal u hu with e1 | ⟨e1, b1, a1⟩
    · rcases hal u' hu' with e2 | ⟨e2, b2, a2⟩
      · exact hn (e1.trans e2.symm)
      · rw[e1,ft] at hg; rw[fo u' e2] at hg'; exact r.cx.dj p u' hpa a2 (fun h=>b2 h.symm) g (mi g hg) hg'
    · rcases hal u' hu' with e2 | ⟨e2, b2, a2⟩
      · rw[e2,ft] at hg'; rw[fo u e1] at hg; exact r.cx.dj p u hpa a1 (fun h=>b1 h.symm) g (mi g hg') hg
      · rw[fo u e1] at hg; rw[fo u' e2] at hg'; exact r.cx.dj u u' a1 a2 hn g hg hg'
  · rcases hal u hu with e1 | ⟨e1, b1, a1⟩
    · rw[e1,ft]; exact nv
    · rw[fo u e1]; exact r.cx.nd u a1
  · rcases hal u hu with e1 | ⟨e1, b1, a1⟩
    · rw[e1,ft] at hg; exact r.cx.no p hpa g (mi g hg) hgN
    · rw[fo u e1] at hg; exact r.cx.no u a1 g hg hgN
  · rcases hal u hu with e1 | ⟨e1, b1, a1⟩
    · rw[e1]; exact .inr ⟨hfr,hk⟩
    · exact .inl ⟨a1,ho u e1,fun _=>rfl⟩
  · rcases hal u hu with e1 | ⟨e1, b1, a1⟩
    · rw[e1,ft] at hg; exact .inr ⟨p,hpa,mi g hg⟩
    · rw[fo u e1] at hg; exact .inr ⟨u,a1,hg⟩
end
section
variable {A:Amb}{P:Program}{s:St}{d:Nat}{ty T:TypeId}{pos:String}{af:Array Edge}{g:Option (Nat×Bool)}{x:Operand}
def ThP (s:St):List LV→List LV→Prop
  | [],ls'=>ls'=[]
  | l :: ls,ls'=>∃l' r,ls'=l' :: r∧(l=l'∨(∃q E e xs,l= .ref q∧s.tab.ent q=some (.arr E e xs)∧l'= .dat (.sl E e) xs)∨∃(p:Nat) (E:TypeId) (e:Ty) (vs:List Hdr) (f:Hdr→List e.Den) (z:Hdr),l= .dat .vl z∧s.tab.ent p=some (.pl true (.sl E e) vs f)∧z∈vs∧l'= .dat (.sl E e) (f z))∧ThP s ls r
end
def Quh:List LV→List LV→Prop
  | [],cs'=>cs'=[]
  | l :: ls,cs'=>∃l' r,cs'=l' :: r∧(l=l'∨(l= .val (.slice none 0 0)∧l'= .dat .vl none))∧Quh ls r
theorem LVs.vls {al:Nat→Prop}{gh:Gh}{w:World}:∀{ls ls':List LV} {vs:List Value},LVs al gh w ls vs→Quh ls ls'→LVs al gh w ls' vs
  | [],_,_,h,k=>by rw[show _=[] from k]; exact h
  | l :: ls,_,_,⟨v,vs',h1,h2,h3⟩,⟨l',r,k1,k2,k3⟩=>by
    rw[k1]
    refine ⟨v,vs',h1, ?_,h3.vls k3⟩
    rcases k2 with rfl | ⟨rfl,rfl⟩
    · exact h2
    · have h4 : v = .slice none 0 0 := h2
      rw[h4]
      exact Rep.rd0 (t:= .vl) (w:=w) (show _=_ from rfl) rfl
end Go.Proofs.YtjaadeknhofhpaaGreat
namespace Go.Proofs.YtjaadeknhofhpaaGreat
open Go.RowKit
set_option maxRecDepth 100000
set_option maxHeartbeats 4000000
section
variable {I S C A:Type}
@[reducible] def dC (g1:Hdr→S) (g2:Hdr→C) (g3:Hdr→A) (y:I×Hdr×Hdr×Hdr):I×S×C×A:=(y.1,g1 y.2.1,g2 y.2.2.1,g3 y.2.2.2)
variable {xs:List (I×S×C×A)}{y1:List (I×Hdr×C×A)}{y2:List (I×Hdr×Hdr×A)}{y3:List (I×Hdr×Hdr×Hdr)}{g1:Hdr→S}{g2:Hdr→C}{g3:Hdr→A}{v1 v2 v3:List Hdr}
theorem QvM (h1:(y1.map fun y=>(y.1,g1 y.2.1,y.2.2))=xs)(h2:(y2.map fun y=>(y.1,y.2.1,g2 y.2.2.1,y.2.2.2))=y1)(h3:(y3.map fun y=>(y.1,y.2.1,y.2.2.1,g3 y.2.2.2))=y2):y3.map (dC g1 g2 g3)=xs:=by
  subst h1 h2 h3
  simp[d9,Function.comp_def]
end
section
variable [∀c,Decidable (SgOk c)][∀s,Decidable (Zq s)]
def QrV:Nat→DSg→List ZD→DSg×List ZD
  | 0,c,l=>(c,l)
  | f+1,c,l=>if 0 < (YT c).length∧(Zd c (QV c)).isSome=true∧WI c (QV c) < ((YT c).length:Int) then QrV f (Yq c (QV c)).2 (l++[Xk c (QV c)]) else (c,l)
def QvW (c:DSg):DSg×List ZD×Bool:=if SgOk c∧(YT (QrV 2 c []).1).length=0 then ((QrV 2 c []).1,(QrV 2 c []).2,true) else (WS,[],false)
variable {c og:DSg}{il:List ZD}{n:Nat}{x:ZD}
theorem Qnc (h:(Zd c (QV c)).isSome=true):∃y∈QV c,Zd c (QV c)=some y∧Xk c (QV c)=y∧WI c (QV c)=Hn c y∧Yq c (QV c)=(y,(Zz c y).1):=by
  obtain ⟨y,hy⟩:=aX.1 h
  obtain ⟨e1,e2,e3,_,_⟩:=Jy hy
  refine ⟨y, ?_,hy,e1,e3,e2⟩
  have hm:∀(l:List ZD) (m:Option ZD) (z:ZD),l.foldl (Qcu c) m=some z→m=some z∨z∈l:=fun l=>by
    induction l with
    | nil=>intro m z h; exact .inl h
    | cons a l ih=>
      intro m z h
      rw[aS] at h
      rcases ih _ _ h with h | h
      · have:Qcu c m a=m∨Qcu c m a=some a:=by
          cases m with
          | none=>exact .inr rfl
          | some u=>simp only[Qcu]; split <;> simp
        rcases this with e | e
        · rw[e] at h; exact .inl h
        · rw[e] at h; cases h; exact .inr (aA ..)
      · exact .inr (ax _ h)
  rcases hm (QV c) none y hy with h | h
  · cases h
  · exact h
end
end Go.Proofs.YtjaadeknhofhpaaGreat
namespace Go.Proofs.YtjaadeknhofhpaaGreat
open Go.RowKit
set_option maxRecDepth 100000
set_option maxHeartbeats 4000000
def spS (s:ByteArray)(b:UInt8):Nat→List ByteArray×Int
  | 0=>([],0)
  | i+1=>if s[i]? =some b then ((spS s b i).1++[s.extract (spS s b i).2.toNat i],(i:Int)+1) else spS s b i
def ZW (s:ByteArray)(b:UInt8):List ByteArray:=(spS s b s.size).1++[s.extract (spS s b s.size).2.toNat s.size]
section
variable {s:ByteArray}{b c:UInt8}{i:Nat}
theorem Qrf (h:s[i]? =some c)(e:c=b):((spS s b i).1++[s.extract (spS s b i).2.toNat i],(i:Int)+1)=spS s b (i+1):=by rw[spS,if_pos (by rw[h,e])]
theorem QtM (h:s[i]? =some c)(e:¬c=b):spS s b i=spS s b (i+1):=by rw[spS,if_neg (by rw[h]; simpa using e)]
theorem QmL:0≤(spS s b i).2∧(spS s b i).2≤(i:Int)∧(spS s b i).1.length≤i:=by
  induction i with
  | zero=>exact ⟨Int.le_refl _,Int.le_refl _,aO _⟩
  | succ i ih=>
    rw[spS]
    split
    · refine ⟨by show (0 : Int) ≤ (i : Int) + 1; omega, by show ((i : Int) + 1) ≤ ((i + 1 : Nat) : Int); omega, ?_⟩
      rw[aa,ao,aD]; omega
    · obtain ⟨h1,h2,h3⟩:=ih; exact ⟨h1,by omega,by omega⟩
theorem Qnn:(ZW s b).length≤s.size+1:=by
  unfold ZW
  have:=QmL (s:=s) (b:=b) (i:=s.size)
  rw[aa,ao,aD]; omega
end
abbrev DTr:=List Int×List Int
abbrev DB:=Q9×List ByteArray×List ByteArray
def b0 (t:ByteArray):UInt8:=(t[0]?).getD 0
def bZ (t:ByteArray):UInt8:=(t[t.size - 1]?).getD 0
def Hp (l:List ByteArray)(x:ByteArray):Bool:=l.any fun y=>decide (y=x)
def atB (l:List ByteArray)(x:ByteArray):Int:=if Hp l x=true then Ze (fun y=>decide (y=x)) l else (l.length:Int)
def plV (b:DB)(name:ByteArray):DB:=if Hp b.2.1 name=true then b else (((b.1.1.1+1,b.1.1.2),b.1.2.1,b.1.2.2.1,b.1.2.2.2++(⟨#[48]⟩:ByteArray)),b.2.1++[name],b.2.2)
def plI (b:DB)(name:ByteArray):Int:=atB b.2.1 name
def Qao (word:ByteArray):ByteArray:=((ZW word 47)[0]?).getD ByteArray.empty
def QjS (G:List QJ)(word:ByteArray):Zy:=if b0 (Qao word)=126 then (-1,false) else (Ze (fun g=>decide (g.1=(Qao word).extract 0 ((Qao word).size - 1))) G,decide (bZ (Qao word)=43))
def trV (b:DB)(word:ByteArray):DB:=if Hp b.2.2 word=true then b else (((b.1.1.1,b.1.1.2++[([],[])]),b.1.2.1,b.1.2.2.1++[QjS b.1.2.1 word],b.1.2.2.2),b.2.1,b.2.2++[word])
def trI (b:DB)(word:ByteArray):Int:=atB b.2.2 word
def Hi (text:ByteArray):ByteArray:=if b0 text=42 then text.extract 1 text.size else text
def XJ (text:ByteArray)(k:Nat):ByteArray:=((ZW (Hi text) 62)[k]?).getD ByteArray.empty
def QaK (text:ByteArray):ByteArray:=if b0 (XJ text 1)=95 then XJ text 1 else if b0 (XJ text 0)=95 then XJ text 0 else Hi text
def QdN (T:List DTr)(t p:Int):List DTr:=T.modify t.toNat fun x=>(x.1,YF ltI p x.2)
def QeH (T:List DTr)(t p:Int):List DTr:=T.modify t.toNat fun x=>(YF ltI p x.1,x.2)
def ar1 (p:Int)(b:DB)(text:ByteArray):DB:=if b0 (XJ text 0)=95 then b else
  let c:=trV b (XJ text 0); (((c.1.1.1,QdN c.1.1.2 (trI b (XJ text 0)) p),c.1.2.1,c.1.2.2.1,c.1.2.2.2),c.2.1,c.2.2)
def ar2 (p:Int)(b:DB)(text:ByteArray):DB:=if b0 (XJ text 1)=95 then b else
  let c:=trV b (XJ text 1); (((c.1.1.1,QeH c.1.1.2 (trI b (XJ text 1)) p),c.1.2.1,c.1.2.2.1,c.1.2.2.2),c.2.1,c.2.2)
def Qo3 (s:ByteArray)(p:Int):ByteArray:=s.extract 0 p.toNat++(⟨#[49]⟩:ByteArray)++s.extract (p+1).toNat s.size
def arV (b:DB)(text:ByteArray):DB:=
  let p:=plI b (QaK text)
  let c:=ar2 p (ar1 p (plV b (QaK text)) text) text
  if b0 text=42 then ((c.1.1,c.1.2.1,c.1.2.2.1,Qo3 c.1.2.2.2 p),c.2.1,c.2.2) else c
def sgN (names:ByteArray)(kd:Int)(i:Nat):List QJ:=(List.range i).map fun j=>(names.extract j (j+1),kd)
def sgA:List ByteArray→Int→List QJ
  | [],_=>[]
  | n :: l,k=>sgN n k n.size++sgA l (k+1)
def buG (ins outs inner:ByteArray):List QJ:=sgA [ins,outs,inner] 1
def buB (G:List QJ)(arcs:ByteArray):DB:=(ZW arcs 32).foldl arV (((0,[]),G,[],ByteArray.empty),[],[])
def QQ (ins outs inner arcs:ByteArray):Q9:=(buB (buG ins outs inner) arcs).1
def okW (w:ByteArray):Bool:=decide (1≤w.size)&&(decide (b0 w=95)||decide (1≤(Qao w).size))
def okA (t:ByteArray):Bool:=decide (1≤t.size)&&(decide (2≤(ZW (Hi t) 62).length)&&(okW (XJ t 0)&&okW (XJ t 1)))
section
variable {l:List ByteArray}{x name word text:ByteArray}{b c:DB}{G:List QJ}{n k:Nat}
theorem Qrt {α:Type _}{f:α→Bool}{l:List α}(h:l.any f=true):0≤Ze f l∧Ze f l < (l.length:Int):=by
  have h1:=VN f l
  rw[h,aN] at h1
  refine ⟨h1, ?_⟩
  unfold Ze at*
  cases hf:l.findIdx? f with
  | none=>rw[hf] at h1; simp at h1
  | some i=>
    have:=(c9.1 hf).1
    simpa using this
theorem QqH (h:Hp l x=true):0≤atB l x∧atB l x < (l.length:Int):=by
  unfold atB; rw[if_pos h]; exact Qrt h
theorem Qbe (h:Hp l x=false):atB l x=(l.length:Int):=if_neg (by rw[h]; decide)
theorem Qp0 (hn:NoneTo (fun y=>decide (y=x)) l k){y:ByteArray}(hx:l[k]? =some y)(e:y=x):(k:Int)=atB l x:=by
  unfold atB
  have h1:Hp l x=true:=Qp6 hx (aI e)
  rw[if_pos h1,hn.at hx (aI e)]
theorem Xj {y:ByteArray}(hx:l[k]? =some y)(e:y=x):Hp l x=true:=Qp6 hx (aI e)
theorem Ye (hn:NoneTo (fun y=>decide (y=x)) l k)(hk:l.length≤k):Hp l x=false:=hn.any_no hk
theorem KA (h:Hp b.2.1 name=true):plV b name=b:=if_pos h
theorem Vy (h:Hp b.2.1 name=false):plV b name=(((b.1.1.1+1,b.1.1.2),b.1.2.1,b.1.2.2.1,b.1.2.2.2++(⟨#[48]⟩:ByteArray)),b.2.1++[name],b.2.2):=if_neg (by rw[h]; decide)
theorem Ke (h:Hp b.2.2 word=true):trV b word=b:=if_pos h
theorem YH (h:Hp b.2.2 word=false):trV b word=(((b.1.1.1,b.1.1.2++[([],[])]),b.1.2.1,b.1.2.2.1++[QjS b.1.2.1 word],b.1.2.2.2),b.2.1,b.2.2++[word]):=if_neg (by rw[h]; decide)
structure DBJ (b:DB) (p w m:Nat):Prop where
  st:b.1.2.2.2.size=b.2.1.length
  tr:b.1.1.2.length=b.2.2.length
  la:b.1.2.2.1.length=b.2.2.length
  p0:b.1.1.1=(b.2.1.length:Int)
  pl:b.2.1.length≤p
  ws:b.2.2.length≤w
  inn:∀t∈b.1.1.2,t.1.length≤m∧t.2.length≤m
theorem Ql2:0≤plI b name∧plI b name < ((plV b name).2.1.length:Int):=by
  unfold plI
  cases h:Hp b.2.1 name with
  | true=>rw[KA h]; exact QqH h
  | false=>rw[Vy h,Qbe h,aa]; simp only[ao,aD]; omega
theorem QmH:0≤trI b word∧trI b word < ((trV b word).2.2.length:Int):=by
  unfold trI
  cases h:Hp b.2.2 word with
  | true=>rw[Ke h]; exact QqH h
  | false=>rw[YH h,Qbe h,aa]; simp only[ao,aD]; omega
theorem QiP:(trV b word).1.1.1=b.1.1.1∧(trV b word).1.2.1=b.1.2.1∧(trV b word).1.2.2.2=b.1.2.2.2∧(trV b word).2.1=b.2.1:=by unfold trV; split <;> exact ⟨rfl,rfl,rfl,rfl⟩
theorem DBJ.pl_ {p w m:Nat}(h:DBJ b p w m):DBJ (plV b name) (p+1) w m:=by
  cases hi:Hp b.2.1 name with
  | true=>rw[KA hi]; exact ⟨h.st,h.tr,h.la,h.p0,Nat.le_succ_of_le h.pl,h.ws,h.inn⟩
  | false=>
    rw[Vy hi]
    have hs:(⟨#[48]⟩:ByteArray).size=1:=rfl
    refine ⟨?_,h.tr,h.la, ?_, ?_,h.ws,h.inn⟩
    · show (b.1.2.2.2 ++ (⟨#[48]⟩ : ByteArray)).size = (b.2.1 ++ [name]).length
      rw[aU,aa,h.st,hs]; rfl
    · show b.1.1.1 + 1 = ((b.2.1 ++ [name]).length : Int)
      rw[aa,h.p0]; simp
    · show (b.2.1 ++ [name]).length ≤ p + 1
      rw[aa]; have:=h.pl; simp only[ao,aD]; omega
theorem DBJ.tr_ {p w m:Nat}(h:DBJ b p w m):DBJ (trV b word) p (w+1) m:=by
  cases hi:Hp b.2.2 word with
  | true=>rw[Ke hi]; exact ⟨h.st,h.tr,h.la,h.p0,h.pl,Nat.le_succ_of_le h.ws,h.inn⟩
  | false=>
    rw[YH hi]
    refine ⟨h.st, ?_, ?_,h.p0,h.pl, ?_, ?_⟩
    · show (b.1.1.2 ++ [([], [])]).length = (b.2.2 ++ [word]).length
      rw[aa,aa,h.tr]; rfl
    · show (b.1.2.2.1 ++ [QjS b.1.2.1 word]).length = (b.2.2 ++ [word]).length
      rw[aa,aa,h.la]; rfl
    · show (b.2.2 ++ [word]).length ≤ w + 1
      rw[aa]; have:=h.ws; simp only[ao,aD]; omega
    · intro t ht
      rcases aL.1 ht with ht | ht
      · exact h.inn t ht
      · rw[aK.1 ht]; exact ⟨ap _,ap _⟩
theorem Ql9 {T:List DTr}{m i:Nat}{f:DTr→DTr}(h:∀t∈T,t.1.length≤m∧t.2.length≤m)(hf:∀t,(f t).1.length≤t.1.length+1∧(f t).2.length≤t.2.length+1):∀t∈T.modify i f,t.1.length≤m+1∧t.2.length≤m+1:=fun t ht=>by
  obtain ⟨j,hj⟩:=aJ.1 ht
  rw[cF] at hj
  cases hT:T[j]? with
  | none=>rw[hT] at hj; cases hj
  | some u=>
    rw[hT] at hj
    have hu:=h u (a8 hT)
    have h1:=hf u
    have hj:some (if i=j then f u else u)=some t:=hj
    cases hj
    split <;> omega
theorem DBJ.st_ {p w m:Nat}{q:Int}(h:DBJ b p w m)(hq:0≤q∧q < (b.2.1.length:Int)):DBJ ((b.1.1,b.1.2.1,b.1.2.2.1,Qo3 b.1.2.2.2 q),b.2.1,b.2.2) p w m:=by
  refine ⟨?_,h.tr,h.la,h.p0,h.pl,h.ws,h.inn⟩
  have hs:(⟨#[49]⟩:ByteArray).size=1:=rfl
  have h1:=h.st
  show (Qo3 b.1.2.2.2 q).size=b.2.1.length
  unfold Qo3
  simp only[aU,aP,hs]
  omega
theorem DBJ.more {p w m p' w' m':Nat}(h:DBJ b p w m)(h1:p≤p')(h2:w≤w')(h3:m≤m'):DBJ b p' w' m':=⟨h.st,h.tr,h.la,h.p0,b4 h.pl h1,b4 h.ws h2,fun t ht=>⟨b4 (h.inn t ht).1 h3,b4 (h.inn t ht).2 h3⟩⟩
theorem DBJ.ar1_ {p w m:Nat}{q:Int}(h:DBJ b p w m):DBJ (ar1 q b text) p (w+1) (m+1):=by
  unfold ar1
  split
  · exact h.more (aO _) (by omega) (by omega)
  · have k := h.tr_ (word := XJ text 0)
    exact ⟨k.st,(List.length_modify ..).trans k.tr,k.la,k.p0,k.pl,k.ws,Ql9 k.inn fun t=>⟨Nat.le_succ _,Qel _ _⟩⟩
theorem DBJ.ar2_ {p w m:Nat}{q:Int}(h:DBJ b p w m):DBJ (ar2 q b text) p (w+1) (m+1):=by
  unfold ar2
  split
  · exact h.more (aO _) (by omega) (by omega)
  · have k := h.tr_ (word := XJ text 1)
    exact ⟨k.st,(List.length_modify ..).trans k.tr,k.la,k.p0,k.pl,k.ws,Ql9 k.inn fun t=>⟨Qel _ _,Nat.le_succ _⟩⟩
theorem Qqk {q:Int}:(ar1 q b text).2.1=b.2.1:=by unfold ar1; split; exact rfl; exact QiP.2.2.2
theorem Qqy {q:Int}:(ar2 q b text).2.1=b.2.1:=by unfold ar2; split; exact rfl; exact QiP.2.2.2
theorem DBJ.ar_ {p w m:Nat}(h:DBJ b p w m):DBJ (arV b text) (p+1) (w+2) (m+2):=by
  have k1:=h.pl_ (name:=QaK text)
  have k2:=k1.ar1_ (q:=plI b (QaK text)) (text:=text)
  have k3:=k2.ar2_ (q:=plI b (QaK text)) (text:=text)
  unfold arV
  dsimp only
  split
  · exact k3.st_ (by rw[Qqy,Qqk]; exact Ql2)
  · exact k3
theorem DBJ.zero (G:List QJ):DBJ (((0,[]),G,[],ByteArray.empty),[],[]) 0 0 0:=⟨rfl,rfl,rfl,rfl,aO _,aO _,fun t h=>by cases h⟩
theorem Qqt:∀(l:List ByteArray) {b:DB} {p w m:Nat},DBJ b p w m→DBJ (l.foldl arV b) (p+l.length) (w+2*l.length) (m+2*l.length)
  | [],_,_,_,_,h=>h
  | t :: l,b,p,w,m,h=>by
    have:=Qqt l (h.ar_ (text:=t))
    rw[aS,ao,show p+(l.length+1)=p+1+l.length by omega,show w+2*(l.length+1)=w+2+2*l.length by omega,show m+2*(l.length+1)=m+2+2*l.length by omega]; exact this
end
end Go.Proofs.YtjaadeknhofhpaaGreat
namespace Go.Proofs.YtjaadeknhofhpaaGreat
open Go.RowKit
set_option maxRecDepth 100000
set_option maxHeartbeats 4000000
section
variable [∀c,Decidable (SgOk c)][∀s,Decidable (Zq s)]{c:DSg}{m:Option ZD}{M:List ZD}{x z:ZD}
def ChG (c:DSg)(m:Option ZD)(M:List ZD):Prop:=match m with
  | none=>M=[]
  | some y=>y∈M∧∀z∈M,¬Hn c z < Hn c y∧¬(Hn c z=Hn c y∧QhT c z < QhT c y)
theorem ChG.step (h:ChG c m M):ChG c (Qcu c m x) (M++[x]):=by
  cases m with
  | none=>
    have h:M=[]:=h
    subst h
    show x∈[x]∧_
    refine ⟨aK.2 rfl,fun z hz=> ?_⟩
    rw[cn,aK] at hz
    subst hz; omega
  | some y=>
    obtain ⟨h1,h2⟩:=h
    simp only[Qcu]
    split
    · rename_i hc
      show x∈M++[x]∧_
      refine ⟨aQ _ (aK.2 rfl),fun z hz=> ?_⟩
      rcases aL.1 hz with hz | hz
      · have:=h2 z hz; omega
      · rw[aK] at hz; subst hz; omega
    · rename_i hc
      show y∈M++[x]∧_
      refine ⟨aV _ h1,fun z hz=> ?_⟩
      rcases aL.1 hz with hz | hz
      · exact h2 z hz
      · rw[aK] at hz; subst hz; omega
theorem Qi8:∀(l:List ZD) {m:Option ZD} {M:List ZD},ChG c m M→ChG c (l.foldl (Qcu c) m) (M++l)
  | [],m,M,h=>by rw[bo]; exact h
  | x :: l,m,M,h=>by
    have:=Qi8 l (h.step (x:=x))
    rw[aM] at this
    exact this
theorem Qkg (l:List ZD):ChG c (Zd c l) l:=Qi8 (c:=c) l (m:=none) (M:=[]) rfl
theorem WX (hs:SgOk c):KF c=decide (0 < ((QV c).length:Int)):=by
  rw[(XD hs).2]
  cases h:Zd c (QV c) with
  | none=>rw[Qed.1 h]; rfl
  | some y=>
    have hne:¬QV c=[]:=fun e=>by rw[Qed.2 e] at h; cases h
    have:=List.length_pos_iff.2 hne
    exact (aI (by omega)).symm
theorem Qok (hs:SgOk c)(h:KF c=true):YP c (Yz c)=true∧∀z∈QV c,YP c z=true∧¬Z3 c z < Z3 c (Yz c)∧¬(Z3 c z=Z3 c (Yz c)∧Yp c z < Yp c (Yz c)):=by
  have h0:(Zd c (QV c)).isSome=true:=by rw[← (XD hs).2]; exact h
  obtain ⟨y,h1,h2,h3,_,_⟩:=Qnc h0
  have h4:Yz c=y:=by rw[(XD hs).1,h3]
  have h5:=Qkg (c:=c) (QV c)
  rw[h2] at h5
  obtain ⟨_,h6⟩:=h5
  rw[h4]
  obtain ⟨k1,k2,k3⟩:=Qaq hs h1
  refine ⟨k3,fun z hz=> ?_⟩
  obtain ⟨j1,j2,j3⟩:=Qaq hs hz
  rw[k1,k2,j1,j2]
  exact ⟨j3,h6 z hz⟩
end
end Go.Proofs.YtjaadeknhofhpaaGreat
namespace Go.Proofs.YtjaadeknhofhpaaGreat
open Go.RowKit
set_option maxRecDepth 100000
set_option maxHeartbeats 4000000
def fbS:Q9:=((4,[([3],[0]),([0],[1]),([1],[2]),([2],[3])]),[(⟨#[97]⟩,1),(⟨#[98]⟩,2)],[(0,true),(1,true),(0,false),(1,false)],⟨#[48,48,48,49]⟩)
theorem QtO:QQ ⟨#[97]⟩ ⟨#[98]⟩ ⟨#[]⟩ ⟨#[97,43,62,98,43,32,98,43,62,97,45,32,97,45,62,98,45,32,42,98,45,62,97,43]⟩=fbS:=by decide+kernel
theorem QlE {x hi:Int}(h:0≤x∧x≤hi):JF [x] hi:=by
  intro k hk
  have:k=0:=by simpa using hk
  subst this
  unfold RisAt
  simp
  omega
theorem QmR {c:UInt8}(h:Yv 0 c.toNat):Zq ⟨#[c]⟩:=by
  refine ⟨fun k hk=> ?_,aO _,by show (1:Nat)≤6; omega⟩
  have h1:k < 1:=hk
  have:k=0:=by omega
  subst this
  exact h
theorem QtK:StgOk fbS:=by
  refine ⟨⟨⟨by decide,by decide⟩,by decide,fun t ht=> ?_⟩,⟨fun k hk x hx=> ?_,by decide,by decide⟩,rfl,fun l hl=> ?_,fun k hk h=> ?_,rfl⟩
  · simp only [fbS, aH, cp, or_false] at ht
    rcases ht with rfl | rfl | rfl | rfl <;> exact ⟨by simp,QlE (by show _∧_≤(4:Int) - 1; omega),QlE (by show _∧_≤(4:Int) - 1; omega)⟩
  · have h2 : k < 2 := hk
    rcases (show k=0∨k=1 by omega) with rfl | rfl
    · cases hx
      exact ⟨QmR (by unfold Yv; decide),by decide,fun j y hj=>absurd hj (b7 j)⟩
    · cases hx
      refine ⟨QmR (by unfold Yv; decide),by decide,fun j y hj hy=> ?_⟩
      have:j=0:=by omega
      subst this
      cases hy
      decide
  · simp only [fbS, aH, cp, or_false] at hl
    rcases hl with rfl | rfl | rfl | rfl <;> exact .inl (by decide)
  · have h4 : k < 4 := hk
    rcases (show k=0∨k=1∨k=2∨k=3 by omega) with rfl | rfl | rfl | rfl <;> first | exact .inl rfl | exact .inr rfl
theorem QtJ [∀s,Decidable (StgOk s)]:(sgV fbS).2=true:=by
  have he:Qs fbS=(((ZU fbS).1.1,(ZU fbS).1.2.1),true):=if_pos ⟨QtK,by decide+kernel⟩
  obtain ⟨c,hc⟩:=aX.1 (show (goS (ZU fbS).1.1.length (QW fbS.2.2.1 (ZU fbS).1.2.1) fbS.2.1.length 0 (List.replicate (ZU fbS).1.1.length ByteArray.empty)).isSome=true by decide+kernel)
  have h2:¬(4000:Int) < ((ZU fbS).1.2.1.length:Int):=by decide+kernel
  rw[QaG (s:=fbS) (c:=c) (by rw[he]) (by rw[he]; exact h2) (by rw[he]; exact hc)]
end Go.Proofs.YtjaadeknhofhpaaGreat
namespace Go.Proofs.YtjaadeknhofhpaaGreat
open Go.RowKit
theorem UZ (n:Int):0≤IntKind.u64.wrap n∧IntKind.u64.wrap n < 18446744073709551616:=by
  simp only[IntKind.wrap,IntKind.bits,IntKind.signed]
  simp
  omega
theorem Jt {a:Int}(h:0≤a∧a < 18446744073709551616):0≤a / 2 ^ 40∧a / 2 ^ 40 < 18446744073709551616:=by omega
theorem Qfe {a:Int}(h:0≤a∧a < 18446744073709551616):0≤bits BinOp.and IntKind.u64 a 255∧bits BinOp.and IntKind.u64 a 255≤255:=by
  have h1:=bits_and_u64_nat a.toNat 255 (by omega) (by decide)
  rw[show ((a.toNat:Nat):Int)=a by omega,show ((255:Nat):Int)=255 from rfl] at h1
  have h2:a.toNat &&& 255≤255:=Nat.and_le_right
  rw[h1]
  omega
section
variable {A:Amb}{P:Program}{s:St}{x y:Operand}{d:Nat}{T T' ty:TypeId}{pos:String}{af:Array Edge}{g:Option (Nat×Bool)}{a b:Int}
theorem Qft (hx:Evl A s x (.val (.int .u64 a)))(hy:Evl A s y (.val (.int .u64 b)))(hn:Nat.blt d A.n=true):Does A P ⟨some d, .binOp .mul T x y T',ty,pos,af,g⟩ s (s.put d (lf (.val (.int .u64 (IntKind.u64.wrap (a*b)))))):=
  Qn rfl hn fun gh a' w r=>by
    have h1:a'.eval x= .int .u64 a:=hx gh a' w r
    have h2:a'.eval y= .int .u64 b:=hy gh a' w r
    refine ⟨_, ?_,_,rfl,rfl⟩
    simp only[execOp,h1,h2,eqGuard_at_int,binOp,Op.intArith]
    simp
theorem JN (hx:Evl A s x (.val (.int .u64 a)))(hy:Evl A s y (.val (.int .u64 b)))(hn:Nat.blt d A.n=true):Does A P ⟨some d, .binOp .add T x y T',ty,pos,af,g⟩ s (s.put d (lf (.val (.int .u64 (IntKind.u64.wrap (a+b)))))):=
  Qn rfl hn fun gh a' w r=>by
    have h1:a'.eval x= .int .u64 a:=hx gh a' w r
    have h2:a'.eval y= .int .u64 b:=hy gh a' w r
    refine ⟨_, ?_,_,rfl,rfl⟩
    simp only[execOp,h1,h2,eqGuard_at_int,binOp,Op.intArith]
    simp
theorem QfR (hx:Evl A s x (.val (.int .u64 a)))(hy:Evl A s y (.val (.int .u64 b)))(hn:Nat.blt d A.n=true):Does A P ⟨some d, .binOp .and T x y T',ty,pos,af,g⟩ s (s.put d (lf (.val (.int .u64 (bits .and .u64 a b))))):=
  Qn rfl hn fun gh a' w r=>by
    have h1:a'.eval x= .int .u64 a:=hx gh a' w r
    have h2:a'.eval y= .int .u64 b:=hy gh a' w r
    have h3:Op.intBits .and .u64 a b=pure (.int .u64 (bits .and .u64 a b)):=rfl
    refine ⟨_, ?_,_,rfl,rfl⟩
    simp only[execOp,h1,h2,eqGuard_at_int,binOp,h3]
    simp
theorem QfG {k:IntKind}(hx:Evl A s x (.val (.int .u64 a)))(hy:Evl A s y (.val (.int k b)))(hn:Nat.blt d A.n=true)(h0:0≤b∧b≤62):Does A P ⟨some d, .binOp .shr T x y T',ty,pos,af,g⟩ s (s.put d (lf (.val (.int .u64 (a / 2 ^ b.toNat))))):=
  Qn rfl hn fun gh a' w r=>by
    have h1:a'.eval x= .int .u64 a:=hx gh a' w r
    have h2:a'.eval y= .int k b:=hy gh a' w r
    have h3:Op.shift .shr .u64 a k b=pure (.int .u64 (a / 2 ^ b.toNat)):=by
      rw[shift_shr_any _ _ _ _ h0.1,show IntKind.u64.bits=64 from rfl,cv (by omega)]
    refine ⟨_, ?_,_,rfl,rfl⟩
    simp only[execOp,h1,h2,eqGuard_at_int,binOp,h3]
    simp
theorem Qm8 {n:UInt8}(hx:Evl A s x (.dat .u8 n))(hs:P.underlying T=some (.int .u8))(hd:P.underlying T'=some (.int .i64))(hn:Nat.blt d A.n=true):
    Does A P ⟨some d, .convert T T' x,ty,pos,af,g⟩ s (s.put d (lf (dI n.toNat))):=
  Qn rfl hn fun gh a w r=>by
    have h2:a.eval x= .int .u8 n.toNat:=by
      have h3:Rd gh.N .u8 w [a.eval x] n:=hx gh a w r
      have h4:[a.eval x]=[.int .u8 n.toNat]:=h3.rep
      simpa using h4
    have hb:n.toNat < 256:=n.toNat_lt
    have e2:IntKind.i64.wrap (n.toNat:Int)=(n.toNat:Int):=IntWalk.i64_in _ (by omega)
    refine ⟨.int .i64 n.toNat, ?_,_,rfl,Yo (by omega)⟩
    simp only[execOp,h2,convert,run_underlying hs,run_underlying hd,aw,aC,Conv.intToInt,e2]
    simp
end
theorem Trd.u8 {P:Program}{T:TypeId}(h:P.underlying T=some (.int .u8))(hc:P.cellsOf T=1):Trd P T .u8:=⟨hc,fun enc w base spare held fuel cs x hx=>by
  obtain ⟨n,rfl,_,hw⟩:=DataW.trod_int h hx
  simp[Lit.wf] at hw
  have hu1:IntKind.u8.min=0:=rfl
  have hu2:IntKind.u8.max=255:=rfl
  rw[hu1,hu2] at hw
  refine ⟨UInt8.ofNat n.toNat, ?_⟩
  have e1:(UInt8.ofNat n.toNat).toNat=n.toNat:=by
    rw[UInt8.toNat_ofNat']
    exact cd (by omega)
  show [Value.int .u8 n]=[Value.int .u8 ((UInt8.ofNat n.toNat).toNat:Nat)]
  rw[e1,ce (by omega)]⟩
def QuU (P:Program)(T:TypeId)(offs:List (Nat×Nat))(zs:List Value):Prop:=
  ∃fs,P.underlying T=some (.struct fs)∧(∀w,(fs.mapM fun (f:Field)=>do pure (f.offset,← sizeOf f.type)).run P w= .ok offs.toArray w)∧zer P T=some (.agg zs.toArray)
theorem QgF {P:Program}{T:TypeId}{fs:List Field}{offs:List (Nat×Nat)}{zs:List Value}(hu:P.underlying T=some (.struct fs.toArray))(hp:plB P fs offs=true)(hz:zer P T=some (.agg zs.toArray)):QuU P T offs zs:=
  ⟨_,hu,fun w=>by
    rw[List.mapM_toArray]
    have:=Kt (P:=P) (w:=w) hp
    simp only[map_eq_pure_bind,aw,this,aC,aY],hz⟩
section
variable {A:Amb}{P:Program}{s:St}{d:Nat}{T ty:TypeId}{pos:String}{af:Array Edge}{g:Option (Nat×Bool)}
theorem Jf {zs:List Value}(zl:List LV){offs:List (Nat×Nat)}{parts:Array (Nat×Operand)}{css:List (Bool×List LV)}{ls:List LV}(hb:QuU P T offs zs)(hz0:∀al gh w,LVs al gh w zl zs)(hv:EvL A s (parts.toList.map (·.2)) css)(hok:∀c∈css,Q6 s.tab c.2=true)
    (hf:Qga offs zl ((parts.toList.map (·.1)).zip (css.map (·.2)))=some ls) (hn:Nat.blt d A.n=true):Does A P ⟨some d, .build T parts,ty,pos,af,g⟩ s (s.put d (ag ls)):=
  Qn rfl hn fun gh a w r=>by
    obtain ⟨fs,h1,h2,h3⟩:=hb
    have hvs:=hv.cms r
    have hlen:=hvs.len
    generalize hV:(parts.toList.map (·.2)).map a.eval=vs at*
    have hpl:parts.toList.length=vs.length:=by rw[← hV]; simp
    have hcells:∀(cs:List (Bool×List LV)) (vs:List Value),CmsR s.tab.al gh w cs vs→(∀c∈cs,Q6 s.tab c.2=true)→∀(i:Nat) (c:Bool×List LV) (v:Value),cs[i]? =some c→vs[i]? =some v→∃us,v.cells=us.toArray∧LVs s.tab.al gh w c.2 us:=by
      intro cs
      induction cs with
      | nil=>intro vs _ _ i c v h; simp at h
      | cons c cs ih=>
        rintro vs ⟨v,vs',rfl,k1,k2⟩ hok i c' v' hc hv'
        cases i with
        | zero=>
          simp at hc hv'
          subst hc; subst hv'
          have hc:=hok c (aA ..)
          obtain ⟨b,ls⟩:=c
          exact CmR.cells k1 fun hb=>by
            subst hb
            obtain ⟨l,rfl,q1⟩:=k1
            simp only[Q6,cN] at hc
            obtain ⟨h3,h4⟩:=Vz hc
            exact q1.oneCell h4 h3 fun q ⟨e,he⟩=>(r.cx.en q e he).oneCell
        | succ i=>exact ih vs' k2 (fun c hc=>hok c (ax _ hc)) i c' v' (by simpa using hc) (by simpa using hv')
    have hzl:((parts.toList.map (·.1)).zip (css.map (·.2))).length=vs.length:=by rw[List.length_zip,aF,aF]; omega
    obtain ⟨cur',k1,k2⟩:=QaC (al:=s.tab.al) (gh:=gh) (w:=w) (cur:=zs.toArray) hf hzl.symm (fun i p v hp hv'=>by
      have hi:=List.getElem?_zip_eq_some.1 hp
      have h5:=hi.2
      rw[b6] at h5
      obtain ⟨c',h6,h7⟩:=bL.1 h5
      rw[← h7]
      exact hcells css vs hvs hok i c' v h6 hv') (by simpa using hz0 s.tab.al gh w)
    refine ⟨.agg cur', ?_,cur'.toList,by simp,k2⟩
    have hz:(((parts.toList.map (·.1)).zip (css.map (·.2))).map (·.1)).zip vs=(parts.map fun p=>(p.1,a.eval p.2)).toList:=by
      rw[List.map_fst_zip (by rw[aF,aF]; omega),cP,← hV,d9]
      generalize parts.toList=pl
      induction pl with
      | nil=>rfl
      | cons p ps ih=>simp[ih]
    rw[hz] at k1
    simp only[execOp,Instr.build,aw,VP h3,aC,run_underlying h1,h2,Value.cells]
    rw[k1]
    simp
end
end Go.Proofs.YtjaadeknhofhpaaGreat
