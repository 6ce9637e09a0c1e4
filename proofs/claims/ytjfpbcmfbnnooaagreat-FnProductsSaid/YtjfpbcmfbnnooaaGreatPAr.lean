import Derived.Test.YtjfpbcmfbnnooaaGreatPAq
set_option linter.all false
namespace Go.Proofs.YtjfpbcmfbnnooaaGreat
open Go.RowKit Tryz
def LV.ren (σ:Nat→Nat):LV→LV
 | .val v=> .val v
 | .dat t x=> .dat t x
 | .ref q=> .ref (σ q)
 | .ptr q o=> .ptr (σ q) o
 | .ept q a b c=> .ept (σ q) a b c
 | .sub q a b c=> .sub (σ q) a b c
 | .elt t x o=> .elt t x o
 | .clo f qs=> .clo f (qs.map σ)
def PV.ren (σ:Nat→Nat):PV→PV
 | .cm b ls=> .cm b (ls.map (LV.ren σ))
 | .tup cs=> .tup (cs.map fun c=>(c.1,c.2.map (LV.ren σ)))
def Ent.ren (σ:Nat→Nat):Ent→Ent
 | .box E cs=> .box E (cs.map (LV.ren σ))
 | .arr E e xs=> .arr E e xs
 | .obx E wd n ls ov=> .obx E wd n (ls.map (LV.ren σ)) (ov.map fun p=>(p.1,p.2.ren σ))
 | .mp kb k vb v m=> .mp kb k vb v m
 | .bys E l=> .bys E l
 | .pl o e vs f=> .pl o e vs f
 | .fz E e xs=> .fz E e xs
 | .res R=> .res R
def Tab.ren (σ:Nat→Nat)(T:Tab):Tab:=T.map fun p=>(σ p.1,p.2.map (Ent.ren σ))
@[reducible] def Gh.via (gh:Gh) (σ:Nat→Nat):Gh:=⟨fun q=>gh.h (σ q),fun q=>gh.f (σ q),gh.N⟩
section
variable {al:Nat→Prop}{gh:Gh}{w:World}{σ:Nat→Nat}
def LVR.ren {l:LV}{v:Value}:LVR al gh w (l.ren σ) v↔LVR (fun q=>al (σ q)) (gh.via σ) w l v:=by
 cases l <;> simp only[LV.ren,LVR] <;> try exact Iff.rfl
 rename_i f a
 simp only[aW,forall_exists_index,and_imp,forall_apply_eq_imp_iff₂,dL,Function.comp_def]
def LVs.ren {ls:List LV}{vs:List Value}:LVs al gh w (ls.map (LV.ren σ)) vs↔LVs (fun q=>al (σ q)) (gh.via σ) w ls vs:=by
 induction ls generalizing vs with
 | nil=>exact Iff.rfl
 | cons l ls a=>simp only[bU,LVs,LVR.ren,a]
def CmR.ren {c:Bool×List LV}{v:Value}:CmR al gh w (c.1,c.2.map (LV.ren σ)) v↔CmR (fun q=>al (σ q)) (gh.via σ) w c v:=by
 obtain ⟨b,e⟩:=c
 cases b with
 | true=>simp only[CmR,LVs.ren]
 | false=>
  simp only[CmR]
  constructor
  ·rintro ⟨l,h,a⟩
   match e,h with
   | [l0],h=>
    simp only[bU,List.map_nil,aN,and_true] at h
    subst h
    exact ⟨l0,rfl,LVR.ren.1 a⟩
  ·rintro ⟨l,rfl,a⟩
   exact ⟨l.ren σ,rfl,LVR.ren.2 a⟩
def CmsR.ren {cs:List (Bool×List LV)}{vs:List Value}:CmsR al gh w (cs.map fun c=>(c.1,c.2.map (LV.ren σ))) vs↔CmsR (fun q=>al (σ q)) (gh.via σ) w cs vs:=by
 induction cs generalizing vs with
 | nil=>exact Iff.rfl
 | cons c cs a=>simp only[bU,CmsR,CmR.ren,a]
def PVR.ren {pv:PV}{v:Value}:PVR al gh w (pv.ren σ) v↔PVR (fun q=>al (σ q)) (gh.via σ) w pv v:=by
 cases pv with
 | cm b a=>exact CmR.ren (c:=(b,a))
 | tup e=>simp only[PV.ren,PVR,CmsR.ren]
def LOs.ren {ls:List LV}{f:List Nat}{vs:List Value}:LOs al gh w (ls.map (LV.ren σ)) f vs↔LOs (fun q=>al (σ q)) (gh.via σ) w ls f vs:=by
 induction ls generalizing f vs with
 | nil=>exact Iff.rfl
 | cons l ls a=>
  simp only[bU,LOs,a]
  cases l <;> exact Iff.rfl
def LV.tags_ren (l:LV):(l.ren σ).tags=l.tags.map σ:=by cases l <;> rfl
def UX (ls:List LV):QQ (ls.map (LV.ren σ))=(QQ ls).map σ:=by
 induction ls with
 | nil=>rfl
 | cons l ls a=>simp[QQ,LV.tags_ren,a]
def Qyb (ls:List LV)(a:List (Nat×LV)):ovr (ls.map (LV.ren σ)) (a.map fun p=>(p.1,p.2.ren σ))=(ovr ls a).map (LV.ren σ):=by
 induction a with
 | nil=>rfl
 | cons p a b=>simp only[bU,ovr,b,List.map_set]
def Qn2 (a:List (Nat×LV)):QbH (a.map fun p=>(p.1,p.2.ren σ))=(QbH a).map σ:=by
 induction a with
 | nil=>rfl
 | cons p a b=>simp[QbH,LV.tags_ren,b]
def EntR.ren {q:Nat}{e:Ent}:EntR al gh w (σ q) (e.ren σ)↔EntR (fun q=>al (σ q)) (gh.via σ) w q e:=by
 cases e with
 | box E p=>simp only[Ent.ren,EntR,LVs.ren]
 | arr E e xs=>exact Iff.rfl
 | obx E y n r u=>simp only[Ent.ren,EntR,Qyb,LOs.ren,aC,UX,List.map_eq_nil_iff]
 | mp c k i v m=>
  have j:∀a:List MapEntry,MpL gh w c k i v a m↔MpL (gh.via σ) w c k i v a m:=fun a=>⟨fun h=>h.mono fun g b=>⟨b,rfl⟩,fun h=>h.mono fun g b=>⟨b,rfl⟩⟩
  simp only[Ent.ren,EntR,j]
 | bys E l=>exact Iff.rfl
 | pl o e x f=>cases o <;> exact Iff.rfl
 | fz E e xs=>exact Iff.rfl
 | res R=>exact Iff.rfl
def Qky (cs:List (Bool×List LV)):VT (cs.map fun c=>(c.1,c.2.map (LV.ren σ)))=(VT cs).map σ:=by
 induction cs with
 | nil=>rfl
 | cons c cs a=>simp[VT,UX,a]
def PV.tags_ren (pv:PV):(pv.ren σ).tags=pv.tags.map σ:=by
 cases pv with
 | cm b c=>exact UX c
 | tup a=>exact Qky a
def Ent.tags_ren (e:Ent):(e.ren σ).tags=e.tags.map σ:=by
 cases e with
 | box E a=>exact UX a
 | arr E e xs=>rfl
 | obx E p n h b=>exact Qn2 b
 | mp c k i v m=>rfl
 | bys E l=>rfl
 | pl o e j f=>rfl
 | fz E e xs=>rfl
 | res R=>rfl
end
def rn (ρ:List (Nat×Nat))(q:Nat):Nat:=match lk ρ q with
 | some r=>r
 | none=>q
def HasT (s:St)(ρ:List (Nat×Nat)):List (Nat×PV)→Prop
 | []=>True
 | (i,pv)::l=>lk s.tm i=some (pv.ren (rn ρ))∧HasT s ρ l
def HasE (s:St)(ρ:List (Nat×Nat)):Tab→Prop
 | []=>True
 | (_,none)::l=>HasE s ρ l
 | (q,some e)::l=>s.tab.ent (rn ρ q)=some (e.ren (rn ρ))∧HasE s ρ l
def HasT.get {s:St}{ρ:List (Nat×Nat)}{l:List (Nat×PV)}(h:HasT s ρ l){i:Nat}{pv:PV}(hi:lk l i=some pv):lk s.tm i=some (pv.ren (rn ρ)):=by
 induction l with
 | nil=>cases hi
 | cons x l a=>
  obtain ⟨j,b⟩:=x
  rw[UW] at hi
  by_cases e:i=j
  ·rw[if_pos e] at hi;cases hi;rw[e];exact h.1
  ·rw[if_neg e] at hi;exact a h.2 hi
def HasE.get {s:St}{ρ:List (Nat×Nat)}{T:Tab}(h:HasE s ρ T){q:Nat}{e:Ent}(a:T.ent q=some e):s.tab.ent (rn ρ q)=some (e.ren (rn ρ)):=by
 induction T with
 | nil=>cases a
 | cons x T c=>
  obtain ⟨j,o⟩:=x
  rw[Qi] at a
  by_cases b:q=j
  ·rw[if_pos b] at a;subst a;rw[b];exact h.1
  ·rw[if_neg b] at a
   cases o with
   | none=>exact c h a
   | some i=>exact c h.2 a
def WZ:List Nat→Bool
 | []=>true
 | q::qs=> !(qs.any (Nat.beq q))&&WZ qs
def Ho {T:Tab}{ρ:Nat→Nat}(h:WZ (T.map fun p=>ρ p.1)=true){q m:Nat}(b:T.al q)(a:T.al m)(i:ρ q=ρ m):q=m:=by
 induction T with
 | nil=>obtain ⟨e,b⟩:=b;cases b
 | cons x T z=>
  obtain ⟨j,o⟩:=x
  simp only[bU,WZ,aH,cA,bV] at h
  have l:∀r,Tab.al T r→ρ r≠ρ j:=fun r ⟨e,k⟩ B=>by
   have C:r∈T.map (·.1):=by
    clear h z b a i
    induction T with
    | nil=>cases k
    | cons y T v=>
     obtain ⟨E,F⟩:=y
     rw[Qi] at k
     by_cases c:r=E
     ·simp[c]
     ·rw[if_neg c] at k;simp only[bU,aK];exact .inr (v ⟨e,k⟩ k)
   obtain ⟨p,D,u⟩:=aW.1 C
   have:=h.1 (ρ p.1) (aW.2 ⟨p,D,rfl⟩)
   rw[u,B,eb] at this
   exact this rfl
  unfold Tab.al at b a
  rw[Qi] at b a
  by_cases n:q=j <;> by_cases c:m=j
  ·rw[n,c]
  ·rw[if_neg c] at a
   rw[n] at i
   exact absurd i.symm (l m a)
  ·rw[if_neg n] at b
   rw[c] at i
   exact absurd i (l q b)
  ·rw[if_neg n] at b
   rw[if_neg c] at a
   exact z h.2 b a
def idB (ρ:List (Nat×Nat)):Nat→Bool
 | 0=>true
 | k+1=>Nat.beq (rn ρ k) k&&idB ρ k
def QkS {ρ:List (Nat×Nat)}{k:Nat}(h:idB ρ k=true):∀q,q<k→rn ρ q=q:=by
 induction k with
 | zero=>intro q a;omega
 | succ k b=>
  simp only[idB,aH] at h
  intro q a
  by_cases e:q=k
  ·subst e;exact aZ h.1
  ·exact b h.2 q (by omega)
section
variable {A:Amb}{P:Program}{s t:St}
def Wk.of (ρ:List (Nat×Nat)){k:Nat}(C:A.k0=k)(B:HasT s ρ t.tm)(y:HasE s ρ t.tab)(hi:WZ (t.tab.map fun p=>rn ρ p.1)=true)
 (hid:idB ρ k=true):Wk A s t:=fun a w r=>by
 obtain ⟨gh,r⟩:=r
 have b:∀q,t.tab.al q→s.tab.al (rn ρ q):=fun q ⟨e,h⟩=>⟨_,y.get h⟩
 have n:∀q j,t.tab.al q→t.tab.al j→rn ρ q=rn ρ j→q=j:=fun q j l m h=>Ho hi l m h
 refine ⟨gh.via (rn ρ),⟨fun q e h=> ?_,fun q j l m x=>r.cx.dj _ _ (b q l) (b j m) fun h=>x (n q j l m h),fun q h=>r.cx.nd _ (b q h),fun q h=>r.cx.no _ (b q h),r.cx.nl⟩,r.sz,r.df,fun i pv h=> ?_,
  r.gw,r.kp,r.fr,fun q h=>r.ox _ (b q h),fun q z h=> ?_,r.xn⟩
 ·exact (EntR.ren.1 (r.cx.en _ _ (y.get h))).mono (fun D _ o=>⟨b D o,rfl⟩) (fun g u=>⟨u,rfl⟩) rfl rfl fun _ _=>rfl
 ·obtain ⟨v,l,m⟩:=r.tm i _ (B.get h)
  exact ⟨v,l,(PVR.ren.1 m).mono (fun q _ o=>⟨b q o,rfl⟩) fun g u=>⟨u,rfl⟩⟩
 ·have c:=QkS hid q (C▸z)
  have:=r.hh (rn ρ q) (by rw[c];exact z) (b q h)
  rw[c] at this
  show gh.h (rn ρ q)=_
  rw[c]
  exact this
theorem Rg.freeze {gh:Gh}{a:Act}{w:World}(r:Rg A s gh a w){q:Nat}{e:Ent}(u:s.tab.ent q=some e):Rg A ⟨s.tm,(q,none)::s.tab⟩ ⟨gh.h,gh.f,fun g=>gh.N g∨g∈gh.f q⟩ a w:=by
 have n:s.tab.al q:=⟨e,u⟩
 have i:∀c,Tab.al ((q,none)::s.tab) c→c≠q∧s.tab.al c:=fun c h=>by
  unfold Tab.al at h
  rw[Qi] at h
  by_cases k:c=q
  ·rw[if_pos k] at h;obtain ⟨_,h⟩:=h;cases h
  ·rw[if_neg k] at h;exact ⟨k,h⟩
 have l:∀c j,Tab.ent ((q,none)::s.tab) c=some j→s.tab.ent c=some j:=fun c j h=>by
  rw[Qi] at h
  grind
 refine r.step ⟨fun c j h=> ?_,fun v x k p=>r.cx.dj v x (i _ k).2 (i _ p).2,fun c h=>r.cx.nd c (i _ h).2,fun c h g m b=> ?_,fun g b=> ?_⟩ (fun c h=> .inl ⟨(i _ h).2,rfl,fun _=>rfl⟩) (fun g b=>⟨.inl b,rfl⟩)
  (ZN w) (fun _ _ _=>rfl) (fun g b=> ?_) fun c h g m=> .inr ⟨c,(i _ h).2,m⟩
 ·exact (r.cx.en c j (l c j h)).mono (fun y _ h=>⟨(i _ h).2,rfl⟩) (fun g b=>⟨.inl b,rfl⟩) rfl rfl fun _ _=>rfl
 ·rcases b with b|b
  ·exact r.cx.no c (i _ h).2 g m b
  ·exact r.cx.dj c q (i _ h).2 n (i _ h).1 g m b
 ·rcases b with b|b
  ·exact r.cx.nl g b
  ·exact r.cx.lt n g b
 ·rcases b with b|b
  ·exact .inl b
  ·exact .inr (.inr ⟨q,n,b,fun o=>r.xn g o (r.ox q n g b o)⟩)
def Wk.freeze {i q:Nat}{E:TypeId}{e:Ty}{xs:List e.Den}(hi:lk s.tm i=some (lf (.ref q)))(b:s.tab.ent q=some (.arr E e xs)):Wk A s ⟨(i,lf (.dat (.sl E e) xs))::s.tm,(q,none)::s.tab⟩:=fun a w r=>by
 obtain ⟨gh,r⟩:=r
 obtain ⟨v,j,l,c,k⟩:=r.tm i _ hi
 simp only[aN,and_true] at c
 subst c
 have o:v=gh.h q:=k ⟨_,b⟩
 have m:Own (.sl E e) w (gh.f q) [gh.h q] xs:=r.cx.en q _ b
 refine ⟨_,(r.freeze b).know j (pv:=lf (.dat (.sl E e) xs)) ⟨_,rfl,?_⟩⟩
 rw[o]
 exact m.rd fun g n=> .inr n
def QA {p off q:Nat}{E' E:TypeId}{cs:List LV}{e:Ty}{xs:List e.Den}(k:s.tab.ent p=some (.box E' cs))(L:cs[off]? =some (.ref q))(j:s.tab.ent q=some (.arr E e xs)):
 Wk A s ⟨s.tm,(p,some (.box E' (splice cs off [.dat (.sl E e) xs])))::(q,none)::s.tab⟩:=fun a w r=>by
 obtain ⟨gh,r⟩:=r
 have n:p≠q:=fun h=>by rw[h,j] at k;cases k
 obtain ⟨g,b,u,D,x,F⟩:=r.cx.en p _ k
 obtain ⟨v,G,H⟩:=F.nth L
 have M:v=gh.h q:=H ⟨_,j⟩
 have J:Own (.sl E e) w (gh.f q) [gh.h q] xs:=r.cx.en q _ j
 have i:Tab.ent ((q,none)::s.tab) p=some (.box E' cs):=by rw[Qi,if_neg n];exact k
 have C:=r.freeze j
 obtain ⟨Q,o,z,R,B,O⟩:=C.cx.en p _ i
 rw[show gh.h p=_ from u] at z
 cases z
 rw[x] at B
 cases B
 have I:LVs (Tab.al ((q,none)::s.tab)) ⟨gh.h,gh.f,fun g=>gh.N g∨g∈gh.f q⟩ w [.dat (.sl E e) xs] [v]:=⟨v,[],rfl,by rw[M];exact J.rd fun g K=> .inr K,rfl⟩
 have y:=O.splice I (off:=off)
 have c:b.toList.take off++[v]++b.toList.drop (off+[v].length)=b.toList:=by
  have l:=(ae.1 G)
  obtain ⟨l,m⟩:=l
  conv=>rhs;rw[← bB (off+1) b.toList,cd l,m]
  rfl
 rw[c] at y
 refine ⟨_,C.mod i (ZN w) (fun _ _ _=>rfl) ⟨g,b,u,D,x,y⟩⟩
def DoesT (A:Amb)(P:Program)(o:Oper)(s:St)(S:St→Prop):Prop:=∀a w K Q,R A s a w→(∀s' a' w',S s'→R A s' a' w'→K a' w')→o.wp P a w K Q
def QsC {ops:Array Oper}{o:Oper}{l:List Oper}{Q:Exit→St→Prop}{S:St→Prop}(e:o.guard=none)(h:DoesT A P o s S)(k:∀s',S s'→AL A P ops l Q s'):AL A P ops (o::l) Q s:=
 fun a w r=>wpList_plain e fun _ c=>h a w _ _ r fun s' b m i j=>c _ _ (k s' i b m j)
def DoesT.one {o:Oper}{s':St}(h:DoesT A P o s (· =s')):Does A P o s s':=fun a w K Q r c=>h a w K Q r fun _ b j e i=>c b j (e▸i)
def Tab.is (T:Tab)(n q:Nat):Bool:=Nat.ble n q&&(T.ent (q - n)).isSome
def Hi {T:Tab}{n q:Nat}(h:T.is n q=true):n≤q∧T.al (q - n):=by
 simp only[Tab.is,aH] at h
 exact ⟨aD h.1,bq.1 h.2⟩
def QcQ {T:Tab}{n p:Nat}(h:T.al p):T.is n (n+p)=true:=by
 simp only[Tab.is,aH,bE]
 exact ⟨cK (Nat.le_add_right _ _),bq.2 h⟩
def QdN {T k:Tab}{n q:Nat}{e:Ent}(h:Tab.ent (T.ren (n+·)++k) q=some e):(T.is n q=false∧k.ent q=some e)∨∃e',T.is n q=true∧T.ent (q - n)=some e'∧e=e'.ren (n+·):=by
 induction T with
 | nil=>exact .inl ⟨by simp[Tab.is,Tab.ent,lk],h⟩
 | cons x T r=>
  obtain ⟨j,o⟩:=x
  have h:Tab.ent ((n+j,o.map (Ent.ren (n+·)))::(Tab.ren (n+·) T++k)) q=some e:=h
  rw[Qi] at h
  by_cases c:q=n+j
  ·rw[if_pos c] at h
   obtain ⟨e',rfl,rfl⟩:=cq.1 h
   refine .inr ⟨e',?_,?_,rfl⟩
   ·rw[c];exact QcQ ⟨e',by rw[Qi,if_pos rfl]⟩
   ·rw[c,bE,Qi,if_pos rfl]
  ·rw[if_neg c] at h
   have a:n≤q→Tab.ent ((j,o)::T) (q - n)=Tab.ent T (q - n):=fun u=>by rw[Qi,if_neg (by omega)]
   have b:Tab.is ((j,o)::T) n q=Tab.is T n q:=by
    unfold Tab.is
    cases p:Nat.ble n q with
    | false=>rfl
    | true=>rw[a (aD p)]
   rcases r h with ⟨i,l⟩|⟨e',i,l,m⟩
   ·exact .inl ⟨b.trans i,l⟩
   ·exact .inr ⟨e',b.trans i,(a (Hi i).1).trans l,m⟩
theorem Rg.after {gh:Gh}{a:Act}{w w':World}(r:Rg A s gh a w)(n:Nat){T:Tab}(x:∀q,T.al q→Fresh s (n+q))(L:A.k0≤n){gh':Gh}(v:Cx T gh' w')(H:Grw w w')(C:∀g,g<w.heap.size→w'.heap[g]? =w.heap[g]?)(D:∀q,T.al q→∀g∈gh'.f q,w.heap.size≤g)
 (nn:∀g,gh'.N g→gh.N g∨w.heap.size≤g) (htg:∀q e,T.ent q=some e→∀r∈e.tags,T.al r∨¬s.tab.al (n+r)):
 Rg A ⟨s.tm,T.ren (n+·)++s.tab⟩ ⟨fun q=>if T.is n q=true then gh'.h (q - n) else gh.h q,fun q=>if T.is n q=true then gh'.f (q - n) else gh.f q,fun g=>gh.N g∨gh'.N g⟩ a w':=by
 have l:∀q,Tab.al (T.ren (n+·)++s.tab) q→(T.is n q=false∧s.tab.al q)∨(T.is n q=true∧∃p,q=n+p∧T.al p):=fun q ⟨e,h⟩=>by
  rcases QdN h with ⟨m,o⟩|⟨G,m,o,_⟩
  ·exact .inl ⟨m,e,o⟩
  ·exact .inr ⟨m,q - n,by have:=(Hi m).1;omega,G,o⟩
 refine r.step ⟨fun q e h=> ?_,fun q K m o E g c k=> ?_,fun q h=> ?_,fun q h g c b=> ?_,fun g b=> ?_⟩ (fun q h=> ?_) (fun g b=>⟨.inl b,C g (r.cx.nl g b)⟩) H (fun g c _=>C g c)
  (fun g b=> ?_) fun q h g c=> ?_
 ·rcases QdN h with ⟨m,h⟩|⟨G,m,o,rfl⟩
  ·refine (r.cx.en q e h).mono (fun F y I=> ?_) (fun g b=>⟨.inl b,C g (r.cx.nl g b)⟩) (by simp[m]) (by simp[m]) fun g c=>C g (r.cx.lt ⟨e,h⟩ g c)
   rcases l F I with ⟨u,o⟩|⟨_,p,rfl,o⟩
   ·exact ⟨o,by simp[u]⟩
   ·exact absurd y ((x p o).en q e h)
  ·have u:=v.en _ _ o
   obtain ⟨p,rfl⟩:∃p,q=n+p:=⟨q - n,by have:=(Hi m).1;omega⟩
   rw[bE] at u o
   refine (EntR.ren (σ:=(n+·))).2<|u.mono (fun F y I=> ?_) (fun g b=>⟨.inr b,rfl⟩) (by simp[Gh.via,m]) (by simp[Gh.via,m]) fun _ _=>rfl
   have J:T.al F:=by
    grind
   exact ⟨J,by simp[Gh.via,QcQ J]⟩
 ·rcases l q m with ⟨j,i⟩|⟨j,p,rfl,i⟩ <;> rcases l K o with ⟨B,z⟩|⟨B,M,rfl,z⟩
  ·simp only[j,cc,if_false] at c
   simp only[B,cc,if_false] at k
   exact r.cx.dj q K i z E g c k
  ·simp only[j,cc,if_false] at c
   simp only[B,if_true] at k
   have:=r.cx.lt i g c
   have:=D _ (by rw[bE];exact z) g k
   omega
  ·simp only[j,if_true] at c
   simp only[B,cc,if_false] at k
   have:=r.cx.lt z g k
   have:=D _ (by rw[bE];exact i) g c
   omega
  ·simp only[j,if_true,bE] at c
   simp only[B,if_true,bE] at k
   exact v.dj _ _ i z (by omega) g c k
 ·rcases l q h with ⟨j,i⟩|⟨j,p,rfl,i⟩
  ·simp only[j,cc,if_false];exact r.cx.nd q i
  ·simp only[j,if_true,bE];exact v.nd _ i
 ·rcases l q h with ⟨j,i⟩|⟨j,p,rfl,i⟩
  ·simp only[j,cc,if_false] at c
   rcases b with b|b
   ·exact r.cx.no q i g c b
   ·rcases nn g b with u|u
    ·exact r.cx.no q i g c u
    ·have:=r.cx.lt i g c;omega
  ·simp only[j,if_true,bE] at c
   rcases b with b|b
   ·have:=r.cx.nl g b
    have:=D _ i g c
    omega
   ·exact v.no _ i g c b
 ·rcases b with b|b
  ·exact ba (r.cx.nl g b) H.size
  ·exact v.nl g b
 ·rcases l q h with ⟨j,i⟩|⟨j,p,rfl,i⟩
  ·exact .inl ⟨i,by simp[j],fun _=>by simp[j]⟩
  ·exact .inr ⟨x p i,by omega⟩
 ·rcases b with b|b
  ·exact .inl b
  ·rcases nn g b with h|h
   ·exact .inl h
   ·exact .inr (.inl h)
 ·rcases l q h with ⟨j,i⟩|⟨j,p,rfl,i⟩
  ·simp only[j,cc,if_false] at c
   exact .inr ⟨q,i,c⟩
  ·simp only[j,if_true,bE] at c
   exact .inl (D _ i g c)
def YS (pv:PV)(T:Tab):Bool:=(pv.tags++ZU T).all fun q=>(T.ent q).isSome
def Qc3 {pv:PV}{T:Tab}(h:YS pv T=true):(∀q∈pv.tags,T.al q)∧∀q e,T.ent q=some e→∀r∈e.tags,T.al r:=by
 have h:=ao.1 h
 exact ⟨fun q b=>bq.1 (h q (aU _ b)),fun q e a r c=>bq.1 (h r (bd _ ((Zw a).2 r c)))⟩
@[reducible] def St.back (s:St) (d n:Nat) (pv:PV) (T:Tab):St:=⟨(d,pv.ren (n+·))::s.tm,T.ren (n+·)++s.tab⟩
def VA {T:Tab}(h:∀q,¬T.al q)(gh:Gh)(w:World)(b:∀g,gh.N g→g<w.heap.size):Cx T gh w:=
 ⟨fun q e c=>absurd ⟨e,c⟩ (h q),fun q _ a=>absurd a (h q),fun q a=>absurd a (h q),fun q a=>absurd a (h q),b⟩
def Qau {o:Oper}{f:FuncId}{xs:List Operand}{tys:Array TypeId}{a:Act}{w:World}{K:Act→World→Prop}{Q:Exit→Act→World→Prop}(c:Qe P f)(i:o.op= .call ⟨.value (.func f),xs.toArray,tys⟩)
 (h:Calls P f (xs.map a.eval).toArray w fun e w'=>match e with | .returned v=>K (a.put o.dst v) w'|_=>False):o.wp P a w K Q:=by
 have e:(execOp a.eval o).run P w= .ok (.enter f (xs.map a.eval).toArray) w:=by
  unfold execOp
  simp only[i,resolve,Act.eval,Deferred.ofValue,aw]
  have:=c (xs.map a.eval).toArray w
  simpa [invoke] using this
 unfold Oper.wp
 rw[e,Oper.upon_enter]
 refine Calls.mono h fun e w' b=> ?_
 cases e <;> first|exact b|exact b.elim
def ZO (q:Nat):¬Tab.al [] q:=fun ⟨_,h⟩=>by cases h
def QoE {gh gh2:Gh}{a:Act}{w':World}{n d:Nat}{pv:PV}{T:Tab}{gh':Gh}{v:Value}{N:Nat→Prop}(e:∀q,T.al q→Fresh s (n+q))(b:∀q∈pv.tags,T.al q)(j:Rg A ⟨s.tm,T.ren (n+·)++s.tab⟩ ⟨fun q=>if T.is n q=true then gh'.h (q - n) else gh.h q,fun q=>if T.is n q=true then gh'.f (q - n) else gh.f q,N⟩ a w')
 (hp:PVR T.al gh' w' pv v) (hN:∀g,gh'.N g→N g) (hn:Nat.blt d A.n=true):R A (s.back d n pv T) (a.put (some d) v) w':=by
 refine ⟨_,j.put (aD hn) (pv:=pv.ren (n+·)) ?_⟩
 refine PVR.ren.2 (hp.mono (fun q c _=> ?_) fun g i=>⟨hN g i,rfl⟩)
 exact ⟨b q c,by simp[Gh.via,QcQ (b q c)]⟩
def DoesT.call {f:FuncId}{xs:List Operand}{tys:Array TypeId}{args:List (Bool×List LV)}{O:PV→Tab→Prop}{d:Nat}{ty:TypeId}{pos:String}{af:Array Edge}{g:Option (Nat×Bool)}(n:Nat)(z:FC P f args [] 0 O)(I:Qe P f)(l:EvL A s xs args)
 (hcl:∀pv T,O pv T→YS pv T=true) (hfr:∀pv T,O pv T→∀q,T.al q→Fresh s (n+q)) (hk0:A.k0≤n) (hn:Nat.blt d A.n=true):
 DoesT A P ⟨some d,.call ⟨.value (.func f),xs.toArray,tys⟩,ty,pos,af,g⟩ s fun s'=>∃pv T,O pv T∧s'=s.back d n pv T:=fun a w K Q r y=>by
 obtain ⟨gh,r⟩:=r
 have o:=l.cms r
 refine Qau I rfl (Calls.mono (z gh w _ (VA ZO gh w r.cx.nl) ?_) fun e U i=> ?_)
 ·clear z y hcl hfr
  generalize xs.map a.eval=vs at o
  induction args generalizing vs xs with
  | nil=>exact o
  | cons c B M=>
   obtain ⟨v,u,rfl,F,G⟩:=o
   cases xs with
   | nil=>cases (show c::B=[] from l)
   | cons x xs=>
    obtain ⟨S,C,i,_,H⟩:=l
    simp only[aN] at i
    obtain ⟨rfl,rfl⟩:=i
    exact ⟨v,u,rfl,F.mono (fun q _ h=>absurd h (ZO q)) fun g b=>⟨b,rfl⟩,M H _ G⟩
 ·obtain ⟨v,pv,T,E,rfl,k,D,J,j,_⟩:=i
  obtain ⟨c1,c2⟩:=Qc3 (hcl pv T k)
  have R:=r.after n (hfr pv T k) hk0 D j.gw (fun g b=>j.kp g b fun q m=>absurd m (ZO q)) (fun q m g b=>by
   rcases j.ox q m g b with h|⟨p,h,_⟩
   ·exact h
   ·exact absurd h (ZO p)) (fun g b=>by
   rcases j.nn g b with h|h|⟨p,h,_⟩
   ·exact .inl h
   ·exact .inr h
   ·exact absurd h (ZO p)) fun q e i r L=> .inl (c2 q e i r L)
  exact y _ _ _ ⟨pv,T,k,rfl⟩ (QoE (gh2:=gh) (hfr pv T k) c1 R J (fun g b=> .inr b) hn)
end
def LV.fl:LV→Bool
 | .dat t _=>t.flat
 | .elt _ _ _=>false
 | .val _=>true
 | .ref _=>true
 | .ptr _ _=>true
 | .ept _ _ _ _=>true
 | .sub _ _ _ _=>true
 | .clo _ _=>true
def PV.fl:PV→Bool
 | .cm _ ls=>ls.all LV.fl
 | .tup cs=>cs.all fun c=>c.2.all LV.fl
def Tab.fl (T:Tab):Bool:=T.all fun p=>match p.2 with
 | some (.box _ cs)=>cs.all LV.fl
 | some (.mp _ k _ v _)=>k.flat&&v.flat
 | some (.pl o _ _ _)=>o
 | some (.fz _ _ _)=>false
 | some (.res R)=>R.fl
 | _=>true
section
variable {al:Nat→Prop}{gh:Gh}{w:World}{N:Nat→Prop}
def LVR.fl {l:LV}{v:Value}(h:LVR al gh w l v)(e:l.fl=true):LVR al ⟨gh.h,gh.f,N⟩ w l v:=by
 cases l with
 | dat t x=>exact (Rd.rep h).rd0 e
 | elt t x o=>cases e
 | val u=>exact h
 | ref q=>exact h
 | ptr q o=>exact h
 | ept q a b c=>exact h
 | sub q a b c=>exact h
 | clo f i=>exact h
def LVs.fl {ls:List LV}{vs:List Value}(h:LVs al gh w ls vs)(a:ls.all LV.fl=true):LVs al ⟨gh.h,gh.f,N⟩ w ls vs:=by
 induction ls generalizing vs with
 | nil=>exact h
 | cons l ls i=>
  simp only[aV,aH] at a
  obtain ⟨v,b,rfl,c,e⟩:=h
  exact ⟨v,b,rfl,c.fl a.1,i e a.2⟩
def CmR.fl {c:Bool×List LV}{v:Value}(h:CmR al gh w c v)(e:c.2.all LV.fl=true):CmR al ⟨gh.h,gh.f,N⟩ w c v:=by
 obtain ⟨b,j⟩:=c
 cases b with
 | true=>obtain ⟨i,rfl,a⟩:=h;exact ⟨i,rfl,a.fl e⟩
 | false=>obtain ⟨l,rfl,a⟩:=h;simp only[aV,bo,cY] at e;exact ⟨l,rfl,a.fl e⟩
def PVR.fl {pv:PV}{v:Value}(h:PVR al gh w pv v)(a:pv.fl=true):PVR al ⟨gh.h,gh.f,N⟩ w pv v:=by
 cases pv with
 | cm b o=>exact CmR.fl (c:=(b,o)) h a
 | tup i=>
  obtain ⟨k,rfl,j⟩:=h
  refine ⟨k,rfl,?_⟩
  change i.all (fun c=>c.2.all LV.fl)=true at a
  induction i generalizing k with
  | nil=>exact j
  | cons c i n=>
   simp only[aV,aH] at a
   obtain ⟨v,e,rfl,l,m⟩:=j
   exact ⟨v,e,rfl,l.fl a.1,n e m a.2⟩
def QlN {T:Tab}(h:T.fl=true){q:Nat}{E:TypeId}{cs:List LV}(a:T.ent q=some (.box E cs)):cs.all LV.fl=true:=by
 induction T with
 | nil=>cases a
 | cons x T b=>
  obtain ⟨j,o⟩:=x
  unfold Tab.fl at h
  simp only[aV,aH] at h
  rw[Qi] at a
  by_cases e:q=j
  ·rw[if_pos e] at a;subst a;exact h.1
  ·rw[if_neg e] at a;exact b h.2 a
def QhD {T:Tab}(h:T.fl=true){q:Nat}{kb vb:Bool}{k v:Ty}{m:List (k.Den×v.Den)}(a:T.ent q=some (.mp kb k vb v m)):k.flat=true∧v.flat=true:=by
 induction T with
 | nil=>cases a
 | cons x T b=>
  obtain ⟨j,o⟩:=x
  unfold Tab.fl at h
  simp only[aV,aH] at h
  rw[Qi] at a
  by_cases e:q=j
  ·rw[if_pos e] at a;subst a;simpa using h.1
  ·rw[if_neg e] at a;exact b h.2 a
def QqD {T:Tab}(h:T.fl=true){q:Nat}{b:Bool}{e:Ty}{vs:List Hdr}{f:Hdr→e.Den}(a:T.ent q=some (.pl b e vs f)):b=true:=by
 induction T with
 | nil=>cases a
 | cons x T c=>
  obtain ⟨j,o⟩:=x
  unfold Tab.fl at h
  simp only[aV,aH] at h
  rw[Qi] at a
  by_cases e:q=j
  ·rw[if_pos e] at a;subst a;simpa using h.1
  ·rw[if_neg e] at a;exact c h.2 a
def QqC {T:Tab}(h:T.fl=true){q:Nat}{E:TypeId}{e:Ty}{xs:List e.Den}(a:T.ent q=some (.fz E e xs)):False:=by
 induction T with
 | nil=>cases a
 | cons x T b=>
  obtain ⟨j,o⟩:=x
  unfold Tab.fl at h
  simp only[aV,aH] at h
  rw[Qi] at a
  by_cases e:q=j
  ·rw[if_pos e] at a;subst a;simp at h
  ·rw[if_neg e] at a;exact b h.2 a
def QlO {T:Tab}(h:T.fl=true){q:Nat}{R:Rsc}(a:T.ent q=some (.res R)):R.fl=true:=by
 induction T with
 | nil=>cases a
 | cons x T b=>
  obtain ⟨j,o⟩:=x
  unfold Tab.fl at h
  simp only[aV,aH] at h
  rw[Qi] at a
  by_cases e:q=j
  ·rw[if_pos e] at a;subst a;simpa using h.1
  ·rw[if_neg e] at a;exact b h.2 a
def MV.fl {b:Bool}{t:Ty}{v:Value}{x:t.Den}(h:MV gh w b t v x)(a:t.flat=true):MV ⟨gh.h,gh.f,N⟩ w b t v x:=by
 cases b with
 | true=>obtain ⟨c,e,i⟩:=h;exact ⟨c,e,(Rd.rep i).rd0 a⟩
 | false=>exact (Rd.rep h).rd0 a
def MpL.fl {kb vb:Bool}{k v:Ty}{es:List MapEntry}{m:List (k.Den×v.Den)}(h:MpL gh w kb k vb v es m)(b:k.flat=true)(c:v.flat=true):MpL ⟨gh.h,gh.f,N⟩ w kb k vb v es m:=by
 induction es generalizing m with
 | nil=>exact h
 | cons e es i=>
  obtain ⟨x,y,o,a,j,l,n⟩:=h
  exact ⟨x,y,o,a,j.fl b,l.fl c,i n⟩
def Cx.fl {T:Tab}(h:Cx T gh w)(j:T.fl=true):Cx T ⟨gh.h,gh.f,fun _=>False⟩ w:=
 ⟨fun q e i=>by
  have c:=h.en q e i
  cases e with
  | box E J=>obtain ⟨g,b,p,r,u,x⟩:=c;exact ⟨g,b,p,r,u,x.fl (QlN j i)⟩
  | arr E e xs=>exact c
  | obx E Q n I L=>obtain ⟨C,g,y,b,fps,p,r,u,x,z,F,G,H⟩:=c;exact ⟨C,g,y,b,fps,p,r,u,x,z,F,G,H.mono (fun _ _ h=>⟨h,rfl⟩) fun _ _=>rfl⟩
  | bys E l=>exact c
  | pl o e O f=>
   obtain rfl:o=true:=QqD j i
   exact c
  | fz E e xs=>exact (QqC j i).elim
  | res R=>exact R.noN (QlO j i) c
  | mp K k M v m=>obtain ⟨g,B,a,p,r,u,D,x,z⟩:=c;exact ⟨g,B,a,p,r,u,D,x,z.fl (QhD j i).1 (QhD j i).2⟩,h.dj,h.nd,fun _ _ _ _ h=>h,fun _ h=>h.elim⟩
end
section
variable {A:Amb}{P:Program}{s:St}
def EvB (A:Amb)(s:St)(x:Operand)(c:Bool×List LV):Prop:=∀gh a w,Rg A s gh a w→CmR (fun _=>False) ⟨gh.h,gh.f,fun g=>g<w.heap.size⟩ w c (a.eval x)
def Ev.b {x:Operand}{c:Bool×List LV}(h:Ev A s x c):EvB A s x c:=fun gh a w r=>(h gh a w r).mono (fun _ _ h=>h.elim) fun g e=>⟨r.cx.nl g e,rfl⟩
def QFi {x:Operand}{l:LV}(h:Evl A s x l):EvB A s x (false,[l]):=h.ev.b
def Qa4 {x:Operand}{q:Nat}{E:TypeId}{e:Ty}{xs:List e.Den}(h:Evl A s x (.ref q))(c:s.tab.ent q=some (.arr E e xs)):EvB A s x (false,[.dat (.sl E e) xs]):=fun gh a w r=>by
 rw[show a.eval x=gh.h q from h gh a w r ⟨_,c⟩]
 have b:Own (.sl E e) w (gh.f q) [gh.h q] xs:=r.cx.en q _ c
 exact ⟨_,rfl,b.rd fun g i=>Own.lt b g i⟩
def EvLB (A:Amb)(s:St):List Operand→List (Bool×List LV)→Prop
 | [],cs=>cs=[]
 | x::xs,cs=>∃c cs',cs=c::cs'∧EvB A s x c∧EvLB A s xs cs'
def EvLB.cms {xs:List Operand}{cs:List (Bool×List LV)}(h:EvLB A s xs cs){gh:Gh}{a:Act}{w:World}(r:Rg A s gh a w):CmsR (Tab.al []) ⟨gh.h,gh.f,fun g=>g<w.heap.size⟩ w cs (xs.map a.eval):=by
 induction xs generalizing cs with
 | nil=>rw[show cs=[] from h];rfl
 | cons x xs k=>obtain ⟨c,b,rfl,e,i⟩:=h;exact ⟨_,_,rfl,(e gh a w r).mono (fun q _ h=>absurd h (ZO q)) fun g j=>⟨j,rfl⟩,k i⟩
def Hc {f:FuncId}{xs:List Operand}{tys:Array TypeId}{args:List (Bool×List LV)}{O:PV→Tab→Prop}{d:Nat}{ty:TypeId}{pos:String}{af:Array Edge}{g:Option (Nat×Bool)}(n:Nat)(z:FC P f args [] 0 O)(u:Qe P f)(y:EvLB A s xs args)
 (hcl:∀pv T,O pv T→YS pv T=true) (hf:∀pv T,O pv T→pv.fl=true∧T.fl=true) (hfr:∀pv T,O pv T→∀q,T.al q→Fresh s (n+q)) (hk0:A.k0≤n) (hn:Nat.blt d A.n=true):
 DoesT A P ⟨some d,.call ⟨.value (.func f),xs.toArray,tys⟩,ty,pos,af,g⟩ s fun s'=>∃pv T,O pv T∧s'=s.back d n pv T:=fun a w K Q r x=>by
 obtain ⟨gh,r⟩:=r
 have D:=y.cms r
 refine Qau u rfl (Calls.mono (z ⟨gh.h,gh.f,fun g=>g<w.heap.size⟩ w _ (VA ZO _ w fun g b=>b) D) fun e G j=> ?_)
 obtain ⟨v,pv,T,p,rfl,c,l,B,i,_⟩:=j
 obtain ⟨m,o⟩:=hf pv T c
 obtain ⟨c1,c2⟩:=Qc3 (hcl pv T c)
 have F:=r.after n (hfr pv T c) hk0 (l.fl o) i.gw (fun g b=>i.kp g b fun q k=>absurd k (ZO q)) (fun q k g b=>by
  rcases i.ox q k g b with h|⟨E,h,_⟩
  ·exact h
  ·exact absurd h (ZO E)) (fun g b=>b.elim) fun q e j r C=> .inl (c2 q e j r C)
 exact x _ _ _ ⟨pv,T,c,rfl⟩ (QoE (gh2:=gh) (hfr pv T c) c1 F (B.fl (N:=fun _=>False) m) (fun g b=>b.elim) hn)
@[reducible] def QJ (pv:PV):PV→Tab→Prop:=fun p T=>p=pv∧T=[]
@[reducible] def WB (E:TypeId) (e:Ty) (xs:List e.Den):PV→Tab→Prop:=fun p T=>p=lf (.ref 0)∧T=[(0,some (.arr E e xs))]
def LV.ren_id {σ:Nat→Nat}{l:LV}(h:l.tags=[]):l.ren σ=l:=by
 cases l with
 | clo f e=>have h:e=[]:=h;subst h;rfl
 | ref q=>cases h
 | ptr q o=>cases h
 | ept q a b c=>cases h
 | sub q a b c=>cases h
 | _=>rfl
def Qgz {σ:Nat→Nat}{ls:List LV}(h:QQ ls=[]):ls.map (LV.ren σ)=ls:=by
 induction ls with
 | nil=>rfl
 | cons l ls c=>
  obtain ⟨a,b⟩:=List.append_eq_nil_iff.1 h
  simp[LV.ren_id a,c b]
def PV.ren_id {σ:Nat→Nat}{pv:PV}(h:pv.tags=[]):pv.ren σ=pv:=by
 cases pv with
 | cm b k=>simp only[PV.ren];rw[Qgz h]
 | tup a=>
  simp only[PV.ren]
  congr 1
  change VT a=[] at h
  induction a with
  | nil=>rfl
  | cons c a j=>
   obtain ⟨e,i⟩:=List.append_eq_nil_iff.1 h
   simp[Qgz e,j i]
section
variable {f:FuncId}{xs:List Operand}{tys:Array TypeId}{args:List (Bool×List LV)}{d:Nat}{ty:TypeId}{pos:String}{af:Array Edge}{g:Option (Nat×Bool)}{pv:PV}
def Kg (j:FC P f args [] 0 (QJ pv))(e:Qe P f)(i:EvL A s xs args)(b:pv.tags=[])(k:Nat.blt d A.n=true):Does A P ⟨some d,.call ⟨.value (.func f),xs.toArray,tys⟩,ty,pos,af,g⟩ s (s.put d pv):=
 fun a w K Q r h=>DoesT.call A.k0 j e i (by rintro _ _ ⟨rfl,rfl⟩;simp[YS,b,ZU]) (by rintro _ _ ⟨rfl,rfl⟩ q l;exact absurd l (ZO q)) (aP _) k a w K Q r (by
  rintro o m p ⟨_,_,⟨rfl,rfl⟩,rfl⟩ c
  rw[St.back,PV.ren_id b] at c
  exact h _ _ c)
def WV (j:FC P f args [] 0 (QJ pv))(e:Qe P f)(i:EvLB A s xs args)(b:pv.tags=[])(k:pv.fl=true)(l:Nat.blt d A.n=true):Does A P ⟨some d,.call ⟨.value (.func f),xs.toArray,tys⟩,ty,pos,af,g⟩ s (s.put d pv):=
 fun a w K Q r h=>Hc A.k0 j e i (by rintro _ _ ⟨rfl,rfl⟩;simp[YS,b,ZU]) (by rintro _ _ ⟨rfl,rfl⟩;exact ⟨k,rfl⟩) (by rintro _ _ ⟨rfl,rfl⟩ q m;exact absurd m (ZO q)) (aP _) l a w K Q r (by
  rintro p o u ⟨_,_,⟨rfl,rfl⟩,rfl⟩ c
  rw[St.back,PV.ren_id b] at c
  exact h _ _ c)
def QpG {E:TypeId}{e:Ty}{zs:List e.Den}{q:Nat}(h:Tab.al [(0,some (.arr E e zs))] q):q=0:=by
 obtain ⟨b,h⟩:=h
 rw[Qi] at h
 by_cases a:q=0
 ·exact a
 ·rw[if_neg a] at h;cases h
def QlJ (t:Nat){E:TypeId}{e:Ty}{zs:List e.Den}(k:FC P f args [] 0 (WB E e zs))(h:Qe P f)(j:EvL A s xs args)(l:Nat.blt d A.n=true)(b:Fresh s t)(c:A.k0≤t):
 Does A P ⟨some d,.call ⟨.value (.func f),xs.toArray,tys⟩,ty,pos,af,g⟩ s (s.mk_ d t [] E e zs):=
 fun a w K Q r i=>DoesT.call t k h j (by rintro _ _ ⟨rfl,rfl⟩;rfl) (by rintro _ _ ⟨rfl,rfl⟩ q m;rw[QpG m];exact b) c l a w K Q r (by
  rintro u p v ⟨_,_,⟨rfl,rfl⟩,rfl⟩ o
  exact i _ _ o)
def QdJ (t:Nat){E:TypeId}{e:Ty}{zs:List e.Den}(k:FC P f args [] 0 (WB E e zs))(h:Qe P f)(j:EvLB A s xs args)(l:Nat.blt d A.n=true)(b:Fresh s t)(c:A.k0≤t):
 Does A P ⟨some d,.call ⟨.value (.func f),xs.toArray,tys⟩,ty,pos,af,g⟩ s (s.mk_ d t [] E e zs):=
 fun a w K Q r i=>Hc t k h j (by rintro _ _ ⟨rfl,rfl⟩;rfl) (by rintro _ _ ⟨rfl,rfl⟩;exact ⟨rfl,rfl⟩) (by rintro _ _ ⟨rfl,rfl⟩ q m;rw[QpG m];exact b) c l a w K Q r (by
  rintro u p v ⟨_,_,⟨rfl,rfl⟩,rfl⟩ o
  exact i _ _ o)
end
def FC.mono {f:FuncId}{args:List (Bool×List LV)}{T:Tab}{k:Nat}{O b:PV→Tab→Prop}(h:FC P f args T k O)(n:∀pv T,O pv T→b pv T):FC P f args T k b:=fun gh w q i o=>
 Calls.mono (h gh w q i o) fun e r p=>by
  obtain ⟨v,pv,c,a,j,l,m⟩:=p
  exact ⟨v,pv,c,a,j,n _ _ l,m⟩
def FC.frozen {f:FuncId}{args:List (Bool×List LV)}{E:TypeId}{e:Ty}{zs:List e.Den}(h:FC P f args [] 0 (WB E e zs)):FC P f args [] 0 (QJ (lf (.dat (.sl E e) zs))):=fun gh w y o p=>
 Calls.mono (h gh w y o p) fun C z r=>by
  obtain ⟨v,pv,B,a,rfl,⟨rfl,rfl⟩,c,j,i,_⟩:=r
  have m:Own (.sl E e) z (a.f 0) [a.h 0] zs:=c.en 0 _ rfl
  obtain ⟨l,n,j⟩:=j
  simp only[aN,and_true] at n
  subst n
  have u:v=a.h 0:=j ⟨_,rfl⟩
  refine ⟨v,_,[],⟨a.h,a.f,fun g=>a.N g∨g∈a.f 0⟩,rfl,⟨rfl,rfl⟩,VA ZO _ _ fun g b=>b.elim (c.nl g) (Own.lt m g),⟨_,rfl,?_⟩,⟨i.gw,i.kp,fun g b=> ?_,fun q k=>absurd k (ZO q)⟩,fun q k=>absurd k (by omega)⟩
  ·rw[u]
   exact m.rd fun g b=> .inr b
  ·rcases b with b|b
   ·exact i.nn g b
   ·rcases i.ox 0 ⟨_,rfl⟩ g b with h|⟨x,h,_⟩
    ·exact .inr (.inl h)
    ·exact absurd h (ZO x)
end
def wo {A:Amb}{s t:St}(ρ:List (Nat×Nat)){k:Nat}(c:A.k0=k:=by rfl)(b:HasT s ρ t.tm:=by repeat' first|exact rfl|exact trivial|apply And.intro)(a:HasE s ρ t.tab:=by repeat' first|exact rfl|exact trivial|apply And.intro)(hi:WZ (t.tab.map fun p=>rn ρ p.1)=true:=by rfl)(hid:idB ρ k=true:=by rfl):Wk A s t:=Wk.of ρ c b a hi hid
def wp {A:Amb}{s t:St}(ρ:List (Nat×Nat))(a:HasE s ρ t.tab){k:Nat}(c:A.k0=k:=by rfl)(b:HasT s ρ t.tm:=by repeat' first|exact rfl|exact trivial|apply And.intro)(hi:WZ (t.tab.map fun p=>rn ρ p.1)=true:=by rfl)(hid:idB ρ k=true:=by rfl):Wk A s t:=Wk.of ρ c b a hi hid
end Go.Proofs.YtjfpbcmfbnnooaaGreat
