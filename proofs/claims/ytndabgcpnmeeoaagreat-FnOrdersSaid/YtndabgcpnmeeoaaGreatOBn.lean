/- Abstract states: maps whose elements are slices of one's own; ranging over maps. No program is named here. -/
import Derived.Test.YtndabgcpnmeeoaaGreatOAl
import Derived.Maps.RangeRun
set_option linter.unusedSimpArgs false
set_option linter.unusedVariables false
set_option linter.unusedSectionVars false
namespace Go.Proofs.YtndabgcpnmeeoaaGreat
open Go.RowKit
open Go.ChangeMaps (setBlock)
section
variable {A:Amb}{P:Program}{s:St}
theorem Rg.redo {gh gh':Gh}{a:Act}{w w':World}{T:Tab}(r:Rg A s gh a w)(C:Nat→Prop)(M:gh'.N=gh.N)
 (hold:∀u,¬C u→T.ent u=s.tab.ent u∧gh'.h u=gh.h u∧gh'.f u=gh.f u)
 (hnew:∀u e,C u→T.ent u=some e→(∀al,EntR al gh' w' u e)∧(gh'.f u).Nodup∧(∀g∈gh'.f u,w.heap.size≤g∨∃v,C v∧s.tab.al v∧g∈gh.f v)∧((s.tab.al u∧gh'.h u=gh.h u)∨(Fresh s u∧A.k0≤u)))
 (hdis:∀u v,C u→C v→T.al u→T.al v→u≠v→∀g∈gh'.f u,g∉gh'.f v)
 (hg:Grw w w') (hb:∀g,g < w.heap.size→(∀v,C v→s.tab.al v→g∉gh.f v)→w'.heap[g]? =w.heap[g]?):Rg A ⟨s.tm,T⟩ gh' a w':=by
 have I:∀g,gh.N g→gh'.N g∧w'.heap[g]? =w.heap[g]? :=fun g h=>⟨by rw[M]; exact h,hb g (r.cx.nl g h) fun v _ p R=>r.cx.no v p g R h⟩
 have q:∀u,¬C u→(T.al u↔s.tab.al u):=fun u b=>by unfold Tab.al; rw[(hold u b).1]
 have t:∀u,T.al u→∀g∈gh'.f u,w.heap.size≤g∨∃v,s.tab.al v∧g∈gh.f v∧(C u→C v)∧(¬C u→v=u):=fun u ⟨e,m⟩ g o=>by
  by_cases b:C u
  ·rcases (hnew u e b m).2.2.1 g o with h | ⟨v,n,j,D⟩
   ·exact .inl h
   ·exact .inr ⟨v,j,D,fun _=>n,fun h=>absurd b h⟩
  ·rw[(hold u b).2.2] at o
   exact .inr ⟨u,(q u b).1 ⟨e,m⟩,o,fun h=>absurd h b,fun _=>rfl⟩
 have B:∀u,T.al u→(s.tab.al u∧gh'.h u=gh.h u)∨(Fresh s u∧A.k0≤u):=fun u ⟨e,m⟩=>by
  by_cases b:C u
  ·exact (hnew u e b m).2.2.2
  ·exact .inl ⟨(q u b).1 ⟨e,m⟩,(hold u b).2.1⟩
 refine r.step ⟨fun u e m=> ?_,fun u v b p E g n j=> ?_,fun u b=> ?_,fun u b g n j=> ?_,fun g h=> ?_⟩ (fun u b=>(B u b).imp (fun h=>⟨h.1,h.2,fun _=>rfl⟩) id) I hg (fun g Z hx=>hb g Z fun v _ p=>hx v p)
  (fun g h=> .inl (by rwa [M] at h)) fun u b g n=>(t u b g n).imp id fun ⟨v,j,D,_⟩=>⟨v,j,D⟩
 ·by_cases b:C u
  ·exact (hnew u e b m).1 _
  ·obtain ⟨n,j,D⟩:=hold u b
   rw[n] at m
   refine (r.cx.en u e m).mono (fun v p F=> ?_) I j D fun g o=>hb g (r.cx.lt ⟨e,m⟩ g o) fun v p F=>r.cx.dj u v ⟨e,m⟩ F (fun h=>b (h▸p)) g o
   rcases B v F with h | h
   ·exact h
   ·exact absurd p (h.1.en u e m)
 ·rcases t u b g n with D | ⟨O,G,H,k3,W⟩
  ·rcases t v p g j with Y | ⟨L,J,K,U,S⟩
   ·by_cases c:C u
    ·by_cases i:C v
     ·exact hdis u v c i b p E g n j
     ·rw[(hold v i).2.2] at j
      have:=r.cx.lt ((q v i).1 p) g j; omega
    ·rw[(hold u c).2.2] at n
     have:=r.cx.lt ((q u c).1 b) g n; omega
   ·have:=r.cx.lt J g K; omega
  ·rcases t v p g j with Y | ⟨L,J,K,U,S⟩
   ·have:=r.cx.lt G g H; omega
   ·by_cases c:C u
    ·by_cases i:C v
     ·exact hdis u v c i b p E g n j
     ·exact r.cx.dj O L G J (fun h=>i (by rw[← S i,← h]; exact k3 c)) g H K
    ·by_cases i:C v
     ·exact r.cx.dj O L G J (fun h=>c (by rw[← W c,h]; exact U i)) g H K
     ·exact r.cx.dj O L G J (fun h=>E (by rw[← W c,← S i,h])) g H K
 ·by_cases c:C u
  ·obtain ⟨e,m⟩:=b
   exact (hnew u e c m).2.1
  ·rw[(hold u c).2.2]; exact r.cx.nd u ((q u c).1 b)
 ·rw[M] at j
  rcases t u b g n with D | ⟨v,G,H,_⟩
  ·have:=r.cx.nl g j; omega
  ·exact r.cx.no v G g H j
 ·rw[M] at h
  exact bq (r.cx.nl g h) hg.size
end
structure Vrl (X:Type) where
  rel:(Nat→Prop)→World→List Nat→Value→X→Prop
  fl:Bool
  keep:∀{N N':Nat→Prop} {w w':World} {f:List Nat} {v:Value} {x:X},rel N w f v x→(∀g∈f,w'.heap[g]? =w.heap[g]?)→(∀g,N g→N' g∧w'.heap[g]? =w.heap[g]?)→rel N' w' f v x
  lt:∀{N:Nat→Prop} {w:World} {f:List Nat} {v:Value} {x:X},rel N w f v x→∀g∈f,g < w.heap.size
  noN:fl=true→∀{N N':Nat→Prop} {w:World} {f:List Nat} {v:Value} {x:X},rel N w f v x→rel N' w f v x
def vFz (t:Ty):Vrl t.Den where
 rel N w f v x:=f=[]∧Rd N t w [v] x
 fl:=t.flat
 keep:=fun h _ hN=>⟨h.1,h.2.mono hN⟩
 lt:=fun h g hg=>by rw[h.1] at hg; cases hg
 noN:=fun hf _ _ _ _ _ _ h=>⟨h.1,(Rd.rep h.2).rd0 hf⟩
def vOw (E:TypeId)(e:Ty):Vrl (List e.Den) where
 rel _ w f v x:=Own (.sl E e) w f [v] x
 fl:=true
 keep:=fun h hf _=>Own.keep h hf
 lt:=fun h=>Own.lt h
 noN:=fun _ _ _ _ _ _ _ h=>h
def ZR {X:Type}(V:Vrl X)(k:Ty)(N:Nat→Prop)(w:World)(own:MapEntry×k.Den×X→Bool):List (MapEntry×k.Den×X)→List Nat→Prop
 | [],f=>f=[]
 | z :: zs,f=>∃f1 f2,f=f1++f2∧KV false k z.1.key z.2.1∧(if own z=true then V.rel N w f1 z.1.val z.2.2 else f1=[])∧ZR V k N w own zs f2
section
variable {X:Type}{V:Vrl X}{k:Ty}{N N':Nat→Prop}{w w':World}{own own':MapEntry×k.Den×X→Bool}{zs ys:List (MapEntry×k.Den×X)}{f:List Nat}{z:MapEntry×k.Den×X}
theorem ZR.keep (h:ZR V k N w own zs f)(e:∀g∈f,w'.heap[g]? =w.heap[g]?)(o:∀g,N g→N' g∧w'.heap[g]? =w.heap[g]?):ZR V k N' w' own zs f:=by
 induction zs generalizing f with
 | nil=>exact h
 | cons z zs p=>
  obtain ⟨i,j,rfl,m,a,n⟩:=h
  refine ⟨i,j,rfl,m, ?_,p n fun g c=>e g (aN _ c)⟩
  split
  ·rename_i b; rw[if_pos b] at a; exact V.keep a (fun g c=>e g (aH _ c)) o
  ·rename_i b; rw[if_neg b] at a; exact a
theorem ZR.lt (h:ZR V k N w own zs f):∀g∈f,g < w.heap.size:=by
 induction zs generalizing f with
 | nil=>intro g a; rw[show f=[] from h] at a; cases a
 | cons z zs e=>
  obtain ⟨i,j,rfl,m,b,c⟩:=h
  intro g a
  rcases aG.1 a with a | a
  ·split at b
   ·exact V.lt b g a
   ·rw[b] at a; cases a
  ·exact e c g a
theorem ZR.noN (hv:V.fl=true)(h:ZR V k N w own zs f):ZR V k N' w own zs f:=by
 induction zs generalizing f with
 | nil=>exact h
 | cons z zs m=>
  obtain ⟨c,e,rfl,i,a,j⟩:=h
  refine ⟨c,e,rfl,i, ?_,m j⟩
  split
  ·rename_i b; rw[if_pos b] at a; exact V.noN hv a
  ·rename_i b; rw[if_neg b] at a; exact a
theorem ZR.congr (h:ZR V k N w own zs f)(b:∀z∈zs,own z=own' z):ZR V k N w own' zs f:=by
 induction zs generalizing f with
 | nil=>exact h
 | cons z zs n=>
  obtain ⟨c,e,rfl,i,a,j⟩:=h
  rw[b z (aw ..)] at a
  exact ⟨c,e,rfl,i,a,n j fun z m=>b z (ax _ m)⟩
theorem ZR.app (h:ZR V k N w own (ys++zs) f):∃f1 a,f=f1++a∧ZR V k N w own ys f1∧ZR V k N w own zs a:=by
 induction ys generalizing f with
 | nil=>exact ⟨[],f,rfl,rfl,h⟩
 | cons z ys o=>
  obtain ⟨f1,a,rfl,e,i,j⟩:=h
  obtain ⟨b,c,rfl,m,n⟩:=o j
  exact ⟨f1++b,c,(aK ..).symm,⟨f1,b,rfl,e,i,m⟩,n⟩
theorem ZR.join {f1 a:List Nat}(b:ZR V k N w own ys f1)(h:ZR V k N w own zs a):ZR V k N w own (ys++zs) (f1++a):=by
 induction ys generalizing f1 with
 | nil=>rw[show f1=[] from b]; exact h
 | cons z ys i=>
  obtain ⟨c,e,rfl,j,m,n⟩:=b
  exact ⟨c,e++a,by rw[aK],j,m,i n⟩
end
section
variable {A:Amb}{P:Program}{s:St}{x y z:Operand}{d:Nat}{T T' ty:TypeId}{pos:String}{af:Array Edge}{g:Option (Nat×Bool)}{X:Type}{V:Vrl X}{k:Ty}{N N':Nat→Prop}{w w':World}
theorem ZR.at {own:MapEntry×k.Den×X→Bool}{zs:List (MapEntry×k.Den×X)}{f:List Nat}(h:ZR V k N w own zs f):∀z∈zs,KV false k z.1.key z.2.1:=by
 induction zs generalizing f with
 | nil=>intro z a; cases a
 | cons z zs e=>
  obtain ⟨j,m,rfl,b,n,c⟩:=h
  intro i a
  rcases aE.1 a with rfl | a
  ·exact b
  ·exact e c i a
theorem ZR.find {own:MapEntry×k.Den×X→Bool}{zs:List (MapEntry×k.Den×X)}{f:List Nat}{kt:TypeId}(c:KeyL P kt false k)(h:ZR V k N w own zs f){key:Value}{q:k.Den}(m:KV false k key q):
 ((Instr.findKey kt key (zs.map (·.1))).run P w= .ok none w∧∀z∈zs,z.2.1≠q)∨∃(r B:List (MapEntry×k.Den×X)) (z:MapEntry×k.Den×X),zs=r++z :: B∧(Instr.findKey kt key (zs.map (·.1))).run P w= .ok (some (r.length,z.1.val)) w∧z.2.1=q∧z.1.key=key:=by
 obtain ⟨l,v⟩:=c.rd _ _ m
 rcases c.K.find w v (zs.map (·.1)) fun e u=>by
  obtain ⟨z,b,rfl⟩:=aR.1 u
  exact c.rd _ _ (h.at z b) with ⟨i,a⟩ | ⟨j,e,i,a,p⟩
 ·refine .inl ⟨i,fun z b t=> ?_⟩
  exact a _ (aR.2 ⟨z,b,rfl⟩) ((QhE (h.at z b) m c.flat).2 t)
 ·rw[bo] at a
  cases b:zs[j]? with
  | none=>rw[b] at a; cases a
  | some z=>
   rw[b] at a
   have a:z.1=e:=by simpa using a
   subst a
   obtain ⟨n,o⟩:=ah.1 b
   refine .inr ⟨zs.take j,zs.drop (j+1),z, ?_, ?_,(QhE (h.at z (ai b)) m c.flat).1 p,p⟩
   ·rw[← o]; exact (bR j zs).symm.trans (by rw[bU n])
   ·rw[ao,cu (by omega)]; exact i
def QbG (hl:Option k.Den)(z:MapEntry×k.Den×X):Bool:=match hl with
 | none=>true
 | some p=> !k.beq z.2.1 p
def MoP (V:Vrl X)(k:Ty)(m:List (k.Den×X))(hl:Option k.Den)(N:Nat→Prop)(w:World)(f:List Nat)(v:Value):Prop:=
 ∃g es clock zs fs,v= .map (some g)∧f=g :: fs∧w.heap[g]? =some (.map es clock)∧Born es.toList clock∧m.Pairwise (fun p q=>p.1≠q.1)∧es.toList=zs.map (·.1)∧m=zs.map (·.2)∧ZR V k N w (QbG hl) zs fs
theorem W3 {o:Obj}{g:Nat}(h:w.heap[g]? =some o):g < w.heap.size:=(bA.1 h).1
def moR (V:Vrl X)(k:Ty)(m:List (k.Den×X))(hl:Option k.Den):Rsc where
 rel:=MoP V k m hl
 fl:=V.fl
 keep:=fun ⟨g,es,clock,zs,fs,h1,h2,h3,h4,h5,h6,h7,h8⟩ hf hN=>⟨g,es,clock,zs,fs,h1,h2,(hf g (by rw[h2]; exact aw ..)).trans h3,h4,h5,h6,h7,h8.keep (fun g' hg=>hf g' (by rw[h2]; exact ax _ hg)) hN⟩
 lt:=fun ⟨g,es,clock,zs,fs,h1,h2,h3,h4,h5,h6,h7,h8⟩ g' hg=>by
  rw[h2] at hg
  rcases aE.1 hg with rfl | hg
  ·exact W3 h3
  ·exact h8.lt g' hg
 one:=fun ⟨g,es,clock,zs,fs,h1,h2⟩=>by rw[h1]; rfl
 noN:=fun hv _ _ _ _ _ ⟨g,es,clock,zs,fs,h1,h2,h3,h4,h5,h6,h7,h8⟩=>⟨g,es,clock,zs,fs,h1,h2,h3,h4,h5,h6,h7,h8.noN hv⟩
def Qih (cn b:Bool)(seen:Array Nat)(z:MapEntry×k.Den×X):Bool:= !cn|| !seen.contains z.1.born||(b&&seen.back? ==some z.1.born)
def ItP (V:Vrl X)(k:Ty)(cn:Bool)(m left:List (k.Den×X))(cur:Option (k.Den×X))(p:Value)(N:Nat→Prop)(w:World)(f:List Nat)(v:Value):Prop:=
 ∃g gi es clock since seen c0 zs fs,(v= .map (some g)∧p= .pointer (some ⟨gi,0,none⟩)∧f=gi :: g :: fs)∧(w.heap[gi]? =some (.mapIter (some g) since seen c0)∧w.heap[g]? =some (.map es clock))∧(Born es.toList clock∧(∀x∈es.toList,x.born < since)∧since≤c0∧since≤clock)∧
  m.Pairwise (fun p q=>p.1≠q.1)∧es.toList=zs.map (·.1)∧m=zs.map (·.2)∧left=(zs.filter fun z=> !seen.contains z.1.born).map (·.2)∧(∀c,cur=some c→∃z∈zs,z.2=c∧(∃s0:Array Nat,seen=s0.push z.1.born)∧c0=clock)∧ZR V k N w (Qih cn cur.isSome seen) zs fs
def itR (V:Vrl X)(k:Ty)(cn:Bool)(m left:List (k.Den×X))(cur:Option (k.Den×X))(p:Value):Rsc where
 rel:=ItP V k cn m left cur p
 fl:=V.fl
 keep:=fun ⟨g,gi,es,clock,since,seen,c0,zs,fs,⟨h1,h2,h3⟩,⟨h4,h5⟩,h6,h7,h8,h9,h10,h11,h12⟩ hf hN=>
  ⟨g,gi,es,clock,since,seen,c0,zs,fs,⟨h1,h2,h3⟩,⟨(hf gi (by rw[h3]; simp)).trans h4,(hf g (by rw[h3]; simp)).trans h5⟩,h6,h7,h8,h9,h10,h11,h12.keep (fun g' hg=>hf g' (by rw[h3]; exact ax _ (ax _ hg))) hN⟩
 lt:=fun ⟨g,gi,es,clock,since,seen,c0,zs,fs,⟨h1,h2,h3⟩,⟨h4,h5⟩,h6,h7,h8,h9,h10,h11,h12⟩ g' hg=>by
  rw[h3] at hg
  rcases aE.1 hg with rfl | hg
  ·exact W3 h4
  ·rcases aE.1 hg with rfl | hg
   ·exact W3 h5
   ·exact h12.lt g' hg
 one:=fun ⟨g,gi,es,clock,since,seen,c0,zs,fs,⟨h1,h2,h3⟩,_⟩=>by rw[h1]; rfl
 noN:=fun hv _ _ _ _ _ ⟨g,gi,es,clock,since,seen,c0,zs,fs,h1,h4,h6,h7,h8,h9,h10,h11,h12⟩=>⟨g,gi,es,clock,since,seen,c0,zs,fs,h1,h4,h6,h7,h8,h9,h10,h11,h12.noN hv⟩
end
section
variable {A:Amb}{P:Program}{s:St}{x y z:Operand}{d:Nat}{T T' ty:TypeId}{pos:String}{af:Array Edge}{g:Option (Nat×Bool)}{X:Type}{V:Vrl X}{k:Ty}{N N':Nat→Prop}{w w':World}
theorem QkD (V:Vrl X)(t:Nat)(i:Nat.blt d A.n=true)(b:Fresh s t)(c:A.k0≤t):Does A P ⟨some d, .makeMap T none,ty,pos,af,g⟩ s (s.new d t (.ref t) (.res (moR V k [] none))):=
 fun a w K Q r h=>by
  obtain ⟨j,r⟩:=r
  have e:(execOp a.eval ⟨some d, .makeMap T none,ty,pos,af,g⟩).run P w= .ok (.value (.map (some w.heap.size))) (w.alloc (.map #[] 0)):=by
   simp only[execOp,dC,ay,run_makeMap,aI]
   simp
  unfold Oper.wp
  rw[e,Oper.upon_value]
  refine h _ _ ⟨_,(r.grow t b c (.map #[] 0) (.map (some w.heap.size)) [w.heap.size] (.res (moR V k [] none)) (by simp) (by simp) (by simp[Ent.tags]) ?_).put (aA i) (pv:=lf (.ref t)) ⟨_,rfl,fun _=>by simp⟩⟩
  exact ⟨w.heap.size, #[],0,[],[],by simp,by simp,heap_alloc_new w _,Born.nil,cj,rfl,rfl,rfl⟩
theorem MoP.take {E:TypeId}{e:Ty}{kt et:TypeId}{m:List (k.Den×List e.Den)}{f:List Nat}{v key:Value}{q:k.Den}(H:KeyL P kt false k)(hT:P.underlying T=some (.map kt et))(F:zer P et=some (.slice none 0 0))(h:MoP (vOw E e) k m none N w f v)(hk:KV false k key q)(hf:f.Nodup):
 ∃u fq ft,(Instr.lookup T v key false).run P w= .ok u w∧MoP (vOw E e) k m (some q) N w fq v∧Own (.sl E e) w ft [u] ((YD k m q).getD [])∧fq.Nodup∧ft.Nodup∧(∀g∈fq,g∈f∧g∉ft)∧∀g∈ft,g∈f:=by
 obtain ⟨g,es,i,zs,fs,rfl,rfl,L,h4,M,O,C,h8⟩:=h
 obtain ⟨l,hl⟩:=H.rd _ _ hk
 obtain ⟨a0,D⟩:=bj.1 hf
 rcases h8.find (P:=P) H hk with ⟨J,B⟩ | ⟨G,S,z,J,B,R,a2⟩
 ·have hm:∀p∈m,p.1≠q:=fun p hp=>by
   rw[C] at hp
   obtain ⟨z,F,rfl⟩:=aR.1 hp
   exact B z F
  have a:=Vq (w:=w) F
  refine ⟨.slice none 0 0,g :: fs,[], ?_,⟨g,es,i,zs,fs,rfl,rfl,L,h4,M,O,C,h8.congr fun z F=> ?_⟩, ?_,hf,bL,fun o c=>⟨c,by simp⟩,by simp⟩
  ·rw[← O] at J
   simp[Instr.lookup,run_underlying hT,MapKept.run_getObj_map L,H.K.check w _ hl,J,a,Result.andThen]
  ·simp only[QbG]
   have:k.beq z.2.1 q=false:=co.2 fun e=>B z F ((k.beq_iff _ _).1 e)
   rw[this]; rfl
  ·rw[HH hm]
   exact .inl ⟨rfl,rfl,rfl⟩
 ·subst J
  obtain ⟨I,fb,rfl,k1,U,r,rfl,k2,k3,k4⟩:=h8.app
  have hd:∀b∈G++S,b.2.1≠q:=fun b a e=>by
   have t:((G++z :: S).map (·.2)).Pairwise fun p q=>p.1≠q.1:=by rw[← C]; exact M
   rw[bE,aU,List.pairwise_append] at t
   obtain ⟨_,W,Y⟩:=t
   obtain ⟨Z,_⟩:=bm.1 W
   rcases aG.1 a with a | a
   ·exact Y _ (aR.2 ⟨b,a,rfl⟩) z.2 (aw ..) (e.trans R.symm)
   ·exact Z _ (aR.2 ⟨b,a,rfl⟩) (R.trans e.symm)
  have cg:∀b∈G++S,QbG (X:=List e.Den) none b=QbG (some q) b:=fun b a=>by
   simp only[QbG]
   have:k.beq b.2.1 q=false:=co.2 fun e=>hd b a ((k.beq_iff _ _).1 e)
   rw[this]; rfl
  have k3:Own (.sl E e) w U [z.1.val] z.2.2:=k3
  have a1:(YD k m q).getD []=z.2.2:=by
   have:m[G.length]? =some z.2:=by rw[C,bo,bk (aL _)]; simp
   rw[UN M this R]; rfl
  have j:List.Sublist (g :: (I++r)) (g :: (I++(U++r))):=(List.Sublist.append (cI _) (List.sublist_append_right ..)).cons_cons g
  refine ⟨z.1.val,g :: (I++r),U, ?_,⟨g,es,i,G++z :: S,I++r,rfl,rfl,L,h4,M,O,C, ?_⟩,by rw[a1]; exact k3,j.nodup hf, ?_,fun o c=>⟨j.subset c,fun n=> ?_⟩,fun o c=> ?_⟩
  ·rw[← O] at B
   simp[Instr.lookup,run_underlying hT,MapKept.run_getObj_map L,H.K.check w _ hl,B,Result.andThen]
  ·refine (k1.congr fun b a=>cg b (aH _ a)).join ⟨[],r,rfl,k2, ?_,k4.congr fun b a=>cg b (aN _ a)⟩
   simp[QbG,(k.beq_iff _ _).2 R]
  ·exact (aT.1 (aT.1 D).2.1).1
  ·rcases aE.1 c with rfl | c
   ·exact a0 (aN _ (aH _ n))
   ·obtain ⟨_,n2,n3⟩:=aT.1 D
    obtain ⟨_,_,n5⟩:=aT.1 n2
    rcases aG.1 c with c | c
    ·exact n3 o c o (aH _ n) rfl
    ·exact n5 o n o c rfl
  ·exact ax _ (aN _ (aH _ c))
def upd {α:Type}(f:Nat→α)(q:Nat)(x:α):Nat→α:=fun u=>if u=q then x else f u
theorem Xx {α:Type}(f:Nat→α)(q:Nat)(x:α):upd f q x q=x:=if_pos rfl
theorem Ji {α:Type}(f:Nat→α){q u:Nat}(x:α)(h:u≠q):upd f q x u=f u:=if_neg h
theorem Rg.part {gh:Gh}{a:Act}{w w':World}(r:Rg A s gh a w){q t:Nat}{G:Ent}{R:Rsc}{E:TypeId}{e:Ty}{xs:List e.Den}{u:Value}{fq ft:List Nat}(K:s.tab.ent q=some G)(C:Fresh s t)(L:A.k0≤t)(c:Grw w w')(hb:∀g,g < w.heap.size→g∉gh.f q→w'.heap[g]? =w.heap[g]?)
 (h1:R.rel gh.N w' fq (gh.h q)) (h2:Own (.sl E e) w' ft [u] xs) (n1:fq.Nodup) (n2:ft.Nodup) (i1:∀g∈fq,g∈gh.f q∧g∉ft) (i2:∀g∈ft,g∈gh.f q):
 Rg A ⟨s.tm,(q,some (.res R)) :: (t,some (.arr E e xs)) :: s.tab⟩ ⟨upd gh.h t u,upd (upd gh.f t ft) q fq,gh.N⟩ a w':=by
 have D:s.tab.al q:=⟨G,K⟩
 have j:q≠t:=fun h=>C.al (h▸D)
 refine r.redo (fun v=>v=q∨v=t) rfl (fun v p=> ?_) (fun v U p b=> ?_) (fun v S p F _ _ I g n o=> ?_) c fun g M O=>hb g M (O q (.inl rfl) D)
 ·have i:v≠q:=fun h=>p (.inl h)
  have B:v≠t:=fun h=>p (.inr h)
  refine ⟨by rw[Qd,if_neg i,Qd,if_neg B],Ji _ _ B, ?_⟩
  show upd (upd gh.f t ft) q fq v=_
  rw[Ji _ _ i,Ji _ _ B]
 ·rw[Qd] at b
  by_cases i:v=q
  ·subst i
   rw[if_pos rfl] at b
   cases b
   refine ⟨fun J=> ?_, ?_,fun g c=> .inr ⟨v, .inl rfl,D, ?_⟩, .inl ⟨D,Ji _ _ j⟩⟩
   ·show R.rel gh.N w' (upd (upd gh.f t ft) v fq v) (upd gh.h t u v)
    rw[Xx,Ji _ _ j]; exact h1
   ·show (upd (upd gh.f t ft) v fq v).Nodup
    rw[Xx]; exact n1
   ·have c:g∈upd (upd gh.f t ft) v fq v:=c
    rw[Xx] at c
    exact (i1 g c).1
  ·have B:v=t:=p.resolve_left i
   subst B
   rw[if_neg i,Qd,if_pos rfl] at b
   cases b
   have m:upd (upd gh.f v ft) q fq v=ft:=by rw[Ji _ _ i,Xx]
   refine ⟨fun J=> ?_, ?_,fun g c=> .inr ⟨q, .inl rfl,D, ?_⟩, .inr ⟨C,L⟩⟩
   ·show Own (.sl E e) w' (upd (upd gh.f v ft) q fq v) [upd gh.h v u v] xs
    rw[m,Xx]; exact h2
   ·show (upd (upd gh.f v ft) q fq v).Nodup
    rw[m]; exact n2
   ·have c:g∈upd (upd gh.f v ft) q fq v:=c
    rw[m] at c
    exact i2 g c
 ·have m:upd (upd gh.f t ft) q fq t=ft:=by rw[Ji _ _ j.symm,Xx]
  have H:upd (upd gh.f t ft) q fq q=fq:=Xx ..
  have n:g∈upd (upd gh.f t ft) q fq v:=n
  have o:g∈upd (upd gh.f t ft) q fq S:=o
  rcases p with rfl | rfl <;> rcases F with rfl | rfl
  ·exact I rfl
  ·rw[H] at n; rw[m] at o; exact (i1 g n).2 o
  ·rw[m] at n; rw[H] at o; exact (i1 g o).2 n
  ·exact I rfl
theorem QkC (t:Nat){q:Nat}{E:TypeId}{e:Ty}{kt et:TypeId}{m:List (k.Den×List e.Den)}{p:k.Den}{b:List LV}(i:KeyL P kt false k)(I:P.underlying T=some (.map kt et))(L:zer P et=some (.slice none 0 0))
 (hx:Evl A s x (.ref q)) (he:s.tab.ent q=some (.res (moR (vOw E e) k m none))) (hy:Ev A s y (false,b)) (hkl:b=leaves k p) (hn:Nat.blt d A.n=true) (hfr:Fresh s t) (hk0:A.k0≤t):
 Does A P ⟨some d, .lookup T x y false,ty,pos,af,g⟩ s ⟨(d,lf (.ref t)) :: s.tm,(q,some (.res (moR (vOw E e) k m (some p)))) :: (t,some (.arr E e ((YD k m p).getD []))) :: s.tab⟩:=fun a w K Q r H=>by
 subst hkl
 obtain ⟨c,r⟩:=r
 have J:a.eval x=c.h q:=hx c a w r ⟨_,he⟩
 obtain ⟨u,M,O,o,v,B,C,D,F,G⟩:=MoP.take i I L (r.cx.en q _ he) (hy c a w r).mv.kv (r.cx.nd q ⟨_,he⟩)
 have j:(execOp a.eval ⟨some d, .lookup T x y false,ty,pos,af,g⟩).run P w= .ok (.value u) w:=by
  simp only[execOp,J,ay,o]
  simp
 unfold Oper.wp
 rw[j,Oper.upon_value]
 exact H _ _ ⟨_,(r.part he hfr hk0 (QV w) (fun _ _ _=>rfl) (R:=moR (vOw E e) k m (some p)) v B C D F G).put (aA hn) (pv:=lf (.ref t)) ⟨_,rfl,fun _=>(Xx ..).symm⟩⟩
end
section
variable {A:Amb}{P:Program}{s:St}{x y z:Operand}{d:Nat}{T T' ty:TypeId}{pos:String}{af:Array Edge}{g:Option (Nat×Bool)}{X:Type}{V:Vrl X}{k:Ty}{N N':Nat→Prop}{w w':World}
theorem QqB {E:TypeId}{e:Ty}{kt et:TypeId}{m:List (k.Den×List e.Den)}{f ft:List Nat}{v key u:Value}{q:k.Den}{ys:List e.Den}(M:KeyL P kt false k)(hT:P.underlying T=some (.map kt et))(h:MoP (vOw E e) k m (some q) N w f v)(hk:KV false k key q)(hf:f.Nodup)
 (ho:Own (.sl E e) w ft [u] ys) (hft:ft.Nodup) (hd:∀g∈f,g∉ft) (hNf:∀g∈f,¬N g):
 ∃g es j,(Instr.mapUpdate T v key u).run P w= .ok () {w with heap:=w.heap.setIfInBounds g (.map es j)}∧g∈f∧∃fq,MoP (vOw E e) k (Yl k m q ys) none N {w with heap:=w.heap.setIfInBounds g (.map es j)} fq v∧fq.Nodup∧∀g∈fq,g∈f∨g∈ft:=by
 obtain ⟨g,es,j,zs,fs,rfl,rfl,S,h4,h5,U,W,h8⟩:=h
 obtain ⟨l,hl⟩:=M.rd _ _ hk
 obtain ⟨B,I⟩:=bj.1 hf
 have a0:=W3 S
 have J:g∉ft:=hd g (aw ..)
 have C:∀r c n,n≠g→({w with heap:=w.heap.setIfInBounds g (.map r c)}:World).heap[n]? =w.heap[n]? :=fun r c n i=>bY fun e=>i e.symm
 have H:∀r c n,N n→N n∧({w with heap:=w.heap.setIfInBounds g (.map r c)}:World).heap[n]? =w.heap[n]? :=fun r c n i=>⟨i,C _ _ _ fun e=>hNf g (aw ..) (e▸i)⟩
 have Y:∀n∈fs,n≠g:=fun n i e=>B (e▸i)
 have a1:∀r c,Own (.sl E e) {w with heap:=w.heap.setIfInBounds g (.map r c)} ft [u] ys:=fun r c=>Own.keep ho fun n i=>C _ _ _ fun e=>J (e▸i)
 rcases h8.find (P:=P) M hk with ⟨h1,R⟩ | ⟨F,yb,z,h1,R,h9,a2⟩
 ·have hm:∀p∈m,p.1≠q:=fun p hp=>by
   rw[W] at hp
   obtain ⟨z,G,rfl⟩:=aR.1 hp
   exact R z G
  rw[← U] at h1
  refine ⟨g,es.push ⟨key,u,j⟩,j+1, ?_,aw ..,g :: (fs++ft),⟨g,es.push ⟨key,u,j⟩,j+1,zs++[((⟨key,u,j⟩:MapEntry),q,ys)],fs++ft,rfl,rfl,by simp[a0], ?_,K6 h5,by rw[Array.toList_push,U]; simp,by rw[QcA hm,W]; simp, ?_⟩, ?_,fun n i=> ?_⟩
  ·simp[Instr.mapUpdate,run_underlying hT,MapKept.run_getObj_map S,M.K.check w _ hl,h1,MapKept.run_setObj_map _ S,Result.andThen]
  ·rw[Array.toList_push]; exact h4.push _ _
  ·refine ((h8.keep (fun n i=>C _ _ _ (Y n i)) (H _ _)).congr fun z G=> ?_).join ⟨ft,[],(bG _).symm,hk,a1 _ _,rfl⟩
   simp only[QbG]
   have:k.beq z.2.1 q=false:=co.2 fun e=>R z G ((k.beq_iff _ _).1 e)
   rw[this]; rfl
  ·exact bj.2 ⟨fun i=>(aG.1 i).elim B J,aT.2 ⟨I,hft,fun a L b D e=>hd a (ax _ L) (e▸D)⟩⟩
  ·rcases aE.1 i with rfl | i
   ·exact .inl (aw ..)
   ·exact (aG.1 i).imp (ax _) id
 ·subst h1
  obtain ⟨fa,fb,rfl,k1,f1,fc,rfl,k2,k3,k4⟩:=h8.app
  have k3:f1=[]:=by
   rw[if_neg] at k3
   ·exact k3
   ·simp[QbG,(k.beq_iff _ _).2 h9]
  subst k3
  have a6:∀t∈F++yb,t.2.1≠q:=fun t o e=>by
   have O:((F++z :: yb).map (·.2)).Pairwise fun p q=>p.1≠q.1:=by rw[← W]; exact h5
   rw[bE,aU,List.pairwise_append] at O
   obtain ⟨_,a3,a4⟩:=O
   obtain ⟨a5,_⟩:=bm.1 a3
   rcases aG.1 o with o | o
   ·exact a4 _ (aR.2 ⟨t,o,rfl⟩) z.2 (aw ..) (e.trans h9.symm)
   ·exact a5 _ (aR.2 ⟨t,o,rfl⟩) (h9.trans e.symm)
  have cg:∀t∈F++yb,QbG (X:=List e.Den) (some q) t=QbG none t:=fun t o=>by
   simp only[QbG]
   have:k.beq t.2.1 q=false:=co.2 fun e=>a6 t o ((k.beq_iff _ _).1 e)
   rw[this]; rfl
  have G:es.toList[F.length]? =some z.1:=by rw[U,bo,bk (aL _)]; simp
  have hj:es[F.length]? =some z.1:=by simpa using G
  have a7:m[F.length]? =some z.2:=by rw[W,bo,bk (aL _)]; simp
  rw[← U] at R
  have Z:=fun n (i:n∈fa++fc)=>Y n (by rw[bN]; exact i)
  refine ⟨g,es.modify F.length (fun e'=>{e' with key:=key,val:=u}),j, ?_,aw ..,g :: (fa++(ft++fc)),⟨g,es.modify F.length (fun e'=>{e' with key:=key,val:=u}),j,F++(({z.1 with key:=key,val:=u}:MapEntry),q,ys) :: yb,fa++(ft++fc),rfl,rfl,by simp[a0], ?_,K6 h5, ?_, ?_, ?_⟩, ?_,fun n i=> ?_⟩
  ·simp[Instr.mapUpdate,run_underlying hT,MapKept.run_getObj_map S,M.K.check w _ hl,R,hj,a2,M.K.stays w hl,MapKept.run_setObj_map _ S,Result.andThen]
  ·rw[Array.toList_modify,ChangeMaps.modify_eq_set _ _ _ _ G]; exact h4.set G rfl
  ·rw[Array.toList_modify,ChangeMaps.modify_eq_set _ _ _ _ G,U]
   simp
  ·rw[QnT h5 a7 h9,W]
   simp
  ·exact ((k1.keep (fun n i=>C _ _ _ (Z n (aH _ i))) (H _ _)).congr fun t o=>cg t (aH _ o)).join ⟨ft,fc,rfl,hk,a1 _ _,(k4.keep (fun n i=>C _ _ _ (Z n (aN _ i))) (H _ _)).congr fun t o=>cg t (aN _ o)⟩
  ·rw[bN] at B I
   obtain ⟨n1,n2,n3⟩:=aT.1 I
   refine bj.2 ⟨fun i=> ?_,aT.2 ⟨n1,aT.2 ⟨hft,n2,fun a L b D e=>hd b (ax _ (by simp[D])) (e▸L)⟩,fun a L b D e=> ?_⟩⟩
   ·rcases aG.1 i with i | i
    ·exact B (aH _ i)
    ·rcases aG.1 i with i | i
     ·exact J i
     ·exact B (aN _ i)
   ·rcases aG.1 D with D | D
    ·exact hd a (ax _ (aH _ L)) (e▸D)
    ·exact n3 a L b D e
  ·rcases aE.1 i with rfl | i
   ·exact .inl (aw ..)
   ·rcases aG.1 i with i | i
    ·exact .inl (ax _ (aH _ i))
    ·rcases aG.1 i with i | i
     ·exact .inr i
     ·exact .inl (ax _ (by simp[i]))
theorem Rg.join2 {gh:Gh}{a:Act}{w w':World}(r:Rg A s gh a w){q t:Nat}{D E:Ent}{R:Rsc}{fq:List Nat}(H:s.tab.ent q=some D)(K:s.tab.ent t=some E)(p:q≠t)(i:Grw w w')(hb:∀g,g < w.heap.size→g∉gh.f q→w'.heap[g]? =w.heap[g]?)
 (h1:R.rel gh.N w' fq (gh.h q)) (n1:fq.Nodup) (i1:∀g∈fq,g∈gh.f q∨g∈gh.f t):Rg A ⟨s.tm,(q,some (.res R)) :: (t,none) :: s.tab⟩ ⟨gh.h,upd gh.f q fq,gh.N⟩ a w':=by
 have u:s.tab.al q:=⟨D,H⟩
 have B:s.tab.al t:=⟨E,K⟩
 have b:∀v,Tab.al ((q,some (.res R)) :: (t,none) :: s.tab) v→v≠t:=fun v ⟨x,n⟩ e=>by
  subst e
  rw[Qd,if_neg (fun e=>p e.symm),Qd,if_pos rfl] at n; cases n
 refine r.redo (fun v=>v=q∨v=t) rfl (fun v j=> ?_) (fun v O j c=> ?_) (fun v L j C F o J g S U=> ?_) i fun g I n=>hb g I (n q (.inl rfl) u)
 ·have m:v≠q:=fun h=>j (.inl h)
  have G:v≠t:=fun h=>j (.inr h)
  exact ⟨by rw[Qd,if_neg m,Qd,if_neg G],rfl,Ji _ _ m⟩
 ·have m:v=q:=j.resolve_right (b v ⟨_,c⟩)
  subst m
  rw[Qd,if_pos rfl] at c
  cases c
  refine ⟨fun M=> ?_, ?_,fun g i=> .inr ?_, .inl ⟨u,rfl⟩⟩
  ·show R.rel gh.N w' (upd gh.f v fq v) (gh.h v)
   rw[Xx]; exact h1
  ·show (upd gh.f v fq v).Nodup
   rw[Xx]; exact n1
  ·have i:g∈upd gh.f v fq v:=i
   rw[Xx] at i
   rcases i1 g i with h | h
   ·exact ⟨v, .inl rfl,u,h⟩
   ·exact ⟨t, .inr rfl,B,h⟩
 ·exact J ((j.resolve_right (b v F)).trans (C.resolve_right (b L o)).symm)
theorem QoQ {q t:Nat}{E:TypeId}{e:Ty}{kt et:TypeId}{m:List (k.Den×List e.Den)}{p:k.Den}{ys:List e.Den}{o:List LV}(v:KeyL P kt false k)(L:P.underlying T=some (.map kt et))
 (hx:Evl A s x (.ref q)) (he:s.tab.ent q=some (.res (moR (vOw E e) k m (some p)))) (hy:Ev A s y (false,o)) (hkl:o=leaves k p) (hz:Evl A s z (.ref t)) (ht:s.tab.ent t=some (.arr E e ys)):
 Does A P ⟨none, .mapUpdate T x y z,ty,pos,af,g⟩ s ⟨s.tm,(q,some (.res (moR (vOw E e) k (Yl k m p ys) none))) :: (t,none) :: s.tab⟩:=fun a w K Q r I=>by
 subst hkl
 obtain ⟨c,r⟩:=r
 have O:a.eval x=c.h q:=hx c a w r ⟨_,he⟩
 have M:a.eval z=c.h t:=hz c a w r ⟨_,ht⟩
 have n:q≠t:=fun h=>by rw[h,ht] at he; cases he
 obtain ⟨g,u,b,C,D,S,F,G,H⟩:=QqB v L (r.cx.en q _ he) (hy c a w r).mv.kv (r.cx.nd q ⟨_,he⟩) (r.cx.en t _ ht) (r.cx.nd t ⟨_,ht⟩) (fun g j=>r.cx.dj q t ⟨_,he⟩ ⟨_,ht⟩ n g j) fun g j J=>r.cx.no q ⟨_,he⟩ g j J
 have B:(execOp a.eval ⟨none, .mapUpdate T x y z,ty,pos,af,‹_›⟩).run P w= .ok .skip {w with heap:=w.heap.setIfInBounds g (.map u b)}:=by
  simp only[execOp,O,M,ay,C]
  simp
 unfold Oper.wp
 rw[B,Oper.upon_skip]
 refine I _ _ ⟨_,(r.join2 (w':={w with heap:=w.heap.setIfInBounds g (.map u b)}) he ht n ⟨rfl,rfl,rfl,by simp⟩ (fun U _ j=>bY fun e=>j (by rw[← e]; exact D)) (R:=moR (vOw E e) k (Yl k m p ys) none) F G H).puto⟩
end
section
variable {A:Amb}{P:Program}{s:St}{x y z:Operand}{d:Nat}{T T' ty:TypeId}{pos:String}{af:Array Edge}{g:Option (Nat×Bool)}{X:Type}{V:Vrl X}{k:Ty}{N N':Nat→Prop}{w w':World}{ops:Array Oper}{l:List Oper}{Q:Exit→St→Prop}
theorem Rg.turn {gh:Gh}{a:Act}{w w':World}(r:Rg A s gh a w){q:Nat}{n e:Ent}{fq:List Nat}(p:s.tab.ent q=some n)(b:Grw w w')(hb:∀g,g < w.heap.size→g∉gh.f q→w'.heap[g]? =w.heap[g]?)
 (h1:∀al,EntR al ⟨gh.h,upd gh.f q fq,gh.N⟩ w' q e) (n1:fq.Nodup) (i1:∀g∈fq,w.heap.size≤g∨g∈gh.f q):Rg A ⟨s.tm,(q,some e) :: s.tab⟩ ⟨gh.h,upd gh.f q fq,gh.N⟩ a w':=by
 have j:s.tab.al q:=⟨n,p⟩
 refine r.redo (fun v=>v=q) rfl (fun v c=>⟨by rw[Qd,if_neg c],rfl,Ji _ _ c⟩) (fun v D c i=> ?_) (fun v E c m C o u=>absurd (c.trans m.symm) u) b fun g t B=>hb g t (B q rfl j)
 subst c
 rw[Qd,if_pos rfl] at i
 cases i
 refine ⟨h1, ?_,fun g b=> ?_, .inl ⟨j,rfl⟩⟩
 ·show (upd gh.f v fq v).Nodup
  rw[Xx]; exact n1
 ·have b:g∈upd gh.f v fq v:=b
  rw[Xx] at b
  exact (i1 g b).imp id fun h=>⟨v,rfl,j,h⟩
theorem Qm3 {q:Nat}{k v:Ty}{m:List (k.Den×v.Den)}(j:s.tab.ent q=some (.mp false k false v m))(M:k.flat=true):Wk A s ⟨s.tm,(q,some (.res (moR (vFz v) k m none))) :: s.tab⟩:=fun a w r=>by
 obtain ⟨i,r⟩:=r
 obtain ⟨g,c,b,t,u,B,F,C,D⟩:=r.cx.en q _ j
 refine ⟨_,r.mod j (QV w) (fun _ _ _=>rfl) ?_⟩
 have E:∀(c:List MapEntry) (m:List (k.Den×v.Den)),MpL i w false k false v c m→∃zs:List (MapEntry×k.Den×v.Den),c=zs.map (·.1)∧m=zs.map (·.2)∧ZR (vFz v) k i.N w (QbG none) zs []:=fun c=>by
  induction c with
  | nil=>intro m h; rw[show m=[] from h]; exact ⟨[],rfl,rfl,rfl⟩
  | cons e c G=>
   rintro m ⟨x,y,L,rfl,I,J,K⟩
   obtain ⟨zs,rfl,rfl,H⟩:=G L K
   exact ⟨(e,x,y) :: zs,rfl,rfl,[],[],rfl,I.kv,⟨rfl,J⟩,H⟩
 obtain ⟨zs,n,o,p⟩:=E _ _ D
 exact ⟨g,c,b,zs,[],t,u,B,F,C,n,o,p⟩
theorem QyD {v:Ty}{zs:List (MapEntry×k.Den×v.Den)}{a:List Nat}(h:ZR (vFz v) k N w (QbG none) zs a):a=[]:=by
 induction zs generalizing a with
 | nil=>exact h
 | cons z zs i=>obtain ⟨b,j,rfl,m,c,e⟩:=h; rw[i e,show b=[] from c.1]; rfl
theorem Qm2 {q:Nat}{k v:Ty}{m:List (k.Den×v.Den)}(n:s.tab.ent q=some (.res (moR (vFz v) k m none)))(D:k.flat=true):Wk A s ⟨s.tm,(q,some (.mp false k false v m)) :: s.tab⟩:=fun a w r=>by
 obtain ⟨J,r⟩:=r
 obtain ⟨g,o,b,zs,p,t,e,u,C,B,h,i,j⟩:=r.cx.en q _ n
 refine ⟨_,r.mod n (QV w) (fun _ _ _=>rfl) ⟨g,o,b,t,by rw[e,QyD j],u,C,B, ?_⟩⟩
 rw[h,i]
 clear e h i
 induction zs generalizing p with
 | nil=>rfl
 | cons z zs E=>
  obtain ⟨H,I,rfl,c,F,G⟩:=j
  obtain ⟨K,c⟩:=c
  exact ⟨z.2.1,z.2.2,_,rfl,c.rd0 D,F.2,E _ G⟩
theorem Qm1 {q:Nat}{m left:List (k.Den×X)}{cur:Option (k.Den×X)}{p:Value}(h:s.tab.ent q=some (.res (itR V k false m left cur p))):Wk A s ⟨s.tm,(q,some (.res (moR V k m none))) :: s.tab⟩:=fun a w r=>by
 obtain ⟨L,r⟩:=r
 obtain ⟨g,M,t,b,i,o,J,zs,j,⟨u,O,n⟩,⟨R,C⟩,⟨D,_,_,_⟩,E,F,G,v,B,e⟩:=r.cx.en q _ h
 have c:=r.cx.nd q ⟨_,h⟩
 rw[n] at c
 refine ⟨_,r.turn (fq:=g :: j) h (QV w) (fun _ _ _=>rfl) (fun I=>⟨g,t,b,zs,j,u,Xx ..,C,D,E,F,G,e.congr fun z _=>rfl⟩) (bj.1 c).2 fun K H=> .inr (by rw[n]; exact ax _ H)⟩
theorem Qm0 {q:Nat}{i:Bool}{m left:List (k.Den×X)}{cur:Option (k.Den×X)}{p:Value}(o:i=false)(t:s.tab.ent q=some (.res (itR V k i m left cur p))):Wk A s ⟨s.tm,(q,some (.res (itR V k i m left none p))) :: s.tab⟩:=fun a w r=>by
 subst o
 obtain ⟨K,r⟩:=r
 obtain ⟨g,C,v,b,e,h,u,zs,B,D,F,G,H,I,J,j,E,n⟩:=r.cx.en q _ t
 exact ⟨_,r.mod t (QV w) (fun _ _ _=>rfl) ⟨g,C,v,b,e,h,u,zs,B,D,F,G,H,I,J,j,(fun c o=>by cases o),n.congr fun z _=>rfl⟩⟩
theorem Qo7 {a:Option k.Den}{m b:List (k.Den×X)}(h:m=b):some (Ent.res (moR V k m a))=some (.res (moR V k b a)):=by rw[h]
theorem Qt7 {b:Bool}{m left a:List (k.Den×X)}{cur:Option (k.Den×X)}{p:Value}(h:left=a):some (Ent.res (itR V k b m left cur p))=some (.res (itR V k b m a cur p)):=by rw[h]
theorem Qd4 (D:Bool){q:Nat}{m:List (k.Den×X)}{kt et:TypeId}(S:P.underlying T=some (.map kt et))(Z:Evl A s x (.ref q))(t:s.tab.ent q=some (.res (moR V k m none)))(W:Nat.blt d A.n=true)
 (k1:∀p:Value,AL A P ops l Q ⟨(d,lf (.val p)) :: s.tm,(q,some (.res (itR V k D m m none p))) :: s.tab⟩):AL A P ops (⟨some d, .range T x,ty,pos,af,none⟩ :: l) Q s:=fun a w r=>wpList_plain rfl fun _ R=>by
 obtain ⟨v,r⟩:=r
 have Y:a.eval x=v.h q:=Z v a w r ⟨_,t⟩
 obtain ⟨g,E,b,zs,K,F,G,B,I,L,M,H,O⟩:=r.cx.en q _ t
 have J:(execOp a.eval ⟨some d, .range T x,ty,pos,af,none⟩).run P w= .ok (.value (.pointer (some ⟨w.heap.size,0,none⟩))) (w.alloc (.mapIter (some g) b #[] b)):=by
  simp only[execOp,Y,F,ay,run_range_map w T kt et g E b S B]
  simp
 unfold Oper.wp
 rw[J,Oper.upon_value]
 have C:=W3 B
 have u:∀i∈v.f q,i < w.heap.size:=r.cx.lt ⟨_,t⟩
 have o:∀i,i < w.heap.size→(w.alloc (.mapIter (some g) b #[] b)).heap[i]? =w.heap[i]? :=fun i j=>Below.heap_alloc w _ i j
 refine R _ _ (k1 _ _ _ ⟨_,(r.turn (w':=w.alloc (.mapIter (some g) b #[] b)) (fq:=w.heap.size :: v.f q) (e:= .res (itR V k D m m none (.pointer (some ⟨w.heap.size,0,none⟩)))) t ⟨rfl,rfl,rfl,by simp⟩ (fun i j _=>o i j) (fun al=> ?_) (bj.2 ⟨fun h=>Nat.lt_irrefl _ (u _ h),r.cx.nd q ⟨_,t⟩⟩) (fun i j=> ?_)).put (aA W) (pv:=lf (.val _)) ⟨_,rfl,rfl⟩⟩)
 ·refine ⟨g,w.heap.size,E,b,b, #[],b,zs,K,⟨F,rfl,(Xx ..).trans (by rw[G])⟩,⟨heap_alloc_new w _,(o g C).trans B⟩,⟨I,I.1,aL _,aL _⟩,L,M,H, ?_,(fun c U=>by cases U),(O.keep (fun i j=>o i (u i (by rw[G]; exact ax _ j))) fun i j=>⟨j,o i (r.cx.nl i j)⟩).congr fun z _=> ?_⟩
  ·rw[H]; refine congrArg _ (List.filter_eq_self.2 fun z _=> ?_).symm; simp
  ·simp[QbG,Qih]
 ·rcases aE.1 j with rfl | j
  ·exact .inl (aL _)
  ·exact .inr j
end
section
variable {A:Amb}{P:Program}{s:St}{x y z:Operand}{d:Nat}{T T' ty:TypeId}{pos:String}{af:Array Edge}{g:Option (Nat×Bool)}{X:Type}{V:Vrl X}{k:Ty}{N N':Nat→Prop}{w w':World}{ops:Array Oper}{l:List Oper}{Q:Exit→St→Prop}
theorem Qhq {a:Array Nat}{b c:Nat}:(a.push b).contains c=(a.contains c||b==c):=by
 have h:(c==b)=(b==c):=by
  by_cases e:b=c
  ·rw[e]
  ·rw[beq_eq_false_iff_ne.2 e,beq_eq_false_iff_ne.2 (Ne.symm e)]
 rw[Array.contains_push,h]
theorem Qpx {zs:List (MapEntry×k.Den×X)}{a:Array Nat}{e:MapEntry}(F:((zs.map (·.1)).map (·.born)).Nodup)(D:e∈(zs.map (·.1)).filter fun e=> !a.contains e.born):
 ∃z n o,z∈zs∧z.1=e∧a.contains e.born=false∧(zs.filter fun z=> !a.contains z.1.born).map (·.2)=n++z.2 :: o∧(zs.filter fun z=> !(a.push e.born).contains z.1.born).map (·.2)=n++o:=by
 obtain ⟨u,i⟩:=cD.1 D
 obtain ⟨z,m,rfl⟩:=aR.1 u
 have i:a.contains z.1.born=false:=by simpa using i
 have E:z∈zs.filter fun z=> !a.contains z.1.born:=cD.2 ⟨m,by rw[i]; rfl⟩
 obtain ⟨p,q,j⟩:=List.append_of_mem E
 refine ⟨z,p.map (·.2),q.map (·.2),m,rfl,i,by rw[j]; simp, ?_⟩
 have r:(zs.filter fun b=> !(a.push z.1.born).contains b.1.born)=(zs.filter fun z=> !a.contains z.1.born).filter fun b=> !(z.1.born==b.1.born):=by
  rw[List.filter_filter]
  congr 1
  funext b
  rw[Qhq,Bool.not_or,Bool.and_comm]
 have h:(((p++z :: q).map (·.1)).map (·.born)).Nodup:=by
  rw[← j]
  exact (((List.filter_sublist).map _).map _).nodup F
 rw[bE,bE,aU,aU,aT] at h
 obtain ⟨_,v,B⟩:=h
 obtain ⟨C,_⟩:=bj.1 v
 rw[r,j,bO,cN]
 have t:(!(z.1.born==z.1.born))=false:=by simp
 rw[t]
 rw[List.filter_eq_self.2 fun b c=> ?_,if_neg (by decide),List.filter_eq_self.2 fun b c=> ?_,bE]
 ·have:z.1.born≠b.1.born:=fun e=>C (by rw[e]; exact aR.2 ⟨b.1,aR.2 ⟨b,c,rfl⟩,rfl⟩)
  simpa using this
 ·have:b.1.born≠z.1.born:=B _ (aR.2 ⟨b.1,aR.2 ⟨b,c,rfl⟩,rfl⟩) _ (aw ..)
  simpa using fun e=>this e.symm
theorem QhD {q:Nat}{K:Bool}{m left:List (k.Den×X)}{cur:Option (k.Den×X)}{p:Value}(hx:Evl A s x (.val p))(D:s.tab.ent q=some (.res (itR V k K m left cur p)))(hc:K=false∨cur=none)(hn:Nat.blt d A.n=true)
 (k0:left=[]→AL A P ops l Q (s.put d (.tup [(false,[dB false])])))
 (k1:∀(ky vl:Value) (I:List (k.Den×X)) (c:k.Den×X) (J:List (k.Den×X)),left=I++c :: J→AL A P ops l Q ⟨(d, .tup [(false,[dB true]),(false,[.val ky]),(false,[.val vl])]) :: s.tm,(q,some (.res (itR V k K m (I++J) (some c) p))) :: s.tab⟩):AL A P ops (⟨some d, .next x false,ty,pos,af,none⟩ :: l) Q s:=fun a w r=>wpList_plain rfl fun _ hK=>by
 obtain ⟨L,r⟩:=r
 have hv:a.eval x=p:=hx L a w r
 obtain ⟨g,j,U,h,i,b,c0,zs,fs,⟨h1,Y,Z⟩,⟨h4,h5⟩,⟨h6,G,a3,H⟩,h7,h8,h9,C,a4,W⟩:=r.cx.en q _ D
 have F:(leftOf U b).toList=(zs.map (·.1)).filter fun e=> !b.contains e.born:=by rw[← h8]; simp[leftOf]
 rcases run_next_at (P:=P) w ty j g i c0 b U h h4 h5 G a3 with ⟨M,O⟩ | ⟨e,M,B,O,j3⟩
 ·have R:(execOp a.eval ⟨some d, .next x false,ty,pos,af,none⟩).run P w= .ok (.value (.tuple #[.bool false])) w:=by
   simp only[execOp,hv,Y,ay,O]
   simp
  unfold Oper.wp
  rw[R,Oper.upon_value]
  refine hK _ _ (k0 ?_ _ _ ⟨L,r.put (aA hn) (pv:= .tup [(false,[dB false])]) ⟨_,rfl,_,_,rfl,⟨_,rfl,ZI⟩,rfl⟩⟩)
  have:((zs.map (·.1)).filter fun e=> !b.contains e.born)=[]:=by rw[← F]; exact bu (by simpa using M)
  rw[C]
  rw[List.filter_map,List.map_eq_nil_iff] at this
  rw[List.map_eq_nil_iff]
  exact this
 ·rw[F] at M
  obtain ⟨z,I,J,hz,e2,e3,e4,e5⟩:=Qpx (by rw[← h8]; exact h6.2) M
  have R:(execOp a.eval ⟨some d, .next x false,ty,pos,af,none⟩).run P w= .ok (.value (.tuple #[.bool true,e.key,e.val])) (setBlock B j (.mapIter (some g) i (b.push e.born) h)):=by
   simp only[execOp,hv,Y,ay,j3]
   simp
  unfold Oper.wp
  rw[R,Oper.upon_value]
  have hh:B.heap=w.heap:=by rcases O with rfl | rfl <;> rfl
  have a1:Grw w (setBlock B j (.mapIter (some g) i (b.push e.born) h)):=by
   have hs:w.heap.size≤(B.heap.setIfInBounds j (.mapIter (some g) i (b.push e.born) h)).size:=by rw[Array.size_setIfInBounds,hh]; exact aL _
   rcases O with rfl | rfl <;> exact ⟨rfl,rfl,rfl,hs⟩
  have t:∀o,o≠j→(setBlock B j (.mapIter (some g) i (b.push e.born) h)).heap[o]? =w.heap[o]? :=fun o a2=>by
   show (B.heap.setIfInBounds j _)[o]? =_
   rw[hh]; exact bY fun e=>a2 e.symm
  have v:=r.cx.nd q ⟨_,D⟩
  have E:j∈L.f q:=by rw[Z]; exact aw ..
  rw[Z] at v
  have a0:g≠j:=fun e=>(bj.1 v).1 (by rw[e]; exact aw ..)
  refine hK _ _ (k1 e.key e.val I z.2 J (C.trans e4) _ _ ⟨_,(r.turn (fq:=L.f q) (e:= .res (itR V k K m (I++J) (some z.2) p)) D a1 (fun o _ u=>t o fun e=>u (e▸E)) (fun al=> ?_) (r.cx.nd q ⟨_,D⟩) (fun o u=> .inr u)).put (aA hn) (pv:= .tup [(false,[dB true]),(false,[.val e.key]),(false,[.val e.val])]) ⟨_,rfl,_,_,rfl,⟨_,rfl,ZI⟩,_,_,rfl,⟨_,rfl,rfl⟩,_,_,rfl,⟨_,rfl,rfl⟩,rfl⟩⟩)
  refine ⟨g,j,U,h,i,b.push e.born,h,zs,fs,⟨h1,Y,(Xx ..).trans Z⟩,⟨?_,(t g a0).trans h5⟩,⟨h6,G,H,H⟩,h7,h8,h9,e5.symm,fun c hc=> ?_,(W.keep (fun o u=>t o fun e=> ?_) fun o u=>⟨u,t o fun e=>r.cx.no q ⟨_,D⟩ j E (e▸u)⟩).congr fun z' a5=> ?_⟩
  ·show (B.heap.setIfInBounds j _)[j]? =_
   rw[hh]; simp[W3 h4]
  ·cases hc; exact ⟨z,hz,rfl,⟨b,by rw[e2]⟩,rfl⟩
  ·exact (bj.1 v).1 (e▸ax _ u)
  ·simp only[Qih,Option.isSome_some,Bool.true_and,Array.back?_push]
   rcases hc with rfl | rfl
   ·rfl
   ·simp only[Option.isSome_none,Bool.false_and,Bool.or_false,Qhq]
    by_cases S:e.born=z'.1.born
    ·rw[← S,e3]; simp
    ·have:(e.born==z'.1.born)=false:=by simpa using S
     simp[this,S]
end
section
variable {A:Amb}{P:Program}{s:St}{x y z:Operand}{d:Nat}{T T' ty:TypeId}{pos:String}{af:Array Edge}{g:Option (Nat×Bool)}{X:Type}{V:Vrl X}{k:Ty}{N N':Nat→Prop}{w w':World}
theorem QgS {i g b h a:Nat}{c:Array Nat}{es:Array MapEntry}{e:MapEntry}(j:w.heap[i]? =some (.mapIter (some g) b c h))(m:w.heap[g]? =some (.map es a))(n:Born es.toList a)(p:e∈es.toList)(q:∃s0:Array Nat,c=s0.push e.born)(o:h=a):
 (Instr.entry (.pointer (some ⟨i,0,none⟩))).run P w= .ok (.tuple #[e.key,e.val]) w:=by
 obtain ⟨s0,rfl⟩:=q
 subst o
 exact run_entry_at w i g b s0 es h e j m p n.2
theorem QcQ {q:Nat}{t:Ty}{m left:List (k.Den×t.Den)}{c:k.Den×t.Den}{p:Value}{E F:List LV}(S:k.flat=true)(hx:Evl A s x (.val p))(R:s.tab.ent q=some (.res (itR (vFz t) k false m left (some c) p)))(C:leaves k c.1=E)(o:leaves t c.2=F)(U:Nat.blt d A.n=true):
 Does A P ⟨some d, .entry x,ty,pos,af,g⟩ s (s.put d (.tup [(false,E),(false,F)])):=
 Qi rfl U fun B a w r=>by
  subst C o
  have hv:a.eval x=p:=hx B a w r
  obtain ⟨g,gi,es,h,v,G,c0,zs,fs,⟨C,o,h3⟩,⟨J,K⟩,⟨L,Z,Y,a0⟩,h7,M,h9,I,i,j⟩:=r.cx.en q _ R
  obtain ⟨z,D,rfl,W,O⟩:=i c rfl
  obtain ⟨ya,yb,rfl⟩:=List.append_of_mem D
  obtain ⟨fa,fb,rfl,k1,H,fc,rfl,u,e,k4⟩:=j.app
  have e:H=[]∧Rd B.N t w [z.1.val] z.2.2:=by
   rw[if_pos (by simp[Qih])] at e
   exact e
  obtain ⟨w0,u⟩:=u
  refine ⟨.tuple #[z.1.key,z.1.val], ?_,[z.1.key,z.1.val],rfl,_,_,rfl,MV.cm (b:=false) (u.rd0 S),_,_,rfl,MV.cm (b:=false) e.2,rfl⟩
  simp only[execOp,hv,o,ay,QgS J K L (by rw[M]; exact aR.2 ⟨z,D,rfl⟩) W O]
  simp
theorem QiZ (t:Nat){q:Nat}{E:TypeId}{e:Ty}{m left:List (k.Den×List e.Den)}{c:k.Den×List e.Den}{p:Value}{l1:List LV}(hf:k.flat=true)(hx:Evl A s x (.val p))(Y:s.tab.ent q=some (.res (itR (vOw E e) k true m left (some c) p)))(h1:leaves k c.1=l1)(hn:Nat.blt d A.n=true)(M:Fresh s t)(a4:A.k0≤t):
 Does A P ⟨some d, .entry x,ty,pos,af,g⟩ s ⟨(d, .tup [(false,l1),(false,[.ref t])]) :: s.tm,(q,some (.res (itR (vOw E e) k true m left none p))) :: (t,some (.arr E e c.2)) :: s.tab⟩:=fun a w K Q r hK=>by
 subst h1
 obtain ⟨gh,r⟩:=r
 have hv:a.eval x=p:=hx gh a w r
 obtain ⟨g,I,es,C,F,j,c0,zs,fs,⟨h1,h2,h3⟩,⟨h4,h5⟩,⟨h6,a6,a5,a7⟩,h7,h8,h9,a1,a2,a3⟩:=r.cx.en q _ Y
 obtain ⟨z,hz,rfl,hs,hc⟩:=a2 c rfl
 have O:z.1∈es.toList:=by rw[h8]; exact aR.2 ⟨z,hz,rfl⟩
 have S:=QgS (P:=P) h4 h5 h6 O hs hc
 have L:=h6.2
 obtain ⟨ya,yb,rfl⟩:=List.append_of_mem hz
 obtain ⟨W,fb,rfl,k1,f1,G,rfl,Z,k3,k4⟩:=a3.app
 have J:j.back? =some z.1.born:=by obtain ⟨s0,rfl⟩:=hs; simp
 have a8:j.contains z.1.born=true:=by obtain ⟨s0,rfl⟩:=hs; simp
 have k3:Own (.sl E e) w f1 [z.1.val] z.2.2:=by
  rw[if_pos (by simp[Qih,J])] at k3
  exact k3
 have hd:∀o∈ya++yb,o.1.born≠z.1.born:=fun o i e=>by
  rw[h8,bE,bE,aU,aU,aT] at L
  obtain ⟨_,n2,n3⟩:=L
  rcases aG.1 i with i | i
  ·exact n3 _ (aR.2 ⟨o.1,aR.2 ⟨o,i,rfl⟩,rfl⟩) _ (aw ..) e
  ·exact (bj.1 n2).1 (by rw[← e]; exact aR.2 ⟨o.1,aR.2 ⟨o,i,rfl⟩,rfl⟩)
 have cg:∀o∈ya++yb,Qih (k:=k) (X:=List e.Den) true (some z.2).isSome j o=Qih true (none:Option (k.Den×List e.Den)).isSome j o:=fun o i=>by
  have:=hd o i
  simp only[Qih,J,Option.isSome_some,Option.isSome_none,Bool.true_and,Bool.false_and,cZ,Bool.false_or,Bool.or_false]
  have h:(some z.1.born==some o.1.born)=false:=by simpa using fun e=>this e.symm
  rw[h,Bool.or_false]
 have e1:(execOp a.eval ⟨some d, .entry x,ty,pos,af,‹_›⟩).run P w= .ok (.value (.tuple #[z.1.key,z.1.val])) w:=by
  simp only[execOp,hv,h2,ay,S]
  simp
 unfold Oper.wp
 rw[e1,Oper.upon_value]
 have D:=r.cx.nd q ⟨_,Y⟩
 have B:List.Sublist (I :: g :: (W++G)) (I :: g :: (W++(f1++G))):=((List.Sublist.append (cI _) (List.sublist_append_right ..)).cons_cons g).cons_cons I
 rw[h3] at D
 obtain ⟨d1,d2⟩:=bj.1 D
 obtain ⟨d3,d4⟩:=bj.1 d2
 obtain ⟨d5,d6,d7⟩:=aT.1 d4
 obtain ⟨d8,d9,a0⟩:=aT.1 d6
 obtain ⟨w0,Z⟩:=Z
 have hq:q≠t:=fun h=>M.al (h▸⟨_,Y⟩)
 refine hK _ _ ⟨_,(r.part Y M a4 (QV w) (fun _ _ _=>rfl) (fq:=I :: g :: (W++G)) (ft:=f1) (R:=itR (vOw E e) k true m left none p) ?_ k3 (B.nodup D) d8 (fun H u=> ?_) (fun H u=> ?_)).put (aA hn) (pv:= .tup [(false,leaves k z.2.1),(false,[.ref t])]) ⟨_,rfl,_,_,rfl,MV.cm (b:=false) (Z.rd0 hf),_,_,rfl,⟨_,rfl,fun _=>(Xx ..).symm⟩,rfl⟩⟩
 ·refine ⟨g,I,es,C,F,j,c0,ya++z :: yb,W++G,⟨h1,h2,rfl⟩,⟨h4,h5⟩,⟨h6,a6,a5,a7⟩,h7,h8,h9,a1,(fun c hc=>by cases hc),(k1.congr fun o i=>cg o (aH _ i)).join ⟨[],G,rfl,⟨w0,Z⟩, ?_,k4.congr fun o i=>cg o (aN _ i)⟩⟩
  rw[if_neg]
  have U:z.1.born∈j:=by simpa using a8
  simp[Qih,U]
 ·refine ⟨by rw[h3]; exact B.subset u,fun v=> ?_⟩
  rcases aE.1 u with rfl | u
  ·exact d1 (ax _ (by simp[v]))
  ·rcases aE.1 u with rfl | u
   ·exact d3 (by simp[v])
   ·rcases aG.1 u with u | u
    ·exact d7 H u H (aH _ v) rfl
    ·exact a0 H v H u rfl
 ·rw[h3]; simp[u]
end
end Go.Proofs.YtndabgcpnmeeoaaGreat
namespace Go.Proofs.YtndabgcpnmeeoaaGreat
open Go.RowKit
theorem Qtt {A:Amb}{s s':St}(k:∀i pv,lk s'.tm i=some pv→lk s.tm i=some pv)(f:∀q,s'.tab.ent q=s.tab.ent q):Wk A s s':=fun a w ⟨g,r⟩=>by
 have b:s'.tab.al=s.tab.al:=funext fun q=>by unfold Tab.al; rw[f]
 refine ⟨g,⟨fun q e h=> ?_,fun q l c d=> ?_,fun q h=> ?_,fun q h=> ?_,r.cx.nl⟩,r.sz,r.df,fun i pv h=> ?_,r.gw,r.kp,r.fr,fun q h=> ?_,fun q j h=> ?_,r.xn⟩
 ·rw[b]; exact r.cx.en q e (by rw[← f]; exact h)
 ·rw[b] at c d; exact r.cx.dj q l c d
 ·rw[b] at h; exact r.cx.nd q h
 ·rw[b] at h; exact r.cx.no q h
 ·rw[b]; exact r.tm i pv (k i pv h)
 ·rw[b] at h; exact r.ox q h
 ·rw[b] at h; exact r.hh q j h
theorem QcO (t:Nat){A:Amb}{P:Program}{s:St}{d:Nat}{f:FuncId}{args:List (Bool×List LV)}{xs:List Operand}{l:Array TypeId}{ty:TypeId}{j:String}{o:Array Edge}{g:Option (Nat×Bool)}{E:TypeId}{e:Ty}{zs:List e.Den}(u:FC P f args [] 0 (XB E e zs))(p:Qg P f)(r:EvLB A s xs args)(v:Nat.blt d A.n=true)(b:Fresh s t)(c:A.k0≤t):
 Does A P ⟨some d, .call ⟨.value (.func f),xs.toArray,l⟩,ty,j,o,g⟩ s (s.put d (lf (.dat (.sl E e) zs))):=by
 refine (UC t u p r v b c).wk ((Wk.freeze (i:=d) (q:=t) (E:=E) (e:=e) (xs:=zs) (by show lk ((d,_) :: s.tm) d=_; rw[WB,if_pos rfl]) (by show Tab.ent ((t,_) :: s.tab) t=_; rw[Qd,if_pos rfl])).trans (Qtt (fun i m h=> ?_) fun q=> ?_))
 ·show lk ((d,_) :: (d,_) :: s.tm) i=some m
  have h:lk ((d,lf (.dat (.sl E e) zs)) :: s.tm) i=some m:=h
  rw[WB] at h ⊢
  by_cases a:i=d
  ·rw[if_pos a] at h ⊢; exact h
  ·rw[if_neg a] at h ⊢; rw[WB,if_neg a]; exact h
 ·show s.tab.ent q=Tab.ent ((t,none) :: (t,_) :: s.tab) q
  rw[Qd]
  by_cases a:q=t
  ·rw[if_pos a,a]
   cases k:s.tab.ent t with
   | none=>rfl
   | some e=>exact absurd ⟨e,k⟩ b.al
  ·rw[if_neg a,Qd,if_neg a]
theorem Qaj {A:Amb}{P:Program}{s:St}{d:Nat}{x:Operand}{T ty:TypeId}{l:String}{p:Array Edge}{g:Option (Nat×Bool)}{q i j n:Nat}{E:TypeId}{e t:Ty}{xs:List e.Den}{z:e.Den}{k:t.Den}(K:Evl A s x (.ept q e.wd i j))(o:s.tab.ent q=some (.arr E e xs))(L:xs[i]? =some z)(J:t.flat=true)(H:tsh P T=some (false,n))
 (hl:(leaves e z)[j]? =some (.dat t k)) (hn:Nat.blt d A.n=true):Does A P ⟨some d, .load T x,ty,l,p,g⟩ s (s.put d (lf (.dat t k))):=
 Qi rfl hn fun b a w r=>by
  obtain ⟨g,m,c,B,C⟩:=K b a w r ⟨_,o⟩
  obtain ⟨u,y,Q,R,S,U,M,O⟩:=Qch r o L B
  obtain ⟨v,D,F⟩:=(Rd.leaves (al:=s.tab.al) (gh:=⟨b.h,b.f,fun _=>True⟩) (w:=w) (Rep.rd M fun _ _=>trivial)).nth hl
  have G:Rd _ t w [v] k:=F
  refine ⟨v, ?_,_,rfl,(G.rep.rd0 J:Rd b.N t w [v] k)⟩
  have I:=O j v D
  simp only[execOp,C,Instr.loadAt,Instr.sureAddr,ay,bl,aI,Z3 H _ v I]
end Go.Proofs.YtndabgcpnmeeoaaGreat
