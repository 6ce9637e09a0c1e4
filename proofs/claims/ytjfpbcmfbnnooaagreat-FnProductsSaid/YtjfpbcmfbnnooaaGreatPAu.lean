import Derived.Test.YtjfpbcmfbnnooaaGreatPAl
import Derived.Maps.RangeRun
import Derived.Laws.CopyRow
import Derived.DeepKeys3
set_option linter.all false
namespace Go.Proofs.YtjfpbcmfbnnooaaGreat
open Go.RowKit Tryz
open Go.ChangeMaps (setBlock)
section
variable {A:Amb}{P:Program}{s:St}
theorem Rg.redo {gh gh':Gh}{a:Act}{w w':World}{T:Tab}(r:Rg A s gh a w)(C:Nat→Prop)(M:gh'.N=gh.N)
 (hold:∀u,¬C u→T.ent u=s.tab.ent u∧gh'.h u=gh.h u∧gh'.f u=gh.f u)
 (hnew:∀u e,C u→T.ent u=some e→(∀al,EntR al gh' w' u e)∧(gh'.f u).Nodup∧(∀g∈gh'.f u,w.heap.size≤g∨∃v,C v∧s.tab.al v∧g∈gh.f v)∧((s.tab.al u∧gh'.h u=gh.h u)∨(Fresh s u∧A.k0≤u)))
 (hdis:∀u v,C u→C v→T.al u→T.al v→u≠v→∀g∈gh'.f u,g∉gh'.f v)
 (hg:Grw w w') (hb:∀g,g<w.heap.size→(∀v,C v→s.tab.al v→g∉gh.f v)→w'.heap[g]? =w.heap[g]?):Rg A ⟨s.tm,T⟩ gh' a w':=by
 have I:∀g,gh.N g→gh'.N g∧w'.heap[g]? =w.heap[g]? :=fun g h=>⟨by rw[M];exact h,hb g (r.cx.nl g h) fun v _ m R=>r.cx.no v m g R h⟩
 have t:∀u,¬C u→(T.al u↔s.tab.al u):=fun u i=>by unfold Tab.al;rw[(hold u i).1]
 have o:∀u,T.al u→∀g∈gh'.f u,w.heap.size≤g∨∃v,s.tab.al v∧g∈gh.f v∧(C u→C v)∧(¬C u→v=u):=fun u ⟨e,p⟩ g B=>by
  by_cases i:C u
  ·grind
  ·grind
 have q:∀u,T.al u→(s.tab.al u∧gh'.h u=gh.h u)∨(Fresh s u∧A.k0≤u):=fun u ⟨e,p⟩=>by
  grind
 refine r.step ⟨fun u e p=> ?_,fun u v i m D g n j=> ?_,fun u i=> ?_,fun u i g n j=> ?_,fun g h=> ?_⟩ (fun u i=>(q u i).imp (fun h=>⟨h.1,h.2,fun _=>rfl⟩) id) I hg (fun g Z hx=>hb g Z fun v _ m=>hx v m)
  (fun g h=> .inl (by rwa [M] at h)) fun u i g n=>(o u i g n).imp id fun ⟨v,j,H,_⟩=>⟨v,j,H⟩
 ·by_cases i:C u
  ·exact (hnew u e i p).1 _
  ·obtain ⟨n,j,H⟩:=hold u i
   rw[n] at p
   refine (r.cx.en u e p).mono (fun v m E=> ?_) I j H fun g B=>hb g (r.cx.lt ⟨e,p⟩ g B) fun v m E=>r.cx.dj u v ⟨e,p⟩ E (fun h=>i (h▸m)) g B
   rcases q v E with h|h
   ·exact h
   ·exact absurd m (h.1.en u e p)
 ·rcases o u i g n with H|⟨O,F,G,k3,W⟩
  ·rcases o v m g j with Y|⟨L,J,K,U,S⟩
   ·by_cases b:C u
    ·by_cases c:C v
     ·exact hdis u v b c i m D g n j
     ·rw[(hold v c).2.2] at j
      have:=r.cx.lt ((t v c).1 m) g j;omega
    ·rw[(hold u b).2.2] at n
     have:=r.cx.lt ((t u b).1 i) g n;omega
   ·have:=r.cx.lt J g K;omega
  ·rcases o v m g j with Y|⟨L,J,K,U,S⟩
   ·have:=r.cx.lt F g G;omega
   ·by_cases b:C u
    ·by_cases c:C v
     ·exact hdis u v b c i m D g n j
     ·exact r.cx.dj O L F J (fun h=>c (by rw[← S c,← h];exact k3 b)) g G K
    ·by_cases c:C v
     ·exact r.cx.dj O L F J (fun h=>b (by rw[← W b,h];exact U c)) g G K
     ·exact r.cx.dj O L F J (fun h=>D (by rw[← W b,← S c,h])) g G K
 ·by_cases b:C u
  ·obtain ⟨e,p⟩:=i
   exact (hnew u e b p).2.1
  ·rw[(hold u b).2.2];exact r.cx.nd u ((t u b).1 i)
 ·rw[M] at j
  rcases o u i g n with H|⟨v,F,G,_⟩
  ·have:=r.cx.nl g j;omega
  ·exact r.cx.no v F g G j
 ·rw[M] at h
  exact ba (r.cx.nl g h) hg.size
end
structure Vrl (X:Type) where
  rel:(Nat→Prop)→World→List Nat→Value→X→Prop
  fl:Bool
  keep:∀{N N':Nat→Prop} {w w':World} {f:List Nat} {v:Value} {x:X},rel N w f v x→(∀g∈f,w'.heap[g]? =w.heap[g]?)→(∀g,N g→N' g∧w'.heap[g]? =w.heap[g]?)→rel N' w' f v x
  lt:∀{N:Nat→Prop} {w:World} {f:List Nat} {v:Value} {x:X},rel N w f v x→∀g∈f,g<w.heap.size
  noN:fl=true→∀{N N':Nat→Prop} {w:World} {f:List Nat} {v:Value} {x:X},rel N w f v x→rel N' w f v x
def vFz (t:Ty):Vrl t.Den where
 rel N w f v x:=f=[]∧Rd N t w [v] x
 fl:=t.flat
 keep:=fun h _ hN=>⟨h.1,h.2.mono hN⟩
 lt:=fun h g hg=>by rw[h.1] at hg;cases hg
 noN:=fun hf _ _ _ _ _ _ h=>⟨h.1,(Rd.rep h.2).rd0 hf⟩
def vOw (E:TypeId)(e:Ty):Vrl (List e.Den) where
 rel _ w f v x:=Own (.sl E e) w f [v] x
 fl:=true
 keep:=fun h hf _=>Own.keep h hf
 lt:=fun h=>Own.lt h
 noN:=fun _ _ _ _ _ _ _ h=>h
def ZR {X:Type}(V:Vrl X)(k:Ty)(N:Nat→Prop)(w:World)(own:MapEntry×k.Den×X→Bool):List (MapEntry×k.Den×X)→List Nat→Prop
 | [],f=>f=[]
 | z::zs,f=>∃f1 f2,f=f1++f2∧KV false k z.1.key z.2.1∧(if own z=true then V.rel N w f1 z.1.val z.2.2 else f1=[])∧ZR V k N w own zs f2
section
variable {X:Type}{V:Vrl X}{k:Ty}{N N':Nat→Prop}{w w':World}{own own':MapEntry×k.Den×X→Bool}{zs ys:List (MapEntry×k.Den×X)}{f:List Nat}{z:MapEntry×k.Den×X}
def ZR.keep (h:ZR V k N w own zs f)(e:∀g∈f,w'.heap[g]? =w.heap[g]?)(o:∀g,N g→N' g∧w'.heap[g]? =w.heap[g]?):ZR V k N' w' own zs f:=by
 induction zs generalizing f with
 | nil=>exact h
 | cons z zs p=>
  obtain ⟨i,j,rfl,m,a,n⟩:=h
  refine ⟨i,j,rfl,m,?_,p n fun g c=>e g (bd _ c)⟩
  split
  ·rename_i b;rw[if_pos b] at a;exact V.keep a (fun g c=>e g (aU _ c)) o
  ·rename_i b;rw[if_neg b] at a;exact a
def ZR.lt (h:ZR V k N w own zs f):∀g∈f,g<w.heap.size:=by
 induction zs generalizing f with
 | nil=>intro g a;rw[show f=[] from h] at a;cases a
 | cons z zs e=>
  obtain ⟨i,j,rfl,m,b,c⟩:=h
  intro g a
  rcases aO.1 a with a|a
  ·split at b
   ·exact V.lt b g a
   ·rw[b] at a;cases a
  ·exact e c g a
def ZR.noN (hv:V.fl=true)(h:ZR V k N w own zs f):ZR V k N' w own zs f:=by
 induction zs generalizing f with
 | nil=>exact h
 | cons z zs m=>
  obtain ⟨c,e,rfl,i,a,j⟩:=h
  refine ⟨c,e,rfl,i,?_,m j⟩
  split
  ·rename_i b;rw[if_pos b] at a;exact V.noN hv a
  ·rename_i b;rw[if_neg b] at a;exact a
def ZR.congr (h:ZR V k N w own zs f)(b:∀z∈zs,own z=own' z):ZR V k N w own' zs f:=by
 induction zs generalizing f with
 | nil=>exact h
 | cons z zs n=>
  obtain ⟨c,e,rfl,i,a,j⟩:=h
  rw[b z (aA ..)] at a
  exact ⟨c,e,rfl,i,a,n j fun z m=>b z (az _ m)⟩
def ZR.app (h:ZR V k N w own (ys++zs) f):∃f1 a,f=f1++a∧ZR V k N w own ys f1∧ZR V k N w own zs a:=by
 induction ys generalizing f with
 | nil=>exact ⟨[],f,rfl,rfl,h⟩
 | cons z ys o=>
  obtain ⟨f1,a,rfl,e,i,j⟩:=h
  obtain ⟨b,c,rfl,m,n⟩:=o j
  exact ⟨f1++b,c,(aM ..).symm,⟨f1,b,rfl,e,i,m⟩,n⟩
def ZR.join {f1 a:List Nat}(b:ZR V k N w own ys f1)(h:ZR V k N w own zs a):ZR V k N w own (ys++zs) (f1++a):=by
 induction ys generalizing f1 with
 | nil=>rw[show f1=[] from b];exact h
 | cons z ys i=>
  obtain ⟨c,e,rfl,j,m,n⟩:=b
  exact ⟨c,e++a,by rw[aM],j,m,i n⟩
end
section
variable {A:Amb}{P:Program}{s:St}{x y z:Operand}{d:Nat}{T T' ty:TypeId}{pos:String}{af:Array Edge}{g:Option (Nat×Bool)}{X:Type}{V:Vrl X}{k:Ty}{N N':Nat→Prop}{w w':World}
theorem ZR.at {own:MapEntry×k.Den×X→Bool}{zs:List (MapEntry×k.Den×X)}{f:List Nat}(h:ZR V k N w own zs f):∀z∈zs,KV false k z.1.key z.2.1:=by
 induction zs generalizing f with
 | nil=>intro z a;cases a
 | cons z zs m=>
  obtain ⟨b,c,rfl,e,i,j⟩:=h
  grind
theorem ZR.find {own:MapEntry×k.Den×X→Bool}{zs:List (MapEntry×k.Den×X)}{f:List Nat}{kt:TypeId}(c:KeyL P kt false k)(h:ZR V k N w own zs f){key:Value}{q:k.Den}(m:KV false k key q):
 ((Instr.findKey kt key (zs.map (·.1))).run P w= .ok none w∧∀z∈zs,z.2.1≠q)∨∃(o B:List (MapEntry×k.Den×X)) (z:MapEntry×k.Den×X),zs=o++z::B∧(Instr.findKey kt key (zs.map (·.1))).run P w= .ok (some (o.length,z.1.val)) w∧z.2.1=q∧z.1.key=key:=by
 obtain ⟨l,t⟩:=c.rd _ _ m
 rcases c.K.find w t (zs.map (·.1)) fun e r=>by
  obtain ⟨z,b,rfl⟩:=aW.1 r
  exact c.rd _ _ (h.at z b) with ⟨i,a⟩|⟨j,e,i,a,n⟩
 ·refine .inl ⟨i,fun z b p=> ?_⟩
  exact a _ (aW.2 ⟨z,b,rfl⟩) ((QiC (h.at z b) m c.flat).2 p)
 ·rw[bl] at a
  cases b:zs[j]? with
  | none=>rw[b] at a;cases a
  | some z=>
   rw[b] at a
   have a:z.1=e:=by simpa using a
   subst a
   obtain ⟨u,v⟩:=ae.1 b
   refine .inr ⟨zs.take j,zs.drop (j+1),z,?_,?_,(QiC (h.at z (ah b)) m c.flat).1 n,n⟩
   ·grind [List.take_append_drop,List.drop_eq_getElem_cons]
   ·rw[au,dt (by omega)];exact i
def Qn3 (hl:Option k.Den)(z:MapEntry×k.Den×X):Bool:=match hl with
 | none=>true
 | some p=> !k.beq z.2.1 p
def MoP (V:Vrl X)(k:Ty)(m:List (k.Den×X))(hl:Option k.Den)(N:Nat→Prop)(w:World)(f:List Nat)(v:Value):Prop:=
 ∃g es clock zs fs,v= .map (some g)∧f=g::fs∧w.heap[g]? =some (.map es clock)∧Born es.toList clock∧m.Pairwise (fun p q=>p.1≠q.1)∧es.toList=zs.map (·.1)∧m=zs.map (·.2)∧ZR V k N w (Qn3 hl) zs fs
def Ut {o:Obj}{g:Nat}(h:w.heap[g]? =some o):g<w.heap.size:=(cp.1 h).1
def moR (V:Vrl X)(k:Ty)(m:List (k.Den×X))(hl:Option k.Den):Rsc where
 rel:=MoP V k m hl
 fl:=V.fl
 keep:=fun ⟨g,es,clock,zs,fs,h1,h2,h3,h4,h5,h6,h7,h8⟩ hf hN=>⟨g,es,clock,zs,fs,h1,h2,(hf g (by rw[h2];exact aA ..)).trans h3,h4,h5,h6,h7,h8.keep (fun g' hg=>hf g' (by rw[h2];exact az _ hg)) hN⟩
 lt:=fun ⟨g,es,clock,zs,fs,h1,h2,h3,h4,h5,h6,h7,h8⟩ g' hg=>by
  rw[h2] at hg
  rcases aK.1 hg with rfl|hg
  ·exact Ut h3
  ·exact h8.lt g' hg
 one:=fun ⟨g,es,clock,zs,fs,h1,h2⟩=>by rw[h1];rfl
 noN:=fun hv _ _ _ _ _ ⟨g,es,clock,zs,fs,h1,h2,h3,h4,h5,h6,h7,h8⟩=>⟨g,es,clock,zs,fs,h1,h2,h3,h4,h5,h6,h7,h8.noN hv⟩
def QBk (cn b:Bool)(seen:Array Nat)(z:MapEntry×k.Den×X):Bool:= !cn|| !seen.contains z.1.born||(b&&seen.back? ==some z.1.born)
def ItP (V:Vrl X)(k:Ty)(cn:Bool)(m left:List (k.Den×X))(cur:Option (k.Den×X))(p:Value)(N:Nat→Prop)(w:World)(f:List Nat)(v:Value):Prop:=
 ∃g gi es clock since seen c0 zs fs,(v= .map (some g)∧p= .pointer (some ⟨gi,0,none⟩)∧f=gi::g::fs)∧(w.heap[gi]? =some (.mapIter (some g) since seen c0)∧w.heap[g]? =some (.map es clock))∧(Born es.toList clock∧(∀x∈es.toList,x.born<since)∧since≤c0∧since≤clock)∧
  m.Pairwise (fun p q=>p.1≠q.1)∧es.toList=zs.map (·.1)∧m=zs.map (·.2)∧left=(zs.filter fun z=> !seen.contains z.1.born).map (·.2)∧(∀c,cur=some c→∃z∈zs,z.2=c∧(∃s0:Array Nat,seen=s0.push z.1.born)∧c0=clock)∧ZR V k N w (QBk cn cur.isSome seen) zs fs
def itR (V:Vrl X)(k:Ty)(cn:Bool)(m left:List (k.Den×X))(cur:Option (k.Den×X))(p:Value):Rsc where
 rel:=ItP V k cn m left cur p
 fl:=V.fl
 keep:=fun ⟨g,gi,es,clock,since,seen,c0,zs,fs,⟨h1,h2,h3⟩,⟨h4,h5⟩,h6,h7,h8,h9,h10,h11,h12⟩ hf hN=>
  ⟨g,gi,es,clock,since,seen,c0,zs,fs,⟨h1,h2,h3⟩,⟨(hf gi (by rw[h3];simp)).trans h4,(hf g (by rw[h3];simp)).trans h5⟩,h6,h7,h8,h9,h10,h11,h12.keep (fun g' hg=>hf g' (by rw[h3];exact az _ (az _ hg))) hN⟩
 lt:=fun ⟨g,gi,es,clock,since,seen,c0,zs,fs,⟨h1,h2,h3⟩,⟨h4,h5⟩,h6,h7,h8,h9,h10,h11,h12⟩ g' hg=>by
  rw[h3] at hg
  rcases aK.1 hg with rfl|hg
  ·exact Ut h4
  ·rcases aK.1 hg with rfl|hg
   ·exact Ut h5
   ·exact h12.lt g' hg
 one:=fun ⟨g,gi,es,clock,since,seen,c0,zs,fs,⟨h1,h2,h3⟩,_⟩=>by rw[h1];rfl
 noN:=fun hv _ _ _ _ _ ⟨g,gi,es,clock,since,seen,c0,zs,fs,h1,h4,h6,h7,h8,h9,h10,h11,h12⟩=>⟨g,gi,es,clock,since,seen,c0,zs,fs,h1,h4,h6,h7,h8,h9,h10,h11,h12.noN hv⟩
end
section
variable {A:Amb}{P:Program}{s:St}{x y z:Operand}{d:Nat}{T T' ty:TypeId}{pos:String}{af:Array Edge}{g:Option (Nat×Bool)}{X:Type}{V:Vrl X}{k:Ty}{N N':Nat→Prop}{w w':World}
theorem MoP.take {E:TypeId}{e:Ty}{kt et:TypeId}{m:List (k.Den×List e.Den)}{f:List Nat}{v key:Value}{q:k.Den}(D:KeyL P kt false k)(hT:P.underlying T=some (.map kt et))(C:zer P et=some (.slice none 0 0))(h:MoP (vOw E e) k m none N w f v)(hk:KV false k key q)(U:f.Nodup):
 ∃u fq G,(Instr.lookup T v key false).run P w= .ok u w∧MoP (vOw E e) k m (some q) N w fq v∧Own (.sl E e) w G [u] ((YN k m q).getD [])∧fq.Nodup∧G.Nodup∧(∀g∈fq,g∈f∧g∉G)∧∀g∈G,g∈f:=by
 obtain ⟨g,es,i,zs,fs,rfl,rfl,I,h4,R,J,L,S⟩:=h
 obtain ⟨l,hl⟩:=D.rd _ _ hk
 obtain ⟨W,B⟩:=bP.1 U
 rcases S.find (P:=P) D hk with ⟨H,t⟩|⟨M,yb,z,H,t,h9,a0⟩
 ·have hm:∀p∈m,p.1≠q:=fun p hp=>by
   rw[L] at hp
   obtain ⟨z,C,rfl⟩:=aW.1 hp
   exact t z C
  have a:=Wc (w:=w) C
  refine ⟨.slice none 0 0,g::fs,[],?_,⟨g,es,i,zs,fs,rfl,rfl,I,h4,R,J,L,S.congr fun z C=> ?_⟩,?_,U,cv,fun o b=>⟨b,by simp⟩,by simp⟩
  ·rw[← J] at H
   simp[Instr.lookup,run_underlying hT,MapKept.run_getObj_map I,D.K.check w _ hl,H,a,Result.andThen]
  ·simp only[Qn3]
   have:k.beq z.2.1 q=false:=bT.2 fun e=>t z C ((k.beq_iff _ _).1 e)
   rw[this];rfl
  ·rw[Qam hm]
   exact .inl ⟨rfl,rfl,rfl⟩
 ·subst H
  obtain ⟨F,fb,rfl,k1,O,r,rfl,k2,Z,k4⟩:=S.app
  have hd:∀c∈M++yb,c.2.1≠q:=fun c a e=>by
   grind
  have cg:∀c∈M++yb,Qn3 (X:=List e.Den) none c=Qn3 (some q) c:=fun c a=>by
   simp only[Qn3]
   have:k.beq c.2.1 q=false:=bT.2 fun e=>hd c a ((k.beq_iff _ _).1 e)
   rw[this];rfl
  have Z:Own (.sl E e) w O [z.1.val] z.2.2:=Z
  have Y:(YN k m q).getD []=z.2.2:=by
   have:m[M.length]? =some z.2:=by rw[L,bl,bw (aP _)];simp
   rw[Jt R this h9];rfl
  have j:List.Sublist (g::(F++r)) (g::(F++(O++r))):=(List.Sublist.append (List.Sublist.refl _) (List.sublist_append_right ..)).cons_cons g
  refine ⟨z.1.val,g::(F++r),O,?_,⟨g,es,i,M++z::yb,F++r,rfl,rfl,I,h4,R,J,L,?_⟩,by rw[Y];exact Z,j.nodup U,?_,fun o b=>⟨j.subset b,fun n=> ?_⟩,fun o b=> ?_⟩
  ·rw[← J] at t
   simp[Instr.lookup,run_underlying hT,MapKept.run_getObj_map I,D.K.check w _ hl,t,Result.andThen]
  ·refine (k1.congr fun c a=>cg c (aU _ a)).join ⟨[],r,rfl,k2,?_,k4.congr fun c a=>cg c (bd _ a)⟩
   simp[Qn3,(k.beq_iff _ _).2 h9]
  ·exact (bz.1 (bz.1 B).2.1).1
  ·rcases aK.1 b with rfl|b
   ·exact W (bd _ (aU _ n))
   ·obtain ⟨_,n2,n3⟩:=bz.1 B
    obtain ⟨_,_,n5⟩:=bz.1 n2
    rcases aO.1 b with b|b
    ·exact n3 o b o (aU _ n) rfl
    ·exact n5 o n o b rfl
  ·exact az _ (bd _ (aU _ b))
def upd {α:Type}(f:Nat→α)(q:Nat)(x:α):Nat→α:=fun u=>if u=q then x else f u
def Yo {α:Type}(f:Nat→α)(q:Nat)(x:α):upd f q x q=x:=if_pos rfl
def VL {α:Type}(f:Nat→α){q u:Nat}(x:α)(h:u≠q):upd f q x u=f u:=if_neg h
def Rg.part {gh:Gh}{a:Act}{w w':World}(r:Rg A s gh a w){q t:Nat}{H:Ent}{R:Rsc}{E:TypeId}{e:Ty}{xs:List e.Den}{u:Value}{fq b:List Nat}(L:s.tab.ent q=some H)(D:Fresh s t)(M:A.k0≤t)(i:Grw w w')(hb:∀g,g<w.heap.size→g∉gh.f q→w'.heap[g]? =w.heap[g]?)
 (h1:R.rel gh.N w' fq (gh.h q)) (h2:Own (.sl E e) w' b [u] xs) (n1:fq.Nodup) (n2:b.Nodup) (i1:∀g∈fq,g∈gh.f q∧g∉b) (i2:∀g∈b,g∈gh.f q):
 Rg A ⟨s.tm,(q,some (.res R))::(t,some (.arr E e xs))::s.tab⟩ ⟨upd gh.h t u,upd (upd gh.f t b) q fq,gh.N⟩ a w':=by
 have F:s.tab.al q:=⟨H,L⟩
 have m:q≠t:=fun h=>D.al (h▸F)
 refine r.redo (fun v=>v=q∨v=t) rfl (fun v B=> ?_) (fun v W B c=> ?_) (fun v U B G _ _ J g o p=> ?_) i fun g O S=>hb g O (S q (.inl rfl) F)
 ·have j:v≠q:=fun h=>B (.inl h)
  have C:v≠t:=fun h=>B (.inr h)
  refine ⟨by rw[Qi,if_neg j,Qi,if_neg C],VL _ _ C,?_⟩
  show upd (upd gh.f t b) q fq v=_
  rw[VL _ _ j,VL _ _ C]
 ·rw[Qi] at c
  by_cases j:v=q
  ·subst j
   rw[if_pos rfl] at c
   cases c
   refine ⟨fun K=> ?_,?_,fun g i=> .inr ⟨v,.inl rfl,F,?_⟩,.inl ⟨F,VL _ _ m⟩⟩
   ·show R.rel gh.N w' (upd (upd gh.f t b) v fq v) (upd gh.h t u v)
    rw[Yo,VL _ _ m];exact h1
   ·show (upd (upd gh.f t b) v fq v).Nodup
    rw[Yo];exact n1
   ·have i:g∈upd (upd gh.f t b) v fq v:=i
    rw[Yo] at i
    exact (i1 g i).1
  ·have C:v=t:=B.resolve_left j
   subst C
   rw[if_neg j,Qi,if_pos rfl] at c
   cases c
   have n:upd (upd gh.f v b) q fq v=b:=by rw[VL _ _ j,Yo]
   refine ⟨fun K=> ?_,?_,fun g i=> .inr ⟨q,.inl rfl,F,?_⟩,.inr ⟨D,M⟩⟩
   ·show Own (.sl E e) w' (upd (upd gh.f v b) q fq v) [upd gh.h v u v] xs
    rw[n,Yo];exact h2
   ·show (upd (upd gh.f v b) q fq v).Nodup
    rw[n];exact n2
   ·have i:g∈upd (upd gh.f v b) q fq v:=i
    rw[n] at i
    exact i2 g i
 ·have n:upd (upd gh.f t b) q fq t=b:=by rw[VL _ _ m.symm,Yo]
  have I:upd (upd gh.f t b) q fq q=fq:=Yo ..
  have o:g∈upd (upd gh.f t b) q fq v:=o
  have p:g∈upd (upd gh.f t b) q fq U:=p
  rcases B with rfl|rfl <;> rcases G with rfl|rfl
  ·exact J rfl
  ·rw[I] at o;rw[n] at p;exact (i1 g o).2 p
  ·rw[n] at o;rw[I] at p;exact (i1 g p).2 o
  ·exact J rfl
end
section
variable {A:Amb}{P:Program}{s:St}{x y z:Operand}{d:Nat}{T T' ty:TypeId}{pos:String}{af:Array Edge}{g:Option (Nat×Bool)}{X:Type}{V:Vrl X}{k:Ty}{N N':Nat→Prop}{w w':World}
theorem Rg.join2 {gh:Gh}{a:Act}{w w':World}(r:Rg A s gh a w){q t:Nat}{B C:Ent}{R:Rsc}{fq:List Nat}(G:s.tab.ent q=some B)(K:s.tab.ent t=some C)(J:q≠t)(i:Grw w w')(hb:∀g,g<w.heap.size→g∉gh.f q→w'.heap[g]? =w.heap[g]?)
 (h1:R.rel gh.N w' fq (gh.h q)) (n1:fq.Nodup) (i1:∀g∈fq,g∈gh.f q∨g∈gh.f t):Rg A ⟨s.tm,(q,some (.res R))::(t,none)::s.tab⟩ ⟨gh.h,upd gh.f q fq,gh.N⟩ a w':=by
 have o:s.tab.al q:=⟨B,G⟩
 have p:s.tab.al t:=⟨C,K⟩
 have b:∀v,Tab.al ((q,some (.res R))::(t,none)::s.tab) v→v≠t:=fun v ⟨x,D⟩ e=>by
  grind [Qi]
 refine r.redo (fun v=>v=q∨v=t) rfl (fun v j=> ?_) (fun v O j c=> ?_) (fun v L j u E n I g S U=> ?_) i fun g H D=>hb g H (D q (.inl rfl) o)
 ·have m:v≠q:=fun h=>j (.inl h)
  have F:v≠t:=fun h=>j (.inr h)
  exact ⟨by rw[Qi,if_neg m,Qi,if_neg F],rfl,VL _ _ m⟩
 ·have m:v=q:=j.resolve_right (b v ⟨_,c⟩)
  subst m
  rw[Qi,if_pos rfl] at c
  cases c
  refine ⟨fun M=> ?_,?_,fun g i=> .inr ?_,.inl ⟨o,rfl⟩⟩
  ·show R.rel gh.N w' (upd gh.f v fq v) (gh.h v)
   rw[Yo];exact h1
  ·show (upd gh.f v fq v).Nodup
   rw[Yo];exact n1
  ·have i:g∈upd gh.f v fq v:=i
   rw[Yo] at i
   rcases i1 g i with h|h
   ·exact ⟨v,.inl rfl,o,h⟩
   ·exact ⟨t,.inr rfl,p,h⟩
 ·exact I ((j.resolve_right (b v E)).trans (u.resolve_right (b L n)).symm)
end
section
variable {A:Amb}{P:Program}{s:St}{x y z:Operand}{d:Nat}{T T' ty:TypeId}{pos:String}{af:Array Edge}{g:Option (Nat×Bool)}{X:Type}{V:Vrl X}{k:Ty}{N N':Nat→Prop}{w w':World}{ops:Array Oper}{l:List Oper}{Q:Exit→St→Prop}
def Rg.turn {gh:Gh}{a:Act}{w w':World}(r:Rg A s gh a w){q:Nat}{n e:Ent}{fq:List Nat}(p:s.tab.ent q=some n)(b:Grw w w')(hb:∀g,g<w.heap.size→g∉gh.f q→w'.heap[g]? =w.heap[g]?)
 (h1:∀al,EntR al ⟨gh.h,upd gh.f q fq,gh.N⟩ w' q e) (n1:fq.Nodup) (i1:∀g∈fq,w.heap.size≤g∨g∈gh.f q):Rg A ⟨s.tm,(q,some e)::s.tab⟩ ⟨gh.h,upd gh.f q fq,gh.N⟩ a w':=by
 have j:s.tab.al q:=⟨n,p⟩
 refine r.redo (fun v=>v=q) rfl (fun v c=>⟨by rw[Qi,if_neg c],rfl,VL _ _ c⟩) (fun v D c i=> ?_) (fun v E c m C o u=>absurd (c.trans m.symm) u) b fun g t B=>hb g t (B q rfl j)
 subst c
 rw[Qi,if_pos rfl] at i
 cases i
 refine ⟨h1,?_,fun g b=> ?_,.inl ⟨j,rfl⟩⟩
 ·show (upd gh.f v fq v).Nodup
  rw[Yo];exact n1
 ·have b:g∈upd gh.f v fq v:=b
  rw[Yo] at b
  exact (i1 g b).imp id fun h=>⟨v,rfl,j,h⟩
def QCb (D:Bool){q:Nat}{m:List (k.Den×X)}{kt et:TypeId}(S:P.underlying T=some (.map kt et))(Z:Evl A s x (.ref q))(t:s.tab.ent q=some (.res (moR V k m none)))(W:Nat.blt d A.n=true)
 (k1:∀p:Value,AL A P ops l Q ⟨(d,lf (.val p))::s.tm,(q,some (.res (itR V k D m m none p)))::s.tab⟩):AL A P ops (⟨some d,.range T x,ty,pos,af,none⟩::l) Q s:=fun a w r=>wpList_plain rfl fun _ R=>by
 obtain ⟨v,r⟩:=r
 have Y:a.eval x=v.h q:=Z v a w r ⟨_,t⟩
 obtain ⟨g,E,b,zs,K,F,G,B,I,L,M,H,O⟩:=r.cx.en q _ t
 have J:(execOp a.eval ⟨some d,.range T x,ty,pos,af,none⟩).run P w= .ok (.value (.pointer (some ⟨w.heap.size,0,none⟩))) (w.alloc (.mapIter (some g) b #[] b)):=by
  simp only[execOp,Y,F,aw,run_range_map w T kt et g E b S B]
  simp
 unfold Oper.wp
 rw[J,Oper.upon_value]
 have C:=Ut B
 have u:∀i∈v.f q,i<w.heap.size:=r.cx.lt ⟨_,t⟩
 have o:∀i,i<w.heap.size→(w.alloc (.mapIter (some g) b #[] b)).heap[i]? =w.heap[i]? :=fun i j=>Below.heap_alloc w _ i j
 refine R _ _ (k1 _ _ _ ⟨_,(r.turn (w':=w.alloc (.mapIter (some g) b #[] b)) (fq:=w.heap.size::v.f q) (e:= .res (itR V k D m m none (.pointer (some ⟨w.heap.size,0,none⟩)))) t ⟨rfl,rfl,rfl,by simp⟩ (fun i j _=>o i j) (fun al=> ?_) (bP.2 ⟨fun h=>Nat.lt_irrefl _ (u _ h),r.cx.nd q ⟨_,t⟩⟩) (fun i j=> ?_)).put (aD W) (pv:=lf (.val _)) ⟨_,rfl,rfl⟩⟩)
 ·refine ⟨g,w.heap.size,E,b,b,#[],b,zs,K,⟨F,rfl,(Yo ..).trans (by rw[G])⟩,⟨heap_alloc_new w _,(o g C).trans B⟩,⟨I,I.1,aP _,aP _⟩,L,M,H,?_,(fun c U=>by cases U),(O.keep (fun i j=>o i (u i (by rw[G];exact az _ j))) fun i j=>⟨j,o i (r.cx.nl i j)⟩).congr fun z _=> ?_⟩
  ·rw[H];refine congrArg _ (dr.2 fun z _=> ?_).symm;simp
  ·simp[Qn3,QBk]
 ·rcases aK.1 j with rfl|j
  ·exact .inl (aP _)
  ·exact .inr j
end
section
variable {A:Amb}{P:Program}{s:St}{x y z:Operand}{d:Nat}{T T' ty:TypeId}{pos:String}{af:Array Edge}{g:Option (Nat×Bool)}{X:Type}{V:Vrl X}{k:Ty}{N N':Nat→Prop}{w w':World}{ops:Array Oper}{l:List Oper}{Q:Exit→St→Prop}
theorem Qio {a:Array Nat}{b c:Nat}:(a.push b).contains c=(a.contains c||b==c):=by
 grind
def QrF {zs:List (MapEntry×k.Den×X)}{a:Array Nat}{e:MapEntry}(F:((zs.map (·.1)).map (·.born)).Nodup)(D:e∈(zs.map (·.1)).filter fun e=> !a.contains e.born):
 ∃z n o,z∈zs∧z.1=e∧a.contains e.born=false∧(zs.filter fun z=> !a.contains z.1.born).map (·.2)=n++z.2::o∧(zs.filter fun z=> !(a.push e.born).contains z.1.born).map (·.2)=n++o:=by
 obtain ⟨u,i⟩:=bA.1 D
 obtain ⟨z,m,rfl⟩:=aW.1 u
 have i:a.contains z.1.born=false:=by simpa using i
 have E:z∈zs.filter fun z=> !a.contains z.1.born:=bA.2 ⟨m,by rw[i];rfl⟩
 obtain ⟨p,q,j⟩:=List.append_of_mem E
 refine ⟨z,p.map (·.2),q.map (·.2),m,rfl,i,by rw[j];simp,?_⟩
 have r:(zs.filter fun b=> !(a.push z.1.born).contains b.1.born)=(zs.filter fun z=> !a.contains z.1.born).filter fun b=> !(z.1.born==b.1.born):=by
  rw[List.filter_filter]
  congr 1
  funext b
  rw[Qio,Bool.not_or,Bool.and_comm]
 have h:(((p++z::q).map (·.1)).map (·.born)).Nodup:=by
  rw[← j]
  exact (((List.filter_sublist).map _).map _).nodup F
 rw[aT,aT,bU,bU,bz] at h
 obtain ⟨_,v,B⟩:=h
 obtain ⟨C,_⟩:=bP.1 v
 rw[r,j,bg,dn]
 have t:(!(z.1.born==z.1.born))=false:=by simp
 rw[t]
 rw[dr.2 fun b c=> ?_,if_neg (by decide),dr.2 fun b c=> ?_,aT]
 ·have:z.1.born≠b.1.born:=fun e=>C (by rw[e];exact aW.2 ⟨b.1,aW.2 ⟨b,c,rfl⟩,rfl⟩)
  simpa using this
 ·have:b.1.born≠z.1.born:=B _ (aW.2 ⟨b.1,aW.2 ⟨b,c,rfl⟩,rfl⟩) _ (aA ..)
  simpa using fun e=>this e.symm
def QE1 {q:Nat}{K:Bool}{m left:List (k.Den×X)}{cur:Option (k.Den×X)}{p:Value}(hx:Evl A s x (.val p))(D:s.tab.ent q=some (.res (itR V k K m left cur p)))(hc:K=false∨cur=none)(hn:Nat.blt d A.n=true)
 (k0:left=[]→AL A P ops l Q (s.put d (.tup [(false,[dB false])])))
 (k1:∀(ky vl:Value) (I:List (k.Den×X)) (c:k.Den×X) (J:List (k.Den×X)),left=I++c::J→AL A P ops l Q ⟨(d,.tup [(false,[dB true]),(false,[.val ky]),(false,[.val vl])])::s.tm,(q,some (.res (itR V k K m (I++J) (some c) p)))::s.tab⟩):AL A P ops (⟨some d,.next x false,ty,pos,af,none⟩::l) Q s:=fun a w r=>wpList_plain rfl fun _ hK=>by
 obtain ⟨L,r⟩:=r
 have hv:a.eval x=p:=hx L a w r
 obtain ⟨g,j,U,h,i,b,c0,zs,fs,⟨h1,Y,Z⟩,⟨h4,h5⟩,⟨h6,G,a3,H⟩,h7,h8,h9,C,a4,W⟩:=r.cx.en q _ D
 have F:(leftOf U b).toList=(zs.map (·.1)).filter fun e=> !b.contains e.born:=by rw[← h8];simp[leftOf]
 rcases run_next_at (P:=P) w ty j g i c0 b U h h4 h5 G a3 with ⟨M,O⟩|⟨e,M,B,O,j3⟩
 ·have R:(execOp a.eval ⟨some d,.next x false,ty,pos,af,none⟩).run P w= .ok (.value (.tuple #[.bool false])) w:=by
   simp only[execOp,hv,Y,aw,O]
   simp
  unfold Oper.wp
  rw[R,Oper.upon_value]
  refine hK _ _ (k0 ?_ _ _ ⟨L,r.put (aD hn) (pv:= .tup [(false,[dB false])]) ⟨_,rfl,_,_,rfl,⟨_,rfl,ZY⟩,rfl⟩⟩)
  have:((zs.map (·.1)).filter fun e=> !b.contains e.born)=[]:=by rw[← F];exact bF (by simpa using M)
  rw[C]
  rw[List.filter_map,List.map_eq_nil_iff] at this
  rw[List.map_eq_nil_iff]
  exact this
 ·rw[F] at M
  obtain ⟨z,I,J,hz,e2,e3,e4,e5⟩:=QrF (by rw[← h8];exact h6.2) M
  have R:(execOp a.eval ⟨some d,.next x false,ty,pos,af,none⟩).run P w= .ok (.value (.tuple #[.bool true,e.key,e.val])) (setBlock B j (.mapIter (some g) i (b.push e.born) h)):=by
   simp only[execOp,hv,Y,aw,j3]
   simp
  unfold Oper.wp
  rw[R,Oper.upon_value]
  have hh:B.heap=w.heap:=by rcases O with rfl|rfl <;> rfl
  have a1:Grw w (setBlock B j (.mapIter (some g) i (b.push e.born) h)):=by
   have hs:w.heap.size≤(B.heap.setIfInBounds j (.mapIter (some g) i (b.push e.born) h)).size:=by rw[Array.size_setIfInBounds,hh];exact aP _
   rcases O with rfl|rfl <;> exact ⟨rfl,rfl,rfl,hs⟩
  have t:∀o,o≠j→(setBlock B j (.mapIter (some g) i (b.push e.born) h)).heap[o]? =w.heap[o]? :=fun o a2=>by
   show (B.heap.setIfInBounds j _)[o]? =_
   rw[hh];exact Array.getElem?_setIfInBounds_ne fun e=>a2 e.symm
  have v:=r.cx.nd q ⟨_,D⟩
  have E:j∈L.f q:=by rw[Z];exact aA ..
  rw[Z] at v
  have a0:g≠j:=fun e=>(bP.1 v).1 (by rw[e];exact aA ..)
  refine hK _ _ (k1 e.key e.val I z.2 J (C.trans e4) _ _ ⟨_,(r.turn (fq:=L.f q) (e:= .res (itR V k K m (I++J) (some z.2) p)) D a1 (fun o _ u=>t o fun e=>u (e▸E)) (fun al=> ?_) (r.cx.nd q ⟨_,D⟩) (fun o u=> .inr u)).put (aD hn) (pv:= .tup [(false,[dB true]),(false,[.val e.key]),(false,[.val e.val])]) ⟨_,rfl,_,_,rfl,⟨_,rfl,ZY⟩,_,_,rfl,⟨_,rfl,rfl⟩,_,_,rfl,⟨_,rfl,rfl⟩,rfl⟩⟩)
  refine ⟨g,j,U,h,i,b.push e.born,h,zs,fs,⟨h1,Y,(Yo ..).trans Z⟩,⟨?_,(t g a0).trans h5⟩,⟨h6,G,H,H⟩,h7,h8,h9,e5.symm,fun c hc=> ?_,(W.keep (fun o u=>t o fun e=> ?_) fun o u=>⟨u,t o fun e=>r.cx.no q ⟨_,D⟩ j E (e▸u)⟩).congr fun z' a5=> ?_⟩
  ·show (B.heap.setIfInBounds j _)[j]? =_
   rw[hh];simp[Ut h4]
  ·cases hc;exact ⟨z,hz,rfl,⟨b,by rw[e2]⟩,rfl⟩
  ·exact (bP.1 v).1 (e▸az _ u)
  ·simp only[QBk,Option.isSome_some,Bool.true_and,Array.back?_push]
   rcases hc with rfl|rfl
   ·rfl
   ·simp only[Option.isSome_none,Bool.false_and,Bool.or_false,Qio]
    by_cases S:e.born=z'.1.born
    ·rw[← S,e3];simp
    ·have:(e.born==z'.1.born)=false:=by simpa using S
     simp[this,S]
end
section
variable {A:Amb}{P:Program}{s:St}{x y z:Operand}{d:Nat}{T T' ty:TypeId}{pos:String}{af:Array Edge}{g:Option (Nat×Bool)}{X:Type}{V:Vrl X}{k:Ty}{N N':Nat→Prop}{w w':World}
end
def QFd {A:Amb}{s s':St}(k:∀i pv,lk s'.tm i=some pv→lk s.tm i=some pv)(f:∀q,s'.tab.ent q=s.tab.ent q):Wk A s s':=fun a w ⟨g,r⟩=>by
 have b:s'.tab.al=s.tab.al:=funext fun q=>by unfold Tab.al;rw[f]
 refine ⟨g,⟨fun q e h=> ?_,fun q l c d=> ?_,fun q h=> ?_,fun q h=> ?_,r.cx.nl⟩,r.sz,r.df,fun i pv h=> ?_,r.gw,r.kp,r.fr,fun q h=> ?_,fun q j h=> ?_,r.xn⟩
 ·rw[b];exact r.cx.en q e (by rw[← f];exact h)
 ·rw[b] at c d;exact r.cx.dj q l c d
 ·rw[b] at h;exact r.cx.nd q h
 ·rw[b] at h;exact r.cx.no q h
 ·rw[b];exact r.tm i pv (k i pv h)
 ·rw[b] at h;exact r.ox q h
 ·rw[b] at h;exact r.hh q j h
def QlK {A:Amb}{P:Program}{s:St}{d:Nat}{x:Operand}{T ty:TypeId}{l:String}{p:Array Edge}{g:Option (Nat×Bool)}{q i j n:Nat}{E:TypeId}{e t:Ty}{xs:List e.Den}{z:e.Den}{k:t.Den}(K:Evl A s x (.ept q e.wd i j))(o:s.tab.ent q=some (.arr E e xs))(L:xs[i]? =some z)(J:t.flat=true)(H:tsh P T=some (false,n))
 (hl:(leaves e z)[j]? =some (.dat t k)) (hn:Nat.blt d A.n=true):Does A P ⟨some d,.load T x,ty,l,p,g⟩ s (s.put d (lf (.dat t k))):=
 Qk rfl hn fun b a w r=>by
  obtain ⟨g,m,c,B,C⟩:=K b a w r ⟨_,o⟩
  obtain ⟨u,y,Q,R,S,U,M,O⟩:=Qda r o L B
  obtain ⟨v,D,F⟩:=(Rd.leaves (al:=s.tab.al) (gh:=⟨b.h,b.f,fun _=>True⟩) (w:=w) (Rep.rd M fun _ _=>trivial)).nth hl
  have G:Rd _ t w [v] k:=F
  refine ⟨v,?_,_,rfl,(G.rep.rd0 J:Rd b.N t w [v] k)⟩
  have I:=O j v D
  simp only[execOp,C,Instr.loadAt,Instr.sureAddr,aw,be,aF,Yl H _ v I]
section
variable {A:Amb}{P:Program}{s:St}{x y:Operand}{d:Nat}{T T' ty:TypeId}{pos:String}{af:Array Edge}{g:Option (Nat×Bool)}
variable {E:TypeId}{e:Ty}{xs:List e.Den}{q lo n:Nat}
def SubR.all {h:Value}{w:World}{fp:List Nat}{k:Nat}(j:Own (.sl E e) w fp [h] xs):SubR h k 0 xs.length h:=by
 rcases j with ⟨_,a,i⟩|⟨b,c,f,fps,_,a,_⟩
 ·subst i
  simp only[aN,and_true] at a
  exact ⟨none,0,0,a,by rw[a];rfl⟩
 ·simp only[aN,and_true] at a
  refine ⟨some ⟨b,0,none⟩,xs.length,c,a,?_⟩
  rw[a]
  congr 1
  split
  ·rfl
  ·simp[Addr.add_lit]
def SubR.rep {h v:Value}{w:World}{fp:List Nat}(b:Own (.sl E e) w fp [h] xs)(f:SubR h e.wd lo n v)(hb:lo+n≤xs.length):Rep (.sl E e) w [v] ((xs.take (lo+n)).drop lo):=by
 obtain ⟨B,m,c,rfl,rfl⟩:=f
 have a:=b.rep
 obtain ⟨i,j,k,_⟩:=a
 have a:=b.rep
 simp only[aN,Value.slice.injEq,and_true] at k
 obtain ⟨rfl,rfl,rfl⟩:=k
 have:=a.part (lo:=lo) (hi:=lo+n) (by omega) hb
 rwa [bE] at this
def Wt {lo hi:Option Operand}{l h:Option Int}{t:Bool}(F:Evl A s x (.ref q))(o:s.tab.ent q=some (.arr E e xs))(k:opI A s lo l)(j:opI A s hi h){E':TypeId}(z:P.underlying T=some (.slice E'))(u:tsh P E'=some (t,e.wd))(C:Nat.blt d A.n=true)
 (h0:0≤l.getD 0) (h1:l.getD 0≤h.getD xs.length) (h2:h.getD xs.length≤xs.length) {a b:Nat} (ha:a=(l.getD 0).toNat) (hb:b=(h.getD xs.length).toNat - (l.getD 0).toNat):Does A P ⟨some d,.slice T x lo hi none,ty,pos,af,g⟩ s (s.put d (lf (.sub q e.wd a b))):=
 Qk rfl C fun i m w r=>by
  subst ha hb
  have D:m.eval x=i.h q:=F i m w r ⟨_,o⟩
  have v:Own (.sl E e) w (i.f q) [i.h q] xs:=r.cx.en q _ o
  obtain ⟨B,c,p,G,H⟩:=v.rep.slv
  refine ⟨_,?_,_,rfl,fun _=>⟨B,xs.length,c,p,rfl⟩⟩
  simp only[execOp,D,p,k.ev r,j.ev r,dR,Instr.sliceAt,Instr.slice,aw,run_underlying z,aF,VI h0 h1 h2 G,YD u]
  simp
def V7 (h:Evl A s x (.sub q e.wd lo n))(c:s.tab.ent q=some (.arr E e xs))(hb:lo+n≤xs.length):Qfl A s x (.sl E e) ((xs.take (lo+n)).drop lo):=fun b a w r=>by
 have i:Own (.sl E e) w (b.f q) [b.h q] xs:=r.cx.en q _ c
 exact (h b a w r ⟨_,c⟩).rep i hb
def cpy {α:Type}(xs:List α)(lo n:Nat)(ys:List α):List α:=xs.take lo++ys.take (min ys.length n)++xs.drop (lo+min ys.length n)
def QiS {α:Type}{xs:List α}{lo n:Nat}{ys:List α}(h:lo+n≤xs.length):(cpy xs lo n ys).length=xs.length:=by
 simp[cpy];omega
def Qlv {α:Type}{l:List α}{len lo:Nat}{cs:List α}(h:lo+cs.length≤len)(b:len≤l.length):(l.take lo++cs++l.drop (lo+cs.length)).take len=(l.take len).take lo++cs++(l.take len).drop (lo+cs.length):=by
 have a:(l.take lo++cs).length=lo+cs.length:=by simp;omega
 rw[List.take_append,aJ (by omega),a,List.take_take,dt (by omega),List.drop_take]
def OwnL.fp0 {w:World}(a:e.flat=true):∀{xs:List e.Den} {fp:List Nat} {cs:List Value},OwnL (Own e w) fp cs xs→fp=[]
 | [],_,_,h=>h.1
 | _::_,_,_,⟨f1,f2,c1,c2,h1,h2,h3,h4⟩=>by rw[h1,HL a h3,OwnL.fp0 a h4];rfl
def OwnL.takeN {w:World}(i:e.wd=1)(b:e.flat=true):∀{xs:List e.Den} {fp:List Nat} {cs:List Value} (k:Nat),OwnL (Own e w) fp cs xs→OwnL (Own e w) [] (cs.take k) (xs.take k)
 | [],_,_,k,h=>by rw[h.2];simp[OwnL]
 | x::xs,_,_,0,_=>by simp[OwnL]
 | x::xs,_,_,k+1,⟨f1,f2,c1,c2,h1,h2,h3,h4⟩=>by
  have f:=h3.len
  rw[i] at f
  have a:=HL b h3
  subst a
  match c1,f with
  | [c],_=>
   rw[h2]
   exact ⟨[],[],[c],c2.take k,rfl,rfl,h3,OwnL.takeN i b k h4⟩
def OwnL.dropN {w:World}(f:e.wd=1)(a:e.flat=true):∀{xs:List e.Den} {fp:List Nat} {cs:List Value} (k:Nat),OwnL (Own e w) fp cs xs→OwnL (Own e w) [] (cs.drop k) (xs.drop k)
 | [],_,_,k,h=>by rw[h.2];simp[OwnL]
 | x::xs,_,_,0,h=>by have:=h.fp0 a;subst this;exact h
 | x::xs,_,_,k+1,⟨f1,f2,c1,c2,h1,h2,h3,h4⟩=>by
  have b:=h3.len
  rw[f] at b
  match c1,b with
  | [c],_=>
   rw[h2]
   exact OwnL.dropN f a k h4
def Qhr {w:World}{dT sT ty c:TypeId}{b o dLen dCap:Nat}{a:Addr}{sLen sCap:Nat}{cur:Array Value}{cs:List Value}(p:P.underlying dT=some (.slice c))(k:(P.info? c).map (·.size)=some 1)
 (hg:w.heap[b]? =some (.cells cur E (0,0))) (hn:cs.length=Nat.min sLen dLen) (hsrc:∀j v,cs[j]? =some v→w.cell? (a.add j)=some v) (hfit:o+cs.length≤cur.size) (h1:∀v∈cs,v.oneCell'=true):
 (Builtin.copy_ #[dT,sT] ty #[.slice (some ⟨b,o,none⟩) dLen dCap,.slice (some a) sLen sCap]).run P w= .ok (goInt cs.length) (Wx w b o cs):=by
 have m:=run_loadCells_list (P:=P) w a cs hsrc
 have h:=H2 (P:=P) (b:=b) (E:=E) cs o 0 w cur hg (by omega) h1
 cases f:P.info? c with
 | none=>simp[f] at k
 | some i=>
  have l:i.size=1:=by simpa [f] using k
  simp[Builtin.copy_,run_underlying p,Builtin.lenOf,Builtin.firstCells,sizeOf,typeInfo,f,l,← hn,m,h]
def QsT (A:Amb)(s:St)(x:Operand)(q wd lo n:Nat):Prop:=∀gh a w,Rg A s gh a w→SubR (gh.h q) wd lo n (a.eval x)
def QsJ (h:Evl A s x (.sub q e.wd lo n))(c:s.tab.ent q=some (.arr E e xs)):QsT A s x q e.wd lo n:=fun b a w r=>h b a w r ⟨_,c⟩
def QsI (h:Evl A s x (.ref q))(c:s.tab.ent q=some (.arr E e xs)):QsT A s x q e.wd 0 xs.length:=fun b a w r=>by
 have i:Own (.sl E e) w (b.f q) [b.h q] xs:=r.cx.en q _ c
 rw[show a.eval x=b.h q from h b a w r ⟨_,c⟩]
 exact SubR.all i
def Qe9 {J N p:TypeId}{z:Value}{F:Nat}{ys:List e.Den}(hx:QsT A s x q e.wd lo n)(he:s.tab.ent q=some (.arr E e xs))(hb:lo+n≤xs.length)(hy:Qfl A s y (.sl E e) ys)(I:e.wd=1)(R:e.flat=true)
 (hu:P.underlying J=some (.slice p)) (hi:(P.info? p).map (fun i=>(i.zero,i.size,i.bytes))=some (some z,1,F)) (hn:Nat.blt d A.n=true):
 Does A P ⟨some d,.call ⟨.builtin .copy,#[x,y],#[J,N]⟩,ty,pos,af,g⟩ s ⟨(d,lf (dI (min ys.length n:Nat)))::s.tm,(q,some (.arr E e (cpy xs lo n ys)))::s.tab⟩:=fun a w K Q r hK=>by
 obtain ⟨L,r⟩:=r
 have hs:(P.info? p).map (·.size)=some 1:=by
  cases hq:P.info? p with
  | none=>rw[hq] at hi;simp at hi
  | some i=>rw[hq] at hi;simp at hi;simp[hi.2.1]
 have hO:Own (.sl E e) w (L.f q) [L.h q] xs:=r.cx.en q _ he
 have a0:=hO
 obtain ⟨B,m,c,q1,Z⟩:=hx L a w r
 have hr:=hy L a w r
 obtain ⟨A',c2,H,h3,h4⟩:=hr.slv
 obtain ⟨B0,c0,z1,z2,z3⟩:=hO.rep.slv
 have a7:(min ys.length n:Nat)≤9223372036854775807:=by unfold maxLen at z3;omega
 by_cases hz:min ys.length n=0
 ·have hc:cpy xs lo n ys=xs:=by simp[cpy,hz]
  have e0:(execOp a.eval ⟨some d,.call ⟨.builtin .copy,#[x,y],#[J,N]⟩,ty,pos,af,g⟩).run P w= .ok (.value (goInt ((min ys.length n:Nat):Int))) w:=by
   have V:=run_copy_none (P:=P) w J N ty p (if c=lo then B else B.map (·.add (lo*e.wd))) A' n (c - lo) ys.length c2 hu hs hz
   rw[hz]
   simp only[execOp,resolve,invoke,builtin,Z,H,aw,be,aF,List.map_toArray,bU,List.map_nil,V]
   rfl
  unfold Oper.wp
  rw[e0,Oper.upon_value]
  refine hK _ _ ⟨L,Rg.put (s:=⟨s.tm,(q,some (.arr E e (cpy xs lo n ys)))::s.tab⟩) (r.mod he (ZN w) (fun _ _ _=>rfl) ?_) (aD hn) (pv:=lf (dI (min ys.length n:Nat))) ⟨_,rfl,YR (n:=((min ys.length n:Nat):Int)) (by omega)⟩⟩
  rw[hc]
  exact a0
 ·rcases hO with ⟨_,_,h⟩|⟨b,a5,u,fps,p2,X,p4,p5,p6,p7,Y⟩
  ·subst h;simp at hb;omega
  have a2:=Y.fp0 R
  subst a2
  simp only[aN,and_true] at X
  rw[q1] at X
  simp only[Value.slice.injEq] at X
  obtain ⟨rfl,rfl,rfl⟩:=X
  rw[if_neg (by omega)] at Z
  simp only[Option.map_some,Addr.add_lit,I,dU,bJ] at Z
  rw[H] at hr
  obtain ⟨_,S⟩:=hr.src (M:=0) R
  rcases S with ⟨_,h0⟩|⟨ad,k,rfl,⟨fp,n1,_,_⟩,n4⟩
  ·omega
  have a4:=n1.len
  rw[I,dU] at a4
  have n5:=n1.takeN I R (min ys.length n)
  have t:(k.take (min ys.length n)).length=min ys.length n:=by rw[au];omega
  have a6:u.size=c:=by rw[p7,I,dU]
  have V:=Qhr (P:=P) (w:=w) (dT:=J) (sT:=N) (ty:=ty) (o:=lo) (dCap:=c - lo) (sCap:=c2) (sLen:=ys.length) (dLen:=n) (a:=ad) (cs:=k.take (min ys.length n)) hu hs p4 t
   (fun j v W=>n4 j v (by rw[bf] at W;split at W;exact W;cases W)) (by rw[t];omega) (OwnL.one (fp:=[]) n5)
  have e0:(execOp a.eval ⟨some d,.call ⟨.builtin .copy,#[x,y],#[J,N]⟩,ty,pos,af,g⟩).run P w= .ok (.value (goInt ((min ys.length n:Nat):Int))) (Wx w b lo (k.take (min ys.length n))):=by
   rw[t] at V
   simp only[execOp,resolve,invoke,builtin,Z,H,aw,be,aF,List.map_toArray,bU,List.map_nil,V]
  unfold Oper.wp
  rw[e0,Oper.upon_value]
  obtain ⟨D,m1,m2,m3⟩:=Uw b E (0,0) (k.take (min ys.length n)) w lo u p4 (by rw[t];omega)
  refine hK _ _ ⟨L,Rg.put (s:=⟨s.tm,(q,some (.arr E e (cpy xs lo n ys)))::s.tab⟩) (r.mod he (KR w b lo _) (fun g0 _ a3=>Y9 w b lo _ g0 fun h=>a3 (by rw[p2,h];simp)) ?_) (aD hn) (pv:=lf (dI (min ys.length n:Nat))) ⟨_,rfl,YR (n:=((min ys.length n:Nat):Int)) (by omega)⟩⟩
  have O:=QiS (ys:=ys) hb
  refine .inr ⟨b,c,D,[],p2,by rw[q1,O],m1,by omega,p6,by rw[m2];exact p7,?_⟩
  rw[I,dU] at Y ⊢
  rw[O]
  have G:D.toList.take xs.length=(u.toList.take xs.length).take lo++k.take (min ys.length n)++(u.toList.take xs.length).drop (lo+min ys.length n):=by
   have h9:=Qlv (l:=u.toList) (len:=xs.length) (lo:=lo) (cs:=k.take (min ys.length n)) (by rw[t];omega) (by simp;omega)
   rw[m3,h9,t]
  rw[G]
  have C:∀{U:List Value} {zs:List e.Den},OwnL (Own e w) [] U zs→OwnL (Own e (Wx w b lo (k.take (min ys.length n)))) [] U zs:=fun h=>h.mono fun f c x a1 ho=>ho.keep fun g hg=>absurd (a1 g hg) (by simp)
  exact ((C (Y.takeN I R lo)).append (C n5)).append (C (Y.dropN I R (lo+min ys.length n)))
def QlP (i:Nat)(hi:lk s.tm i=some (lf (.ref q)))(p:s.tab.ent q=some (.arr E e xs)):Wk A s ⟨(i,lf (.dat (.sl E e) xs))::s.tm,(q,none)::s.tab⟩:=fun a w r=>by
 obtain ⟨m,r⟩:=r
 obtain ⟨v,H,l,z,I⟩:=r.tm i _ hi
 simp only[aN,and_true] at z
 subst z
 have J:v=m.h q:=I ⟨_,p⟩
 have B:Own (.sl E e) w (m.f q) [m.h q] xs:=r.cx.en q _ p
 have c:∀b,Tab.al ((q,none)::s.tab) b→b≠q∧s.tab.al b:=fun b ⟨t,h⟩=>by
  rw[Qi] at h
  by_cases o:b=q
  ·rw[if_pos o] at h;cases h
  ·rw[if_neg o] at h;exact ⟨o,t,h⟩
 have O:=r.step (T:=(q,none)::s.tab) (gh':=⟨m.h,m.f,fun g=>m.N g∨g∈m.f q⟩) (w':=w) ⟨fun b t h=> ?_,fun D F K L u=>r.cx.dj D F (c D K).2 (c F L).2 u,fun b h=>r.cx.nd b (c b h).2,fun b h g k j=> ?_,fun g j=> ?_⟩
  (fun b h=> .inl ⟨(c b h).2,rfl,fun _=>rfl⟩) (fun g k=>⟨.inl k,rfl⟩) (ZN w) (fun _ _ _=>rfl) (fun g j=> ?_) (fun b h g k=> .inr ⟨b,(c b h).2,k⟩)
 ·exact ⟨_,O.know H (pv:=lf (.dat (.sl E e) xs)) ⟨_,rfl,by rw[J];exact B.rd fun g k=> .inr k⟩⟩
 ·rw[Qi] at h
  by_cases o:b=q
  ·rw[if_pos o] at h;cases h
  ·rw[if_neg o] at h
   exact (r.cx.en b t h).mono (fun M _ G=>⟨(c M G).2,rfl⟩) (fun g k=>⟨.inl k,rfl⟩) rfl rfl fun _ _=>rfl
 ·rcases j with j|j
  ·exact r.cx.no b (c b h).2 g k j
  ·exact r.cx.dj b q (c b h).2 ⟨_,p⟩ (c b h).1 g k j
 ·rcases j with j|j
  ·exact r.cx.nl g j
  ·exact Own.lt B g j
 ·rcases j with j|j
  ·exact .inl j
  ·exact .inr (.inr ⟨q,⟨_,p⟩,j,fun C=>r.xn g C (r.ox q ⟨_,p⟩ g j C)⟩)
end
section
variable {A:Amb}{P:Program}{s:St}{x y z:Operand}{d:Nat}{T T' ty:TypeId}{pos:String}{af:Array Edge}{g:Option (Nat×Bool)}
def QFA (P:Program)(T:TypeId)(offs:List (Nat×Nat))(zs:List Value):Prop:=
 ∃fs,P.underlying T=some (.struct fs)∧(∀w,(fs.mapM fun (f:Field)=>do pure (f.offset,← sizeOf f.type)).run P w= .ok offs.toArray w)∧zer P T=some (.agg zs.toArray)
def Qqm (al:Nat→Prop)(gh:Gh)(w:World):∀zs:List Value,LVs al gh w (zs.map LV.val) zs
 | []=>rfl
 | z::zs=>⟨z,zs,rfl,rfl,Qqm al gh w zs⟩
theorem Qy5 {zs:List Value}{offs:List (Nat×Nat)}{f:Array (Nat×Operand)}{j:List (Bool×List LV)}{ls:List LV}(hb:QFA P T offs zs)(hv:EvL A s (f.toList.map (·.2)) j)(o:∀c∈j,QH s.tab c.2=true)
 (hf:QhW offs (zs.map LV.val) ((f.toList.map (·.1)).zip (j.map (·.2)))=some ls) (hn:Nat.blt d A.n=true):Does A P ⟨some d,.build T f,ty,pos,af,g⟩ s (s.put d (ag ls)):=
 Qk rfl hn fun D a w r=>by
  obtain ⟨fs,S,U,I⟩:=hb
  have F:=hv.cms r
  have Q:=F.len
  generalize O:(f.toList.map (·.2)).map a.eval=t at*
  have a0:f.toList.length=t.length:=by rw[← O];simp
  have m:∀(C:List (Bool×List LV)) (t:List Value),CmsR s.tab.al D w C t→(∀c∈C,QH s.tab c.2=true)→∀(i:Nat) (c:Bool×List LV) (v:Value),C[i]? =some c→t[i]? =some v→∃R,v.cells=R.toArray∧LVs s.tab.al D w c.2 R:=by
   intro C
   induction C with
   | nil=>intro t _ _ i c v h;simp at h
   | cons c C K=>
    rintro t ⟨v,M,rfl,G,L⟩ o i H v' B k
    cases i with
    | zero=>
     simp at B k
     subst B;subst k
     have B:=o c (aA ..)
     obtain ⟨b,ls⟩:=c
     exact CmR.cells G fun hb=>by
      subst hb
      obtain ⟨l,rfl,q1⟩:=G
      simp only[QH,cY] at B
      obtain ⟨I,V⟩:=Vf B
      exact q1.oneCell V I fun q ⟨e,Y⟩=>(r.cx.en q e Y).oneCell
    | succ i=>exact K M L (fun c B=>o c (az _ B)) i H v' (by simpa using B) (by simpa using k)
  have J:((f.toList.map (·.1)).zip (j.map (·.2))).length=t.length:=by rw[dx,aC,aC];omega
  obtain ⟨u,G,L⟩:=Qcm (al:=s.tab.al) (gh:=D) (w:=w) (cur:=zs.toArray) hf J.symm (fun i p v hp k=>by
   have Z:=cP.1 hp
   have N:=Z.2
   rw[bl] at N
   obtain ⟨H,W,X⟩:=cq.1 N
   rw[← X]
   exact m j t F o i H v W k) (by simpa using Qqm s.tab.al D w zs)
  refine ⟨.agg u,?_,u.toList,by simp,L⟩
  have hz:(((f.toList.map (·.1)).zip (j.map (·.2))).map (·.1)).zip t=(f.map fun p=>(p.1,a.eval p.2)).toList:=by
   rw[List.map_fst_zip (by rw[aC,aC];omega),da,← O,dL]
   generalize f.toList=pl
   induction pl with
   | nil=>rfl
   | cons p ps K=>simp[K]
  rw[hz] at G
  simp only[execOp,Instr.build,aw,Wc I,aF,run_underlying S,U,Value.cells]
  rw[G]
  simp
end
def QsP {A:Amb}{P:Program}{s:St}{fn:Func}(b:fn.results= #[]):Res A P fn s (.tup []):=fun c a w g=>by
 refine ⟨.tuple #[],?_,[],rfl,rfl⟩
 rw[Ux,b];simp[Vn,dY]
section
variable {A:Amb}{P:Program}{s:St}{x y z:Operand}{d:Nat}{T T' ty:TypeId}{pos:String}{af:Array Edge}{g:Option (Nat×Bool)}
variable {E:TypeId}{e:Ty}{xs:List e.Den}{q lo n:Nat}
end
end Go.Proofs.YtjfpbcmfbnnooaaGreat
