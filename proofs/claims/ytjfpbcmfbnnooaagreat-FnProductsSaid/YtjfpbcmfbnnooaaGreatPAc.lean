import Derived.Test.YtjfpbcmfbnnooaaGreatPApp
set_option linter.all false
namespace Go.Proofs.YtjfpbcmfbnnooaaGreat
open Go.RowKit Tryz
def gx {α:Type _}(l:List α)(k:Nat)(h:k<l.length:=by omega):∃z,l[k]? =some z:=⟨_,ak h⟩
def gs (l:BA)(k:Nat)(h:k<l.size:=by omega):∃z,l[k]? =some z:=⟨_,cJ l k h⟩
def Sub (N:Nat→Prop)(w wN:World):Prop:=∀a v,wN.cell? a=some v→N a.block∧w.cell? a=some v
def Rd (N:Nat→Prop)(t:Ty)(w:World)(cs:List Value)(x:t.Den):Prop:=∃wN,Sub N w wN∧Rep t wN cs x
section
variable {N N':Nat→Prop}{t:Ty}{w w' wN:World}{cs:List Value}{x:t.Den}
def Sub.mono (h:Sub N w wN)(k:∀g,N g→N' g∧w'.heap[g]? =w.heap[g]?):Sub N' w' wN:=
 fun a v e=>by
  obtain ⟨b,c⟩:=h a v e
  exact ⟨(k _ b).1,by rw[dl (k _ b).2];exact c⟩
def Rd.mono (h:Rd N t w cs x)(k:∀g,N g→N' g∧w'.heap[g]? =w.heap[g]?):Rd N' t w' cs x:=by
 obtain ⟨wN,a,b⟩:=h
 exact ⟨wN,a.mono k,b⟩
def Rd.rep (h:Rd N t w cs x):Rep t w cs x:=by
 obtain ⟨wN,b,c⟩:=h
 exact c.kp fun a v e=>(b a v e).2
def Rep.rd (h:Rep t w cs x)(b:∀g,g<w.heap.size→N g):Rd N t w cs x:=⟨w,fun a v e=>⟨b _ (World.block_lt_of_cell? w a e),e⟩,h⟩
theorem Ji (N:Nat→Prop)(w:World):∃c,Sub N w c∧∀g,N g→c.heap[g]? =w.heap[g]? :=by
 classical
 refine ⟨{w with heap:=w.heap.mapIdx fun g o=>if N g then o else .deferred none},fun a v e=> ?_,fun g d=> ?_⟩
 ·by_cases h:N a.block
  ·refine ⟨h,?_⟩
   rw[← e]
   simp only[World.cell?,Array.getElem?_mapIdx]
   cases w.heap[a.block]? with
   | none=>rfl
   | some o=>simp[h]
  ·exfalso
   simp only[World.cell?,Array.getElem?_mapIdx] at e
   grind
 ·grind
def Sub.kp {b:World}(h:Sub N w wN)(f:∀g,N g→b.heap[g]? =w.heap[g]?):Kp wN b:=fun a v e=>by
 obtain ⟨c,d⟩:=h a v e
 rw[dl (f _ c)];exact d
def Own.rd {fp:List Nat}(h:Own t w fp cs x)(c:∀g∈fp,N g):Rd N t w cs x:=by
 obtain ⟨e,a,b⟩:=Ji N w
 exact ⟨e,a,(h.keep fun g d=>b g (c g d)).rep⟩
end
def Rep.own0:∀{t:Ty} {w w':World} {cs:List Value} {x:t.Den},Rep t w cs x→t.flat=true→Own t w' [] cs x
 | .int,_,_,_,_,h,_=>⟨rfl,h.1,h.2⟩
 | .bool,_,_,_,_,h,_=>⟨rfl,h⟩
 | .str,_,_,_,_,h,_=>⟨rfl,h.1,h.2⟩
 | .u8,_,_,_,_,h,_=>⟨rfl,h⟩
 | .vl,_,_,_,_,h,_=>⟨rfl,h⟩
 | .sl _ _,_,_,_,_,_,c=>by cases c
 | .pr a b,w,w',_,_,⟨l,r,h1,h2,h3⟩,c=>by
  have c:(a.flat&&b.flat)=true:=c
  rw[aH] at c
  exact ⟨[],[],l,r,rfl,h1,Rep.own0 h2 c.1,Rep.own0 h3 c.2⟩
def Rep.rd0 {N:Nat→Prop}{t:Ty}{w w':World}{cs:List Value}{x:t.Den}(h:Rep t w cs x)(a:t.flat=true):Rd N t w' cs x:=
 (h.own0 (w':=w') a).rd (by simp)
def Rd.pr {N:Nat→Prop}{a b:Ty}{w:World}{l r:List Value}{x:a.Den}{y:b.Den}(h:Rd N a w l x)(k:Rd N b w r y):Rd N (.pr a b) w (l++r) (x,y):=by
 obtain ⟨m,j,c⟩:=Ji N w
 obtain ⟨n,d,e⟩:=h
 obtain ⟨w2,f,i⟩:=k
 exact ⟨m,j,l,r,rfl,e.kp (d.kp c),i.kp (f.kp c)⟩
inductive LV where
  | val (v:Value)
  | dat (t:Ty) (x:t.Den)
  | ref (q:Nat)
  | ptr (q off:Nat)
  | ept (q wd i j:Nat)
  | sub (q wd lo n:Nat)
  | elt (t:Ty) (x:t.Den) (off:Nat)
  | clo (f:FuncId) (qs:List Nat)
inductive PV where
  | cm (b:Bool) (ls:List LV)
  | tup (cs:List (Bool×List LV))
@[reducible] def lf (l:LV):PV:= .cm false [l]
@[reducible] def ag (ls:List LV):PV:= .cm true ls
@[reducible] def dI (n:Int):LV:= .dat .int n
@[reducible] def dB (b:Bool):LV:= .dat .bool b
@[reducible] def dS (s:BA):LV:= .dat .str s
structure Rsc where
  rel:(Nat→Prop)→World→List Nat→Value→Prop
  fl:Bool
  keep:∀{N N':Nat→Prop} {w w':World} {f:List Nat} {v:Value},rel N w f v→(∀g∈f,w'.heap[g]? =w.heap[g]?)→(∀g,N g→N' g∧w'.heap[g]? =w.heap[g]?)→rel N' w' f v
  lt:∀{N:Nat→Prop} {w:World} {f:List Nat} {v:Value},rel N w f v→∀g∈f,g<w.heap.size
  one:∀{N:Nat→Prop} {w:World} {f:List Nat} {v:Value},rel N w f v→v.oneCell'=true
  noN:fl=true→∀{N N':Nat→Prop} {w:World} {f:List Nat} {v:Value},rel N w f v→rel N' w f v
inductive Ent where
  | box (E:TypeId) (cs:List LV)
  | arr (E:TypeId) (e:Ty) (xs:List e.Den)
  | obx (E:TypeId) (wd n:Nat) (ls:List LV) (ov:List (Nat×LV))
  | mp (kb:Bool) (k:Ty) (vb:Bool) (v:Ty) (m:List (k.Den×v.Den))
  | bys (E:TypeId) (l:List UInt8)
  | pl (o:Bool) (e:Ty) (vs:List Hdr) (f:Hdr→e.Den)
  | fz (E:TypeId) (e:Ty) (xs:List e.Den)
  | res (R:Rsc)
@[reducible] def Tab:=List (Nat×Option Ent)
structure St where
  tm:List (Nat×PV)
  tab:Tab
structure Gh where
  h:Nat→Value
  f:Nat→List Nat
  N:Nat→Prop
def lk {α:Type _}:List (Nat×α)→Nat→Option α
 | [],_=>none
 | (j,x)::l,i=>match Nat.beq i j with
  | true=>some x
  | false=>lk l i
theorem UW {α:Type _}(j:Nat)(x:α)(l:List (Nat×α))(i:Nat):lk ((j,x)::l) i=if i=j then some x else lk l i:=by
 by_cases h:i=j
 ·subst h;simp[lk]
 ·have:Nat.beq i j=false:=by
   cases a:Nat.beq i j with
   | true=>exact absurd (aZ a) h
   | false=>rfl
  simp[lk,this,h]
def Tab.ent (T:Tab)(q:Nat):Option Ent:=match lk T q with
 | some (some e)=>some e
 | _=>none
theorem Qi (j:Nat)(x:Option Ent)(T:Tab)(q:Nat):Tab.ent ((j,x)::T) q=if q=j then x else T.ent q:=by
 unfold Tab.ent
 rw[UW]
 by_cases h:q=j
 ·simp[h];cases x <;> rfl
 ·simp[h]
def Tab.al (T:Tab)(q:Nat):Prop:=∃e,T.ent q=some e
def LV.tags:LV→List Nat
 | .ref q=>[q]
 | .ptr q _=>[q]
 | .ept q _ _ _=>[q]
 | .sub q _ _ _=>[q]
 | .clo _ qs=>qs
 | .val _=>[]
 | .dat _ _=>[]
 | .elt _ _ _=>[]
def QQ:List LV→List Nat
 | []=>[]
 | l::ls=>l.tags++QQ ls
def VT:List (Bool×List LV)→List Nat
 | []=>[]
 | c::cs=>QQ c.2++VT cs
def ovr (ls:List LV):List (Nat×LV)→List LV
 | []=>ls
 | p::ov=>(ovr ls ov).set p.1 p.2
def QbH:List (Nat×LV)→List Nat
 | []=>[]
 | p::ov=>p.2.tags++QbH ov
def Qk2 {ls:List LV}{p:Nat}{l:LV}:∀q∈QQ (ls.set p l),q∈l.tags∨q∈QQ ls:=by
 induction ls generalizing p with
 | nil=>intro q a;exact .inr (by simpa using a)
 | cons x ls b=>
  cases p with
  | zero=>
   intro q a
   simp only[List.set_cons_zero,QQ,aO] at a
   rcases a with h|h
   ·exact .inl h
   ·exact .inr (by simp[QQ,h])
  | succ p=>
   intro q a
   simp only[du,QQ,aO] at a
   rcases a with h|h
   ·exact .inr (by simp[QQ,h])
   ·rcases b q h with h|h
    ·exact .inl h
    ·exact .inr (by simp[QQ,h])
def QgF {ls:List LV}(h:QQ ls=[]):∀{b:List (Nat×LV)},∀q∈QQ (ovr ls b),q∈QbH b
 | [],q,hq=>by rw[show ovr ls []=ls from rfl,h] at hq;cases hq
 | p::b,q,hq=>by
  rcases Qk2 q hq with a|a
  ·exact aU _ a
  ·exact bd _ (QgF h q a)
def PV.tags:PV→List Nat
 | .cm _ ls=>QQ ls
 | .tup cs=>VT cs
def Ent.tags:Ent→List Nat
 | .box _ cs=>QQ cs
 | .arr _ _ _=>[]
 | .obx _ _ _ _ ov=>QbH ov
 | .mp _ _ _ _ _=>[]
 | .bys _ _=>[]
 | .pl _ _ _ _=>[]
 | .fz _ _ _=>[]
 | .res _=>[]
def QCI (n:Nat):List Nat→Bool
 | []=>true
 | q::qs=>Nat.blt q n&&QCI n qs
def SubR (h:Value)(wd lo n:Nat)(v:Value):Prop:=∃B m c,h= .slice B m c∧v= .slice (if c=lo then B else B.map (·.add (lo*wd))) n (c - lo)
section
variable (al:Nat→Prop)(gh:Gh)(w:World)
def LVR:LV→Value→Prop
 | .val u,v=>v=u
 | .dat t x,v=>Rd gh.N t w [v] x
 | .ref q,v=>al q→v=gh.h q
 | .ptr q off,v=>al q→∃g,gh.h q= .pointer (some ⟨g,0,none⟩)∧v= .pointer (some ⟨g,off,none⟩)
 | .ept q wd i j,v=>al q→∃g n c,gh.h q= .slice (some ⟨g,0,none⟩) n c∧v= .pointer (some ⟨g,i*wd+j,none⟩)
 | .sub q wd lo n,v=>al q→SubR (gh.h q) wd lo n v
 | .elt t x off,v=>∃b o ds wN,v= .pointer (some ⟨b,o+off,none⟩)∧Sub gh.N w wN∧Rep t wN ds x∧∀j u,ds[j]? =some u→wN.cell? ⟨b,o+j,none⟩=some u
 | .clo f qs,v=>(∀q∈qs,al q)→v= .func (.func f) #[] (qs.map gh.h).toArray
def LVs:List LV→List Value→Prop
 | [],vs=>vs=[]
 | l::ls,vs=>∃v vs',vs=v::vs'∧LVR al gh w l v∧LVs ls vs'
def CmR:Bool×List LV→Value→Prop
 | (true,ls),v=>∃vs,v= .agg vs.toArray∧LVs al gh w ls vs
 | (false,ls),v=>∃l,ls=[l]∧LVR al gh w l v
def CmsR:List (Bool×List LV)→List Value→Prop
 | [],vs=>vs=[]
 | c::cs,vs=>∃v vs',vs=v::vs'∧CmR al gh w c v∧CmsR cs vs'
def PVR:PV→Value→Prop
 | .cm b ls,v=>CmR al gh w (b,ls) v
 | .tup cs,v=>∃vs,v= .tuple vs.toArray∧CmsR al gh w cs vs
def LO:LV→List Nat→Value→Prop
 | .dat t x,f,v=>Own t w f [v] x
 | .ref q,f,v=>f=[]∧v.oneCell'=true∧(al q→v=gh.h q)
 | .val u,f,v=>f=[]∧v=u∧u.oneCell'=true
 | _,_,_=>False
def LOs:List LV→List Nat→List Value→Prop
 | [],f,cs=>f=[]∧cs=[]
 | l::ls,f,cs=>∃f1 f2 v cs',f=f1++f2∧cs=v::cs'∧LO al gh w l f1 v∧LOs ls f2 cs'
def MV:Bool→(t:Ty)→Value→t.Den→Prop
 | true,t,v,x=>∃cs,v= .agg cs.toArray∧Rd gh.N t w cs x
 | false,t,v,x=>Rd gh.N t w [v] x
def Born (es:List MapEntry)(clock:Nat):Prop:=(∀x∈es,x.born<clock)∧(es.map (·.born)).Nodup
def MpL (kb:Bool)(k:Ty)(vb:Bool)(v:Ty):List MapEntry→List (k.Den×v.Den)→Prop
 | [],m=>m=[]
 | e::es,m=>∃x y m',m=(x,y)::m'∧MV gh w kb k e.key x∧MV gh w vb v e.val y∧MpL kb k vb v es m'
def Row (w:World)(g:Nat)(cur:Array Value)(E:TypeId):Prop:=∃f:Nat×Nat,w.heap[g]? =some (.cells cur E f)∧(f=(0,0)∨f=(cur.size,cur.size+1))
def FzL (N:Nat→Prop)(w:World)(e:Ty):List Hdr→List e.Den→Prop
 | [],xs=>xs=[]
 | v::vs,xs=>∃x r,xs=x::r∧Rd N e w [hdV v] x∧FzL N w e vs r
def EntR (q:Nat):Ent→Prop
 | .box E cs=>∃g cur,gh.h q= .pointer (some ⟨g,0,none⟩)∧gh.f q=[g]∧w.heap[g]? =some (.cells cur E (0,0))∧LVs al gh w cs cur.toList
 | .arr E e xs=>Own (.sl E e) w (gh.f q) [gh.h q] xs
 | .obx E wd n ls0 ov=>QQ ls0=[]∧∃g cap cur fps,gh.h q= .slice (some ⟨g,0,none⟩) n cap∧gh.f q=g::fps∧w.heap[g]? =some (.cells cur E (0,0))∧n≤cap∧cap≤maxLen∧cur.size=cap*wd∧(ovr ls0 ov).length=n*wd∧LOs al gh w (ovr ls0 ov) fps (cur.toList.take (n*wd))
 | .bys E l=>∃g cap cur,gh.h q= .slice (some ⟨g,0,none⟩) l.length cap∧gh.f q=[g]∧Row w g cur E∧l.length≤cap∧cap≤maxLen∧cur.size=cap∧cur.toList.take l.length=l.map fun b=>Value.int .u8 b.toNat
 | .fz E e xs=>∃vs,Own (.sl E .vl) w (gh.f q) [gh.h q] vs∧FzL gh.N w e vs xs
 | .res R=>R.rel gh.N w (gh.f q) (gh.h q)
 | .pl true e vs f=>gh.h q= .slice none 0 0∧OwnL (Own e w) (gh.f q) (vs.map hdV) (vs.map f)
 | .pl false e vs f=>gh.h q= .slice none 0 0∧gh.f q=[]∧∀v∈vs,Rd gh.N e w [hdV v] (f v)
 | .mp kb k vb v m=>∃g es clock,gh.h q= .map (some g)∧gh.f q=[g]∧w.heap[g]? =some (.map es clock)∧Born es.toList clock∧m.Pairwise (fun p q=>p.1≠q.1)∧MpL gh w kb k vb v es.toList m
end
section
variable {w w':World}{g:Nat}{cur:Array Value}{E:TypeId}
def Row.keep (h:Row w g cur E)(k:w'.heap[g]? =w.heap[g]?):Row w' g cur E:=by
 obtain ⟨f,a,b⟩:=h
 exact ⟨f,k.trans a,b⟩
def Row.lt (h:Row w g cur E):g<w.heap.size:=by
 obtain ⟨f,a,_⟩:=h
 exact (cp.1 a).1
def Row.cell (h:Row w g cur E)(i:Nat):w.cell? ⟨g,i,none⟩=cur[i]? :=by
 obtain ⟨f,a,_⟩:=h
 simp[World.cell?,a]
def Row.soft (h:Row w g cur E){i:Nat}(hi:i<cur.size):w.frozen? ⟨g,i,none⟩=false:=by
 obtain ⟨f,a,b⟩:=h
 rcases b with rfl|rfl
 ·simp[World.frozen?,a]
 ·simp only[World.frozen?,a]
  simp
  omega
end
section
variable {al al':Nat→Prop}{gh gh':Gh}{w w':World}
def LVR.mono {l:LV}{v:Value}(h:LVR al gh w l v)(d:∀q∈l.tags,al' q→al q∧gh'.h q=gh.h q)(r:∀g,gh.N g→gh'.N g∧w'.heap[g]? =w.heap[g]?):LVR al' gh' w' l v:=by
 cases l with
 | val u=>exact h
 | dat t x=>exact Rd.mono h r
 | ref q=>intro k;obtain ⟨a,c⟩:=d q (by simp[LV.tags]) k;rw[c];exact h a
 | ptr q p=>intro k;obtain ⟨a,c⟩:=d q (by simp[LV.tags]) k;rw[c];exact h a
 | ept q B i j=>intro k;obtain ⟨a,c⟩:=d q (by simp[LV.tags]) k;rw[c];exact h a
 | sub q B C n=>intro k;obtain ⟨a,c⟩:=d q (by simp[LV.tags]) k;rw[c];exact h a
 | elt t x p=>obtain ⟨b,o,s,wN,m,y,z,A⟩:=h;exact ⟨b,o,s,wN,m,y.mono r,z,A⟩
 | clo f D=>
  intro k
  have m:v=_:=h fun q e=>(d q (by simpa [LV.tags] using e) (k q e)).1
  rw[m]
  congr 1
  refine congrArg List.toArray (List.map_congr_left fun q e=> ?_)
  exact (d q (by simpa [LV.tags] using e) (k q e)).2.symm
def LVs.mono {ls:List LV}{vs:List Value}(h:LVs al gh w ls vs)(c:∀q∈QQ ls,al' q→al q∧gh'.h q=gh.h q)(f:∀g,gh.N g→gh'.N g∧w'.heap[g]? =w.heap[g]?):LVs al' gh' w' ls vs:=by
 induction ls generalizing vs with
 | nil=>exact h
 | cons l ls i=>
  obtain ⟨v,b,rfl,d,e⟩:=h
  exact ⟨v,b,rfl,d.mono (fun q a=>c q (by simp[QQ,a])) f,i e fun q a=>c q (by simp[QQ,a])⟩
def CmR.mono {c:Bool×List LV}{v:Value}(h:CmR al gh w c v)(e:∀q∈QQ c.2,al' q→al q∧gh'.h q=gh.h q)(d:∀g,gh.N g→gh'.N g∧w'.heap[g]? =w.heap[g]?):CmR al' gh' w' c v:=by
 obtain ⟨b,j⟩:=c
 cases b with
 | true=>obtain ⟨i,rfl,a⟩:=h;exact ⟨i,rfl,a.mono e d⟩
 | false=>obtain ⟨l,rfl,a⟩:=h;exact ⟨l,rfl,a.mono (fun q f=>e q (by simp[QQ,f])) d⟩
def CmsR.mono {cs:List (Bool×List LV)}{vs:List Value}(h:CmsR al gh w cs vs)(d:∀q∈VT cs,al' q→al q∧gh'.h q=gh.h q)(i:∀g,gh.N g→gh'.N g∧w'.heap[g]? =w.heap[g]?):CmsR al' gh' w' cs vs:=by
 induction cs generalizing vs with
 | nil=>exact h
 | cons c cs j=>
  obtain ⟨v,b,rfl,e,f⟩:=h
  exact ⟨v,b,rfl,e.mono (fun q a=>d q (by simp[VT,a])) i,j f fun q a=>d q (by simp[VT,a])⟩
def PVR.mono {pv:PV}{v:Value}(h:PVR al gh w pv v)(c:∀q∈pv.tags,al' q→al q∧gh'.h q=gh.h q)(a:∀g,gh.N g→gh'.N g∧w'.heap[g]? =w.heap[g]?):PVR al' gh' w' pv v:=by
 cases pv with
 | cm b f=>exact CmR.mono h c a
 | tup cs=>obtain ⟨e,rfl,d⟩:=h;exact ⟨e,rfl,d.mono c a⟩
def LOs.mono {ls:List LV}{f:List Nat}{cs:List Value}(h:LOs al gh w ls f cs)(d:∀q∈QQ ls,al' q→al q∧gh'.h q=gh.h q)(hb:∀g∈f,w'.heap[g]? =w.heap[g]?):LOs al' gh' w' ls f cs:=by
 induction ls generalizing f cs with
 | nil=>exact h
 | cons l ls n=>
  obtain ⟨e,i,v,b,rfl,rfl,a,j⟩:=h
  refine ⟨e,i,v,b,rfl,rfl,?_,n j (fun q m=>d q (by simp[QQ,m])) fun g c=>hb g (bd _ c)⟩
  cases l with
  | dat t x=>exact Own.keep a fun g c=>hb g (aU _ c)
  | ref q=>
   refine ⟨a.1,a.2.1,fun k=> ?_⟩
   obtain ⟨o,p⟩:=d q (by simp[QQ,LV.tags]) k
   rw[p];exact a.2.2 o
  | val u=>exact a
  | _=>exact a.elim
def LOs.lt {ls:List LV}{f:List Nat}{cs:List Value}(h:LOs al gh w ls f cs):∀g∈f,g<w.heap.size:=by
 induction ls generalizing f cs with
 | nil=>rw[h.1];simp
 | cons l ls e=>
  obtain ⟨i,j,v,c,rfl,rfl,b,d⟩:=h
  intro g a
  rcases aO.1 a with a|a
  ·cases l with
   | dat t x=>exact Own.lt b g a
   | ref q=>rw[b.1] at a;cases a
   | val u=>rw[b.1] at a;cases a
   | _=>exact b.elim
  ·exact e d g a
def MV.mono {b:Bool}{t:Ty}{v:Value}{x:t.Den}(h:MV gh w b t v x)(a:∀g,gh.N g→gh'.N g∧w'.heap[g]? =w.heap[g]?):MV gh' w' b t v x:=by
 cases b with
 | true=>obtain ⟨cs,c,d⟩:=h;exact ⟨cs,c,d.mono a⟩
 | false=>exact Rd.mono h a
def MpL.mono {kb vb:Bool}{k v:Ty}{es:List MapEntry}{m:List (k.Den×v.Den)}(h:MpL gh w kb k vb v es m)(a:∀g,gh.N g→gh'.N g∧w'.heap[g]? =w.heap[g]?):MpL gh' w' kb k vb v es m:=by
 induction es generalizing m with
 | nil=>exact h
 | cons e es i=>
  obtain ⟨x,y,j,b,c,d,f⟩:=h
  exact ⟨x,y,j,b,c.mono a,d.mono a,i f⟩
def FzL.mono {N N':Nat→Prop}{e:Ty}{vs:List Hdr}{xs:List e.Den}(h:FzL N w e vs xs)(d:∀g,N g→N' g∧w'.heap[g]? =w.heap[g]?):FzL N' w' e vs xs:=by
 induction vs generalizing xs with
 | nil=>exact h
 | cons v vs f=>obtain ⟨x,r,a,b,c⟩:=h;exact ⟨x,r,a,b.mono d,f c⟩
def EntR.mono {q:Nat}{e:Ent}(h:EntR al gh w q e)(B:∀r∈e.tags,al' r→al r∧gh'.h r=gh.h r)(s:∀g,gh.N g→gh'.N g∧w'.heap[g]? =w.heap[g]?)
 (hh:gh'.h q=gh.h q) (hf:gh'.f q=gh.f q) (hb:∀g∈gh.f q,w'.heap[g]? =w.heap[g]?):EntR al' gh' w' q e:=by
 cases e with
 | box E cs=>
  obtain ⟨g,cur,b,a,j,p⟩:=h
  exact ⟨g,cur,hh.trans b,hf.trans a,(hb g (by rw[a];simp)).trans j,p.mono B s⟩
 | arr E e P=>
  unfold EntR
  rw[hh,hf]
  exact Own.keep h hb
 | obx E V n O T=>
  obtain ⟨u,g,d,cur,fps,b,a,j,p,y,G,H,I⟩:=h
  exact ⟨u,g,d,cur,fps,hh.trans b,hf.trans a,(hb g (by rw[a];simp)).trans j,p,y,G,H,I.mono (fun r L=>B r (QgF u r L)) fun F A=>hb F (by rw[a];exact az _ A)⟩
 | mp S k U v m=>
  obtain ⟨g,D,i,b,a,j,u,p,y⟩:=h
  exact ⟨g,D,i,hh.trans b,hf.trans a,(hb g (by rw[a];simp)).trans j,u,p,y.mono s⟩
 | bys E l=>
  obtain ⟨g,d,cur,b,a,j,p⟩:=h
  exact ⟨g,d,cur,hh.trans b,hf.trans a,j.keep (hb g (by rw[a];simp)),p⟩
 | pl o e C f=>
  cases o with
  | true=>exact ⟨hh.trans h.1,by rw[hf];exact OwnL.mono h.2 fun Q c x z K=>Own.keep K fun g J=>hb g (z g J)⟩
  | false=>exact ⟨hh.trans h.1,hf.trans h.2.1,fun v M=>(h.2.2 v M).mono s⟩
 | fz E e P=>
  obtain ⟨C,b,a⟩:=h
  exact ⟨C,by rw[hh,hf];exact Own.keep b hb,a.mono s⟩
 | res R=>
  unfold EntR
  rw[hh,hf]
  exact R.keep h hb s
theorem EntR.lt {q:Nat}{e:Ent}(h:EntR al gh w q e):∀g∈gh.f q,g<w.heap.size:=by
 cases e with
 | box E cs=>
  obtain ⟨g,cur,b,c,d,p⟩:=h
  grind
 | arr E e A=>exact Own.lt h
 | obx E K n y I=>
  obtain ⟨C,g,i,cur,fps,b,c,d,p,D,F,G,s⟩:=h
  rw[c]
  intro r a
  rcases aK.1 a with rfl|a
  ·grind
  ·exact s.lt r a
 | bys E l=>
  obtain ⟨g,i,cur,b,c,d,p⟩:=h
  rw[c]
  intro r a
  obtain rfl:=aI.1 a
  exact d.lt
 | pl o e z f=>
  cases o with
  | true=>exact OwnL.lt h.2
  | false=>rw[h.2.1];intro g u;cases u
 | fz E e A=>obtain ⟨z,b,_⟩:=h;exact Own.lt b
 | res R=>exact R.lt h
 | mp H k J v m=>
  obtain ⟨g,B,j,b,c,d,p⟩:=h
  grind
def LVs.len {ls:List LV}{vs:List Value}(h:LVs al gh w ls vs):vs.length=ls.length:=by
 induction ls generalizing vs with
 | nil=>rw[show vs=[] from h];rfl
 | cons l ls b=>obtain ⟨v,c,rfl,_,a⟩:=h;simp[b a]
theorem LVs.get {ls:List LV}{vs:List Value}(h:LVs al gh w ls vs){i:Nat}{l:LV}(a:ls[i]? =some l):∃v,vs[i]? =some v∧LVR al gh w l v:=by
 induction ls generalizing vs i with
 | nil=>simp at a
 | cons f ls e=>
  obtain ⟨v,b,rfl,c,d⟩:=h
  grind
def LVs.app {b e:List LV}{a c:List Value}(h:LVs al gh w b a)(k:LVs al gh w e c):LVs al gh w (b++e) (a++c):=by
 induction b generalizing a with
 | nil=>rw[show a=[] from h];exact k
 | cons l m j=>obtain ⟨v,d,rfl,f,i⟩:=h;exact ⟨v,d++c,rfl,f,j i⟩
def QhB {c d:List LV}{vs:List Value}(h:LVs al gh w (c++d) vs):∃e f,vs=e++f∧LVs al gh w c e∧LVs al gh w d f:=by
 induction c generalizing vs with
 | nil=>exact ⟨[],vs,rfl,rfl,h⟩
 | cons l p n=>
  obtain ⟨v,o,rfl,i,j⟩:=h
  obtain ⟨a,b,rfl,k,m⟩:=n j
  exact ⟨v::a,b,rfl,⟨v,a,rfl,i,k⟩,m⟩
def LVs.take {ls:List LV}{vs:List Value}(h:LVs al gh w ls vs)(n:Nat):LVs al gh w (ls.take n) (vs.take n):=by
 induction ls generalizing vs n with
 | nil=>rw[show vs=[] from h];simp[LVs]
 | cons l ls c=>
  obtain ⟨v,d,rfl,a,b⟩:=h
  cases n with
  | zero=>simp[LVs]
  | succ n=>exact ⟨v,_,rfl,a,c b n⟩
def LVs.drop {ls:List LV}{vs:List Value}(h:LVs al gh w ls vs)(n:Nat):LVs al gh w (ls.drop n) (vs.drop n):=by
 induction ls generalizing vs n with
 | nil=>rw[show vs=[] from h];simp[LVs]
 | cons l ls d=>
  obtain ⟨v,a,rfl,c,b⟩:=h
  cases n with
  | zero=>exact ⟨v,a,rfl,c,b⟩
  | succ n=>exact d b n
def LVs.one {ls:List LV}{v:Value}(h:LVs al gh w ls [v]){l:LV}(c:ls=[l]):LVR al gh w l v:=by
 subst c
 obtain ⟨_,_,a,b,_⟩:=h
 simp only[aN] at a
 obtain ⟨rfl,rfl⟩:=a
 exact b
end
def leaves:(t:Ty)→t.Den→List LV
 | .int,x=>[.dat .int x]
 | .bool,x=>[.dat .bool x]
 | .str,x=>[.dat .str x]
 | .u8,x=>[.dat .u8 x]
 | .vl,x=>[.dat .vl x]
 | .sl E e,x=>[.dat (.sl E e) x]
 | .pr a b,x=>leaves a x.1++leaves b x.2
theorem Wp:∀(t:Ty) (x:t.Den),(leaves t x).length=t.wd
 | .int,_=>rfl
 | .bool,_=>rfl
 | .str,_=>rfl
 | .u8,_=>rfl
 | .vl,_=>rfl
 | .sl _ _,_=>rfl
 | .pr a b,x=>by simp[leaves,Wp a,Wp b]
def Rd.leaves {al:Nat→Prop}{gh:Gh}{w:World}:∀{t:Ty} {cs:List Value} {x:t.Den},Rd gh.N t w cs x→LVs al gh w (leaves t x) cs
 | .int,cs,x,h=>by
  obtain ⟨wN,d,c⟩:=h;have:=c.1;subst this;exact ⟨_,[],rfl,⟨wN,d,c⟩,rfl⟩
 | .bool,cs,x,h=>by
  obtain ⟨wN,d,c⟩:=h;have c:cs=_:=c;subst c;exact ⟨_,[],rfl,⟨wN,d,rfl⟩,rfl⟩
 | .str,cs,x,h=>by
  obtain ⟨wN,d,c⟩:=h;have:=c.1;subst this;exact ⟨_,[],rfl,⟨wN,d,c⟩,rfl⟩
 | .u8,cs,x,h=>by
  obtain ⟨wN,d,c⟩:=h;have c:cs=_:=c;subst c;exact ⟨_,[],rfl,⟨wN,d,rfl⟩,rfl⟩
 | .vl,cs,x,h=>by
  obtain ⟨wN,d,c⟩:=h;have c:cs=_:=c;subst c;exact ⟨_,[],rfl,⟨wN,d,rfl⟩,rfl⟩
 | .sl E e,cs,x,h=>by
  have i:=h.rep.len
  match cs,i with
  | [v],_=>exact ⟨v,[],rfl,h,rfl⟩
 | .pr a b,cs,x,h=>by
  obtain ⟨wN,d,l,r,rfl,c,f⟩:=h
  exact LVs.app (Rd.leaves ⟨wN,d,c⟩) (Rd.leaves ⟨wN,d,f⟩)
def LVs.rd {al:Nat→Prop}{gh:Gh}{w:World}:∀{t:Ty} {cs:List Value} {x:t.Den},LVs al gh w (Go.Proofs.YtjfpbcmfbnnooaaGreat.leaves t x) cs→Rd gh.N t w cs x
 | .int,cs,x,h=>by obtain ⟨v,f,rfl,c,d⟩:=h;rw[show f=[] from d];exact c
 | .bool,cs,x,h=>by obtain ⟨v,f,rfl,c,d⟩:=h;rw[show f=[] from d];exact c
 | .str,cs,x,h=>by obtain ⟨v,f,rfl,c,d⟩:=h;rw[show f=[] from d];exact c
 | .u8,cs,x,h=>by obtain ⟨v,f,rfl,c,d⟩:=h;rw[show f=[] from d];exact c
 | .vl,cs,x,h=>by obtain ⟨v,f,rfl,c,d⟩:=h;rw[show f=[] from d];exact c
 | .sl E e,cs,x,h=>by obtain ⟨v,f,rfl,c,d⟩:=h;rw[show f=[] from d];exact c
 | .pr a b,cs,x,h=>by
  obtain ⟨i,j,rfl,c,d⟩:=QhB h
  exact Rd.pr (LVs.rd c) (LVs.rd d)
structure Cx (T:Tab) (gh:Gh) (w:World):Prop where
  en:∀q e,T.ent q=some e→EntR T.al gh w q e
  dj:∀q q',T.al q→T.al q'→q≠q'→∀g∈gh.f q,g∉gh.f q'
  nd:∀q,T.al q→(gh.f q).Nodup
  no:∀q,T.al q→∀g∈gh.f q,¬gh.N g
  nl:∀g,gh.N g→g<w.heap.size
def Cx.lt {T:Tab}{gh:Gh}{w:World}(h:Cx T gh w){q:Nat}(b:T.al q):∀g∈gh.f q,g<w.heap.size:=by
 obtain ⟨e,a⟩:=b
 exact (h.en q e a).lt
structure Grw (w w':World):Prop where
  os:w'.os=w.os
  tape:w'.tape=w.tape
  output:w'.output=w.output
  size:w.heap.size≤w'.heap.size
def ZN (w:World):Grw w w:=⟨rfl,rfl,rfl,aP _⟩
def Grw.trans {a b c:World}(h:Grw a b)(k:Grw b c):Grw a c:=⟨k.os.trans h.os,k.tape.trans h.tape,k.output.trans h.output,bi h.size k.size⟩
def Nw.grw {a b:World}(h:Nw a b):Grw a b:=⟨h.os,h.tape,h.output,h.size⟩
structure Amb where
  w0:World
  N0:Nat→Prop
  X:Nat→Prop
  n:Nat
  k0:Nat
  h0:Nat→Value
  f0:Nat→List Nat
structure Rg (A:Amb) (s:St) (gh:Gh) (a:Act) (w:World):Prop where
  cx:Cx s.tab gh w
  sz:a.tmps.size=A.n
  df:a.defers=[]
  tm:∀i pv,lk s.tm i=some pv→∃v,a.tmps[i]? =some v∧PVR s.tab.al gh w pv v
  gw:Grw A.w0 w
  kp:∀g,A.X g→g<A.w0.heap.size→w.heap[g]? =A.w0.heap[g]?
  fr:∀g,gh.N g→A.N0 g∨A.w0.heap.size≤g
  ox:∀q,s.tab.al q→∀g∈gh.f q,g<A.w0.heap.size→¬A.X g
  hh:∀q,q<A.k0→s.tab.al q→gh.h q=A.h0 q
  xn:∀g,g<A.w0.heap.size→¬A.X g→A.N0 g
def R (A:Amb)(s:St)(a:Act)(w:World):Prop:=∃gh,Rg A s gh a w
def Does (A:Amb)(P:Program)(o:Oper)(s s':St):Prop:=∀a w K Q,R A s a w→(∀a' w',R A s' a' w'→K a' w')→o.wp P a w K Q
def Wk (A:Amb)(s s':St):Prop:=∀a w,R A s a w→R A s' a w
def QFc (A:Amb)(s:St):Wk A s s:=fun _ _ h=>h
def Wk.trans {A:Amb}{s s' b:St}(h:Wk A s s')(k:Wk A s' b):Wk A s b:=fun a w x=>k a w (h a w x)
def Does.wk {A:Amb}{P:Program}{o:Oper}{s s' b:St}(h:Does A P o s s')(k:Wk A s' b):Does A P o s b:=fun a w K Q r d=>h a w K Q r fun c w' e=>d c w' (k c w' e)
def QFb {A:Amb}{P:Program}{o:Oper}{s s' b:St}(k:Wk A s s')(h:Does A P o s' b):Does A P o s b:=fun a w K Q r c=>h a w K Q (k a w r) c
@[reducible] def St.put (s:St) (d:Nat) (pv:PV):St:=⟨(d,pv)::s.tm,s.tab⟩
def Rg.put {A:Amb}{s:St}{gh:Gh}{a:Act}{w:World}(h:Rg A s gh a w){d:Nat}(f:d<A.n){pv:PV}{v:Value}(hv:PVR s.tab.al gh w pv v):Rg A (s.put d pv) gh (a.put (some d) v) w where
 cx:=h.cx
 sz:=by simp[Act.put,h.sz]
 df:=h.df
 tm i pv' hi:=by
  simp only[UW] at hi
  by_cases hid:i=d
  ·subst hid
   rw[if_pos rfl] at hi
   cases hi
   exact ⟨v,by simp[Act.put,h.sz,f],hv⟩
  ·rw[if_neg hid] at hi
   obtain ⟨j,b,c⟩:=h.tm i pv' hi
   exact ⟨j,by simp only[Act.put];rw[Array.getElem?_setIfInBounds_ne (fun e=>hid e.symm)];exact b,c⟩
 gw:=h.gw
 kp:=h.kp
 fr:=h.fr
 ox:=h.ox
 hh:=h.hh
 xn:=h.xn
def Rg.puto {A:Amb}{s:St}{gh:Gh}{a:Act}{w:World}(h:Rg A s gh a w){v:Value}:Rg A s gh (a.put none v) w:=h
structure Fresh (s:St) (q:Nat):Prop where
  tm:∀i pv,lk s.tm i=some pv→q∉pv.tags
  en:∀r e,s.tab.ent r=some e→q∉e.tags
  al:¬s.tab.al q
theorem Rg.step {A:Amb}{s:St}{gh gh':Gh}{a:Act}{w w':World}{T:Tab}(h:Rg A s gh a w)(o:Cx T gh' w')
 (ha:∀q,T.al q→(s.tab.al q∧gh'.h q=gh.h q∧(q<A.k0→gh'.f q=gh'.f q))∨(Fresh s q∧A.k0≤q)) (hN:∀g,gh.N g→gh'.N g∧w'.heap[g]? =w.heap[g]?)
 (gw:Grw w w')
 (kp:∀g,g<w.heap.size→(∀q,s.tab.al q→g∉gh.f q)→w'.heap[g]? =w.heap[g]?)
 (fr:∀g,gh'.N g→gh.N g∨w.heap.size≤g∨(∃q,s.tab.al q∧g∈gh.f q∧(g<A.w0.heap.size→A.N0 g)))
 (ox:∀q,T.al q→∀g∈gh'.f q,w.heap.size≤g∨∃m,s.tab.al m∧g∈gh.f m):Rg A ⟨s.tm,T⟩ gh' a w' where
 cx:=o
 sz:=h.sz
 df:=h.df
 tm i pv hi:=by
  obtain ⟨v,j,n⟩:=h.tm i pv hi
  exact ⟨v,j,n.mono (fun q c b=>by
   rcases ha q b with ⟨d,l,_⟩|⟨d,_⟩
   ·exact ⟨d,l⟩
   ·exact absurd c (d.tm i pv hi)) hN⟩
 gw:=h.gw.trans gw
 kp g hX hl:=by
  rw[kp g (ba hl h.gw.size) fun q c e=>h.ox q c g e hl hX]
  exact h.kp g hX hl
 fr g e:=by
  rcases fr g e with k|k|⟨q,d,l,r⟩
  ·exact h.fr g k
  ·exact .inr (bi h.gw.size k)
  ·grind
 ox q c g e hl:=by
  rcases ox q c g e with k|⟨m,d,l⟩
  ·have:=h.gw.size;omega
  ·exact h.ox m d g l hl
 hh q c b:=by
  rcases ha q b with ⟨j,n,p⟩|⟨_,j⟩
  ·rw[n];exact h.hh q c j
  ·omega
 xn:=h.xn
def Rg.know {A:Amb}{s:St}{gh:Gh}{a:Act}{w:World}(h:Rg A s gh a w){d:Nat}{pv:PV}{v:Value}(b:a.tmps[d]? =some v)(hv:PVR s.tab.al gh w pv v):Rg A (s.put d pv) gh a w where
 cx:=h.cx
 sz:=h.sz
 df:=h.df
 tm i pv' hi:=by
  simp only[UW] at hi
  by_cases hid:i=d
  ·subst hid
   rw[if_pos rfl] at hi
   cases hi
   exact ⟨v,b,hv⟩
  ·rw[if_neg hid] at hi
   exact h.tm i pv' hi
 gw:=h.gw
 kp:=h.kp
 fr:=h.fr
 ox:=h.ox
 hh:=h.hh
 xn:=h.xn
def inB (q:Nat):List Nat→Bool
 | []=>false
 | r::rs=>match Nat.beq q r with
  | true=>true
  | false=>inB q rs
theorem Qgl {q:Nat}{l:List Nat}(h:inB q l=false):q∉l:=by
 induction l with
 | nil=>simp
 | cons r c b=>
  unfold inB at h
  cases e:Nat.beq q r with
  | true=>rw[e] at h;cases h
  | false=>
   rw[e] at h
   intro a
   simp_all
def ZU:Tab→List Nat
 | []=>[]
 | (q,e)::T=>match e with
  | some e=>q::(e.tags++ZU T)
  | none=>ZU T
def Zw {T:Tab}{q:Nat}{e:Ent}(h:T.ent q=some e):q∈ZU T∧∀r∈e.tags,r∈ZU T:=by
 induction T with
 | nil=>cases h
 | cons x T f=>
  obtain ⟨j,o⟩:=x
  rw[Qi] at h
  by_cases a:q=j
  ·rw[if_pos a] at h
   subst h
   exact ⟨by simp[ZU,a],fun r b=>by simp[ZU,b]⟩
  ·rw[if_neg a] at h
   obtain ⟨c,d⟩:=f h
   cases o with
   | none=>exact ⟨c,d⟩
   | some i=>exact ⟨by simp[ZU,c],fun r b=>by simp[ZU,d r b]⟩
def QjP:List (Nat×PV)→List Nat
 | []=>[]
 | p::l=>p.2.tags++QjP l
theorem Qlw {l:List (Nat×PV)}{i:Nat}{pv:PV}(h:lk l i=some pv):∀q∈pv.tags,q∈QjP l:=by
 induction l with
 | nil=>cases h
 | cons x l c=>
  obtain ⟨j,a⟩:=x
  rw[UW] at h
  intro q b
  simp only[QjP,aO]
  grind
def QnG (s:St)(q:Nat):Bool:= !(inB q (QjP s.tm))&& !(inB q (ZU s.tab))
def Fresh.of {s:St}{q:Nat}(h:QnG s q=true):Fresh s q:=by
 simp only[QnG,aH,cA] at h
 have d:=Qgl h.1
 have c:=Qgl h.2
 exact ⟨fun i j f b=>d (Qlw f q b),fun r e a b=>c ((Zw a).2 q b),fun ⟨e,a⟩=>c (Zw a).1⟩
def AQ (A:Amb)(Q:Exit→St→Prop)(e:Exit)(a:Act)(w:World):Prop:=∃s,Q e s∧R A s a w
def AC (A:Amb)(P:Program)(c:Code)(Q:Exit→St→Prop)(s:St):Prop:=∀a w,R A s a w→c.wp P (AQ A Q) a w
def AL (A:Amb)(P:Program)(ops:Array Oper)(l:List Oper)(Q:Exit→St→Prop)(s:St):Prop:=∀a w,R A s a w→wpList P ops (AQ A Q) l a w
def QaZ (K:St→Prop)(Q:Exit→St→Prop):Exit→St→Prop
 | .normal,s=>K s
 | e,s=>Q e s
def QkT (id:Nat)(Q:Exit→St→Prop):Exit→St→Prop
 | .exit id',s=>match Nat.beq id' id with
  | true=>Q .normal s
  | false=>Q (.exit id') s
 | e,s=>Q e s
section
variable {A:Amb}{P:Program}{Q:Exit→St→Prop}{s s':St}
def AC.wk {c:Code}(k:Wk A s s')(h:AC A P c Q s'):AC A P c Q s:=fun a w r=>h a w (k a w r)
def AL.wk {ops:Array Oper}{l:List Oper}(k:Wk A s s')(h:AL A P ops l Q s'):AL A P ops l Q s:=fun a w r=>h a w (k a w r)
def AC.mono {c:Code}{b:Exit→St→Prop}(h:AC A P c Q s)(k:∀e s,Q e s→b e s):AC A P c b s:=fun a w r=>
 wp_mono (h a w r) fun e a w ⟨s,q,r⟩=>⟨s,k e s q,r⟩
def AC.skip (h:Q .normal s):AC A P .skip Q s:=fun _ _ r=>wp_skip ⟨s,h,r⟩
def Q5 {x y:Code}(h:AC A P x (QaZ (AC A P y Q) Q) s):AC A P (.seq x y) Q s:=fun a w r=>
 wp_seq (wp_mono (h a w r) fun e a w q=>by
  obtain ⟨s',q,r⟩:=q
  cases e <;> first|exact q a w r|exact ⟨s',q,r⟩)
def Qsu {id:Nat}{c:Code}(h:AC A P c (QkT id Q) s):AC A P (.block id c) Q s:=fun a w r=>
 wp_block (wp_mono (h a w r) fun e a w q=>by
  obtain ⟨s',q,r⟩:=q
  cases e with
  | exit b=>
   simp only[QkT] at q
   simp only[Exit.inBlock]
   by_cases d:b=id
   ·rw[if_pos d]
    rw[d,eb] at q
    exact ⟨s',q,r⟩
   ·rw[if_neg d]
    have:Nat.beq b id=false:=by
     cases f:Nat.beq b id with
     | true=>exact absurd (aZ f) d
     | false=>rfl
    rw[this] at q
    exact ⟨s',q,r⟩
  | _=>exact ⟨s',q,r⟩)
def Qwl {id:Nat}(h:Q (.exit id) s):AC A P (.exit id) Q s:=fun _ _ r=>wp_exit ⟨s,h,r⟩
def QzR (h:Q .ret s):AC A P .ret Q s:=fun _ _ r=>wp_ret ⟨s,h,r⟩
def Qwm {c:Code}(I:Nat→St→Prop){m:Nat}(h0:I m s)
 (round:∀m s,I m s→AC A P c (QaZ (fun h=>∃q t,q<m∧Wk A h t∧I q t) Q) s):AC A P (.loop c) Q s:=fun a w r=>by
 intro b k v
 have C:∀n s a w,R A s a w→I n s→∃e p u,AQ A Q e p u∧Arrives P (lone (b.at a (.code c :: .inLoop c::k)) v w) b k v e p u:=by
  intro n
  induction n using Nat.strongRecOn with
  | _ n H=>
   intro s a w r F
   obtain ⟨e,i,o,⟨h,f,j⟩,d⟩:=round n s F a w r b (.inLoop c::k) v
   cases e with
   | normal=>
    obtain ⟨q,t,z,G,y⟩:=f
    obtain ⟨E,D,w2,B,g⟩:=H q z t i o (G _ _ j) y
    exact ⟨E,D,w2,B,.of_steps (Steps.trans d (.one step_inLoop)) g⟩
   | exit id=>exact ⟨_,i,o,⟨h,f,j⟩,.pass (x:= .inLoop c) rfl (fun _ _=> .inl (by simp)) d⟩
   | goto l=>exact ⟨_,i,o,⟨h,f,j⟩,.pass (x:= .inLoop c) rfl (fun _ _=> .inl (by simp)) d⟩
   | ret=>exact ⟨_,i,o,⟨h,f,j⟩,.pass (x:= .inLoop c) rfl (fun _ _=> .inl (by simp)) d⟩
   | panic J=>exact ⟨_,i,o,⟨h,f,j⟩,.pass (x:= .inLoop c) rfl (fun _ _=> .inl (by simp)) d⟩
   | outgrown=>exact ⟨_,i,o,⟨h,f,j⟩,.pass (x:= .inLoop c) rfl (fun _ _=> .inl (by simp)) d⟩
 obtain ⟨e,p,u,f,d⟩:=C m s a w r h0
 exact ⟨e,p,u,f,.of_steps (.one step_loop) d⟩
def Qht {id:Nat}{l:List Oper}(h:AL A P l.toArray l Q s):AC A P (.region id l.toArray false) Q s:=fun a w r=>wp_region_lit (h a w r)
def Qc {ops:Array Oper}(h:Q .normal s):AL A P ops [] Q s:=fun _ _ r=>wpList_nil ⟨s,h,r⟩
def AL.cons {ops:Array Oper}{o:Oper}{l:List Oper}(d:o.guard=none)(h:Does A P o s s')(k:AL A P ops l Q s'):AL A P ops (o::l) Q s:=
 fun a w r=>wpList_plain d fun _ c=>h a w _ _ r fun b f e=>c _ _ (k b f e)
def Ev (A:Amb)(s:St)(x:Operand)(c:Bool×List LV):Prop:=∀gh a w,Rg A s gh a w→CmR s.tab.al gh w c (a.eval x)
def Qm {t:Nat}{b:Bool}{ls:List LV}(h:lk s.tm t=some (.cm b ls)):Ev A s (.tmp t) (b,ls):=fun f a w r=>by
 obtain ⟨v,c,d⟩:=r.tm t _ h
 have e:a.eval (.tmp t)=v:=by
  show a.tmps.getD t undef=v
  rw[bM,c]
  rfl
 rw[e]
 exact d
def Evl (A:Amb)(s:St)(x:Operand)(l:LV):Prop:=∀gh a w,Rg A s gh a w→LVR s.tab.al gh w l (a.eval x)
def Qa {t:Nat}{l:LV}(h:lk s.tm t=some (lf l)):Evl A s (.tmp t) l:=fun b a w r=>by
 obtain ⟨d,e,c⟩:=Qm h b a w r
 simp only[aN,and_true] at e
 rw[e];exact c
def Evl.ev {x:Operand}{l:LV}(h:Evl A s x l):Ev A s x (false,[l]):=fun b a w r=>⟨l,rfl,h b a w r⟩
def Evl.val {v:Value}:Evl A s (.const v) (.val v):=fun _ _ _ _=>rfl
def Qn {n:Int}(h:decide (-9223372036854775808≤n∧n≤9223372036854775807)=true):Evl A s (.const (.int .i64 n)) (dI n):=fun b a w r=>
 Rep.rd0 (t:= .int) (w:=w) (cs:=[.int .i64 n]) ⟨rfl,aa h⟩ rfl
def Zx {b:Bool}:Evl A s (.const (.bool b)) (dB b):=fun c a w r=>Rep.rd0 (t:= .bool) (w:=w) (cs:=[.bool b]) rfl rfl
def Evl.str {x:BA}(h:Nat.ble x.size 1000000=true):Evl A s (.const (.string x)) (dS x):=fun b a w r=>
 Rep.rd0 (t:= .str) (w:=w) (cs:=[.string x]) ⟨rfl,bi (aD h) (by decide)⟩ rfl
def QS {n:Int}(x:UInt8)(h:n=x.toNat):Evl A s (.const (.int .u8 n)) (.dat .u8 x):=fun b a w r=>by
 subst h
 exact Rep.rd0 (t:= .u8) (w:=w) (cs:=[.int .u8 x.toNat]) rfl rfl
def Evl.nil {E:TypeId}{e:Ty}:Evl A s (.const (.slice none 0 0)) (.dat (.sl E e) []):=fun c a w r=>by
 refine ⟨{w with heap:= #[]},fun p v e=> ?_,none,0,rfl,aP _,aL _,fun h=>absurd h (by simp)⟩
 simp[World.cell?] at e
def QsH {f:FuncId}:Evl A s (.func f) (.clo f []):=fun b a w r _=>rfl
def LVR.int {al:Nat→Prop}{gh:Gh}{w:World}{n:Int}{v:Value}(h:LVR al gh w (dI n) v):v= .int .i64 n∧ -9223372036854775808≤n∧n≤9223372036854775807:=(Rd.rep h).int_
def LVR.bool {al:Nat→Prop}{gh:Gh}{w:World}{b:Bool}{v:Value}(h:LVR al gh w (dB b) v):v= .bool b:=(Rd.rep h).bool_
def LVR.str {al:Nat→Prop}{gh:Gh}{w:World}{x:BA}{v:Value}(h:LVR al gh w (dS x) v):v= .string x∧x.size≤maxLen:=(Rd.rep h).str_
def LVR.u8 {al:Nat→Prop}{gh:Gh}{w:World}{x:UInt8}{v:Value}(h:LVR al gh w (.dat .u8 x) v):v= .int .u8 x.toNat:=by
 have h:[v]=_:=Rd.rep h
 simpa using h
def YR {al:Nat→Prop}{gh:Gh}{w:World}{n:Int}(h: -9223372036854775808≤n∧n≤9223372036854775807):LVR al gh w (dI n) (.int .i64 n):=Rep.rd0 (t:= .int) (w:=w) ⟨rfl,h⟩ rfl
def ZY {al:Nat→Prop}{gh:Gh}{w:World}{b:Bool}:LVR al gh w (dB b) (.bool b):=Rep.rd0 (t:= .bool) (w:=w) rfl rfl
def Qeu {al:Nat→Prop}{gh:Gh}{w:World}{x:BA}(h:x.size≤maxLen):LVR al gh w (dS x) (.string x):=Rep.rd0 (t:= .str) (w:=w) ⟨rfl,h⟩ rfl
def QiD {al:Nat→Prop}{gh:Gh}{w:World}{x:UInt8}:LVR al gh w (.dat .u8 x) (.int .u8 x.toNat):=Rep.rd0 (t:= .u8) (w:=w) rfl rfl
def AC.fact {c:Code}{F:Prop}(d:∀gh a w,Rg A s gh a w→F)(h:F→AC A P c Q s):AC A P c Q s:=fun a w r=>by
 obtain ⟨gh,b⟩:=r
 exact h (d gh a w b) a w ⟨gh,b⟩
def AL.fact {ops:Array Oper}{l:List Oper}{F:Prop}(c:∀gh a w,Rg A s gh a w→F)(h:F→AL A P ops l Q s):AL A P ops l Q s:=fun a w r=>by
 obtain ⟨gh,b⟩:=r
 exact h (c gh a w b) a w ⟨gh,b⟩
def QkJ {x:Operand}{n:Int}(h:Evl A s x (dI n)):∀gh a w,Rg A s gh a w→ -9223372036854775808≤n∧n≤9223372036854775807:=fun gh a w r=>(LVR.int (h gh a w r)).2
def Qt3 {x:Operand}{n:BA}(h:Evl A s x (dS n)):∀gh a w,Rg A s gh a w→n.size≤maxLen:=fun gh a w r=>(LVR.str (h gh a w r)).2
def Qxt {x:Operand}{E:TypeId}{e:Ty}{l:List e.Den}(h:Evl A s x (.dat (.sl E e) l)):∀gh a w,Rg A s gh a w→l.length≤maxLen:=fun gh a w r=>by
 obtain ⟨b,c,_,d,f⟩:=(Rd.rep (h gh a w r)).slv
 omega
def QCa {id:Nat}{l:List Oper}{y:Code}(h:AL A P l.toArray l (QaZ (AC A P y Q) Q) s):AC A P (.seq (.region id l.toArray false) y) Q s:=Q5 (Qht h)
def Qwn {ops:Array Oper}{y:Code}{a:Exit→St→Prop}(h:AC A P y a s):AL A P ops [] (QaZ (AC A P y a) Q) s:=Qc h
def QsB {y:Code}{a:Exit→St→Prop}(h:AC A P y a s):AC A P .skip (QaZ (AC A P y a) Q) s:=AC.skip h
def Qy {c:Code}(I:Nat→St→Prop){m:Nat}{s':St}(h0:I m s')(k:Wk A s s')
 (round:∀m s,I m s→AC A P c (QaZ (fun d=>∃a b,a<m∧Wk A d b∧I a b) Q) s):AC A P (.loop c) Q s:=AC.wk k (Qwm I h0 round)
def H7 {c:Operand}{x y:Code}{b:Bool}(f:Evl A s c (dB b))(i:b=true→AC A P x Q s)(g:b=false→AC A P y Q s):AC A P (.cond c x y) Q s:=fun a w r=>by
 obtain ⟨d,e⟩:=r
 have:=LVR.bool (f d a w e)
 exact wp_cond_split this (fun h=>i h a w ⟨d,e⟩) (fun h=>g h a w ⟨d,e⟩)
def JB {ops:Array Oper}{j d:Nat}{b:Bool}(g:(ops[j]?).bind (·.dst)=some d)(h:lk s.tm d=some (lf (dB b))){gh:Gh}{a:Act}{w:World}(r:Rg A s gh a w):yielded ops a.tmps j=some b:=by
 obtain ⟨v,e,l,c,f⟩:=r.tm d _ h
 simp only[aN,and_true] at c
 subst c
 have:=LVR.bool f
 subst this
 simp[yielded,g,e]
def Qiz {ops:Array Oper}{o:Oper}{l:List Oper}{j d:Nat}{b:Bool}(m:o.guard=some (j,b))(i:(ops[j]?).bind (·.dst)=some d)(hb:lk s.tm d=some (lf (dB b)))(h:Does A P o s s')
 (k:AL A P ops l Q s'):AL A P ops (o::l) Q s:=fun a w r=>by
 obtain ⟨f,c⟩:=r
 refine wpList_step fun K g=> ?_
 rw[if_pos (by simp[Region.wanted,m,JB i hb c])]
 exact h a w _ _ ⟨f,c⟩ fun e p n=>g _ _ (k e p n)
def Qj7 {ops:Array Oper}{o:Oper}{l:List Oper}{j d:Nat}{b:Bool}(m:o.guard=some (j,b))(i:(ops[j]?).bind (·.dst)=some d)(hb:lk s.tm d=some (lf (dB (!b))))
 (k:AL A P ops l Q (match o.dst with|some e=>s.put e (lf (.val undef))|none=>s)) (hn:(match o.dst with|some e=>Nat.blt e A.n|none=>true)=true):AL A P ops (o::l) Q s:=fun a w r=>by
 obtain ⟨g,f⟩:=r
 refine wpList_step fun K h=> ?_
 rw[if_neg (by simp[Region.wanted,m,JB i hb f])]
 refine h _ _ (k _ _ ?_)
 cases c:o.dst with
 | none=>exact ⟨g,f⟩
 | some e=>
  rw[c] at hn
  exact ⟨g,f.put (aD hn) (pv:=lf (.val undef)) ⟨_,rfl,rfl⟩⟩
def Qk {o:Oper}{d:Nat}{pv:PV}(f:o.dst=some d)(g:Nat.blt d A.n=true)
 (h:∀gh a w,Rg A s gh a w→∃v,(execOp a.eval o).run P w= .ok (.value v) w∧PVR s.tab.al gh w pv v):Does A P o s (s.put d pv):=fun a w K Q r e=>by
 obtain ⟨gh,r⟩:=r
 obtain ⟨v,b,c⟩:=h gh a w r
 unfold Oper.wp
 rw[b,Oper.upon_value,f]
 exact e _ _ ⟨gh,r.put (aD g) c⟩
end
structure Fr (T T':Tab) (gh gh':Gh) (w w':World):Prop where
  gw:Grw w w'
  kp:∀g,g<w.heap.size→(∀q,T.al q→g∉gh.f q)→w'.heap[g]? =w.heap[g]?
  nn:∀g,gh'.N g→gh.N g∨w.heap.size≤g∨∃q,T.al q∧g∈gh.f q
  ox:∀q,T'.al q→∀g∈gh'.f q,w.heap.size≤g∨∃q',T.al q'∧g∈gh.f q'
def FC (P:Program)(f:FuncId)(args:List (Bool×List LV))(T:Tab)(k:Nat)(O:PV→Tab→Prop):Prop:=
 ∀(gh:Gh) (w:World) (vs:List Value),Cx T gh w→CmsR T.al gh w args vs→
  Calls P f vs.toArray w fun e w'=>∃v pv T' gh',e= .returned v∧O pv T'∧Cx T' gh' w'∧PVR T'.al gh' w' pv v∧Fr T T' gh gh' w w'∧∀q,q<k→T'.al q→gh'.h q=gh.h q
def QcT:Nat→List (Bool×List LV)→List (Nat×PV)
 | _,[]=>[]
 | i,c::cs=>(i,.cm c.1 c.2)::QcT (i+1) cs
section
variable {P:Program}
theorem Qfo {al:Nat→Prop}{gh:Gh}{w:World}:∀{cs:List (Bool×List LV)} {vs:List Value} {k i:Nat} {pv:PV},CmsR al gh w cs vs→lk (QcT k cs) i=some pv→∃v,k≤i∧vs[i - k]? =some v∧PVR al gh w pv v
 | [],_,_,_,_,_,h=>by cases h
 | c::cs,_,k,i,pv,⟨v,vs',hv,h1,h2⟩,h=>by
  subst hv
  rw[QcT,UW] at h
  by_cases e:i=k
  ·rw[if_pos e] at h
   cases h
   exact ⟨v,by omega,by simp[e],h1⟩
  ·rw[if_neg e] at h
   obtain ⟨f,a,b,d⟩:=Qfo h2 h
   grind
def CmsR.len {al:Nat→Prop}{gh:Gh}{w:World}{cs:List (Bool×List LV)}{vs:List Value}(h:CmsR al gh w cs vs):vs.length=cs.length:=by
 induction cs generalizing vs with
 | nil=>rw[show vs=[] from h];rfl
 | cons c cs b=>obtain ⟨v,d,rfl,_,a⟩:=h;simp[b a]
def Res (A:Amb)(P:Program)(fn:Func)(s:St)(pv:PV):Prop:=∀gh a w,Rg A s gh a w→∃v,(results fn a.tmps).run P w= .ok v w∧PVR s.tab.al gh w pv v
def fin (A:Amb)(P:Program)(fn:Func)(O:PV→Tab→Prop):Exit→St→Prop
 | .ret,s=>∃pv,Res A P fn s pv∧O pv s.tab
 | .normal,s=>∃pv,Res A P fn s pv∧O pv s.tab
 | _,_=>False
def QCk {f:FuncId}{fn:Func}{c:Code}{args:List (Bool×List LV)}{T:Tab}{k:Nat}{O:PV→Tab→Prop}(M:P.funcs[f]? =some fn)(hb:fn.body=some c)(U:Nat.ble args.length fn.ntmps=true)
 (h:∀A:Amb,A.n=fn.ntmps→A.k0=k→AC A P c (fin A P fn O) ⟨QcT 0 args,T⟩):FC P f args T k O:=fun m w y J G=>by
 let A:Amb:=⟨w,fun g=>m.N g∨∃q,T.al q∧g∈m.f q,fun g=>∀q,T.al q→g∉m.f q,fn.ntmps,k,m.h,m.f⟩
 have H:=G.len
 have V:args.length≤fn.ntmps:=aD U
 have r:R A ⟨QcT 0 args,T⟩ {tmps:=y.toArray++Array.replicate (fn.ntmps - y.toArray.size) undef,defers:=[]} w:=by
  refine ⟨m,J,?_,rfl,fun i o S=> ?_,ZN _,fun _ _ _=>rfl,fun g d=> .inl (.inl d),fun q p g d _ x=>x q p d,fun _ _ _=>rfl,fun g _ x=> .inr (Classical.byContradiction fun E=>x fun q p d=>E ⟨q,p,d⟩)⟩
  ·simp only[Array.size_append,List.size_toArray,Array.size_replicate]
   show y.length+(fn.ntmps - y.length)=fn.ntmps
   omega
  ·obtain ⟨v,_,z,B⟩:=Qfo G S
   refine ⟨v,?_,B⟩
   have:i<y.length:=by have:=(ae.1 z).1;simpa using this
   rw[Array.getElem?_append_left (by simpa using this)]
   simpa using z
 refine calls_of_wp M hb (wp_mono (h A rfl rfl _ _ r) fun e a t q=> ?_)
 have done:∀s,R A s a t→(∃o,Res A P fn s o∧O o s.tab)→a.defers=[]∧∃v,(results fn a.tmps).run P t= .ok v t∧
  ∃I o u b,Ending.returned v= .returned I∧O o u∧Cx u b t∧PVR u.al b t o I∧Fr T u m b w t∧∀q,q<k→u.al q→b.h q=m.h q:=by
  rintro s ⟨b,j⟩ ⟨o,K,z⟩
  obtain ⟨v,B,L⟩:=K b a t j
  refine ⟨j.df,v,B,v,o,s.tab,b,rfl,z,j.cx,L,⟨j.gw,fun g d x=>j.kp g x d,fun g d=> ?_,fun q p g d=> ?_⟩,fun q p C=>j.hh q p C⟩
  ·rcases j.fr g d with (l|l)|l
   ·exact .inl l
   ·exact .inr (.inr l)
   ·exact .inr (.inl l)
  ·rcases Nat.lt_or_ge g w.heap.size with l|l
   ·right
    exact Classical.byContradiction fun E=>j.ox q p g d l fun W F D=>E ⟨W,F,D⟩
   ·exact .inl l
 obtain ⟨s,q,j⟩:=q
 cases e with
 | ret=>exact done s j q
 | normal=>exact done s j q
 | exit _=>exact q.elim
 | goto _=>exact q.elim
 | panic _=>exact q.elim
 | outgrown=>exact q.elim
end
def Qyq (tmps:Array Value):ResultVar→Sem Value
 | .tmp t=>pure (tmps.getD t undef)
 | .cell a t=>do loadVar t (← asAddr (tmps.getD a undef))
def Vn {α β:Type}(m:Sem α)(f:α→Sem β):Sem.bind m f=m >>= f:=rfl
def Ux (fn:Func)(tmps:Array Value):results fn tmps=(fn.results.mapM (Qyq tmps)).bind fun vs=>pure (if h:vs.size=1 then vs[0] else .tuple vs):=by
 unfold results
 show Sem.bind _ _=Sem.bind _ _
 congr 1
section
variable {A:Amb}{P:Program}{fn:Func}{s:St}
def Rs (A:Amb)(P:Program)(s:St)(r:ResultVar)(c:Bool×List LV):Prop:=∀gh a w,Rg A s gh a w→∃v,(Qyq a.tmps r).run P w= .ok v w∧CmR s.tab.al gh w c v
def U5 {t:Nat}{b:Bool}{ls:List LV}(h:lk s.tm t=some (.cm b ls)):Rs A P s (.tmp t) (b,ls):=fun c a w r=>⟨_,rfl,Qm h c a w r⟩
def Res.one {r:ResultVar}{b:Bool}{ls:List LV}(f:fn.results= #[r])(h:Rs A P s r (b,ls)):Res A P fn s (.cm b ls):=fun c a w g=>by
 obtain ⟨v,d,e⟩:=h c a w g
 refine ⟨v,?_,e⟩
 rw[Ux,f];simp[Vn,d,dY]
def YF {e f:ResultVar}{c1 c2:Bool×List LV}(n:fn.results= #[e,f])(l:Rs A P s e c1)(m:Rs A P s f c2):Res A P fn s (.tup [c1,c2]):=fun d a w g=>by
 obtain ⟨c,h,j⟩:=l d a w g
 obtain ⟨b,i,k⟩:=m d a w g
 refine ⟨.tuple #[c,b],?_,[c,b],rfl,c,[b],rfl,j,b,[],rfl,k,rfl⟩
 rw[Ux,n];simp[Vn,h,i,dY]
def QqB {f h i:ResultVar}{c1 c2 c3:Bool×List LV}(t:fn.results= #[f,h,i])(p:Rs A P s f c1)(q:Rs A P s h c2)(r:Rs A P s i c3):Res A P fn s (.tup [c1,c2,c3]):=fun d a w g=>by
 obtain ⟨e,j,m⟩:=p d a w g
 obtain ⟨c,k,n⟩:=q d a w g
 obtain ⟨b,l,o⟩:=r d a w g
 refine ⟨.tuple #[e,c,b],?_,[e,c,b],rfl,e,[c,b],rfl,m,c,[b],rfl,n,b,[],rfl,o,rfl⟩
 rw[Ux,t];simp[Vn,j,k,l,dY]
end
end Go.Proofs.YtjfpbcmfbnnooaaGreat
