/- Abstract states: what the slots hold, and the memory that the call owns, as plain data; what it means that a frame and a world are in such a state. No program is named here. -/
import Derived.Test.YtfkmmpfdncopdaaGreatNApp
set_option linter.unusedSimpArgs false
set_option linter.unusedVariables false
set_option linter.unusedSectionVars false
namespace Go.Proofs.YtfkmmpfdncopdaaGreat
open Go.RowKit
def Sub (N:Nat→Prop)(w wN:World):Prop:=∀a v,wN.cell? a=some v→N a.block∧w.cell? a=some v
def Rd (N:Nat→Prop)(t:Ty)(w:World)(cs:List Value)(x:t.Den):Prop:=∃wN,Sub N w wN∧Rep t wN cs x
section
variable {N N':Nat→Prop}{t:Ty}{w w' wN:World}{cs:List Value}{x:t.Den}
theorem Sub.mono (h:Sub N w wN)(k:∀g,N g→N' g∧w'.heap[g]? =w.heap[g]?):Sub N' w' wN:=
  fun a v e=>by
    obtain ⟨h1,h2⟩:=h a v e
    exact ⟨(k _ h1).1,by rw[World.cell?_of_block (k _ h1).2]; exact h2⟩
theorem Rd.mono (h:Rd N t w cs x)(k:∀g,N g→N' g∧w'.heap[g]? =w.heap[g]?):Rd N' t w' cs x:=by
  obtain ⟨wN,h1,h2⟩:=h
  exact ⟨wN,h1.mono k,h2⟩
theorem Rd.rep (h:Rd N t w cs x):Rep t w cs x:=by
  obtain ⟨wN,h1,h2⟩:=h
  exact h2.kp fun a v e=>(h1 a v e).2
theorem Rep.rd (h:Rep t w cs x)(hN:∀g,g < w.heap.size→N g):Rd N t w cs x:=⟨w,fun a v e=>⟨hN _ (World.block_lt_of_cell? w a e),e⟩,h⟩
theorem Qce (N:Nat→Prop)(w:World):∃wM,Sub N w wM∧∀g,N g→wM.heap[g]? =w.heap[g]? :=by
  classical
  refine ⟨{w with heap:=w.heap.mapIdx fun g o=>if N g then o else .deferred none},fun a v e=> ?_,fun g hg=> ?_⟩
  · by_cases h : N a.block
    · refine ⟨h, ?_⟩
      rw[← e]
      simp only[World.cell?,Array.getElem?_mapIdx]
      cases w.heap[a.block]? with
      | none=>rfl
      | some o=>simp[h]
    · exfalso
      simp only[World.cell?,Array.getElem?_mapIdx] at e
      cases h1:w.heap[a.block]? with
      | none=>simp[h1] at e
      | some o=>simp[h1,h] at e
  · simp only [Array.getElem?_mapIdx]
    cases w.heap[g]? with
    | none=>rfl
    | some o=>simp[hg]
theorem Sub.kp {wM:World}(h:Sub N w wN)(hM:∀g,N g→wM.heap[g]? =w.heap[g]?):Kp wN wM:=fun a v e=>by
  obtain ⟨h1,h2⟩:=h a v e
  rw[World.cell?_of_block (hM _ h1)]; exact h2
theorem Own.rd {fp:List Nat}(h:Own t w fp cs x)(hN:∀g∈fp,N g):Rd N t w cs x:=by
  obtain ⟨wM,h1,h2⟩:=Qce N w
  exact ⟨wM,h1,(h.keep fun g hg=>h2 g (hN g hg)).rep⟩
end
theorem Rep.own0:∀{t:Ty} {w w':World} {cs:List Value} {x:t.Den},Rep t w cs x→t.flat=true→Own t w' [] cs x
  | .int,_,_,_,_,h,_=>⟨rfl,h.1,h.2⟩
  | .bool,_,_,_,_,h,_=>⟨rfl,h⟩
  | .str,_,_,_,_,h,_=>⟨rfl,h.1,h.2⟩
  | .u8,_,_,_,_,h,_=>⟨rfl,h⟩
  | .vl,_,_,_,_,h,_=>⟨rfl,h⟩
  | .sl _ _,_,_,_,_,_,hf=>by cases hf
  | .pr a b,w,w',_,_,⟨l,r,h1,h2,h3⟩,hf=>by
    have hf:(a.flat&&b.flat)=true:=hf
    rw[aL] at hf
    exact ⟨[],[],l,r,rfl,h1,Rep.own0 h2 hf.1,Rep.own0 h3 hf.2⟩
theorem Rep.rd0 {N:Nat→Prop}{t:Ty}{w w':World}{cs:List Value}{x:t.Den}(h:Rep t w cs x)(hf:t.flat=true):Rd N t w' cs x:=
  (h.own0 (w':=w') hf).rd (by simp)
theorem Rd.pr {N:Nat→Prop}{a b:Ty}{w:World}{l r:List Value}{x:a.Den}{y:b.Den}(h:Rd N a w l x)(k:Rd N b w r y):Rd N (.pr a b) w (l++r) (x,y):=by
  obtain ⟨wM,m1,m2⟩:=Qce N w
  obtain ⟨w1,h1,h2⟩:=h
  obtain ⟨w2,k1,k2⟩:=k
  exact ⟨wM,m1,l,r,rfl,h2.kp (h1.kp m2),k2.kp (k1.kp m2)⟩
inductive LV where
  | val (v:Value)
  | dat (t:Ty) (x:t.Den)
  | ref (q:Nat)
  | ptr (q off:Nat)
  | ept (q wd i j:Nat)
  | sub (q wd lo n:Nat)
  | elt (t:Ty) (x:t.Den) (off:Nat)
  | clo (f:FuncId) (qs:List Nat)
inductive PV where
  | cm (b:Bool) (ls:List LV)
  | tup (cs:List (Bool×List LV))
@[reducible] def lf (l:LV):PV:= .cm false [l]
@[reducible] def ag (ls:List LV):PV:= .cm true ls
@[reducible] def dI (n:Int):LV:= .dat .int n
@[reducible] def dB (b:Bool):LV:= .dat .bool b
@[reducible] def dS (s:ByteArray):LV:= .dat .str s
structure Rsc where
  rel:(Nat→Prop)→World→List Nat→Value→Prop
  fl:Bool
  keep:∀{N N':Nat→Prop} {w w':World} {f:List Nat} {v:Value},rel N w f v→(∀g∈f,w'.heap[g]? =w.heap[g]?)→(∀g,N g→N' g∧w'.heap[g]? =w.heap[g]?)→rel N' w' f v
  lt:∀{N:Nat→Prop} {w:World} {f:List Nat} {v:Value},rel N w f v→∀g∈f,g < w.heap.size
  one:∀{N:Nat→Prop} {w:World} {f:List Nat} {v:Value},rel N w f v→v.oneCell'=true
  noN:fl=true→∀{N N':Nat→Prop} {w:World} {f:List Nat} {v:Value},rel N w f v→rel N' w f v
inductive Ent where
  | box (E:TypeId) (cs:List LV)
  | arr (E:TypeId) (e:Ty) (xs:List e.Den)
  | obx (E:TypeId) (wd n:Nat) (ls:List LV) (ov:List (Nat×LV))
  | mp (kb:Bool) (k:Ty) (vb:Bool) (v:Ty) (m:List (k.Den×v.Den))
  | bys (E:TypeId) (l:List UInt8)
  | pl (o:Bool) (e:Ty) (vs:List Hdr) (f:Hdr→e.Den)
  | fz (E:TypeId) (e:Ty) (xs:List e.Den)
  | res (R:Rsc)
@[reducible] def Tab:=List (Nat×Option Ent)
structure St where
  tm:List (Nat×PV)
  tab:Tab
structure Gh where
  h:Nat→Value
  f:Nat→List Nat
  N:Nat→Prop
def lk {α:Type _}:List (Nat×α)→Nat→Option α
  | [],_=>none
  | (j,x) :: l,i=>match Nat.beq i j with
    | true=>some x
    | false=>lk l i
theorem Y8 {α:Type _}(j:Nat)(x:α)(l:List (Nat×α))(i:Nat):lk ((j,x) :: l) i=if i=j then some x else lk l i:=by
  by_cases h:i=j
  · subst h; simp[lk]
  · have:Nat.beq i j=false:=by
      cases h':Nat.beq i j with
      | true=>exact absurd (aX h') h
      | false=>rfl
    simp[lk,this,h]
def Tab.ent (T:Tab)(q:Nat):Option Ent:=match lk T q with
  | some (some e)=>some e
  | _=>none
theorem Qh (j:Nat)(x:Option Ent)(T:Tab)(q:Nat):Tab.ent ((j,x) :: T) q=if q=j then x else T.ent q:=by
  unfold Tab.ent
  rw[Y8]
  by_cases h:q=j
  · simp[h]; cases x <;> rfl
  · simp[h]
def Tab.al (T:Tab)(q:Nat):Prop:=∃e,T.ent q=some e
def LV.tags:LV→List Nat
  | .ref q=>[q]
  | .ptr q _=>[q]
  | .ept q _ _ _=>[q]
  | .sub q _ _ _=>[q]
  | .clo _ qs=>qs
  | .val _=>[]
  | .dat _ _=>[]
  | .elt _ _ _=>[]
def Qw:List LV→List Nat
  | []=>[]
  | l :: ls=>l.tags++Qw ls
def Wd:List (Bool×List LV)→List Nat
  | []=>[]
  | c :: cs=>Qw c.2++Wd cs
def ovr (ls:List LV):List (Nat×LV)→List LV
  | []=>ls
  | p :: ov=>(ovr ls ov).set p.1 p.2
def KJ:List (Nat×LV)→List Nat
  | []=>[]
  | p :: ov=>p.2.tags++KJ ov
theorem QfE {ls:List LV}{p:Nat}{l:LV}:∀q∈Qw (ls.set p l),q∈l.tags∨q∈Qw ls:=by
  induction ls generalizing p with
  | nil=>intro q hq; exact .inr (by simpa using hq)
  | cons x ls ih=>
    cases p with
    | zero=>
      intro q hq
      simp only[List.set_cons_zero,Qw,aK] at hq
      rcases hq with h | h
      · exact .inl h
      · exact .inr (by simp[Qw,h])
    | succ p=>
      intro q hq
      simp only[cK,Qw,aK] at hq
      rcases hq with h | h
      · exact .inr (by simp[Qw,h])
      · rcases ih q h with h | h
        · exact .inl h
        · exact .inr (by simp[Qw,h])
theorem Qb5 {ls:List LV}(h:Qw ls=[]):∀{ov:List (Nat×LV)},∀q∈Qw (ovr ls ov),q∈KJ ov
  | [],q,hq=>by rw[show ovr ls []=ls from rfl,h] at hq; cases hq
  | p :: ov,q,hq=>by
    rcases QfE q hq with h1 | h1
    · exact aQ _ h1
    · exact aT _ (Qb5 h q h1)
def PV.tags:PV→List Nat
  | .cm _ ls=>Qw ls
  | .tup cs=>Wd cs
def Ent.tags:Ent→List Nat
  | .box _ cs=>Qw cs
  | .arr _ _ _=>[]
  | .obx _ _ _ _ ov=>KJ ov
  | .mp _ _ _ _ _=>[]
  | .bys _ _=>[]
  | .pl _ _ _ _=>[]
  | .fz _ _ _=>[]
  | .res _=>[]
def Qrl (n:Nat):List Nat→Bool
  | []=>true
  | q :: qs=>Nat.blt q n&&Qrl n qs
def SubR (h:Value)(wd lo n:Nat)(v:Value):Prop:=∃B m c,h= .slice B m c∧v= .slice (if c=lo then B else B.map (·.add (lo*wd))) n (c - lo)
section
variable (al:Nat→Prop)(gh:Gh)(w:World)
def LVR:LV→Value→Prop
  | .val u,v=>v=u
  | .dat t x,v=>Rd gh.N t w [v] x
  | .ref q,v=>al q→v=gh.h q
  | .ptr q off,v=>al q→∃g,gh.h q= .pointer (some ⟨g,0,none⟩)∧v= .pointer (some ⟨g,off,none⟩)
  | .ept q wd i j,v=>al q→∃g n c,gh.h q= .slice (some ⟨g,0,none⟩) n c∧v= .pointer (some ⟨g,i*wd+j,none⟩)
  | .sub q wd lo n,v=>al q→SubR (gh.h q) wd lo n v
  | .elt t x off,v=>∃b o ds wN,v= .pointer (some ⟨b,o+off,none⟩)∧Sub gh.N w wN∧Rep t wN ds x∧∀j u,ds[j]? =some u→wN.cell? ⟨b,o+j,none⟩=some u
  | .clo f qs,v=>(∀q∈qs,al q)→v= .func (.func f) #[] (qs.map gh.h).toArray
def LVs:List LV→List Value→Prop
  | [],vs=>vs=[]
  | l :: ls,vs=>∃v vs',vs=v :: vs'∧LVR al gh w l v∧LVs ls vs'
def CmR:Bool×List LV→Value→Prop
  | (true,ls),v=>∃vs,v= .agg vs.toArray∧LVs al gh w ls vs
  | (false,ls),v=>∃l,ls=[l]∧LVR al gh w l v
def CmsR:List (Bool×List LV)→List Value→Prop
  | [],vs=>vs=[]
  | c :: cs,vs=>∃v vs',vs=v :: vs'∧CmR al gh w c v∧CmsR cs vs'
def PVR:PV→Value→Prop
  | .cm b ls,v=>CmR al gh w (b,ls) v
  | .tup cs,v=>∃vs,v= .tuple vs.toArray∧CmsR al gh w cs vs
def LO:LV→List Nat→Value→Prop
  | .dat t x,f,v=>Own t w f [v] x
  | .ref q,f,v=>f=[]∧v.oneCell'=true∧(al q→v=gh.h q)
  | .val u,f,v=>f=[]∧v=u∧u.oneCell'=true
  | _,_,_=>False
def LOs:List LV→List Nat→List Value→Prop
  | [],f,cs=>f=[]∧cs=[]
  | l :: ls,f,cs=>∃f1 f2 v cs',f=f1++f2∧cs=v :: cs'∧LO al gh w l f1 v∧LOs ls f2 cs'
def MV:Bool→(t:Ty)→Value→t.Den→Prop
  | true,t,v,x=>∃cs,v= .agg cs.toArray∧Rd gh.N t w cs x
  | false,t,v,x=>Rd gh.N t w [v] x
def Born (es:List MapEntry)(clock:Nat):Prop:=(∀x∈es,x.born < clock)∧(es.map (·.born)).Nodup
def MpL (kb:Bool)(k:Ty)(vb:Bool)(v:Ty):List MapEntry→List (k.Den×v.Den)→Prop
  | [],m=>m=[]
  | e :: es,m=>∃x y m',m=(x,y) :: m'∧MV gh w kb k e.key x∧MV gh w vb v e.val y∧MpL kb k vb v es m'
def Row (w:World)(g:Nat)(cur:Array Value)(E:TypeId):Prop:=∃f:Nat×Nat,w.heap[g]? =some (.cells cur E f)∧(f=(0,0)∨f=(cur.size,cur.size+1))
def FzL (N:Nat→Prop)(w:World)(e:Ty):List Hdr→List e.Den→Prop
  | [],xs=>xs=[]
  | v :: vs,xs=>∃x r,xs=x :: r∧Rd N e w [hdV v] x∧FzL N w e vs r
def EntR (q:Nat):Ent→Prop
  | .box E cs=>∃g cur,gh.h q= .pointer (some ⟨g,0,none⟩)∧gh.f q=[g]∧w.heap[g]? =some (.cells cur E (0,0))∧LVs al gh w cs cur.toList
  | .arr E e xs=>Own (.sl E e) w (gh.f q) [gh.h q] xs
  | .obx E wd n ls0 ov=>Qw ls0=[]∧∃g cap cur fps,gh.h q= .slice (some ⟨g,0,none⟩) n cap∧gh.f q=g :: fps∧w.heap[g]? =some (.cells cur E (0,0))∧n≤cap∧cap≤maxLen∧cur.size=cap*wd∧(ovr ls0 ov).length=n*wd∧LOs al gh w (ovr ls0 ov) fps (cur.toList.take (n*wd))
  | .bys E l=>∃g cap cur,gh.h q= .slice (some ⟨g,0,none⟩) l.length cap∧gh.f q=[g]∧Row w g cur E∧l.length≤cap∧cap≤maxLen∧cur.size=cap∧cur.toList.take l.length=l.map fun b=>Value.int .u8 b.toNat
  | .fz E e xs=>∃vs,Own (.sl E .vl) w (gh.f q) [gh.h q] vs∧FzL gh.N w e vs xs
  | .res R=>R.rel gh.N w (gh.f q) (gh.h q)
  | .pl true e vs f=>gh.h q= .slice none 0 0∧OwnL (Own e w) (gh.f q) (vs.map hdV) (vs.map f)
  | .pl false e vs f=>gh.h q= .slice none 0 0∧gh.f q=[]∧∀v∈vs,Rd gh.N e w [hdV v] (f v)
  | .mp kb k vb v m=>∃g es clock,gh.h q= .map (some g)∧gh.f q=[g]∧w.heap[g]? =some (.map es clock)∧Born es.toList clock∧m.Pairwise (fun p q=>p.1≠q.1)∧MpL gh w kb k vb v es.toList m
end
section
variable {w w':World}{g:Nat}{cur:Array Value}{E:TypeId}
theorem Row.keep (h:Row w g cur E)(k:w'.heap[g]? =w.heap[g]?):Row w' g cur E:=by
  obtain ⟨f,h1,h2⟩:=h
  exact ⟨f,k.trans h1,h2⟩
theorem Row.lt (h:Row w g cur E):g < w.heap.size:=by
  obtain ⟨f,h1,_⟩:=h
  exact (bP.1 h1).1
theorem Row.cell (h:Row w g cur E)(i:Nat):w.cell? ⟨g,i,none⟩=cur[i]? :=by
  obtain ⟨f,h1,_⟩:=h
  simp[World.cell?,h1]
theorem Row.soft (h:Row w g cur E){i:Nat}(hi:i < cur.size):w.frozen? ⟨g,i,none⟩=false:=by
  obtain ⟨f,h1,h2⟩:=h
  rcases h2 with rfl | rfl
  · simp[World.frozen?,h1]
  · simp only [World.frozen?, h1]
    simp
    omega
end
section
variable {al al':Nat→Prop}{gh gh':Gh}{w w':World}
theorem LVR.mono {l:LV}{v:Value}(h:LVR al gh w l v)(ha:∀q∈l.tags,al' q→al q∧gh'.h q=gh.h q)(hN:∀g,gh.N g→gh'.N g∧w'.heap[g]? =w.heap[g]?):LVR al' gh' w' l v:=by
  cases l with
  | val u=>exact h
  | dat t x=>exact Rd.mono h hN
  | ref q=>intro k; obtain ⟨k1,k2⟩:=ha q (by simp[LV.tags]) k; rw[k2]; exact h k1
  | ptr q off=>intro k; obtain ⟨k1,k2⟩:=ha q (by simp[LV.tags]) k; rw[k2]; exact h k1
  | ept q wd i j=>intro k; obtain ⟨k1,k2⟩:=ha q (by simp[LV.tags]) k; rw[k2]; exact h k1
  | sub q wd lo n=>intro k; obtain ⟨k1,k2⟩:=ha q (by simp[LV.tags]) k; rw[k2]; exact h k1
  | elt t x off=>obtain ⟨b,o,ds,wN,h1,h2,h3,h4⟩:=h; exact ⟨b,o,ds,wN,h1,h2.mono hN,h3,h4⟩
  | clo f qs=>
    intro k
    have h1:v=_:=h fun q hq=>(ha q (by simpa [LV.tags] using hq) (k q hq)).1
    rw[h1]
    congr 1
    refine congrArg List.toArray (List.map_congr_left fun q hq=> ?_)
    exact (ha q (by simpa [LV.tags] using hq) (k q hq)).2.symm
theorem LVs.mono {ls:List LV}{vs:List Value}(h:LVs al gh w ls vs)(ha:∀q∈Qw ls,al' q→al q∧gh'.h q=gh.h q)(hN:∀g,gh.N g→gh'.N g∧w'.heap[g]? =w.heap[g]?):LVs al' gh' w' ls vs:=by
  induction ls generalizing vs with
  | nil=>exact h
  | cons l ls ih=>
    obtain ⟨v,vs',rfl,h1,h2⟩:=h
    exact ⟨v,vs',rfl,h1.mono (fun q hq=>ha q (by simp[Qw,hq])) hN,ih h2 fun q hq=>ha q (by simp[Qw,hq])⟩
theorem CmR.mono {c:Bool×List LV}{v:Value}(h:CmR al gh w c v)(ha:∀q∈Qw c.2,al' q→al q∧gh'.h q=gh.h q)(hN:∀g,gh.N g→gh'.N g∧w'.heap[g]? =w.heap[g]?):CmR al' gh' w' c v:=by
  obtain ⟨b,ls⟩:=c
  cases b with
  | true=>obtain ⟨vs,rfl,h1⟩:=h; exact ⟨vs,rfl,h1.mono ha hN⟩
  | false=>obtain ⟨l,rfl,h1⟩:=h; exact ⟨l,rfl,h1.mono (fun q hq=>ha q (by simp[Qw,hq])) hN⟩
theorem CmsR.mono {cs:List (Bool×List LV)}{vs:List Value}(h:CmsR al gh w cs vs)(ha:∀q∈Wd cs,al' q→al q∧gh'.h q=gh.h q)(hN:∀g,gh.N g→gh'.N g∧w'.heap[g]? =w.heap[g]?):CmsR al' gh' w' cs vs:=by
  induction cs generalizing vs with
  | nil=>exact h
  | cons c cs ih=>
    obtain ⟨v,vs',rfl,h1,h2⟩:=h
    exact ⟨v,vs',rfl,h1.mono (fun q hq=>ha q (by simp[Wd,hq])) hN,ih h2 fun q hq=>ha q (by simp[Wd,hq])⟩
theorem PVR.mono {pv:PV}{v:Value}(h:PVR al gh w pv v)(ha:∀q∈pv.tags,al' q→al q∧gh'.h q=gh.h q)(hN:∀g,gh.N g→gh'.N g∧w'.heap[g]? =w.heap[g]?):PVR al' gh' w' pv v:=by
  cases pv with
  | cm b ls=>exact CmR.mono h ha hN
  | tup cs=>obtain ⟨vs,rfl,h1⟩:=h; exact ⟨vs,rfl,h1.mono ha hN⟩
theorem LOs.mono {ls:List LV}{f:List Nat}{cs:List Value}(h:LOs al gh w ls f cs)(ha:∀q∈Qw ls,al' q→al q∧gh'.h q=gh.h q)(hb:∀g∈f,w'.heap[g]? =w.heap[g]?):LOs al' gh' w' ls f cs:=by
  induction ls generalizing f cs with
  | nil=>exact h
  | cons l ls ih=>
    obtain ⟨f1,f2,v,cs',rfl,rfl,h1,h2⟩:=h
    refine ⟨f1,f2,v,cs',rfl,rfl, ?_,ih h2 (fun q hq=>ha q (by simp[Qw,hq])) fun g hg=>hb g (aT _ hg)⟩
    cases l with
    | dat t x=>exact Own.keep h1 fun g hg=>hb g (aQ _ hg)
    | ref q=>
      refine ⟨h1.1,h1.2.1,fun k=> ?_⟩
      obtain ⟨k1,k2⟩:=ha q (by simp[Qw,LV.tags]) k
      rw[k2]; exact h1.2.2 k1
    | val u=>exact h1
    | _=>exact h1.elim
theorem LOs.lt {ls:List LV}{f:List Nat}{cs:List Value}(h:LOs al gh w ls f cs):∀g∈f,g < w.heap.size:=by
  induction ls generalizing f cs with
  | nil=>rw[h.1]; simp
  | cons l ls ih=>
    obtain ⟨f1,f2,v,cs',rfl,rfl,h1,h2⟩:=h
    intro g hg
    rcases aK.1 hg with hg | hg
    · cases l with
      | dat t x=>exact Own.lt h1 g hg
      | ref q=>rw[h1.1] at hg; cases hg
      | val u=>rw[h1.1] at hg; cases hg
      | _=>exact h1.elim
    · exact ih h2 g hg
theorem MV.mono {b:Bool}{t:Ty}{v:Value}{x:t.Den}(h:MV gh w b t v x)(hN:∀g,gh.N g→gh'.N g∧w'.heap[g]? =w.heap[g]?):MV gh' w' b t v x:=by
  cases b with
  | true=>obtain ⟨cs,h1,h2⟩:=h; exact ⟨cs,h1,h2.mono hN⟩
  | false=>exact Rd.mono h hN
theorem MpL.mono {kb vb:Bool}{k v:Ty}{es:List MapEntry}{m:List (k.Den×v.Den)}(h:MpL gh w kb k vb v es m)(hN:∀g,gh.N g→gh'.N g∧w'.heap[g]? =w.heap[g]?):MpL gh' w' kb k vb v es m:=by
  induction es generalizing m with
  | nil=>exact h
  | cons e es ih=>
    obtain ⟨x,y,m',h0,h1,h2,h3⟩:=h
    exact ⟨x,y,m',h0,h1.mono hN,h2.mono hN,ih h3⟩
theorem FzL.mono {N N':Nat→Prop}{e:Ty}{vs:List Hdr}{xs:List e.Den}(h:FzL N w e vs xs)(hN:∀g,N g→N' g∧w'.heap[g]? =w.heap[g]?):FzL N' w' e vs xs:=by
  induction vs generalizing xs with
  | nil=>exact h
  | cons v vs ih=>obtain ⟨x,r,h1,h2,h3⟩:=h; exact ⟨x,r,h1,h2.mono hN,ih h3⟩
theorem EntR.mono {q:Nat}{e:Ent}(h:EntR al gh w q e)(ha:∀r∈e.tags,al' r→al r∧gh'.h r=gh.h r)(hN:∀g,gh.N g→gh'.N g∧w'.heap[g]? =w.heap[g]?)
    (hh:gh'.h q=gh.h q) (hf:gh'.f q=gh.f q) (hb:∀g∈gh.f q,w'.heap[g]? =w.heap[g]?):EntR al' gh' w' q e:=by
  cases e with
  | box E cs=>
    obtain ⟨g,cur,h1,h2,h3,h4⟩:=h
    exact ⟨g,cur,hh.trans h1,hf.trans h2,(hb g (by rw[h2]; simp)).trans h3,h4.mono ha hN⟩
  | arr E e xs=>
    unfold EntR
    rw[hh,hf]
    exact Own.keep h hb
  | obx E wd n ls0 ov=>
    obtain ⟨h0,g,cap,cur,fps,h1,h2,h3,h4,h5,h6,h7,h8⟩:=h
    exact ⟨h0,g,cap,cur,fps,hh.trans h1,hf.trans h2,(hb g (by rw[h2]; simp)).trans h3,h4,h5,h6,h7,h8.mono (fun r hr=>ha r (Qb5 h0 r hr)) fun g' hg'=>hb g' (by rw[h2]; exact ax _ hg')⟩
  | mp kb k vb v m=>
    obtain ⟨g,es,clock,h1,h2,h3,h0,h4,h5⟩:=h
    exact ⟨g,es,clock,hh.trans h1,hf.trans h2,(hb g (by rw[h2]; simp)).trans h3,h0,h4,h5.mono hN⟩
  | bys E l=>
    obtain ⟨g,cap,cur,h1,h2,h3,h4⟩:=h
    exact ⟨g,cap,cur,hh.trans h1,hf.trans h2,h3.keep (hb g (by rw[h2]; simp)),h4⟩
  | pl o e vs f=>
    cases o with
    | true=>exact ⟨hh.trans h.1,by rw[hf]; exact OwnL.mono h.2 fun f' c x hf' ho=>Own.keep ho fun g hg=>hb g (hf' g hg)⟩
    | false=>exact ⟨hh.trans h.1,hf.trans h.2.1,fun v hv=>(h.2.2 v hv).mono hN⟩
  | fz E e xs=>
    obtain ⟨vs,h1,h2⟩:=h
    exact ⟨vs,by rw[hh,hf]; exact Own.keep h1 hb,h2.mono hN⟩
  | res R=>
    unfold EntR
    rw[hh,hf]
    exact R.keep h hb hN
theorem EntR.lt {q:Nat}{e:Ent}(h:EntR al gh w q e):∀g∈gh.f q,g < w.heap.size:=by
  cases e with
  | box E cs=>
    obtain ⟨g,cur,h1,h2,h3,h4⟩:=h
    rw[h2]
    intro g' hg'
    obtain rfl:=aC.1 hg'
    rcases cO g' w.heap.size with k | k
    · exact k
    · rw[Array.getElem?_eq_none k] at h3; cases h3
  | arr E e xs=>exact Own.lt h
  | obx E wd n ls0 ov=>
    obtain ⟨h0,g,cap,cur,fps,h1,h2,h3,h4,h5,h6,h7,h8⟩:=h
    rw[h2]
    intro g' hg'
    rcases aE.1 hg' with rfl | hg'
    · rcases cO g' w.heap.size with k | k
      · exact k
      · rw[Array.getElem?_eq_none k] at h3; cases h3
    · exact h8.lt g' hg'
  | bys E l=>
    obtain ⟨g,cap,cur,h1,h2,h3,h4⟩:=h
    rw[h2]
    intro g' hg'
    obtain rfl:=aC.1 hg'
    exact h3.lt
  | pl o e vs f=>
    cases o with
    | true=>exact OwnL.lt h.2
    | false=>rw[h.2.1]; intro g hg; cases hg
  | fz E e xs=>obtain ⟨vs,h1,_⟩:=h; exact Own.lt h1
  | res R=>exact R.lt h
  | mp kb k vb v m=>
    obtain ⟨g,es,clock,h1,h2,h3,h4⟩:=h
    rw[h2]
    intro g' hg'
    obtain rfl:=aC.1 hg'
    rcases cO g' w.heap.size with k | k
    · exact k
    · rw[Array.getElem?_eq_none k] at h3; cases h3
theorem LVs.len {ls:List LV}{vs:List Value}(h:LVs al gh w ls vs):vs.length=ls.length:=by
  induction ls generalizing vs with
  | nil=>rw[show vs=[] from h]; rfl
  | cons l ls ih=>obtain ⟨v,vs',rfl,_,h2⟩:=h; simp[ih h2]
theorem LVs.get {ls:List LV}{vs:List Value}(h:LVs al gh w ls vs){i:Nat}{l:LV}(hl:ls[i]? =some l):∃v,vs[i]? =some v∧LVR al gh w l v:=by
  induction ls generalizing vs i with
  | nil=>simp at hl
  | cons l' ls ih=>
    obtain ⟨v,vs',rfl,h1,h2⟩:=h
    cases i with
    | zero=>simp at hl; subst hl; exact ⟨v,rfl,h1⟩
    | succ i=>exact ih h2 (by simpa using hl)
theorem LVs.app {l1 l2:List LV}{v1 v2:List Value}(h:LVs al gh w l1 v1)(k:LVs al gh w l2 v2):LVs al gh w (l1++l2) (v1++v2):=by
  induction l1 generalizing v1 with
  | nil=>rw[show v1=[] from h]; exact k
  | cons l ls ih=>obtain ⟨v,vs',rfl,h1,h2⟩:=h; exact ⟨v,vs'++v2,rfl,h1,ih h2⟩
theorem Qd3 {l1 l2:List LV}{vs:List Value}(h:LVs al gh w (l1++l2) vs):∃v1 v2,vs=v1++v2∧LVs al gh w l1 v1∧LVs al gh w l2 v2:=by
  induction l1 generalizing vs with
  | nil=>exact ⟨[],vs,rfl,rfl,h⟩
  | cons l ls ih=>
    obtain ⟨v,vs',rfl,h1,h2⟩:=h
    obtain ⟨a,b,rfl,h3,h4⟩:=ih h2
    exact ⟨v :: a,b,rfl,⟨v,a,rfl,h1,h3⟩,h4⟩
theorem LVs.take {ls:List LV}{vs:List Value}(h:LVs al gh w ls vs)(n:Nat):LVs al gh w (ls.take n) (vs.take n):=by
  induction ls generalizing vs n with
  | nil=>rw[show vs=[] from h]; simp[LVs]
  | cons l ls ih=>
    obtain ⟨v,vs',rfl,h1,h2⟩:=h
    cases n with
    | zero=>simp[LVs]
    | succ n=>exact ⟨v,_,rfl,h1,ih h2 n⟩
theorem LVs.drop {ls:List LV}{vs:List Value}(h:LVs al gh w ls vs)(n:Nat):LVs al gh w (ls.drop n) (vs.drop n):=by
  induction ls generalizing vs n with
  | nil=>rw[show vs=[] from h]; simp[LVs]
  | cons l ls ih=>
    obtain ⟨v,vs',rfl,h1,h2⟩:=h
    cases n with
    | zero=>exact ⟨v,vs',rfl,h1,h2⟩
    | succ n=>exact ih h2 n
theorem LVs.one {ls:List LV}{v:Value}(h:LVs al gh w ls [v]){l:LV}(hl:ls=[l]):LVR al gh w l v:=by
  subst hl
  obtain ⟨_,_,h0,h1,_⟩:=h
  simp only[aI] at h0
  obtain ⟨rfl,rfl⟩:=h0
  exact h1
end
def leaves:(t:Ty)→t.Den→List LV
  | .int,x=>[.dat .int x]
  | .bool,x=>[.dat .bool x]
  | .str,x=>[.dat .str x]
  | .u8,x=>[.dat .u8 x]
  | .vl,x=>[.dat .vl x]
  | .sl E e,x=>[.dat (.sl E e) x]
  | .pr a b,x=>leaves a x.1++leaves b x.2
theorem Z9:∀(t:Ty) (x:t.Den),(leaves t x).length=t.wd
  | .int,_=>rfl
  | .bool,_=>rfl
  | .str,_=>rfl
  | .u8,_=>rfl
  | .vl,_=>rfl
  | .sl _ _,_=>rfl
  | .pr a b,x=>by simp[leaves,Z9 a,Z9 b]
theorem Rd.leaves {al:Nat→Prop}{gh:Gh}{w:World}:∀{t:Ty} {cs:List Value} {x:t.Den},Rd gh.N t w cs x→LVs al gh w (leaves t x) cs
  | .int,cs,x,h=>by
    obtain ⟨wN,h1,h2⟩:=h; have:=h2.1; subst this; exact ⟨_,[],rfl,⟨wN,h1,h2⟩,rfl⟩
  | .bool,cs,x,h=>by
    obtain ⟨wN,h1,h2⟩:=h; have h2:cs=_:=h2; subst h2; exact ⟨_,[],rfl,⟨wN,h1,rfl⟩,rfl⟩
  | .str,cs,x,h=>by
    obtain ⟨wN,h1,h2⟩:=h; have:=h2.1; subst this; exact ⟨_,[],rfl,⟨wN,h1,h2⟩,rfl⟩
  | .u8,cs,x,h=>by
    obtain ⟨wN,h1,h2⟩:=h; have h2:cs=_:=h2; subst h2; exact ⟨_,[],rfl,⟨wN,h1,rfl⟩,rfl⟩
  | .vl,cs,x,h=>by
    obtain ⟨wN,h1,h2⟩:=h; have h2:cs=_:=h2; subst h2; exact ⟨_,[],rfl,⟨wN,h1,rfl⟩,rfl⟩
  | .sl E e,cs,x,h=>by
    have hl:=h.rep.len
    match cs,hl with
    | [v],_=>exact ⟨v,[],rfl,h,rfl⟩
  | .pr a b,cs,x,h=>by
    obtain ⟨wN,h1,l,r,rfl,h2,h3⟩:=h
    exact LVs.app (Rd.leaves ⟨wN,h1,h2⟩) (Rd.leaves ⟨wN,h1,h3⟩)
theorem LVs.rd {al:Nat→Prop}{gh:Gh}{w:World}:∀{t:Ty} {cs:List Value} {x:t.Den},LVs al gh w (Go.Proofs.YtfkmmpfdncopdaaGreat.leaves t x) cs→Rd gh.N t w cs x
  | .int,cs,x,h=>by obtain ⟨v,vs,rfl,h1,h2⟩:=h; rw[show vs=[] from h2]; exact h1
  | .bool,cs,x,h=>by obtain ⟨v,vs,rfl,h1,h2⟩:=h; rw[show vs=[] from h2]; exact h1
  | .str,cs,x,h=>by obtain ⟨v,vs,rfl,h1,h2⟩:=h; rw[show vs=[] from h2]; exact h1
  | .u8,cs,x,h=>by obtain ⟨v,vs,rfl,h1,h2⟩:=h; rw[show vs=[] from h2]; exact h1
  | .vl,cs,x,h=>by obtain ⟨v,vs,rfl,h1,h2⟩:=h; rw[show vs=[] from h2]; exact h1
  | .sl E e,cs,x,h=>by obtain ⟨v,vs,rfl,h1,h2⟩:=h; rw[show vs=[] from h2]; exact h1
  | .pr a b,cs,x,h=>by
    obtain ⟨v1,v2,rfl,h1,h2⟩:=Qd3 h
    exact Rd.pr (LVs.rd h1) (LVs.rd h2)
structure Cx (T:Tab) (gh:Gh) (w:World):Prop where
  en:∀q e,T.ent q=some e→EntR T.al gh w q e
  dj:∀q q',T.al q→T.al q'→q≠q'→∀g∈gh.f q,g∉gh.f q'
  nd:∀q,T.al q→(gh.f q).Nodup
  no:∀q,T.al q→∀g∈gh.f q,¬gh.N g
  nl:∀g,gh.N g→g < w.heap.size
theorem Cx.lt {T:Tab}{gh:Gh}{w:World}(h:Cx T gh w){q:Nat}(hq:T.al q):∀g∈gh.f q,g < w.heap.size:=by
  obtain ⟨e,he⟩:=hq
  exact (h.en q e he).lt
structure Grw (w w':World):Prop where
  os:w'.os=w.os
  tape:w'.tape=w.tape
  output:w'.output=w.output
  size:w.heap.size≤w'.heap.size
theorem ZE (w:World):Grw w w:=⟨rfl,rfl,rfl,aO _⟩
theorem Grw.trans {a b c:World}(h:Grw a b)(k:Grw b c):Grw a c:=⟨k.os.trans h.os,k.tape.trans h.tape,k.output.trans h.output,bw h.size k.size⟩
theorem Nw.grw {a b:World}(h:Nw a b):Grw a b:=⟨h.os,h.tape,h.output,h.size⟩
structure Amb where
  w0:World
  N0:Nat→Prop
  X:Nat→Prop
  n:Nat
  k0:Nat
  h0:Nat→Value
  f0:Nat→List Nat
structure Rg (A:Amb) (s:St) (gh:Gh) (a:Act) (w:World):Prop where
  cx:Cx s.tab gh w
  sz:a.tmps.size=A.n
  df:a.defers=[]
  tm:∀i pv,lk s.tm i=some pv→∃v,a.tmps[i]? =some v∧PVR s.tab.al gh w pv v
  gw:Grw A.w0 w
  kp:∀g,A.X g→g < A.w0.heap.size→w.heap[g]? =A.w0.heap[g]?
  fr:∀g,gh.N g→A.N0 g∨A.w0.heap.size≤g
  ox:∀q,s.tab.al q→∀g∈gh.f q,g < A.w0.heap.size→¬A.X g
  hh:∀q,q < A.k0→s.tab.al q→gh.h q=A.h0 q
  xn:∀g,g < A.w0.heap.size→¬A.X g→A.N0 g
def R (A:Amb)(s:St)(a:Act)(w:World):Prop:=∃gh,Rg A s gh a w
def Does (A:Amb)(P:Program)(o:Oper)(s s':St):Prop:=∀a w K Q,R A s a w→(∀a' w',R A s' a' w'→K a' w')→o.wp P a w K Q
def Wk (A:Amb)(s s':St):Prop:=∀a w,R A s a w→R A s' a w
theorem QsU (A:Amb)(s:St):Wk A s s:=fun _ _ h=>h
theorem Wk.trans {A:Amb}{s s' s'':St}(h:Wk A s s')(k:Wk A s' s''):Wk A s s'':=fun a w x=>k a w (h a w x)
theorem Does.wk {A:Amb}{P:Program}{o:Oper}{s s' s'':St}(h:Does A P o s s')(k:Wk A s' s''):Does A P o s s'':=fun a w K Q r hk=>h a w K Q r fun a' w' r'=>hk a' w' (k a' w' r')
theorem QsZ {A:Amb}{P:Program}{o:Oper}{s s' s'':St}(k:Wk A s s')(h:Does A P o s' s''):Does A P o s s'':=fun a w K Q r hk=>h a w K Q (k a w r) hk
@[reducible] def St.put (s:St) (d:Nat) (pv:PV):St:=⟨(d,pv) :: s.tm,s.tab⟩
theorem Rg.put {A:Amb}{s:St}{gh:Gh}{a:Act}{w:World}(h:Rg A s gh a w){d:Nat}(hd:d < A.n){pv:PV}{v:Value}(hv:PVR s.tab.al gh w pv v):Rg A (s.put d pv) gh (a.put (some d) v) w where
  cx:=h.cx
  sz:=by simp[Act.put,h.sz]
  df:=h.df
  tm i pv' hi:=by
    simp only[Y8] at hi
    by_cases hid:i=d
    · subst hid
      rw[if_pos rfl] at hi
      cases hi
      exact ⟨v,by simp[Act.put,h.sz,hd],hv⟩
    · rw [if_neg hid] at hi
      obtain ⟨v',h1,h2⟩:=h.tm i pv' hi
      exact ⟨v',by simp only[Act.put]; rw[Array.getElem?_setIfInBounds_ne (fun e=>hid e.symm)]; exact h1,h2⟩
  gw:=h.gw
  kp:=h.kp
  fr:=h.fr
  ox:=h.ox
  hh:=h.hh
  xn:=h.xn
structure Fresh (s:St) (q:Nat):Prop where
  tm:∀i pv,lk s.tm i=some pv→q∉pv.tags
  en:∀r e,s.tab.ent r=some e→q∉e.tags
  al:¬s.tab.al q
theorem Rg.step {A:Amb}{s:St}{gh gh':Gh}{a:Act}{w w':World}{T:Tab}(h:Rg A s gh a w)(cx:Cx T gh' w')
    (ha:∀q,T.al q→(s.tab.al q∧gh'.h q=gh.h q∧(q < A.k0→gh'.f q=gh'.f q))∨(Fresh s q∧A.k0≤q)) (hN:∀g,gh.N g→gh'.N g∧w'.heap[g]? =w.heap[g]?)
    (gw:Grw w w')
    (kp:∀g,g < w.heap.size→(∀q,s.tab.al q→g∉gh.f q)→w'.heap[g]? =w.heap[g]?)
    (fr:∀g,gh'.N g→gh.N g∨w.heap.size≤g∨(∃q,s.tab.al q∧g∈gh.f q∧(g < A.w0.heap.size→A.N0 g)))
    (ox:∀q,T.al q→∀g∈gh'.f q,w.heap.size≤g∨∃q',s.tab.al q'∧g∈gh.f q'):Rg A ⟨s.tm,T⟩ gh' a w' where
  cx:=cx
  sz:=h.sz
  df:=h.df
  tm i pv hi:=by
    obtain ⟨v,h1,h2⟩:=h.tm i pv hi
    exact ⟨v,h1,h2.mono (fun q hq hal=>by
      rcases ha q hal with ⟨k1,k2,_⟩ | ⟨k1,_⟩
      · exact ⟨k1,k2⟩
      · exact absurd hq (k1.tm i pv hi)) hN⟩
  gw:=h.gw.trans gw
  kp g hX hl:=by
    rw[kp g (bh hl h.gw.size) fun q hq hg=>h.ox q hq g hg hl hX]
    exact h.kp g hX hl
  fr g hg:=by
    rcases fr g hg with k | k | ⟨q,k1,k2,k3⟩
    · exact h.fr g k
    · exact .inr (bw h.gw.size k)
    · rcases cO g A.w0.heap.size with k4 | k4
      · exact .inl (k3 k4)
      · exact .inr k4
  ox q hq g hg hl:=by
    rcases ox q hq g hg with k | ⟨q',k1,k2⟩
    · have:=h.gw.size; omega
    · exact h.ox q' k1 g k2 hl
  hh q hq hal:=by
    rcases ha q hal with ⟨h1,h2,h3⟩ | ⟨_,h1⟩
    · rw[h2]; exact h.hh q hq h1
    · omega
  xn:=h.xn
theorem Rg.know {A:Amb}{s:St}{gh:Gh}{a:Act}{w:World}(h:Rg A s gh a w){d:Nat}{pv:PV}{v:Value}(hd:a.tmps[d]? =some v)(hv:PVR s.tab.al gh w pv v):Rg A (s.put d pv) gh a w where
  cx:=h.cx
  sz:=h.sz
  df:=h.df
  tm i pv' hi:=by
    simp only[Y8] at hi
    by_cases hid:i=d
    · subst hid
      rw[if_pos rfl] at hi
      cases hi
      exact ⟨v,hd,hv⟩
    · rw [if_neg hid] at hi
      exact h.tm i pv' hi
  gw:=h.gw
  kp:=h.kp
  fr:=h.fr
  ox:=h.ox
  hh:=h.hh
  xn:=h.xn
def inB (q:Nat):List Nat→Bool
  | []=>false
  | r :: rs=>match Nat.beq q r with
    | true=>true
    | false=>inB q rs
theorem QcJ {q:Nat}{l:List Nat}(h:inB q l=false):q∉l:=by
  induction l with
  | nil=>simp
  | cons r rs ih=>
    unfold inB at h
    cases e:Nat.beq q r with
    | true=>rw[e] at h; cases h
    | false=>
      rw[e] at h
      intro hm
      rcases aE.1 hm with rfl | hm
      · rw[d8] at e; cases e
      · exact ih h hm
def Zz:Tab→List Nat
  | []=>[]
  | (q,e) :: T=>match e with
    | some e=>q :: (e.tags++Zz T)
    | none=>Zz T
theorem Zb {T:Tab}{q:Nat}{e:Ent}(h:T.ent q=some e):q∈Zz T∧∀r∈e.tags,r∈Zz T:=by
  induction T with
  | nil=>cases h
  | cons x T ih=>
    obtain ⟨j,o⟩:=x
    rw[Qh] at h
    by_cases e1:q=j
    · rw [if_pos e1] at h
      subst h
      exact ⟨by simp[Zz,e1],fun r hr=>by simp[Zz,hr]⟩
    · rw [if_neg e1] at h
      obtain ⟨h1,h2⟩:=ih h
      cases o with
      | none=>exact ⟨h1,h2⟩
      | some e'=>exact ⟨by simp[Zz,h1],fun r hr=>by simp[Zz,h2 r hr]⟩
def Qem:List (Nat×PV)→List Nat
  | []=>[]
  | p :: l=>p.2.tags++Qem l
theorem Qfh {l:List (Nat×PV)}{i:Nat}{pv:PV}(h:lk l i=some pv):∀q∈pv.tags,q∈Qem l:=by
  induction l with
  | nil=>cases h
  | cons x l ih=>
    obtain ⟨j,pv'⟩:=x
    rw[Y8] at h
    intro q hq
    simp only[Qem,aK]
    by_cases e:i=j
    · rw[if_pos e] at h; cases h; exact .inl hq
    · rw[if_neg e] at h; exact .inr (ih h q hq)
def QhZ (s:St)(q:Nat):Bool:= !(inB q (Qem s.tm))&& !(inB q (Zz s.tab))
theorem Fresh.of {s:St}{q:Nat}(h:QhZ s q=true):Fresh s q:=by
  simp only[QhZ,aL,bM] at h
  have h1:=QcJ h.1
  have h2:=QcJ h.2
  exact ⟨fun i pv hi hq=>h1 (Qfh hi q hq),fun r e he hq=>h2 ((Zb he).2 q hq),fun ⟨e,he⟩=>h2 (Zb he).1⟩
end Go.Proofs.YtfkmmpfdncopdaaGreat
namespace Go.Proofs.YtfkmmpfdncopdaaGreat
open Go.RowKit
def AQ (A:Amb)(Q:Exit→St→Prop)(e:Exit)(a:Act)(w:World):Prop:=∃s,Q e s∧R A s a w
def AC (A:Amb)(P:Program)(c:Code)(Q:Exit→St→Prop)(s:St):Prop:=∀a w,R A s a w→c.wp P (AQ A Q) a w
def AL (A:Amb)(P:Program)(ops:Array Oper)(l:List Oper)(Q:Exit→St→Prop)(s:St):Prop:=∀a w,R A s a w→wpList P ops (AQ A Q) l a w
def Kv (K:St→Prop)(Q:Exit→St→Prop):Exit→St→Prop
  | .normal,s=>K s
  | e,s=>Q e s
def Qfk (id:Nat)(Q:Exit→St→Prop):Exit→St→Prop
  | .exit id',s=>match Nat.beq id' id with
    | true=>Q .normal s
    | false=>Q (.exit id') s
  | e,s=>Q e s
section
variable {A:Amb}{P:Program}{Q:Exit→St→Prop}{s s':St}
theorem AC.wk {c:Code}(k:Wk A s s')(h:AC A P c Q s'):AC A P c Q s:=fun a w r=>h a w (k a w r)
theorem AL.wk {ops:Array Oper}{l:List Oper}(k:Wk A s s')(h:AL A P ops l Q s'):AL A P ops l Q s:=fun a w r=>h a w (k a w r)
theorem AC.mono {c:Code}{Q':Exit→St→Prop}(h:AC A P c Q s)(k:∀e s,Q e s→Q' e s):AC A P c Q' s:=fun a w r=>
  wp_mono (h a w r) fun e a w ⟨s,q,r⟩=>⟨s,k e s q,r⟩
theorem AC.skip (h:Q .normal s):AC A P .skip Q s:=fun _ _ r=>wp_skip ⟨s,h,r⟩
theorem ZS {x y:Code}(h:AC A P x (Kv (AC A P y Q) Q) s):AC A P (.seq x y) Q s:=fun a w r=>
  wp_seq (wp_mono (h a w r) fun e a w q=>by
    obtain ⟨s',q,r⟩:=q
    cases e <;> first | exact q a w r | exact ⟨s',q,r⟩)
theorem Qnp {id:Nat}{c:Code}(h:AC A P c (Qfk id Q) s):AC A P (.block id c) Q s:=fun a w r=>
  wp_block (wp_mono (h a w r) fun e a w q=>by
    obtain ⟨s',q,r⟩:=q
    cases e with
    | exit id'=>
      simp only[Qfk] at q
      simp only[Exit.inBlock]
      by_cases hi:id'=id
      · rw [if_pos hi]
        rw[hi,d8] at q
        exact ⟨s',q,r⟩
      · rw [if_neg hi]
        have:Nat.beq id' id=false:=by
          cases h':Nat.beq id' id with
          | true=>exact absurd (aX h') hi
          | false=>rfl
        rw[this] at q
        exact ⟨s',q,r⟩
    | _=>exact ⟨s',q,r⟩)
theorem Qj {id:Nat}(h:Q (.exit id) s):AC A P (.exit id) Q s:=fun _ _ r=>wp_exit ⟨s,h,r⟩
theorem Qb (h:Q .ret s):AC A P .ret Q s:=fun _ _ r=>wp_ret ⟨s,h,r⟩
theorem QnP {c:Code}(I:Nat→St→Prop){m:Nat}(h0:I m s)
    (round:∀m s,I m s→AC A P c (Kv (fun s1=>∃m' s2,m' < m∧Wk A s1 s2∧I m' s2) Q) s):AC A P (.loop c) Q s:=fun a w r=>by
  intro b k cs
  have key:∀n s a w,R A s a w→I n s→∃e a' w',AQ A Q e a' w'∧Arrives P (lone (b.at a (.code c :: .inLoop c :: k)) cs w) b k cs e a' w':=by
    intro n
    induction n using Nat.strongRecOn with
    | _ n ih=>
      intro s a w r hI
      obtain ⟨e,a1,w1,⟨s1,hq,r1⟩,harr⟩:=round n s hI a w r b (.inLoop c :: k) cs
      cases e with
      | normal=>
        obtain ⟨m',s2,hlt,hw,hI2⟩:=hq
        obtain ⟨e2,a2,w2,hq2,harr2⟩:=ih m' hlt s2 a1 w1 (hw _ _ r1) hI2
        exact ⟨e2,a2,w2,hq2, .of_steps (Steps.trans harr (.one step_inLoop)) harr2⟩
      | exit id=>exact ⟨_,a1,w1,⟨s1,hq,r1⟩, .pass (x:= .inLoop c) rfl (fun _ _=> .inl (by simp)) harr⟩
      | goto l=>exact ⟨_,a1,w1,⟨s1,hq,r1⟩, .pass (x:= .inLoop c) rfl (fun _ _=> .inl (by simp)) harr⟩
      | ret=>exact ⟨_,a1,w1,⟨s1,hq,r1⟩, .pass (x:= .inLoop c) rfl (fun _ _=> .inl (by simp)) harr⟩
      | panic ch=>exact ⟨_,a1,w1,⟨s1,hq,r1⟩, .pass (x:= .inLoop c) rfl (fun _ _=> .inl (by simp)) harr⟩
      | outgrown=>exact ⟨_,a1,w1,⟨s1,hq,r1⟩, .pass (x:= .inLoop c) rfl (fun _ _=> .inl (by simp)) harr⟩
  obtain ⟨e,a',w',hq,harr⟩:=key m s a w r h0
  exact ⟨e,a',w',hq, .of_steps (.one step_loop) harr⟩
theorem QdU {id:Nat}{l:List Oper}(h:AL A P l.toArray l Q s):AC A P (.region id l.toArray false) Q s:=fun a w r=>wp_region_lit (h a w r)
theorem Qd {ops:Array Oper}(h:Q .normal s):AL A P ops [] Q s:=fun _ _ r=>wpList_nil ⟨s,h,r⟩
theorem AL.cons {ops:Array Oper}{o:Oper}{l:List Oper}(hg:o.guard=none)(h:Does A P o s s')(k:AL A P ops l Q s'):AL A P ops (o :: l) Q s:=
  fun a w r=>wpList_plain hg fun _ hK=>h a w _ _ r fun a' w' r'=>hK _ _ (k a' w' r')
def Ev (A:Amb)(s:St)(x:Operand)(c:Bool×List LV):Prop:=∀gh a w,Rg A s gh a w→CmR s.tab.al gh w c (a.eval x)
theorem Qm {t:Nat}{b:Bool}{ls:List LV}(h:lk s.tm t=some (.cm b ls)):Ev A s (.tmp t) (b,ls):=fun gh a w r=>by
  obtain ⟨v,h1,h2⟩:=r.tm t _ h
  have e:a.eval (.tmp t)=v:=by
    show a.tmps.getD t undef=v
    rw[bG,h1]
    rfl
  rw[e]
  exact h2
def Evl (A:Amb)(s:St)(x:Operand)(l:LV):Prop:=∀gh a w,Rg A s gh a w→LVR s.tab.al gh w l (a.eval x)
theorem Qa {t:Nat}{l:LV}(h:lk s.tm t=some (lf l)):Evl A s (.tmp t) l:=fun gh a w r=>by
  obtain ⟨l',e,h1⟩:=Qm h gh a w r
  simp only[aI,and_true] at e
  rw[e]; exact h1
theorem Evl.ev {x:Operand}{l:LV}(h:Evl A s x l):Ev A s x (false,[l]):=fun gh a w r=>⟨l,rfl,h gh a w r⟩
theorem Evl.val {v:Value}:Evl A s (.const v) (.val v):=fun _ _ _ _=>rfl
theorem Qo {n:Int}(h:decide (-9223372036854775808≤n∧n≤9223372036854775807)=true):Evl A s (.const (.int .i64 n)) (dI n):=fun gh a w r=>
  Rep.rd0 (t:= .int) (w:=w) (cs:=[.int .i64 n]) ⟨rfl,ae h⟩ rfl
theorem Zn {b:Bool}:Evl A s (.const (.bool b)) (dB b):=fun gh a w r=>Rep.rd0 (t:= .bool) (w:=w) (cs:=[.bool b]) rfl rfl
theorem Evl.str {x:ByteArray}(h:Nat.ble x.size 1000000=true):Evl A s (.const (.string x)) (dS x):=fun gh a w r=>
  Rep.rd0 (t:= .str) (w:=w) (cs:=[.string x]) ⟨rfl,bw (aG h) (by decide)⟩ rfl
theorem QG {n:Int}(x:UInt8)(h:n=x.toNat):Evl A s (.const (.int .u8 n)) (.dat .u8 x):=fun gh a w r=>by
  subst h
  exact Rep.rd0 (t:= .u8) (w:=w) (cs:=[.int .u8 x.toNat]) rfl rfl
theorem Evl.nil {E:TypeId}{e:Ty}:Evl A s (.const (.slice none 0 0)) (.dat (.sl E e) []):=fun gh a w r=>by
  refine ⟨{w with heap:= #[]},fun p v e=> ?_,none,0,rfl,aO _,aR _,fun h=>absurd h (by simp)⟩
  simp[World.cell?] at e
theorem QrQ {f:FuncId}:Evl A s (.func f) (.clo f []):=fun gh a w r _=>rfl
theorem LVR.int {al:Nat→Prop}{gh:Gh}{w:World}{n:Int}{v:Value}(h:LVR al gh w (dI n) v):v= .int .i64 n∧ -9223372036854775808≤n∧n≤9223372036854775807:=(Rd.rep h).int_
theorem LVR.bool {al:Nat→Prop}{gh:Gh}{w:World}{b:Bool}{v:Value}(h:LVR al gh w (dB b) v):v= .bool b:=(Rd.rep h).bool_
theorem LVR.str {al:Nat→Prop}{gh:Gh}{w:World}{x:ByteArray}{v:Value}(h:LVR al gh w (dS x) v):v= .string x∧x.size≤maxLen:=(Rd.rep h).str_
theorem LVR.u8 {al:Nat→Prop}{gh:Gh}{w:World}{x:UInt8}{v:Value}(h:LVR al gh w (.dat .u8 x) v):v= .int .u8 x.toNat:=by
  have h:[v]=_:=Rd.rep h
  simpa using h
theorem Ye {al:Nat→Prop}{gh:Gh}{w:World}{n:Int}(h: -9223372036854775808≤n∧n≤9223372036854775807):LVR al gh w (dI n) (.int .i64 n):=Rep.rd0 (t:= .int) (w:=w) ⟨rfl,h⟩ rfl
theorem ZC {al:Nat→Prop}{gh:Gh}{w:World}{b:Bool}:LVR al gh w (dB b) (.bool b):=Rep.rd0 (t:= .bool) (w:=w) rfl rfl
theorem Qef {al:Nat→Prop}{gh:Gh}{w:World}{x:ByteArray}(h:x.size≤maxLen):LVR al gh w (dS x) (.string x):=Rep.rd0 (t:= .str) (w:=w) ⟨rfl,h⟩ rfl
theorem Qnz {al:Nat→Prop}{gh:Gh}{w:World}{x:UInt8}:LVR al gh w (.dat .u8 x) (.int .u8 x.toNat):=Rep.rd0 (t:= .u8) (w:=w) rfl rfl
theorem AC.fact {c:Code}{F:Prop}(hF:∀gh a w,Rg A s gh a w→F)(h:F→AC A P c Q s):AC A P c Q s:=fun a w r=>by
  obtain ⟨gh,r'⟩:=r
  exact h (hF gh a w r') a w ⟨gh,r'⟩
theorem AL.fact {ops:Array Oper}{l:List Oper}{F:Prop}(hF:∀gh a w,Rg A s gh a w→F)(h:F→AL A P ops l Q s):AL A P ops l Q s:=fun a w r=>by
  obtain ⟨gh,r'⟩:=r
  exact h (hF gh a w r') a w ⟨gh,r'⟩
theorem Qga {x:Operand}{n:Int}(h:Evl A s x (dI n)):∀gh a w,Rg A s gh a w→ -9223372036854775808≤n∧n≤9223372036854775807:=fun gh a w r=>(LVR.int (h gh a w r)).2
theorem QlE {x:Operand}{n:ByteArray}(h:Evl A s x (dS n)):∀gh a w,Rg A s gh a w→n.size≤maxLen:=fun gh a w r=>(LVR.str (h gh a w r)).2
theorem QoT {x:Operand}{E:TypeId}{e:Ty}{l:List e.Den}(h:Evl A s x (.dat (.sl E e) l)):∀gh a w,Rg A s gh a w→l.length≤maxLen:=fun gh a w r=>by
  obtain ⟨A',c,_,h1,h2⟩:=(Rd.rep (h gh a w r)).slv
  omega
theorem QrL {id:Nat}{l:List Oper}{y:Code}(h:AL A P l.toArray l (Kv (AC A P y Q) Q) s):AC A P (.seq (.region id l.toArray false) y) Q s:=ZS (QdU h)
theorem Qon {ops:Array Oper}{y:Code}{Q':Exit→St→Prop}(h:AC A P y Q' s):AL A P ops [] (Kv (AC A P y Q') Q) s:=Qd h
theorem Qmh {y:Code}{Q':Exit→St→Prop}(h:AC A P y Q' s):AC A P .skip (Kv (AC A P y Q') Q) s:=AC.skip h
theorem Qy {c:Code}(I:Nat→St→Prop){m:Nat}{s':St}(h0:I m s')(k:Wk A s s')
    (round:∀m s,I m s→AC A P c (Kv (fun s1=>∃m' s2,m' < m∧Wk A s1 s2∧I m' s2) Q) s):AC A P (.loop c) Q s:=AC.wk k (QnP I h0 round)
theorem J2 {c:Operand}{x y:Code}{b:Bool}(hc:Evl A s c (dB b))(ht:b=true→AC A P x Q s)(hf:b=false→AC A P y Q s):AC A P (.cond c x y) Q s:=fun a w r=>by
  obtain ⟨gh,r'⟩:=r
  have:=LVR.bool (hc gh a w r')
  exact wp_cond_split this (fun h=>ht h a w ⟨gh,r'⟩) (fun h=>hf h a w ⟨gh,r'⟩)
theorem V7 {ops:Array Oper}{j d:Nat}{b:Bool}(hd:(ops[j]?).bind (·.dst)=some d)(h:lk s.tm d=some (lf (dB b))){gh:Gh}{a:Act}{w:World}(r:Rg A s gh a w):yielded ops a.tmps j=some b:=by
  obtain ⟨v,h1,l,h2,h3⟩:=r.tm d _ h
  simp only[aI,and_true] at h2
  subst h2
  have:=LVR.bool h3
  subst this
  simp[yielded,hd,h1]
theorem Qej {ops:Array Oper}{o:Oper}{l:List Oper}{j d:Nat}{b:Bool}(hg:o.guard=some (j,b))(hd:(ops[j]?).bind (·.dst)=some d)(hb:lk s.tm d=some (lf (dB b)))(h:Does A P o s s')
    (k:AL A P ops l Q s'):AL A P ops (o :: l) Q s:=fun a w r=>by
  obtain ⟨gh,r'⟩:=r
  refine wpList_step fun K hK=> ?_
  rw[if_pos (by simp[Region.wanted,hg,V7 hd hb r'])]
  exact h a w _ _ ⟨gh,r'⟩ fun a' w' r2=>hK _ _ (k a' w' r2)
theorem Qge {ops:Array Oper}{o:Oper}{l:List Oper}{j d:Nat}{b:Bool}(hg:o.guard=some (j,b))(hd:(ops[j]?).bind (·.dst)=some d)(hb:lk s.tm d=some (lf (dB (!b))))
    (k:AL A P ops l Q (match o.dst with | some d'=>s.put d' (lf (.val undef)) | none=>s)) (hn:(match o.dst with | some d'=>Nat.blt d' A.n | none=>true)=true):AL A P ops (o :: l) Q s:=fun a w r=>by
  obtain ⟨gh,r'⟩:=r
  refine wpList_step fun K hK=> ?_
  rw[if_neg (by simp[Region.wanted,hg,V7 hd hb r'])]
  refine hK _ _ (k _ _ ?_)
  cases hdst:o.dst with
  | none=>exact ⟨gh,r'⟩
  | some d'=>
    rw[hdst] at hn
    exact ⟨gh,r'.put (aG hn) (pv:=lf (.val undef)) ⟨_,rfl,rfl⟩⟩
theorem Qg {o:Oper}{d:Nat}{pv:PV}(hd:o.dst=some d)(hn:Nat.blt d A.n=true)
    (h:∀gh a w,Rg A s gh a w→∃v,(execOp a.eval o).run P w= .ok (.value v) w∧PVR s.tab.al gh w pv v):Does A P o s (s.put d pv):=fun a w K Q r hK=>by
  obtain ⟨gh,r⟩:=r
  obtain ⟨v,h1,h2⟩:=h gh a w r
  unfold Oper.wp
  rw[h1,Oper.upon_value,hd]
  exact hK _ _ ⟨gh,r.put (aG hn) h2⟩
end
structure Fr (T T':Tab) (gh gh':Gh) (w w':World):Prop where
  gw:Grw w w'
  kp:∀g,g < w.heap.size→(∀q,T.al q→g∉gh.f q)→w'.heap[g]? =w.heap[g]?
  nn:∀g,gh'.N g→gh.N g∨w.heap.size≤g∨∃q,T.al q∧g∈gh.f q
  ox:∀q,T'.al q→∀g∈gh'.f q,w.heap.size≤g∨∃q',T.al q'∧g∈gh.f q'
def FC (P:Program)(f:FuncId)(args:List (Bool×List LV))(T:Tab)(k:Nat)(O:PV→Tab→Prop):Prop:=
  ∀(gh:Gh) (w:World) (vs:List Value),Cx T gh w→CmsR T.al gh w args vs→
    Calls P f vs.toArray w fun e w'=>∃v pv T' gh',e= .returned v∧O pv T'∧Cx T' gh' w'∧PVR T'.al gh' w' pv v∧Fr T T' gh gh' w w'∧∀q,q < k→T'.al q→gh'.h q=gh.h q
def Hb:Nat→List (Bool×List LV)→List (Nat×PV)
  | _,[]=>[]
  | i,c :: cs=>(i, .cm c.1 c.2) :: Hb (i+1) cs
section
variable {P:Program}
theorem Qcw {al:Nat→Prop}{gh:Gh}{w:World}:∀{cs:List (Bool×List LV)} {vs:List Value} {k i:Nat} {pv:PV},CmsR al gh w cs vs→lk (Hb k cs) i=some pv→∃v,k≤i∧vs[i - k]? =some v∧PVR al gh w pv v
  | [],_,_,_,_,_,h=>by cases h
  | c :: cs,_,k,i,pv,⟨v,vs',hv,h1,h2⟩,h=>by
    subst hv
    rw[Hb,Y8] at h
    by_cases e:i=k
    · rw [if_pos e] at h
      cases h
      exact ⟨v,by omega,by simp[e],h1⟩
    · rw [if_neg e] at h
      obtain ⟨v',h3,h4,h5⟩:=Qcw h2 h
      exact ⟨v',by omega,by rw[show i - k=i - (k+1)+1 by omega]; exact h4,h5⟩
theorem CmsR.len {al:Nat→Prop}{gh:Gh}{w:World}{cs:List (Bool×List LV)}{vs:List Value}(h:CmsR al gh w cs vs):vs.length=cs.length:=by
  induction cs generalizing vs with
  | nil=>rw[show vs=[] from h]; rfl
  | cons c cs ih=>obtain ⟨v,vs',rfl,_,h2⟩:=h; simp[ih h2]
def Res (A:Amb)(P:Program)(fn:Func)(s:St)(pv:PV):Prop:=∀gh a w,Rg A s gh a w→∃v,(results fn a.tmps).run P w= .ok v w∧PVR s.tab.al gh w pv v
def fin (A:Amb)(P:Program)(fn:Func)(O:PV→Tab→Prop):Exit→St→Prop
  | .ret,s=>∃pv,Res A P fn s pv∧O pv s.tab
  | .normal,s=>∃pv,Res A P fn s pv∧O pv s.tab
  | _,_=>False
theorem Qsn {f:FuncId}{fn:Func}{c:Code}{args:List (Bool×List LV)}{T:Tab}{k:Nat}{O:PV→Tab→Prop}(hf:P.funcs[f]? =some fn)(hb:fn.body=some c)(hl:Nat.ble args.length fn.ntmps=true)
    (h:∀A:Amb,A.n=fn.ntmps→A.k0=k→AC A P c (fin A P fn O) ⟨Hb 0 args,T⟩):FC P f args T k O:=fun gh w vs cx ha=>by
  let A:Amb:=⟨w,fun g=>gh.N g∨∃q,T.al q∧g∈gh.f q,fun g=>∀q,T.al q→g∉gh.f q,fn.ntmps,k,gh.h,gh.f⟩
  have hlen:=ha.len
  have hle:args.length≤fn.ntmps:=aG hl
  have r:R A ⟨Hb 0 args,T⟩ {tmps:=vs.toArray++Array.replicate (fn.ntmps - vs.toArray.size) undef,defers:=[]} w:=by
    refine ⟨gh,cx, ?_,rfl,fun i pv hi=> ?_,ZE _,fun _ _ _=>rfl,fun g hg=> .inl (.inl hg),fun q hq g hg _ hx=>hx q hq hg,fun _ _ _=>rfl,fun g _ hx=> .inr (cd fun hn=>hx fun q hq hg=>hn ⟨q,hq,hg⟩)⟩
    · simp only [Array.size_append, List.size_toArray, Array.size_replicate]
      show vs.length+(fn.ntmps - vs.length)=fn.ntmps
      omega
    · obtain ⟨v, _, h2, h3⟩ := Qcw ha hi
      refine ⟨v, ?_,h3⟩
      have:i < vs.length:=by have:=(ah.1 h2).1; simpa using this
      rw[Array.getElem?_append_left (by simpa using this)]
      simpa using h2
  refine calls_of_wp hf hb (wp_mono (h A rfl rfl _ _ r) fun e a w' q=> ?_)
  have done:∀s,R A s a w'→(∃pv,Res A P fn s pv∧O pv s.tab)→a.defers=[]∧∃v,(results fn a.tmps).run P w'= .ok v w'∧
      ∃v' pv T' gh',Ending.returned v= .returned v'∧O pv T'∧Cx T' gh' w'∧PVR T'.al gh' w' pv v'∧Fr T T' gh gh' w w'∧∀q,q < k→T'.al q→gh'.h q=gh.h q:=by
    rintro s ⟨gh',r'⟩ ⟨pv,h1,h2⟩
    obtain ⟨v,h3,h4⟩:=h1 gh' a w' r'
    refine ⟨r'.df,v,h3,v,pv,s.tab,gh',rfl,h2,r'.cx,h4,⟨r'.gw,fun g hg hx=>r'.kp g hx hg,fun g hg=> ?_,fun q hq g hg=> ?_⟩,fun q hq hal=>r'.hh q hq hal⟩
    · rcases r'.fr g hg with (k1 | k1) | k1
      · exact .inl k1
      · exact .inr (.inr k1)
      · exact .inr (.inl k1)
    · rcases cO g w.heap.size with k1 | k1
      · right
        exact cd fun hn=>r'.ox q hq g hg k1 fun q' hq' hg'=>hn ⟨q',hq',hg'⟩
      · exact .inl k1
  obtain ⟨s,q,r'⟩:=q
  cases e with
  | ret=>exact done s r' q
  | normal=>exact done s r' q
  | exit _=>exact q.elim
  | goto _=>exact q.elim
  | panic _=>exact q.elim
  | outgrown=>exact q.elim
end
def QoG (tmps:Array Value):ResultVar→Sem Value
  | .tmp t=>pure (tmps.getD t undef)
  | .cell a t=>do loadVar t (← asAddr (tmps.getD a undef))
theorem XP {α β:Type}(m:Sem α)(f:α→Sem β):Sem.bind m f=m >>= f:=rfl
theorem Wy (fn:Func)(tmps:Array Value):results fn tmps=(fn.results.mapM (QoG tmps)).bind fun vs=>pure (if h:vs.size=1 then vs[0] else .tuple vs):=by
  unfold results
  show Sem.bind _ _=Sem.bind _ _
  congr 1
section
variable {A:Amb}{P:Program}{fn:Func}{s:St}
def Rs (A:Amb)(P:Program)(s:St)(r:ResultVar)(c:Bool×List LV):Prop:=∀gh a w,Rg A s gh a w→∃v,(QoG a.tmps r).run P w= .ok v w∧CmR s.tab.al gh w c v
theorem Xd {t:Nat}{b:Bool}{ls:List LV}(h:lk s.tm t=some (.cm b ls)):Rs A P s (.tmp t) (b,ls):=fun gh a w r=>⟨_,rfl,Qm h gh a w r⟩
theorem Res.one {r:ResultVar}{b:Bool}{ls:List LV}(hr:fn.results= #[r])(h:Rs A P s r (b,ls)):Res A P fn s (.cm b ls):=fun gh a w g=>by
  obtain ⟨v,h1,h2⟩:=h gh a w g
  refine ⟨v, ?_,h2⟩
  rw[Wy,hr]; simp[XP,h1,di]
theorem Ys {r1 r2:ResultVar}{c1 c2:Bool×List LV}(hr:fn.results= #[r1,r2])(h1:Rs A P s r1 c1)(h2:Rs A P s r2 c2):Res A P fn s (.tup [c1,c2]):=fun gh a w g=>by
  obtain ⟨v1,a1,b1⟩:=h1 gh a w g
  obtain ⟨v2,a2,b2⟩:=h2 gh a w g
  refine ⟨.tuple #[v1,v2], ?_,[v1,v2],rfl,v1,[v2],rfl,b1,v2,[],rfl,b2,rfl⟩
  rw[Wy,hr]; simp[XP,a1,a2,di]
theorem QjU {r1 r2 r3:ResultVar}{c1 c2 c3:Bool×List LV}(hr:fn.results= #[r1,r2,r3])(h1:Rs A P s r1 c1)(h2:Rs A P s r2 c2)(h3:Rs A P s r3 c3):Res A P fn s (.tup [c1,c2,c3]):=fun gh a w g=>by
  obtain ⟨v1,a1,b1⟩:=h1 gh a w g
  obtain ⟨v2,a2,b2⟩:=h2 gh a w g
  obtain ⟨v3,a3,b3⟩:=h3 gh a w g
  refine ⟨.tuple #[v1,v2,v3], ?_,[v1,v2,v3],rfl,v1,[v2,v3],rfl,b1,v2,[v3],rfl,b2,v3,[],rfl,b3,rfl⟩
  rw[Wy,hr]; simp[XP,a1,a2,a3,di]
end
end Go.Proofs.YtfkmmpfdncopdaaGreat
