/- Abstract states: variables in memory, addresses, loads and stores. No program is named here. -/
import Derived.Test.YtndabgcpnmeeoaaGreatOAo
set_option linter.unusedSimpArgs false
set_option linter.unusedVariables false
set_option linter.unusedSectionVars false
namespace Go.Proofs.YtndabgcpnmeeoaaGreat
open Go.RowKit
def tsh (P:Program)(T:TypeId):Option (Bool×Nat):=match P.underlying T,P.info? T with
 | some (.struct _),some i=>some (true,i.size)
 | some (.array _ _),some i=>some (true,i.size)
 | some _,some i=>some (false,i.size)
 | _,_=>none
def fld (P:Program)(T:TypeId)(f:Nat):Option Nat:=match P.underlying T with
 | some (.struct fs)=>match fs[f]? with
  | some fd=>match P.info? fd.type with
   | some i=>match i.size with
    | 0=>none
    | _+1=>some fd.offset
   | none=>none
  | none=>none
 | _=>none
def zer (P:Program)(T:TypeId):Option Value:=match P.info? T with
 | some i=>i.zero
 | none=>none
section
variable {P:Program}{T:TypeId}{w:World}
theorem Xr {b:Bool}{n:Nat}(h:tsh P T=some (b,n)):(sizeOf T).run P w= .ok n w:=by
 unfold tsh at h
 cases c:P.info? T with
 | none=>rw[c] at h; cases a:P.underlying T with
  | none=>rw[a] at h; cases h
  | some d=>rw[a] at h; cases d <;> cases h
 | some i=>
  rw[c] at h
  have e:i.size=n:=by
   cases a:P.underlying T with
   | none=>rw[a] at h; cases h
   | some d=>rw[a] at h; cases d <;> (simp at h; exact h.2)
  simp[sizeOf,typeInfo,c,e,ay]
theorem HU {b:Bool}{n:Nat}(h:tsh P T=some (b,n)):(isAgg T).run P w= .ok b w:=by
 unfold tsh at h
 cases a:P.underlying T with
 | none=>rw[a] at h; cases h
 | some d=>
  rw[a] at h
  cases c:P.info? T with
  | none=>rw[c] at h; cases d <;> cases h
  | some i=>rw[c] at h; cases d <;> (simp at h; simp[isAgg,run_underlying a,ay,h.1])
theorem QbP (b o:Nat):∀(vs:List Value) (i:Nat) (acc:Array Value),(∀j u,vs[j]? =some u→w.cell? ⟨b,o+(i+j),none⟩=some u)→
 (loadCellsFrom ⟨b,o,none⟩ i vs.length acc).run P w= .ok (acc++vs.toArray) w:=by
 intro vs
 induction vs with
 | nil=>intro i acc _; simp[loadCellsFrom]
 | cons v vs f=>
  intro i acc h
  have a:=h 0 v rfl
  rw[ea] at a
  have c:=f (i+1) (acc.push v) fun j u e=>by
   have:=h (j+1) u e
   rwa [show i+(j+1)=i+1+j by omega] at this
  simp only[aq,loadCellsFrom]
  simp only[ay,Addr.add_lit,run_load,a,aI,c]
  simp
theorem XZ {n:Nat}(h:tsh P T=some (true,n))(b o:Nat)(vs:List Value)(c:vs.length=n)(a:∀j u,vs[j]? =some u→w.cell? ⟨b,o+j,none⟩=some u):
 (loadVar T ⟨b,o,none⟩).run P w= .ok (.agg vs.toArray) w:=by
 subst c
 have:=QbP (P:=P) (w:=w) b o vs 0 #[] (by simpa using a)
 simp only[loadVar,loadCells,ay,HU h,aI,if_true,Xr h,this]
 simp
theorem Z3 {n:Nat}(h:tsh P T=some (false,n))(p:Addr)(v:Value)(a:w.cell? p=some v):(loadVar T p).run P w= .ok v w:=by
 simp only[loadVar,ay,HU h,aI]
 simp[a]
theorem Hc {f o:Nat}(h:fld P T f=some o)(b k:Nat):(Instr.fieldAt T (.pointer (some ⟨b,k,none⟩)) f).run P w= .ok (.pointer (some ⟨b,k+o,none⟩)) w:=by
 unfold fld at h
 cases j:P.underlying T with
 | none=>rw[j] at h; cases h
 | some d=>
  rw[j] at h
  cases d with
  | struct n=>
   simp only at h
   cases a:n[f]? with
   | none=>rw[a] at h; cases h
   | some l=>
    rw[a] at h
    simp only at h
    cases c:P.info? l.type with
    | none=>rw[c] at h; cases h
    | some i=>
     rw[c] at h
     simp only at h
     cases e:i.size with
     | zero=>rw[e] at h; cases h
     | succ m=>
      rw[e] at h
      simp at h
      subst h
      simp[Instr.fieldAt,run_underlying j,a,Instr.sureAddr,fieldPlace,sizeOf,typeInfo,c,e,ay,Addr.add_lit]
  | _=>cases h
theorem Ur {b:Nat}{E:TypeId}:∀(vs:List Value) (o i:Nat) (w:World) (cur:Array Value),w.heap[b]? =some (.cells cur E (0,0))→o+i+vs.length≤cur.size→(∀v∈vs,v.oneCell'=true)→
 (storeCells ⟨b,o,none⟩ vs i).run P w= .ok () (WI w b (o+i) vs):=by
 intro vs
 induction vs with
 | nil=>intro o i w cur _ _ _; simp[storeCells,WI]
 | cons v vs l=>
  intro o i w cur a j c
  simp only[aq] at j
  have f:w.cell? ⟨b,o+i,none⟩=some (cur[o+i]'(by omega)):=by simp[World.cell?,a,show o+i < cur.size by omega]
  have h:w.frozen? ⟨b,o+i,none⟩=false:=by simp[World.frozen?,a]
  have e:=l o (i+1) (w.setCell ⟨b,o+i,none⟩ v) (cur.setIfInBounds (o+i) v) (by simp[World.setCell,Array.getElem?_modify,a]) (by simp; omega) fun v k=>c v (ax _ k)
  simp only[storeCells,ay,Addr.add_lit,run_store P w _ v .plain (c v (aw ..)),f,h,aI,if_false,bJ]
  simpa [WI,bV] using e
theorem Ja {b o:Nat}{E:TypeId}{g:Bool}{n:Nat}(h:tsh P T=some (g,n))(v:Value)(vs:List Value)(hv:v.cells=vs.toArray)(f:vs.length=n){cur:Array Value}(hb:w.heap[b]? =some (.cells cur E (0,0)))
 (hs:o+n≤cur.size) (h1:∀v∈vs,v.oneCell'=true):(storeVar T ⟨b,o,none⟩ v).run P w= .ok () (WI w b o vs):=by
 have a:=Ur (P:=P) vs o 0 w cur hb (by omega) h1
 have c:v.cells.toList=vs:=by rw[hv]
 have e:v.cells.size=n:=by rw[hv]; simpa using f
 simp only[storeVar,ay,Xr h,aI,c,e]
 simpa using a
end
theorem LVR.oneCell {al:Nat→Prop}{gh:Gh}{w:World}{l:LV}{v:Value}(h:LVR al gh w l v)(r:∀u,l= .val u→u.oneCell'=true)(a:∀q∈l.tags,al q)
 (hc:∀q,al q→(gh.h q).oneCell'=true):v.oneCell'=true:=by
 cases l with
 | val u=>rw[show v=u from h]; exact r u rfl
 | dat t x=>exact Rep.one (Rd.rep h) v (by simp)
 | ref q=>rw[show v=_ from h (a q (by simp[LV.tags]))]; exact hc q (a q (by simp[LV.tags]))
 | ptr q k=>obtain ⟨g,_,e⟩:=h (a q (by simp[LV.tags])); rw[e]; rfl
 | ept q C i j=>obtain ⟨g,n,c,_,e⟩:=h (a q (by simp[LV.tags])); rw[e]; rfl
 | sub q C E n=>obtain ⟨B,m,c,_,e⟩:=h (a q (by simp[LV.tags])); rw[e]; rfl
 | elt t x k=>obtain ⟨b,o,D,G,p,_⟩:=h; rw[p]; rfl
 | clo f F=>rw[show v=_ from h fun q z=>a q (by simpa [LV.tags] using z)]; rfl
theorem EntR.oneCell {al:Nat→Prop}{gh:Gh}{w:World}{q:Nat}{e:Ent}(h:EntR al gh w q e):(gh.h q).oneCell'=true:=by
 cases e with
 | box E u=>obtain ⟨g,b,a,_⟩:=h; rw[a]; rfl
 | arr E e r=>exact Rep.one (Own.rep (t:= .sl E e) h) _ (by simp)
 | obx E F n j C=>obtain ⟨_,g,c,b,fps,a,_⟩:=h; rw[a]; rfl
 | mp B k D v m=>obtain ⟨g,z,i,a,_⟩:=h; rw[a]; rfl
 | bys E l=>obtain ⟨g,c,b,a,_⟩:=h; rw[a]; rfl
 | pl o e p f=>cases o <;> (rw[h.1]; rfl)
 | fz E e r=>obtain ⟨p,a,_⟩:=h; exact Rep.one (Own.rep (t:= .sl E .vl) a) _ (by simp)
 | res R=>exact R.one h
def XG (T:Tab):LV→Bool
 | .val u=>u.oneCell'
 | .dat _ _=>true
 | .elt _ _ _=>true
 | .ref q=>(T.ent q).isSome
 | .ptr q _=>(T.ent q).isSome
 | .ept q _ _ _=>(T.ent q).isSome
 | .sub q _ _ _=>(T.ent q).isSome
 | .clo _ qs=>qs.all fun q=>(T.ent q).isSome
def QW (T:Tab):List LV→Bool
 | []=>true
 | l :: ls=>XG T l&&QW T ls
theorem VO {T:Tab}{l:LV}(h:XG T l=true):(∀q∈l.tags,T.al q)∧∀u,l= .val u→u.oneCell'=true:=by
 have k:∀q,(T.ent q).isSome=true→T.al q:=fun q m=>br.1 m
 cases l with
 | val u=>exact ⟨by simp[LV.tags],fun j e=>by cases e; exact h⟩
 | dat t x=>exact ⟨by simp[LV.tags],fun j e=>by cases e⟩
 | elt t x o=>exact ⟨by simp[LV.tags],fun j e=>by cases e⟩
 | ref q=>exact ⟨by intro r i; simp[LV.tags] at i; subst i; exact k _ h,fun j e=>by cases e⟩
 | ptr q o=>exact ⟨by intro r i; simp[LV.tags] at i; subst i; exact k _ h,fun j e=>by cases e⟩
 | ept q a b c=>exact ⟨by intro r i; simp[LV.tags] at i; subst i; exact k _ h,fun j e=>by cases e⟩
 | sub q a b c=>exact ⟨by intro r i; simp[LV.tags] at i; subst i; exact k _ h,fun j e=>by cases e⟩
 | clo f n=>exact ⟨by intro r i; exact k _ (av.1 h r (by simpa [LV.tags] using i)),fun j e=>by cases e⟩
theorem LVs.oneCells {T:Tab}{gh:Gh}{w:World}(c:Cx T gh w){ls:List LV}{vs:List Value}(h:LVs T.al gh w ls vs)(a:QW T ls=true):∀v∈vs,v.oneCell'=true:=by
 induction ls generalizing vs with
 | nil=>rw[show vs=[] from h]; simp
 | cons l ls o=>
  obtain ⟨v,p,rfl,f,i⟩:=h
  simp only[QW,aM] at a
  obtain ⟨j,k⟩:=VO a.1
  intro u b
  rcases aE.1 b with rfl | b
  ·exact f.oneCell k j fun q n=>by obtain ⟨e,m⟩:=n; exact (c.en q e m).oneCell
  ·exact o i a.2 u b
theorem CmR.cells {al:Nat→Prop}{gh:Gh}{w:World}{b:Bool}{ls:List LV}{v:Value}(h:CmR al gh w (b,ls) v)(c:b=false→v.oneCell'=true):∃vs,v.cells=vs.toArray∧LVs al gh w ls vs:=by
 cases b with
 | true=>obtain ⟨vs,rfl,a⟩:=h; exact ⟨vs,rfl,a⟩
 | false=>
  obtain ⟨l,rfl,a⟩:=h
  have:=c rfl
  exact ⟨[v],by cases v <;> first | rfl | (simp[Value.oneCell'] at this),v,[],rfl,a,rfl⟩
section
variable {A:Amb}{P:Program}{s:St}{x y:Operand}{d:Nat}{T T' ty:TypeId}{pos:String}{af:Array Edge}{g:Option (Nat×Bool)}
theorem Rg.grow {gh:Gh}{a:Act}{w:World}(r:Rg A s gh a w)(t:Nat)(z:Fresh s t)(E:A.k0≤t)(o:Obj)(hv:Value)(fp:List Nat)(e:Ent)
 (hfp:∀g∈fp,g=w.heap.size) (hnd:fp.Nodup) (htag:t∉e.tags)
 (he:EntR s.tab.al ⟨fun q=>if q=t then hv else gh.h q,fun q=>if q=t then fp else gh.f q,gh.N⟩ (w.alloc o) t e):
 Rg A ⟨s.tm,(t,some e) :: s.tab⟩ ⟨fun q=>if q=t then hv else gh.h q,fun q=>if q=t then fp else gh.f q,gh.N⟩ a (w.alloc o):=by
 have u:∀q,q≠t→(Tab.al ((t,some e) :: s.tab) q↔s.tab.al q):=fun q n=>by
  unfold Tab.al; rw[Qd,if_neg n]
 have m:∀g,g < w.heap.size→(w.alloc o).heap[g]? =w.heap[g]? :=fun g b=>Below.heap_alloc w _ g b
 have F:(w.alloc o).heap.size=w.heap.size+1:=by simp
 have c:∀q,Tab.al ((t,some e) :: s.tab) q→q=t∨(q≠t∧s.tab.al q):=fun q n=>by
  by_cases h:q=t
  ·exact .inl h
  ·exact .inr ⟨h,(u q h).1 n⟩
 refine r.step ?_ ?_ ?_ ⟨rfl,rfl,rfl,by omega⟩ (fun g b _=>m g b) (fun g b=> .inl b) ?_
 ·refine ⟨fun q C h=> ?_,fun q I p l j g b i=> ?_,fun q h=> ?_,fun q h g b=> ?_,fun g b=>by rw[F]; have:=r.cx.nl g b; omega⟩
  ·rw[Qd] at h
   by_cases n:q=t
   ·rw[if_pos n] at h
    subst n
    cases h
    exact he.mono (fun B v D=>⟨(u B (fun h=>htag (h▸v))).1 D,rfl⟩) (fun g b=>⟨b,rfl⟩) rfl rfl fun g b=>rfl
   ·rw[if_neg n] at h
    exact (r.cx.en q C h).mono (fun B v D=>by
     have j:B≠t:=fun l=>z.en q C h (l▸v)
     exact ⟨(u B j).1 D,by simp[j]⟩) (fun g b=>⟨b,m g (r.cx.nl g b)⟩) (by simp[n]) (by simp[n]) fun g b=>m g (r.cx.lt ⟨C,h⟩ g b)
  ·rcases c q p with p | ⟨p,G⟩ <;> rcases c I l with l | ⟨l,H⟩
   ·exact j (p.trans l.symm)
   ·subst p
    simp only[if_true] at b
    simp only[if_neg l] at i
    have:=r.cx.lt H g i
    have:=hfp g b
    omega
   ·subst l
    simp only[if_true] at i
    simp only[if_neg p] at b
    have:=r.cx.lt G g b
    have:=hfp g i
    omega
   ·simp only[if_neg p] at b
    simp only[if_neg l] at i
    exact r.cx.dj q I G H j g b i
  ·rcases c q h with h | ⟨h,k⟩
   ·subst h; simpa using hnd
   ·simp only[if_neg h]; exact r.cx.nd q k
  ·rcases c q h with h | ⟨h,k⟩
   ·subst h
    simp only[if_true] at b
    intro J
    have:=r.cx.nl g J
    have:=hfp g b
    omega
   ·simp only[if_neg h] at b
    exact r.cx.no q k g b
 ·intro q h
  rcases c q h with h | ⟨h,k⟩
  ·exact .inr ⟨h▸z,h▸E⟩
  ·exact .inl ⟨k,by simp[h],fun _=>by simp[h]⟩
 ·exact fun g b=>⟨b,m g (r.cx.nl g b)⟩
 ·intro q h g b
  rcases c q h with h | ⟨h,k⟩
  ·subst h
   simp only[if_true] at b
   exact .inl (by rw[hfp g b]; exact aL _)
  ·simp only[if_neg h] at b
   exact .inr ⟨q,k,b⟩
@[reducible] def St.new (s:St) (d:Nat) (t:Nat) (l:LV) (e:Ent):St:=⟨(d,lf l) :: s.tm,(t,some e) :: s.tab⟩
theorem Qja {T:Tab}{ls:List LV}(b:QW T ls=true):∀q∈QJ ls,T.al q:=by
 induction ls with
 | nil=>simp[QJ]
 | cons l ls c=>
  simp only[QW,aM] at b
  intro q a
  rcases aG.1 a with a | a
  ·exact (VO b.1).1 q a
  ·exact c b.2 q a
theorem Rg.box {gh:Gh}{a:Act}{w:World}(r:Rg A s gh a w)(t:Nat)(b:Fresh s t)(c:A.k0≤t)(E:TypeId){ls:List LV}{vs:List Value}(h:LVs s.tab.al gh w ls vs)(f:∀q∈QJ ls,s.tab.al q)(i:d < A.n):
 R A (s.new d t (.ptr t 0) (.box E ls)) (a.put (some d) (.pointer (some ⟨w.heap.size,0,none⟩))) (w.alloc (.cells vs.toArray E)):=by
 refine ⟨_,(r.grow t b c (.cells vs.toArray E) (.pointer (some ⟨w.heap.size,0,none⟩)) [w.heap.size] (.box E ls) (by simp) (by simp) (fun h=>b.al (f t h)) ?_).put i (pv:=lf (.ptr t 0)) ⟨_,rfl,fun _=>⟨w.heap.size,by simp,rfl⟩⟩⟩
 refine ⟨w.heap.size,vs.toArray,by simp,by simp,heap_alloc_new w _, ?_⟩
 exact h.mono (fun q j k=>⟨k,by
  have:q≠t:=fun h=>b.al (h▸f q j)
  simp[this]⟩) fun g e=>⟨e,Below.heap_alloc w _ g (r.cx.nl g e)⟩
theorem Qqq (t:Nat){b:Bool}{ls:List LV}(C:Ev A s x (b,ls))(h:QW s.tab ls=true)(B:Nat.blt d A.n=true)(f:Fresh s t)(i:A.k0≤t):Does A P ⟨some d, .box T x,ty,pos,af,g⟩ s (s.new d t (.ptr t 0) (.box T ls)):=
 fun a w K Q r u=>by
  obtain ⟨k,r⟩:=r
  have j:=C k a w r
  obtain ⟨D,c,m⟩:=CmR.cells j fun v=>by
   subst v
   obtain ⟨l,rfl,c⟩:=j
   simp only[QW,dt] at h
   obtain ⟨o,p⟩:=VO h
   exact c.oneCell p o fun q ⟨e,z⟩=>(r.cx.en q e z).oneCell
  have e:(execOp a.eval ⟨some d, .box T x,ty,pos,af,g⟩).run P w= .ok (.value (.pointer (some ⟨w.heap.size,0,none⟩))) (w.alloc (.cells D.toArray T)):=by
   simp only[execOp,Instr.box,newVar,newRow,c]
   simp[ay]
  unfold Oper.wp
  rw[e,Oper.upon_value]
  exact u _ _ (r.box t f i T m (Qja h) (aA B))
end
def Ty.zero:(t:Ty)→t.Den
 | .int=>(0:Int)
 | .bool=>false
 | .str=>ByteArray.empty
 | .u8=>(0:UInt8)
 | .vl=>(none:Hdr)
 | .sl _ _=>[]
 | .pr a b=>(a.zero,b.zero)
def Ty.zeros:Ty→List Value
 | .int=>[.int .i64 0]
 | .bool=>[.bool false]
 | .str=>[.string ByteArray.empty]
 | .u8=>[.int .u8 0]
 | .vl=>[.slice none 0 0]
 | .sl _ _=>[.slice none 0 0]
 | .pr a b=>a.zeros++b.zeros
def Ty.zlv:Ty→List LV
 | .int=>[.dat .int (0:Int)]
 | .bool=>[.dat .bool false]
 | .str=>[.dat .str ByteArray.empty]
 | .u8=>[.dat .u8 (0:UInt8)]
 | .vl=>[.dat .vl (none:Hdr)]
 | .sl _ _=>[.val (.slice none 0 0)]
 | .pr a b=>a.zlv++b.zlv
theorem ZL:∀(t:Ty) (w:World),Own t w [] t.zeros t.zero
 | .int,_=>⟨rfl,rfl,by decide⟩
 | .bool,_=>⟨rfl,rfl⟩
 | .str,_=>⟨rfl,rfl,aP _⟩
 | .u8,_=>⟨rfl,rfl⟩
 | .vl,_=>⟨rfl,rfl⟩
 | .sl _ _,_=> .inl ⟨rfl,rfl,rfl⟩
 | .pr a b,w=>⟨[],[],a.zeros,b.zeros,rfl,rfl,ZL a w,ZL b w⟩
theorem X8 (al:Nat→Prop)(gh:Gh)(w:World):∀t:Ty,LVs al gh w t.zlv t.zeros
 | .int=>⟨_,[],rfl,Rd.leaves (t:= .int) (al:=al) (Own.rd (ZL .int w) (by simp)) |>.one rfl,rfl⟩
 | .bool=>⟨_,[],rfl,Rd.leaves (t:= .bool) (al:=al) (Own.rd (ZL .bool w) (by simp)) |>.one rfl,rfl⟩
 | .str=>⟨_,[],rfl,Rd.leaves (t:= .str) (al:=al) (Own.rd (ZL .str w) (by simp)) |>.one rfl,rfl⟩
 | .u8=>⟨_,[],rfl,Rd.leaves (t:= .u8) (al:=al) (Own.rd (ZL .u8 w) (by simp)) |>.one rfl,rfl⟩
 | .vl=>⟨_,[],rfl,Rd.leaves (t:= .vl) (al:=al) (Own.rd (ZL .vl w) (by simp)) |>.one rfl,rfl⟩
 | .sl _ _=>⟨_,[],rfl,rfl,rfl⟩
 | .pr a b=>LVs.app (X8 al gh w a) (X8 al gh w b)
theorem JI:∀t:Ty,QJ t.zlv=[]
 | .int=>rfl
 | .bool=>rfl
 | .str=>rfl
 | .u8=>rfl
 | .vl=>rfl
 | .sl _ _=>rfl
 | .pr a b=>by
  have:∀c e:List LV,QJ (c++e)=QJ c++QJ e:=by
   intro c e
   induction c with
   | nil=>rfl
   | cons l h f=>simp[QJ,f]
  simp[Ty.zlv,this,JI a,JI b]
section
variable {A:Amb}{P:Program}{s:St}{x y:Operand}{d:Nat}{T T' ty:TypeId}{pos:String}{af:Array Edge}{g:Option (Nat×Bool)}
theorem Vq {z:Value}{w:World}(h:zer P T=some z):(zeroValue T).run P w= .ok z w:=by
 unfold zer at h
 cases a:P.info? T with
 | none=>rw[a] at h; cases h
 | some i=>
  rw[a] at h
  have b:i.zero=some z:=h
  simp[zeroValue,typeInfo,a,b,ay]
theorem YP (k:Nat)(t:Ty){z:Value}(l:zer P T=some z)(f:z.cells.toList=t.zeros)(j:Nat.blt d A.n=true)(b:Fresh s k)(c:A.k0≤k):Does A P ⟨some d, .alloc T,ty,pos,af,g⟩ s (s.new d k (.ptr k 0) (.box T t.zlv)):=
 fun a w K Q r h=>by
  obtain ⟨m,r⟩:=r
  have i:z.cells=t.zeros.toArray:=by rw[← f]
  have e:(execOp a.eval ⟨some d, .alloc T,ty,pos,af,g⟩).run P w= .ok (.value (.pointer (some ⟨w.heap.size,0,none⟩))) (w.alloc (.cells t.zeros.toArray T)):=by
   simp only[execOp,Instr.alloc,newVar,newRow,ay,Vq l,aI,i]
   simp
  unfold Oper.wp
  rw[e,Oper.upon_value]
  exact h _ _ (r.box k b c T (X8 _ _ _ t) (by rw[JI]; simp) (aA j))
theorem JC {q off o f:Nat}(m:Evl A s x (.ptr q off))(k:fld P T f=some o)(i:(s.tab.ent q).isSome=true)(l:Nat.blt d A.n=true):Does A P ⟨some d, .fieldAddr T x f,ty,pos,af,g⟩ s (s.put d (lf (.ptr q (off+o)))):=
 Qi rfl l fun b a w r=>by
  obtain ⟨e,j⟩:=br.1 i
  obtain ⟨g,c,h⟩:=m b a w r ⟨e,j⟩
  refine ⟨.pointer (some ⟨g,off+o,none⟩), ?_,_,rfl,fun _=>⟨g,c,rfl⟩⟩
  simp only[execOp,h,ay,Hc k]
  simp
theorem QcR {t:Ty}{z:t.Den}{off o f:Nat}(q:Evl A s x (.elt t z off))(m:fld P T f=some o)(p:Nat.blt d A.n=true):Does A P ⟨some d, .fieldAddr T x f,ty,pos,af,g⟩ s (s.put d (lf (.elt t z (off+o)))):=
 Qi rfl p fun h a w r=>by
  obtain ⟨b,c,e,u,i,j,k,l⟩:=q h a w r
  refine ⟨.pointer (some ⟨b,c+(off+o),none⟩), ?_,_,rfl,b,c,e,u,rfl,j,k,l⟩
  simp only[execOp,i,ay,Hc m]
  simp[bV]
theorem QT {q b i j o f:Nat}(v:Evl A s x (.ept q b i j))(t:fld P T f=some o)(m:(s.tab.ent q).isSome=true)(u:Nat.blt d A.n=true):Does A P ⟨some d, .fieldAddr T x f,ty,pos,af,g⟩ s (s.put d (lf (.ept q b i (j+o)))):=
 Qi rfl u fun h a w r=>by
  obtain ⟨e,p⟩:=br.1 m
  obtain ⟨g,n,c,k,l⟩:=v h a w r ⟨e,p⟩
  refine ⟨.pointer (some ⟨g,i*b+(j+o),none⟩), ?_,_,rfl,fun _=>⟨g,n,c,k,rfl⟩⟩
  simp only[execOp,l,ay,Hc t]
  simp[bV]
theorem QbW {q off:Nat}(k:Evl A s x (.ptr q off))(h:(s.tab.ent q).isSome=true)(j:Nat.blt d A.n=true):Does A P ⟨some d, .nilCheck x,ty,pos,af,g⟩ s (s.put d (lf (.ptr q off))):=
 Qi rfl j fun b a w r=>by
  obtain ⟨e,i⟩:=br.1 h
  obtain ⟨g,c,f⟩:=k b a w r ⟨e,i⟩
  refine ⟨.pointer (some ⟨g,off,none⟩), ?_,_,rfl,fun _=>⟨g,c,rfl⟩⟩
  simp only[execOp,f]
  simp
theorem X7 {q b i j:Nat}(p:Evl A s x (.ept q b i j))(l:(s.tab.ent q).isSome=true)(o:Nat.blt d A.n=true):Does A P ⟨some d, .nilCheck x,ty,pos,af,g⟩ s (s.put d (lf (.ept q b i j))):=
 Qi rfl o fun f a w r=>by
  obtain ⟨e,m⟩:=br.1 l
  obtain ⟨g,n,c,h,k⟩:=p f a w r ⟨e,m⟩
  refine ⟨.pointer (some ⟨g,i*b+j,none⟩), ?_,_,rfl,fun _=>⟨g,n,c,h,rfl⟩⟩
  simp only[execOp,k]
  simp
theorem Vp {E:TypeId}{i:Int}{n a b o f:Nat}{h:Bool}{w:World}(c:P.underlying T=some (.slice E))(k:tsh P E=some (h,f))(h0:0≤i)(j:i < n):
 (Instr.indexAt T (.slice (some ⟨b,o,none⟩) n a) (.int .i64 i)).run P w= .ok (.pointer (some ⟨b,o+i.toNat*f,none⟩)) w:=by
 have e:P.elem T=E:=by simp[Program.elem,c]
 rw[run_indexAt_slice w T _ n a .i64 i (by rw[e]; exact c),if_pos ⟨h0,j⟩,e,Xr k]
 simp[Addr.add_lit]
theorem QcS {E E':TypeId}{e:Ty}{l:List e.Den}{i:Int}{z:e.Den}{k:Bool}(G:Evl A s x (.dat (.sl E e) l))(H:Evl A s y (dI i))(C:P.underlying T=some (.slice E'))(u:tsh P E'=some (k,e.wd))(F:Nat.blt d A.n=true)
 (h0:0≤i) (hz:l[i.toNat]? =some z):Does A P ⟨some d, .indexAddr T x y,ty,pos,af,g⟩ s (s.put d (lf (.elt e z 0))):=
 Qi rfl F fun p a w r=>by
  have D:=H.i r
  obtain ⟨I,v,f⟩:=G p a w r
  obtain ⟨B,c,j,J,K⟩:=f.slv
  rw[j] at f
  obtain ⟨b,o,m,rfl,q,t⟩:=f.at_ hz
  have h:i < l.length:=by have:=(ah.1 hz).1; omega
  refine ⟨.pointer (some ⟨b,o+i.toNat*e.wd,none⟩), ?_,_,rfl,b,o+i.toNat*e.wd,m,I,rfl,v,q,t⟩
  simp only[execOp,j,D,ay,Vp C u h0 h]
  simp
theorem QU {E E':TypeId}{e:Ty}{q:Nat}{l:List e.Den}{i:Int}{o:Bool}(D:Evl A s x (.ref q))(m:s.tab.ent q=some (.arr E e l))(F:Evl A s y (dI i))(v:P.underlying T=some (.slice E'))(t:tsh P E'=some (o,e.wd))(B:Nat.blt d A.n=true)
 (h0:0≤i) (h1:i < l.length):Does A P ⟨some d, .indexAddr T x y,ty,pos,af,g⟩ s (s.put d (lf (.ept q e.wd i.toNat 0))):=
 Qi rfl B fun c a w r=>by
  have z:=F.i r
  have C:a.eval x=c.h q:=D c a w r ⟨_,m⟩
  have u:Own (.sl E e) w (c.f q) [c.h q] l:=r.cx.en q _ m
  rcases u with ⟨_,_,h⟩ | ⟨b,j,p,fps,G,k,H,I,J,K,L⟩
  ·subst h; simp at h1; omega
  ·simp only[aD,and_true] at k
   refine ⟨.pointer (some ⟨b,0+i.toNat*e.wd,none⟩), ?_,_,rfl,fun _=>⟨b,l.length,j,k,by simp⟩⟩
   simp only[execOp,C,k,z,ay,Vp v t h0 h1]
   simp
theorem Vl (a b:List LV):QJ (a++b)=QJ a++QJ b:=by
 induction a with
 | nil=>rfl
 | cons l e c=>simp[QJ,c]
theorem Qib {ls:List LV}(n:Nat):∀q∈QJ (ls.take n),q∈QJ ls:=by
 intro q a
 rw[← bR n ls,Vl]
 exact aH _ a
theorem Qia {ls:List LV}(n:Nat):∀q∈QJ (ls.drop n),q∈QJ ls:=by
 intro q a
 rw[← bR n ls,Vl]
 exact aN _ a
theorem LVs.nth {al:Nat→Prop}{gh:Gh}{w:World}{ls:List LV}{vs:List Value}(h:LVs al gh w ls vs){i:Nat}{l:LV}(a:ls[i]? =some l):∃v,vs[i]? =some v∧LVR al gh w l v:=LVs.get h a
theorem Qak {q off n:Nat}{E:TypeId}{cs:List LV}{l:LV}(B:Evl A s x (.ptr q off))(c:s.tab.ent q=some (.box E cs))(p:tsh P T=some (false,n))(u:cs[off]? =some l)(z:Nat.blt d A.n=true):
 Does A P ⟨some d, .load T x,ty,pos,af,g⟩ s (s.put d (lf l)):=
 Qi rfl z fun f a w r=>by
  obtain ⟨g,h,i⟩:=B f a w r ⟨_,c⟩
  obtain ⟨C,e,b,D,j,k⟩:=r.cx.en q _ c
  rw[h] at b
  cases b
  obtain ⟨v,m,o⟩:=k.nth u
  refine ⟨v, ?_,_,rfl,o⟩
  have t:w.cell? ⟨g,off,none⟩=some v:=by simp only[World.cell?,j]; simpa using m
  simp only[execOp,i,Instr.loadAt,Instr.sureAddr,ay,bl,aI,Z3 p _ v t]
theorem JD {q off n:Nat}{E:TypeId}{cs:List LV}(D:Evl A s x (.ptr q off))(i:s.tab.ent q=some (.box E cs))(t:tsh P T=some (true,n))(v:Nat.ble (off+n) cs.length=true)(B:Nat.blt d A.n=true):
 Does A P ⟨some d, .load T x,ty,pos,af,g⟩ s (s.put d (ag ((cs.drop off).take n))):=
 Qi rfl B fun k a w r=>by
  obtain ⟨g,l,m⟩:=D k a w r ⟨_,i⟩
  obtain ⟨F,b,f,G,o,h⟩:=r.cx.en q _ i
  rw[l] at f
  cases f
  have p:=(h.drop off).take n
  have z:=aA v
  have e:=h.len
  refine ⟨.agg ((b.toList.drop off).take n).toArray, ?_,_,rfl,p⟩
  have C:=XZ (w:=w) t g off ((b.toList.drop off).take n) (by rw[ao,aW,e]; omega) fun j u c=>by
   rw[bw] at c
   split at c
   ·rw[cw] at c
    simp only[World.cell?,o]
    simpa using c
   ·cases c
  simp only[execOp,m,Instr.loadAt,Instr.sureAddr,ay,bl,aI,C]
theorem Qea {t:Ty}{z:t.Den}{off n:Nat}{l:LV}(B:Evl A s x (.elt t z off))(m:tsh P T=some (false,n))(q:(leaves t z)[off]? =some l)(u:Nat.blt d A.n=true):
 Does A P ⟨some d, .load T x,ty,pos,af,g⟩ s (s.put d (lf l)):=
 Qi rfl u fun c a w r=>by
  obtain ⟨b,o,D,C,f,e,h,i⟩:=B c a w r
  obtain ⟨v,j,k⟩:=(Rd.leaves (al:=s.tab.al) (gh:=c) (w:=w) ⟨C,e,h⟩).nth q
  refine ⟨v, ?_,_,rfl,k⟩
  have p:w.cell? ⟨b,o+off,none⟩=some v:=(e _ _ (i off v j)).2
  simp only[execOp,f,Instr.loadAt,Instr.sureAddr,ay,bl,aI,Z3 m _ v p]
theorem J6:∀(t:Ty) (z:t.Den),QJ (leaves t z)=[]
 | .int,_=>rfl
 | .bool,_=>rfl
 | .str,_=>rfl
 | .u8,_=>rfl
 | .vl,_=>rfl
 | .sl _ _,_=>rfl
 | .pr a b,z=>by simp[leaves,Vl,J6 a,J6 b]
theorem QcV {t:Ty}{z:t.Den}{off n:Nat}(E:Evl A s x (.elt t z off))(q:tsh P T=some (true,n))(v:Nat.ble (off+n) t.wd=true)(C:Nat.blt d A.n=true):
 Does A P ⟨some d, .load T x,ty,pos,af,g⟩ s (s.put d (ag (((leaves t z).drop off).take n))):=
 Qi rfl C fun e a w r=>by
  obtain ⟨b,o,h,F,l,i,k,m⟩:=E e a w r
  have p:=((Rd.leaves (al:=s.tab.al) (gh:=e) (w:=w) ⟨F,i,k⟩).drop off).take n
  have B:=aA v
  have f:=k.len
  refine ⟨.agg ((h.drop off).take n).toArray, ?_,_,rfl,p⟩
  ·have D:=XZ (w:=w) q b (o+off) ((h.drop off).take n) (by rw[ao,aW,f]; omega) fun j u c=>by
    rw[bw] at c
    split at c
    ·rw[cw] at c
     rw[bV]
     exact (i _ _ (m (off+j) u c)).2
    ·cases c
   simp only[execOp,l,Instr.loadAt,Instr.sureAddr,ay,bl,aI,D]
end
end Go.Proofs.YtndabgcpnmeeoaaGreat
namespace Go.Proofs.YtndabgcpnmeeoaaGreat
open Go.RowKit
def splice (cs:List LV)(off:Nat)(ls:List LV):List LV:=cs.take off++ls++cs.drop (off+ls.length)
theorem LVs.splice {al:Nat→Prop}{gh:Gh}{w:World}{cs ls:List LV}{us vs:List Value}{off:Nat}(h:LVs al gh w cs us)(k:LVs al gh w ls vs):LVs al gh w (Go.Proofs.YtndabgcpnmeeoaaGreat.splice cs off ls) (us.take off++vs++us.drop (off+vs.length)):=by
 rw[k.len]
 exact ((h.take off).app k).app (h.drop _)
section
variable {A:Amb}{P:Program}{s:St}{x y:Operand}{d:Nat}{T T' ty:TypeId}{pos:String}{af:Array Edge}{g:Option (Nat×Bool)}
theorem Rg.mod {gh:Gh}{a:Act}{w w':World}(r:Rg A s gh a w){q:Nat}{t e:Ent}(u:s.tab.ent q=some t)(v:Grw w w')(hb:∀g,g < w.heap.size→g∉gh.f q→w'.heap[g]? =w.heap[g]?)
 (hE:EntR s.tab.al gh w' q e):Rg A ⟨s.tm,(q,some e) :: s.tab⟩ gh a w':=by
 have b:∀c,Tab.al ((q,some e) :: s.tab) c↔s.tab.al c:=fun c=>by
  unfold Tab.al
  rw[Qd]
  by_cases h:c=q
  ·subst h; simp[u]
  ·rw[if_neg h]
 have p:s.tab.al q:=⟨t,u⟩
 have l:∀g,gh.N g→gh.N g∧w'.heap[g]? =w.heap[g]? :=fun g k=>⟨k,hb g (r.cx.nl g k) fun h=>r.cx.no q p g h k⟩
 refine r.step ⟨fun c m h=> ?_,fun B C j n=>r.cx.dj B C ((b _).1 j) ((b _).1 n),fun c h=>r.cx.nd c ((b _).1 h),fun c h=>r.cx.no c ((b _).1 h),fun g k=>bq (r.cx.nl g k) v.size⟩
  (fun c h=> .inl ⟨(b _).1 h,rfl,fun _=>rfl⟩) l v (fun g o z=>hb g o (z q p)) (fun g h=> .inl h) (fun c h g i=> .inr ⟨c,(b _).1 h,i⟩)
 ·rw[Qd] at h
  by_cases j:c=q
  ·rw[if_pos j] at h
   cases h
   subst j
   exact hE.mono (fun D _ h=>⟨(b _).1 h,rfl⟩) (fun g h=>⟨h,rfl⟩) rfl rfl fun _ _=>rfl
  ·rw[if_neg j] at h
   exact (r.cx.en c m h).mono (fun D _ h=>⟨(b _).1 h,rfl⟩) l rfl rfl fun g i=>hb g (r.cx.lt ⟨m,h⟩ g i) fun n=>r.cx.dj c q ⟨m,h⟩ p j g i n
theorem Ky (w:World)(g off:Nat)(vs:List Value):Grw w (WI w g off vs):=by
 induction vs generalizing w off with
 | nil=>exact QV w
 | cons v vs a=>
  have h:Grw w (w.setCell ⟨g,off,none⟩ v):=⟨rfl,rfl,rfl,by simp[World.setCell]⟩
  exact h.trans (a _ _)
theorem Q6 {q off:Nat}{E:TypeId}{cs ls:List LV}{b:Bool}(V:Evl A s x (.ptr q off))(f:s.tab.ent q=some (.box E cs))(W:Ev A s y (b,ls))(C:QW s.tab ls=true)(O:tsh P T=some (b,ls.length))
 (hl:Nat.ble (off+ls.length) cs.length=true):Does A P ⟨none, .store T x y,ty,pos,af,g⟩ s ⟨s.tm,(q,some (.box E (splice cs off ls))) :: s.tab⟩:=fun a w K Q r M=>by
 obtain ⟨k,r⟩:=r
 obtain ⟨g,p,I⟩:=V k a w r ⟨_,f⟩
 obtain ⟨Z,i,t,m,D,F⟩:=r.cx.en q _ f
 rw[p] at t
 cases t
 have H:=W k a w r
 obtain ⟨n,J,v⟩:=CmR.cells H fun R=>by
  subst R
  obtain ⟨l,rfl,p⟩:=H
  simp only[QW,dt] at C
  obtain ⟨t,m⟩:=VO C
  exact p.oneCell m t fun q ⟨e,f⟩=>(r.cx.en q e f).oneCell
 have L:n.length=ls.length:=v.len
 have U:=aA hl
 have S:i.size=cs.length:=by have:=F.len; simpa using this
 have u:=Ja (P:=P) (w:=w) (b:=g) (o:=off) O (a.eval y) n J L D (by omega) (v.oneCells r.cx C)
 have e:(execOp a.eval ⟨none, .store T x y,ty,pos,af,‹_›⟩).run P w= .ok .skip (WI w g off n):=by
  simp only[execOp,I,Instr.storeAt,Instr.sureAddr,ay,bl,aI,u]
 unfold Oper.wp
 rw[e,Oper.upon_skip]
 obtain ⟨j,X,k2,Y⟩:=Uo g E (0,0) n w off i D (by omega)
 have z:∀c,k.N c→k.N c∧(WI w g off n).heap[c]? =w.heap[c]? :=fun c G=>⟨G,YW _ _ _ _ _ fun h=>r.cx.no q ⟨_,f⟩ c (by rw[m,h]; simp) G⟩
 refine M _ _ ⟨k,r.mod f (Ky _ _ _ _) (fun c _ B=>YW _ _ _ _ _ fun h=>B (by rw[m,h]; simp)) ⟨g,j,p,m,X, ?_⟩⟩
 rw[Y]
 exact (F.splice v).mono (fun _ _ h=>⟨h,rfl⟩) z
@[reducible] def VG:List Nat→Tab
 | []=>[]
 | q :: qs=>(q,none) :: VG qs
theorem KD (a:List Nat)(T:Tab)(q:Nat):Tab.ent (VG a++T) q=if q∈a then none else T.ent q:=by
 induction a with
 | nil=>simp[VG]
 | cons u c b=>
  simp only[VG,bH,Qd,b,aE]
  by_cases h:q=u <;> simp[h]
theorem Rg.make {gh:Gh}{a:Act}{w w':World}(r:Rg A s gh a w)(t:Nat)(C:Fresh s t)(K:A.k0≤t)(c:List Nat)(u:∀q∈c,s.tab.al q)(Q:Grw w w')(hb:∀g,g < w.heap.size→(∀q∈c,g∉gh.f q)→w'.heap[g]? =w.heap[g]?)
 {E:TypeId} {e:Ty} {xs:List e.Den} {hv:Value} {fp:List Nat} (hE:Own (.sl E e) w' fp [hv] xs) (hnd:fp.Nodup) (hfp:∀g∈fp,w.heap.size≤g∨∃q∈c,g∈gh.f q):
 Rg A ⟨s.tm,(t,some (.arr E e xs)) :: (VG c++s.tab)⟩ ⟨fun q=>if q=t then hv else gh.h q,fun q=>if q=t then fp else gh.f q,gh.N⟩ a w':=by
 have l:∀q,Tab.al ((t,some (.arr E e xs)) :: (VG c++s.tab)) q→q=t∨(q≠t∧s.tab.al q∧q∉c):=fun q h=>by
  by_cases j:q=t
  ·exact .inl j
  ·unfold Tab.al at h
   rw[Qd,if_neg j,KD] at h
   by_cases i:q∈c
   ·rw[if_pos i] at h; obtain ⟨_,h⟩:=h; cases h
   ·rw[if_neg i] at h; exact .inr ⟨j,h,i⟩
 have B:∀g,gh.N g→gh.N g∧w'.heap[g]? =w.heap[g]? :=fun g p=>⟨p,hb g (r.cx.nl g p) fun q v h=>r.cx.no q (u q v) g h p⟩
 have H:∀q,s.tab.al q→q∉c→∀g∈gh.f q,w'.heap[g]? =w.heap[g]? :=fun q v U g D=>hb g (r.cx.lt v g D) fun z I h=>r.cx.dj q z v (u z I) (fun h=>U (h▸I)) g D h
 refine r.step ⟨fun q J h=> ?_,fun q z j i G g b m=> ?_,fun q h=> ?_,fun q h g b p=> ?_,fun g p=>bq (r.cx.nl g p) Q.size⟩ (fun q h=> ?_) B Q
  (fun g F V=>hb g F fun q v=>V q (u q v)) (fun g h=> .inl h) (fun q h g b=> ?_)
 ·rw[Qd] at h
  by_cases j:q=t
  ·rw[if_pos j] at h
   cases h
   subst j
   simpa [EntR] using hE
  ·rw[if_neg j,KD] at h
   by_cases i:q∈c
   ·rw[if_pos i] at h; cases h
   ·rw[if_neg i] at h
    refine (r.cx.en q J h).mono (fun W L R=> ?_) B (by simp[j]) (by simp[j]) (H q ⟨J,h⟩ i)
    rcases l W R with n | ⟨n,S,_⟩
    ·exact absurd (n▸L) (C.en q J h)
    ·exact ⟨S,by simp[n]⟩
 ·rcases l q j with j | ⟨j,M,X⟩ <;> rcases l z i with i | ⟨i,O,Y⟩
  ·exact G (j.trans i.symm)
  ·subst j
   simp only[if_true] at b
   simp only[if_neg i] at m
   rcases hfp g b with h | ⟨o,h,n⟩
   ·have:=r.cx.lt O g m; omega
   ·exact r.cx.dj z o O (u o h) (fun h=>Y (by rw[h]; assumption)) g m n
  ·subst i
   simp only[if_true] at m
   simp only[if_neg j] at b
   rcases hfp g m with h | ⟨o,h,n⟩
   ·have:=r.cx.lt M g b; omega
   ·exact r.cx.dj q o M (u o h) (fun h=>X (by rw[h]; assumption)) g b n
  ·simp only[if_neg j] at b
   simp only[if_neg i] at m
   exact r.cx.dj q z M O G g b m
 ·rcases l q h with h | ⟨h,k,_⟩
  ·simpa [h] using hnd
  ·simp only[if_neg h]; exact r.cx.nd q k
 ·rcases l q h with h | ⟨h,k,_⟩
  ·simp only[h,if_true] at b
   rcases hfp g b with i | ⟨o,i,n⟩
   ·have:=r.cx.nl g p; omega
   ·exact r.cx.no o (u o i) g n p
  ·simp only[if_neg h] at b
   exact r.cx.no q k g b p
 ·rcases l q h with h | ⟨h,k,_⟩
  ·exact .inr ⟨h▸C,h▸K⟩
  ·exact .inl ⟨k,by simp[h],fun _=>by simp[h]⟩
 ·rcases l q h with h | ⟨h,k,_⟩
  ·simp only[h,if_true] at b
   rcases hfp g b with i | ⟨o,i,n⟩
   ·exact .inl i
   ·exact .inr ⟨o,u o i,n⟩
  ·simp only[if_neg h] at b
   exact .inr ⟨q,k,b⟩
@[reducible] def St.mk_ (s:St) (d t:Nat) (used:List Nat) (E:TypeId) (e:Ty) (xs:List e.Den):St:=⟨(d,lf (.ref t)) :: s.tm,(t,some (.arr E e xs)) :: (VG used++s.tab)⟩
theorem Rg.make_put {gh:Gh}{a:Act}{w w':World}(r:Rg A s gh a w)(t:Nat)(c:Fresh s t)(h:A.k0≤t)(b:List Nat)(j:∀q∈b,s.tab.al q)(i:Grw w w')(hb:∀g,g < w.heap.size→(∀q∈b,g∉gh.f q)→w'.heap[g]? =w.heap[g]?)
 {E:TypeId} {e:Ty} {xs:List e.Den} {hv:Value} {fp:List Nat} (hE:Own (.sl E e) w' fp [hv] xs) (hnd:fp.Nodup) (hfp:∀g∈fp,w.heap.size≤g∨∃q∈b,g∈gh.f q) (hd:Nat.blt d A.n=true):
 R A (s.mk_ d t b E e xs) (a.put (some d) hv) w':=
 ⟨_,(r.make t c h b j i hb hE hnd hfp).put (aA hd) (pv:=lf (.ref t)) ⟨_,rfl,fun _=>by simp⟩⟩
def Abs (T:Tab):(t:Ty)→List LV→t.Den→List Nat→Prop
 | .int,ls,x,used=>ls=[.dat .int x]∧used=[]
 | .bool,ls,x,used=>ls=[.dat .bool x]∧used=[]
 | .str,ls,x,used=>ls=[.dat .str x]∧used=[]
 | .u8,ls,x,used=>ls=[.dat .u8 x]∧used=[]
 | .vl,ls,x,used=>ls=[.dat .vl x]∧used=[]
 | .sl E e,ls,xs,used=>(∃q,ls=[.ref q]∧T.ent q=some (.arr E e xs)∧used=[q])∨(ls=[.val (.slice none 0 0)]∧xs=[]∧used=[])
 | .pr a b,ls,x,used=>∃l1 l2 x1 x2 u1 u2,ls=l1++l2∧x=(x1,x2)∧Abs T a l1 x1 u1∧Abs T b l2 x2 u2∧used=u1++u2
def fps (f:Nat→List Nat):List Nat→List Nat
 | []=>[]
 | q :: qs=>f q++fps f qs
theorem QnF (f:Nat→List Nat)(a b:List Nat):fps f (a++b)=fps f a++fps f b:=by
 induction a with
 | nil=>rfl
 | cons q e c=>simp[fps,c]
theorem Qic {f:Nat→List Nat}{l:List Nat}{g:Nat}:g∈fps f l↔∃q∈l,g∈f q:=by
 induction l with
 | nil=>simp[fps]
 | cons q b a=>simp[fps,a]
theorem Qpt {T:Tab}{gh:Gh}{w:World}(j:Cx T gh w){l:List Nat}(h:l.Nodup)(c:∀q∈l,T.al q):(fps gh.f l).Nodup:=by
 induction l with
 | nil=>exact bL
 | cons q u t=>
  obtain ⟨k,m⟩:=bj.1 h
  refine aT.2 ⟨j.nd q (c q (aw ..)),t m fun r i=>c r (ax _ i),fun a n b o e=> ?_⟩
  subst e
  obtain ⟨r,i,p⟩:=Qic.1 o
  exact j.dj q r (c q (aw ..)) (c r (ax _ i)) (fun e=>k (e▸i)) a n p
theorem Abs.own {T:Tab}{gh:Gh}{w:World}(n:Cx T gh w):∀{t:Ty} {ls:List LV} {x:t.Den} {c:List Nat} {vs:List Value},Abs T t ls x c→LVs T.al gh w ls vs→Own t w (fps gh.f c) vs x∧∀q∈c,T.al q
 | .int,_,_,_,_,⟨rfl,rfl⟩,h=>⟨(LVs.rd (t:= .int) h).rep.own0 rfl,by simp⟩
 | .bool,_,_,_,_,⟨rfl,rfl⟩,h=>⟨(LVs.rd (t:= .bool) h).rep.own0 rfl,by simp⟩
 | .str,_,_,_,_,⟨rfl,rfl⟩,h=>⟨(LVs.rd (t:= .str) h).rep.own0 rfl,by simp⟩
 | .u8,_,_,_,_,⟨rfl,rfl⟩,h=>⟨(LVs.rd (t:= .u8) h).rep.own0 rfl,by simp⟩
 | .vl,_,_,_,_,⟨rfl,rfl⟩,h=>⟨(LVs.rd (t:= .vl) h).rep.own0 rfl,by simp⟩
 | .sl E e,_,xs,_,_,h,k=>by
  rcases h with ⟨q,rfl,j,rfl⟩ | ⟨rfl,rfl,rfl⟩
  ·obtain ⟨v,i,rfl,l,m⟩:=k
   rw[show i=[] from m,show v=gh.h q from l ⟨_,j⟩]
   have:=n.en q _ j
   exact ⟨by simpa [fps,EntR] using this,by simpa using ⟨_,j⟩⟩
  ·obtain ⟨v,i,rfl,l,m⟩:=k
   rw[show i=[] from m,show v=_ from l]
   exact ⟨.inl ⟨rfl,rfl,rfl⟩,by simp⟩
 | .pr a b,_,_,_,_,⟨l1,l2,x1,x2,u1,u2,rfl,rfl,h1,j,rfl⟩,k=>by
  obtain ⟨B,C,rfl,l,m⟩:=Qgw k
  obtain ⟨p,u⟩:=Abs.own n h1 l
  obtain ⟨r,z⟩:=Abs.own n j m
  exact ⟨⟨_,_,B,C,QnF ..,rfl,p,r⟩,fun q o=>(aG.1 o).elim (u q) (z q)⟩
def AbsL (T:Tab)(e:Ty):List (Bool×List LV)→List e.Den→List Nat→Prop
 | [],xs,used=>xs=[]∧used=[]
 | c :: cs,xs,used=>∃x xs' u1 u2,xs=x :: xs'∧Abs T e c.2 x u1∧AbsL T e cs xs' u2∧used=u1++u2
def EvL (A:Amb)(s:St):List Operand→List (Bool×List LV)→Prop
 | [],cs=>cs=[]
 | x :: xs,cs=>∃c cs',cs=c :: cs'∧Ev A s x c∧EvL A s xs cs'
theorem EvL.cms {xs:List Operand}{cs:List (Bool×List LV)}(h:EvL A s xs cs){gh:Gh}{a:Act}{w:World}(r:Rg A s gh a w):CmsR s.tab.al gh w cs (xs.map a.eval):=by
 induction xs generalizing cs with
 | nil=>rw[show cs=[] from h]; rfl
 | cons x xs i=>obtain ⟨c,b,rfl,e,f⟩:=h; exact ⟨_,_,rfl,e gh a w r,i f⟩
def Qts (v:Value):List Value:=v.cells.toList
theorem AbsL.own {T:Tab}{gh:Gh}{w:World}(j:Cx T gh w){e:Ty}:∀{cs:List (Bool×List LV)} {xs:List e.Den} {a:List Nat} {vs:List Value},AbsL T e cs xs a→CmsR T.al gh w cs vs→
 (∀v∈vs,∀b ls,(b,ls)∈cs→True)→(∀c∈cs,QW T c.2=true)→OwnL (Own e w) (fps gh.f a) (vs.flatMap fun v=>v.cells.toList) xs∧(∀q∈a,T.al q)∧(∀v∈vs,v.cells.size=e.wd)∧vs.length=xs.length
 | [],_,_,_,⟨rfl,rfl⟩,h,_,_=>by rw[show _=[] from h]; exact ⟨⟨rfl,rfl⟩,by simp,by simp,rfl⟩
 | c :: cs,_,_,_,⟨x,xs',u1,u2,rfl,h1,h2,rfl⟩,⟨v,vs',hv,k1,k2⟩,_,hok=>by
  subst hv
  obtain ⟨B,C,D,E⟩:=AbsL.own j h2 k2 (fun _ _ _ _ _=>trivial) fun c i=>hok c (ax _ i)
  have i:=hok c (aw ..)
  obtain ⟨b,ls⟩:=c
  obtain ⟨I,n,G⟩:=CmR.cells k1 fun r=>by
   subst r
   obtain ⟨l,rfl,H⟩:=k1
   simp only[QW,dt] at i
   obtain ⟨o,p⟩:=VO i
   exact H.oneCell p o fun q ⟨e,t⟩=>(j.en q e t).oneCell
  obtain ⟨m,F⟩:=Abs.own j h1 G
  refine ⟨⟨_,_,I,_,QnF ..,by simp[n],m,B⟩,fun q z=>(aG.1 z).elim (F q) (C q),fun u k=> ?_,by simp[E]⟩
  rcases aE.1 k with rfl | k
  ·rw[n]; simpa using m.len
  ·exact D u k
theorem Qg4 (vs:List Value):∀(o:Nat) (cs:Array Value) (k:Nat),o+k+vs.length≤cs.size→
 ((vs.zipIdx k).foldl (fun (cs:Array Value) (p:Value×Nat)=>cs.setIfInBounds (o+p.2) p.1) cs).toList=cs.toList.take (o+k)++vs++cs.toList.drop (o+k+vs.length):=by
 induction vs with
 | nil=>intro o cs k _; simp
 | cons v vs c=>
  intro o cs k b
  simp only[aq] at b
  rw[List.zipIdx_cons,bh,c o _ (k+1) (by simp; omega)]
  have a:o+k < cs.toList.length:=by simp; omega
  simp only[Array.toList_setIfInBounds,aq]
  rw[show o+(k+1)=o+k+1 by omega,List.drop_set_of_lt (by omega)]
  have:(cs.toList.set (o+k) v).take (o+k+1)=cs.toList.take (o+k)++[v]:=by
   rw[cq (by simpa using a),List.take_set_of_le (aL _)]
   simp
  rw[this,show o+k+1+vs.length=o+k+(vs.length+1) by omega]
  simp
theorem Qmm (a:Nat):∀(vs:List Value) (k:Nat) (cs:Array Value),(∀v∈vs,v.cells.size=a)→cs.size=(k+vs.length)*a→
 ∃b,Instr.fill (fun i=>some (i*a,a)) cs ((vs.zipIdx k).map fun p=>(p.2,p.1))=some b∧b.toList=cs.toList.take (k*a)++vs.flatMap fun v=>v.cells.toList:=by
 intro vs
 induction vs with
 | nil=>intro k cs _ f; exact ⟨cs,rfl,by simp at f ⊢; rw[← f]; exact (aJ (by simp)).symm⟩
 | cons v vs C=>
  intro k cs q f
  simp only[aq] at f
  have l:=q v (aw ..)
  have h:k*a+v.cells.size≤cs.size:=by
   rw[f,l,show k+(vs.length+1)=k+1+vs.length by omega,bT,bT,dn]
   omega
  have m:=Qg4 v.cells.toList (k*a) cs 0 (by simpa using h)
  generalize w:List.foldl (fun (cs:Array Value) (p:Value×Nat)=>cs.setIfInBounds (k*a+p.2) p.1) cs (v.cells.toList.zipIdx 0)=F at m
  have o:F.size=(k+1+vs.length)*a:=by
   have:F.toList.length=cs.toList.length:=by rw[m]; simp; omega
   rw[show F.size=F.toList.length by simp,this]
   simp[f]
   congr 1; omega
  obtain ⟨b,r,t⟩:=C (k+1) F (fun u B=>q u (ax _ B)) o
  refine ⟨b, ?_, ?_⟩
  ·rw[List.zipIdx_cons,aU,Instr.fill]
   have e:(decide (v.cells.size≠a)||decide (k*a+v.cells.size > cs.size))=false:=by
    simp only[du,decide_eq_false_iff_not,ne_eq,Decidable.not_not,Nat.not_lt]
    exact ⟨l,by omega⟩
   have n:v.cells.zipIdx.foldl (fun cs (x:Value×Nat)=>match x with | (c,j)=>cs.setIfInBounds (k*a+j) c) cs=F:=by
    rw[← w,← Array.foldl_toList,Array.toList_zipIdx]
   show (if (decide (v.cells.size≠a)||decide (k*a+v.cells.size > cs.size))=true then none else Instr.fill _ (v.cells.zipIdx.foldl (fun cs (x:Value×Nat)=>match x with | (c,j)=>cs.setIfInBounds (k*a+j) c) cs) _)=some b
   rw[e,n]
   exact r
  ·rw[t,m,show (k+1)*a=k*a+a by rw[bT,dn]]
   have z:(cs.toList.take (k*a+0)++v.cells.toList).length=k*a+a:=by
    simp[l]; omega
   rw[← z,dF]
   simp
theorem Yp (t:Nat){E:TypeId}{e:Ty}{n:Nat}{b:Array (Nat×Operand)}{v:List (Bool×List LV)}{xs:List e.Den}{k:List Nat}{bb:Bool}{z:Value}(hT:P.underlying T=some (.slice E))(hE:tsh P E=some (bb,e.wd))
 (hz:zer P E=some z) (hpn:b.toList.map (·.1)=List.range n) (hv:EvL A s (b.toList.map (·.2)) v) (hok:∀c∈v,QW s.tab c.2=true) (hab:AbsL s.tab e v xs k) (hun:k.Nodup) (hsz:Nat.ble (n*e.wd) 16777216=true) (hn:Nat.blt d A.n=true) (hfr:Fresh s t) (hk0:A.k0≤t):
 Does A P ⟨some d, .buildSlice T n b,ty,pos,af,g⟩ s (s.mk_ d t k E e xs):=fun a w K Q r hK=>by
 obtain ⟨V,r⟩:=r
 have U:=hv.cms r
 obtain ⟨W,R,h3,h4⟩:=hab.own r.cx U (fun _ _ _ _ _=>trivial) hok
 generalize X:(b.toList.map (·.2)).map a.eval=vs at*
 have J:vs.length=n:=by
  have:=congrArg List.length hpn
  rw[← X]
  simpa using this
 have u:(b.map fun p=>(p.1,a.eval p.2)).toList=(vs.zipIdx 0).map fun p=>(p.2,p.1):=by
  rw[dy]
  apply bF
  intro i
  have M:=congrArg (fun l=>l[i]?) hpn
  have B:=congrArg (fun l=>l[i]?) X
  simp only[bo] at M B ⊢
  rw[List.getElem?_zipIdx]
  cases Z:b.toList[i]? with
  | none=>
   have N:vs[i]? =none:=by rw[Z] at B; exact B.symm
   simp[N]
  | some p=>
   rw[Z] at M B
   simp only[dl] at M B
   rw[← B]
   have:p.1=i:=by
    have Y:=(ah.1 M.symm)
    obtain ⟨Y,D⟩:=Y
    rw[List.getElem_range] at D
    exact D.symm
   simp[this]
 obtain ⟨j,O,k2⟩:=Qmm e.wd vs 0 ((Array.range (n*e.wd)).map (((if n*e.wd=0 then #[] else z.cells):Array Value)[· % ((if n*e.wd=0 then #[] else z.cells):Array Value).size]!)) h3 (by simp[J])
 have H:(execOp a.eval ⟨some d, .buildSlice T n b,ty,pos,af,g⟩).run P w= .ok (.value (.slice (some ⟨w.heap.size,0,none⟩) n n)) (w.alloc (.cells j E)):=by
  have S:=aA hsz
  have G:¬(n*e.wd > 2 ^ 24):=by omega
  simp only[execOp,Instr.buildSlice,ay,run_underlying hT,aI,Xr hE]
  rw[if_neg G]
  by_cases N:n*e.wd=0
  ·rw[if_pos N] at O ⊢
   simp only[bl,aI,ay]
   rw[u,O]
   simp[newRow,ay]
  ·rw[if_neg N] at O ⊢
   simp only[bl,aI,ay,Vq hz]
   rw[u,O]
   simp[newRow,ay]
 unfold Oper.wp
 rw[H,Oper.upon_value]
 have o:j.size=n*e.wd:=by
  have:j.toList.length=xs.length*e.wd:=by rw[k2]; simpa using W.len
  rw[show j.size=j.toList.length by simp,this,← h4,J]
 have C:∀g,g < w.heap.size→(w.alloc (.cells j E)).heap[g]? =w.heap[g]? :=fun g m=>Below.heap_alloc w _ g m
 have F:n≤maxLen:=by
  have hw:=VV e
  have S:=aA hsz
  have:n*1≤n*e.wd:=Nat.mul_le_mul_left _ hw
  unfold maxLen; omega
 have I:∀g∈fps V.f k,g < w.heap.size:=fun g m=>by
  obtain ⟨q,hq,m⟩:=Qic.1 m
  exact r.cx.lt (R q hq) g m
 have L:xs.length=n:=by omega
 refine hK _ _ (r.make_put (d:=d) (w':=w.alloc (.cells j E)) t hfr hk0 k R ⟨rfl,rfl,rfl,by simp⟩ (fun g m _=>C g m) (hv:= .slice (some ⟨w.heap.size,0,none⟩) n n) (fp:=w.heap.size :: fps V.f k) (E:=E) (xs:=xs) (e:=e) ?_ ?_ ?_ hn)
 ·refine .inr ⟨w.heap.size,n,j,_,rfl,by rw[L],heap_alloc_new w _,by omega,F,o, ?_⟩
  rw[L,← o,show j.size=j.toList.length by simp,bM,k2]
  simp only[Nat.zero_mul,List.take_zero,bN]
  exact W.mono fun f c x hf ho=>ho.keep fun g m=>C g (I g (hf g m))
 ·exact bj.2 ⟨fun h=>by have:=I _ h; omega,Qpt r.cx hun R⟩
 ·intro g m
  rcases aE.1 m with rfl | m
  ·exact .inl (aL _)
  ·exact .inr (Qic.1 m)
end
end Go.Proofs.YtndabgcpnmeeoaaGreat
