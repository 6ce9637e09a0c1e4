/- Abstract states: variables in memory, addresses, loads and stores. No program is named here. -/
import Derived.Test.YtnakmhfjafecpaaGreatAo
set_option linter.unusedSimpArgs false
set_option linter.unusedVariables false
set_option linter.unusedSectionVars false
namespace Go.Proofs.YtnakmhfjafecpaaGreat
open Go.RowKit
def tsh (P:Program)(T:TypeId):Option (Bool×Nat):=match P.underlying T,P.info? T with
  | some (.struct _),some i=>some (true,i.size)
  | some (.array _ _),some i=>some (true,i.size)
  | some _,some i=>some (false,i.size)
  | _,_=>none
def fld (P:Program)(T:TypeId)(f:Nat):Option Nat:=match P.underlying T with
  | some (.struct fs)=>match fs[f]? with
    | some fd=>match P.info? fd.type with
      | some i=>match i.size with
        | 0=>none
        | _+1=>some fd.offset
      | none=>none
    | none=>none
  | _=>none
def zer (P:Program)(T:TypeId):Option Value:=match P.info? T with
  | some i=>i.zero
  | none=>none
section
variable {P:Program}{T:TypeId}{w:World}
theorem Wx {b:Bool}{n:Nat}(h:tsh P T=some (b,n)):(sizeOf T).run P w= .ok n w:=by
  unfold tsh at h
  cases hi:P.info? T with
  | none=>rw[hi] at h; cases hu:P.underlying T with
    | none=>rw[hu] at h; cases h
    | some d=>rw[hu] at h; cases d <;> cases h
  | some i=>
    rw[hi] at h
    have hn:i.size=n:=by
      cases hu:P.underlying T with
      | none=>rw[hu] at h; cases h
      | some d=>rw[hu] at h; cases d <;> (simp at h; exact h.2)
    simp[sizeOf,typeInfo,hi,hn,Go.Sem.run_bind]
theorem K1 {b:Bool}{n:Nat}(h:tsh P T=some (b,n)):(isAgg T).run P w= .ok b w:=by
  unfold tsh at h
  cases hu:P.underlying T with
  | none=>rw[hu] at h; cases h
  | some d=>
    rw[hu] at h
    cases hi:P.info? T with
    | none=>rw[hi] at h; cases d <;> cases h
    | some i=>rw[hi] at h; cases d <;> (simp at h; simp[isAgg,run_underlying hu,Go.Sem.run_bind,h.1])
theorem HG (b o:Nat):∀(vs:List Value) (i:Nat) (acc:Array Value),(∀j u,vs[j]? =some u→w.cell? ⟨b,o+(i+j),none⟩=some u)→
    (loadCellsFrom ⟨b,o,none⟩ i vs.length acc).run P w= .ok (acc++vs.toArray) w:=by
  intro vs
  induction vs with
  | nil=>intro i acc _; simp[loadCellsFrom]
  | cons v vs ih=>
    intro i acc h
    have h0:=h 0 v rfl
    rw[Nat.add_zero] at h0
    have h1:=ih (i+1) (acc.push v) fun j u hj=>by
      have:=h (j+1) u hj
      rwa [show i+(j+1)=i+1+j by omega] at this
    simp only[List.length_cons,loadCellsFrom]
    simp only[Go.Sem.run_bind,Addr.add_lit,run_load,h0,Result.andThen_ok,h1]
    simp
theorem XR {n:Nat}(h:tsh P T=some (true,n))(b o:Nat)(vs:List Value)(hl:vs.length=n)(hc:∀j u,vs[j]? =some u→w.cell? ⟨b,o+j,none⟩=some u):
    (loadVar T ⟨b,o,none⟩).run P w= .ok (.agg vs.toArray) w:=by
  subst hl
  have:=HG (P:=P) (w:=w) b o vs 0 #[] (by simpa using hc)
  simp only[loadVar,loadCells,Go.Sem.run_bind,K1 h,Result.andThen_ok,if_true,Wx h,this]
  simp
theorem XU {n:Nat}(h:tsh P T=some (false,n))(p:Addr)(v:Value)(hc:w.cell? p=some v):(loadVar T p).run P w= .ok v w:=by
  simp only[loadVar,Go.Sem.run_bind,K1 h,Result.andThen_ok]
  simp[hc]
theorem KA {f o:Nat}(h:fld P T f=some o)(b k:Nat):(Instr.fieldAt T (.pointer (some ⟨b,k,none⟩)) f).run P w= .ok (.pointer (some ⟨b,k+o,none⟩)) w:=by
  unfold fld at h
  cases hu:P.underlying T with
  | none=>rw[hu] at h; cases h
  | some d=>
    rw[hu] at h
    cases d with
    | struct fs=>
      simp only at h
      cases hf:fs[f]? with
      | none=>rw[hf] at h; cases h
      | some fd=>
        rw[hf] at h
        simp only at h
        cases hi:P.info? fd.type with
        | none=>rw[hi] at h; cases h
        | some i=>
          rw[hi] at h
          simp only at h
          cases hs:i.size with
          | zero=>rw[hs] at h; cases h
          | succ m=>
            rw[hs] at h
            simp at h
            subst h
            simp[Instr.fieldAt,run_underlying hu,hf,Instr.sureAddr,fieldPlace,sizeOf,typeInfo,hi,hs,Go.Sem.run_bind,Addr.add_lit]
    | _=>cases h
theorem VE {b:Nat}{E:TypeId}:∀(vs:List Value) (o i:Nat) (w:World) (cur:Array Value),w.heap[b]? =some (.cells cur E (0,0))→o+i+vs.length≤cur.size→(∀v∈vs,v.oneCell'=true)→
    (storeCells ⟨b,o,none⟩ vs i).run P w= .ok () (Wg w b (o+i) vs):=by
  intro vs
  induction vs with
  | nil=>intro o i w cur _ _ _; simp[storeCells,Wg]
  | cons v vs ih=>
    intro o i w cur hb hl h1
    simp only[List.length_cons] at hl
    have hc:w.cell? ⟨b,o+i,none⟩=some (cur[o+i]'(by omega)):=by simp[World.cell?,hb,show o+i < cur.size by omega]
    have hf:w.frozen? ⟨b,o+i,none⟩=false:=by simp[World.frozen?,hb]
    have h2:=ih o (i+1) (w.setCell ⟨b,o+i,none⟩ v) (cur.setIfInBounds (o+i) v) (by simp[World.setCell,Array.getElem?_modify,hb]) (by simp; omega) fun v hv=>h1 v (List.mem_cons_of_mem _ hv)
    simp only[storeCells,Go.Sem.run_bind,Addr.add_lit,run_store P w _ v .plain (h1 v (List.mem_cons_self ..)),hc,hf,Result.andThen_ok,if_false,Bool.false_eq_true]
    simpa [Wg,Nat.add_assoc] using h2
theorem UY {b o:Nat}{E:TypeId}{g:Bool}{n:Nat}(h:tsh P T=some (g,n))(v:Value)(vs:List Value)(hv:v.cells=vs.toArray)(hl:vs.length=n){cur:Array Value}(hb:w.heap[b]? =some (.cells cur E (0,0)))
    (hs:o+n≤cur.size) (h1:∀v∈vs,v.oneCell'=true):(storeVar T ⟨b,o,none⟩ v).run P w= .ok () (Wg w b o vs):=by
  have h2:=VE (P:=P) vs o 0 w cur hb (by omega) h1
  have h3:v.cells.toList=vs:=by rw[hv]
  have h4:v.cells.size=n:=by rw[hv]; simpa using hl
  simp only[storeVar,Go.Sem.run_bind,Wx h,Result.andThen_ok,h3,h4]
  simpa using h2
end
theorem LVR.oneCell {al:Nat→Prop}{gh:Gh}{w:World}{l:LV}{v:Value}(h:LVR al gh w l v)(hl:∀u,l= .val u→u.oneCell'=true)(ha:∀q∈l.tags,al q)
    (hc:∀q,al q→(gh.h q).oneCell'=true):v.oneCell'=true:=by
  cases l with
  | val u=>rw[show v=u from h]; exact hl u rfl
  | dat t x=>exact Rep.one (Rd.rep h) v (by simp)
  | ref q=>rw[show v=_ from h (ha q (by simp[LV.tags]))]; exact hc q (ha q (by simp[LV.tags]))
  | ptr q off=>obtain ⟨g,_,h2⟩:=h (ha q (by simp[LV.tags])); rw[h2]; rfl
  | ept q wd i j=>obtain ⟨g,n,c,_,h2⟩:=h (ha q (by simp[LV.tags])); rw[h2]; rfl
  | sub q wd lo n=>obtain ⟨B,m,c,_,h2⟩:=h (ha q (by simp[LV.tags])); rw[h2]; rfl
  | elt t x off=>obtain ⟨b,o,ds,wN,h1,_⟩:=h; rw[h1]; rfl
  | clo f qs=>rw[show v=_ from h fun q hq=>ha q (by simpa [LV.tags] using hq)]; rfl
theorem EntR.oneCell {al:Nat→Prop}{gh:Gh}{w:World}{q:Nat}{e:Ent}(h:EntR al gh w q e):(gh.h q).oneCell'=true:=by
  cases e with
  | box E cs=>obtain ⟨g,cur,h1,_⟩:=h; rw[h1]; rfl
  | arr E e xs=>exact Rep.one (Own.rep (t:= .sl E e) h) _ (by simp)
  | obx E wd n ls0 ov=>obtain ⟨_,g,cap,cur,fps,h1,_⟩:=h; rw[h1]; rfl
  | mp kb k vb v m=>obtain ⟨g,es,clock,h1,_⟩:=h; rw[h1]; rfl
  | bys E l=>obtain ⟨g,cap,cur,h1,_⟩:=h; rw[h1]; rfl
  | pl o e vs f=>cases o <;> (rw[h.1]; rfl)
  | fz E e xs=>obtain ⟨vs,h1,_⟩:=h; exact Rep.one (Own.rep (t:= .sl E .vl) h1) _ (by simp)
def Up (T:Tab):LV→Bool
  | .val u=>u.oneCell'
  | .dat _ _=>true
  | .elt _ _ _=>true
  | .ref q=>(T.ent q).isSome
  | .ptr q _=>(T.ent q).isSome
  | .ept q _ _ _=>(T.ent q).isSome
  | .sub q _ _ _=>(T.ent q).isSome
  | .clo _ qs=>qs.all fun q=>(T.ent q).isSome
def Yf (T:Tab):List LV→Bool
  | []=>true
  | l :: ls=>Up T l&&Yf T ls
theorem VQ {T:Tab}{l:LV}(h:Up T l=true):(∀q∈l.tags,T.al q)∧∀u,l= .val u→u.oneCell'=true:=by
  have k:∀q,(T.ent q).isSome=true→T.al q:=fun q hq=>Option.isSome_iff_exists.1 hq
  cases l with
  | val u=>exact ⟨by simp[LV.tags],fun u' e=>by cases e; exact h⟩
  | dat t x=>exact ⟨by simp[LV.tags],fun u' e=>by cases e⟩
  | elt t x o=>exact ⟨by simp[LV.tags],fun u' e=>by cases e⟩
  | ref q=>exact ⟨by intro r hr; simp[LV.tags] at hr; subst hr; exact k _ h,fun u' e=>by cases e⟩
  | ptr q o=>exact ⟨by intro r hr; simp[LV.tags] at hr; subst hr; exact k _ h,fun u' e=>by cases e⟩
  | ept q a b c=>exact ⟨by intro r hr; simp[LV.tags] at hr; subst hr; exact k _ h,fun u' e=>by cases e⟩
  | sub q a b c=>exact ⟨by intro r hr; simp[LV.tags] at hr; subst hr; exact k _ h,fun u' e=>by cases e⟩
  | clo f qs=>exact ⟨by intro r hr; exact k _ (List.all_eq_true.1 h r (by simpa [LV.tags] using hr)),fun u' e=>by cases e⟩
theorem LVs.oneCells {T:Tab}{gh:Gh}{w:World}(cx:Cx T gh w){ls:List LV}{vs:List Value}(h:LVs T.al gh w ls vs)(hk:Yf T ls=true):∀v∈vs,v.oneCell'=true:=by
  induction ls generalizing vs with
  | nil=>rw[show vs=[] from h]; simp
  | cons l ls ih=>
    obtain ⟨v,vs',rfl,h1,h2⟩:=h
    simp only[Yf,Bool.and_eq_true] at hk
    obtain ⟨h3,h4⟩:=VQ hk.1
    intro u hu
    rcases List.mem_cons.1 hu with rfl | hu
    · exact h1.oneCell h4 h3 fun q hq=>by obtain ⟨e,he⟩:=hq; exact (cx.en q e he).oneCell
    · exact ih h2 hk.2 u hu
theorem CmR.cells {al:Nat→Prop}{gh:Gh}{w:World}{b:Bool}{ls:List LV}{v:Value}(h:CmR al gh w (b,ls) v)(h1:b=false→v.oneCell'=true):∃vs,v.cells=vs.toArray∧LVs al gh w ls vs:=by
  cases b with
  | true=>obtain ⟨vs,rfl,h2⟩:=h; exact ⟨vs,rfl,h2⟩
  | false=>
    obtain ⟨l,rfl,h2⟩:=h
    have:=h1 rfl
    exact ⟨[v],by cases v <;> first | rfl | (simp[Value.oneCell'] at this),v,[],rfl,h2,rfl⟩
section
variable {A:Amb}{P:Program}{s:St}{x y:Operand}{d:Nat}{T T' ty:TypeId}{pos:String}{af:Array Edge}{g:Option (Nat×Bool)}
theorem Rg.grow {gh:Gh}{a:Act}{w:World}(r:Rg A s gh a w)(t:Nat)(hfr:Fresh s t)(hk0:A.k0≤t)(o:Obj)(hv:Value)(fp:List Nat)(e:Ent)
    (hfp:∀g∈fp,g=w.heap.size) (hnd:fp.Nodup) (htag:t∉e.tags)
    (he:EntR s.tab.al ⟨fun q=>if q=t then hv else gh.h q,fun q=>if q=t then fp else gh.f q,gh.N⟩ (w.alloc o) t e):
    Rg A ⟨s.tm,(t,some e) :: s.tab⟩ ⟨fun q=>if q=t then hv else gh.h q,fun q=>if q=t then fp else gh.f q,gh.N⟩ a (w.alloc o):=by
  have hal:∀q,q≠t→(Tab.al ((t,some e) :: s.tab) q↔s.tab.al q):=fun q hq=>by
    unfold Tab.al; rw[Qp,if_neg hq]
  have hbl:∀g,g < w.heap.size→(w.alloc o).heap[g]? =w.heap[g]? :=fun g hg=>Below.heap_alloc w _ g hg
  have hsz:(w.alloc o).heap.size=w.heap.size+1:=by simp
  have halS:∀q,Tab.al ((t,some e) :: s.tab) q→q=t∨(q≠t∧s.tab.al q):=fun q hq=>by
    by_cases h:q=t
    · exact .inl h
    · exact .inr ⟨h,(hal q h).1 hq⟩
  refine r.step ?_ ?_ ?_ ⟨rfl,rfl,rfl,by omega⟩ (fun g hg _=>hbl g hg) (fun g hg=> .inl hg) ?_
  · refine ⟨fun q e' h => ?_, fun q q' h1 h2 hne g hg hg' => ?_, fun q h => ?_, fun q h g hg => ?_, fun g hg => by rw [hsz]; have := r.cx.nl g hg; omega⟩
    · rw [Qp] at h
      by_cases hq:q=t
      · rw [if_pos hq] at h
        subst hq
        cases h
        exact he.mono (fun r' hr' h'=>⟨(hal r' (fun h=>htag (h▸hr'))).1 h',rfl⟩) (fun g hg=>⟨hg,rfl⟩) rfl rfl fun g hg=>rfl
      · rw [if_neg hq] at h
        exact (r.cx.en q e' h).mono (fun r' hr' h'=>by
          have hne:r'≠t:=fun h2=>hfr.en q e' h (h2▸hr')
          exact ⟨(hal r' hne).1 h',by simp[hne]⟩) (fun g hg=>⟨hg,hbl g (r.cx.nl g hg)⟩) (by simp[hq]) (by simp[hq]) fun g hg=>hbl g (r.cx.lt ⟨e',h⟩ g hg)
    · rcases halS q h1 with h1 | ⟨h1, k1⟩ <;> rcases halS q' h2 with h2 | ⟨h2, k2⟩
      · exact hne (h1.trans h2.symm)
      · subst h1
        simp only[if_true] at hg
        simp only[if_neg h2] at hg'
        have:=r.cx.lt k2 g hg'
        have:=hfp g hg
        omega
      · subst h2
        simp only[if_true] at hg'
        simp only[if_neg h1] at hg
        have:=r.cx.lt k1 g hg
        have:=hfp g hg'
        omega
      · simp only [if_neg h1] at hg
        simp only[if_neg h2] at hg'
        exact r.cx.dj q q' k1 k2 hne g hg hg'
    · rcases halS q h with h | ⟨h, k⟩
      · subst h; simpa using hnd
      · simp only[if_neg h]; exact r.cx.nd q k
    · rcases halS q h with h | ⟨h, k⟩
      · subst h
        simp only[if_true] at hg
        intro hN
        have:=r.cx.nl g hN
        have:=hfp g hg
        omega
      · simp only [if_neg h] at hg
        exact r.cx.no q k g hg
  · intro q h
    rcases halS q h with h | ⟨h,k⟩
    · exact .inr ⟨h▸hfr,h▸hk0⟩
    · exact .inl ⟨k,by simp[h],fun _=>by simp[h]⟩
  · exact fun g hg=>⟨hg,hbl g (r.cx.nl g hg)⟩
  · intro q h g hg
    rcases halS q h with h | ⟨h,k⟩
    · subst h
      simp only[if_true] at hg
      exact .inl (by rw[hfp g hg]; exact Nat.le_refl _)
    · simp only [if_neg h] at hg
      exact .inr ⟨q,k,hg⟩
@[reducible] def St.new (s:St) (d:Nat) (t:Nat) (l:LV) (e:Ent):St:=⟨(d,lf l) :: s.tm,(t,some e) :: s.tab⟩
theorem QgE {T:Tab}{ls:List LV}(hk:Yf T ls=true):∀q∈Q8 ls,T.al q:=by
  induction ls with
  | nil=>simp[Q8]
  | cons l ls ih=>
    simp only[Yf,Bool.and_eq_true] at hk
    intro q hq
    rcases List.mem_append.1 hq with hq | hq
    · exact (VQ hk.1).1 q hq
    · exact ih hk.2 q hq
theorem Rg.box {gh:Gh}{a:Act}{w:World}(r:Rg A s gh a w)(t:Nat)(hfr:Fresh s t)(hk0:A.k0≤t)(E:TypeId){ls:List LV}{vs:List Value}(h:LVs s.tab.al gh w ls vs)(hk:∀q∈Q8 ls,s.tab.al q)(hd:d < A.n):
    R A (s.new d t (.ptr t 0) (.box E ls)) (a.put (some d) (.pointer (some ⟨w.heap.size,0,none⟩))) (w.alloc (.cells vs.toArray E)):=by
  refine ⟨_,(r.grow t hfr hk0 (.cells vs.toArray E) (.pointer (some ⟨w.heap.size,0,none⟩)) [w.heap.size] (.box E ls) (by simp) (by simp) (fun h=>hfr.al (hk t h)) ?_).put hd (pv:=lf (.ptr t 0)) ⟨_,rfl,fun _=>⟨w.heap.size,by simp,rfl⟩⟩⟩
  refine ⟨w.heap.size,vs.toArray,by simp,by simp,heap_alloc_new w _, ?_⟩
  exact h.mono (fun q hq k=>⟨k,by
    have:q≠t:=fun h=>hfr.al (h▸hk q hq)
    simp[this]⟩) fun g hg=>⟨hg,Below.heap_alloc w _ g (r.cx.nl g hg)⟩
theorem Qr (t:Nat){b:Bool}{ls:List LV}(hx:Ev A s x (b,ls))(hk:Yf s.tab ls=true)(hn:Nat.blt d A.n=true)(hfr:Fresh s t)(hk0:A.k0≤t):Does A P ⟨some d, .box T x,ty,pos,af,g⟩ s (s.new d t (.ptr t 0) (.box T ls)):=
  fun a w K Q r hK=>by
    obtain ⟨gh,r⟩:=r
    have hv:=hx gh a w r
    obtain ⟨vs,h1,h2⟩:=CmR.cells hv fun hb=>by
      subst hb
      obtain ⟨l,rfl,h1⟩:=hv
      simp only[Yf,Bool.and_true] at hk
      obtain ⟨h3,h4⟩:=VQ hk
      exact h1.oneCell h4 h3 fun q ⟨e,he⟩=>(r.cx.en q e he).oneCell
    have e:(execOp a.eval ⟨some d, .box T x,ty,pos,af,g⟩).run P w= .ok (.value (.pointer (some ⟨w.heap.size,0,none⟩))) (w.alloc (.cells vs.toArray T)):=by
      simp only[execOp,Instr.box,newVar,newRow,h1]
      simp[Go.Sem.run_bind]
    unfold Oper.wp
    rw[e,Oper.upon_value]
    exact hK _ _ (r.box t hfr hk0 T h2 (QgE hk) (Nat.le_of_ble_eq_true hn))
end
def Ty.zero:(t:Ty)→t.Den
  | .int=>(0:Int)
  | .bool=>false
  | .str=>ByteArray.empty
  | .u8=>(0:UInt8)
  | .vl=>(none:Hdr)
  | .sl _ _=>[]
  | .pr a b=>(a.zero,b.zero)
def Ty.zeros:Ty→List Value
  | .int=>[.int .i64 0]
  | .bool=>[.bool false]
  | .str=>[.string ByteArray.empty]
  | .u8=>[.int .u8 0]
  | .vl=>[.slice none 0 0]
  | .sl _ _=>[.slice none 0 0]
  | .pr a b=>a.zeros++b.zeros
def Ty.zlv:Ty→List LV
  | .int=>[.dat .int (0:Int)]
  | .bool=>[.dat .bool false]
  | .str=>[.dat .str ByteArray.empty]
  | .u8=>[.dat .u8 (0:UInt8)]
  | .vl=>[.dat .vl (none:Hdr)]
  | .sl _ _=>[.val (.slice none 0 0)]
  | .pr a b=>a.zlv++b.zlv
theorem Yg:∀(t:Ty) (w:World),Own t w [] t.zeros t.zero
  | .int,_=>⟨rfl,rfl,by decide⟩
  | .bool,_=>⟨rfl,rfl⟩
  | .str,_=>⟨rfl,rfl,Nat.zero_le _⟩
  | .u8,_=>⟨rfl,rfl⟩
  | .vl,_=>⟨rfl,rfl⟩
  | .sl _ _,_=> .inl ⟨rfl,rfl,rfl⟩
  | .pr a b,w=>⟨[],[],a.zeros,b.zeros,rfl,rfl,Yg a w,Yg b w⟩
theorem Jf (al:Nat→Prop)(gh:Gh)(w:World):∀t:Ty,LVs al gh w t.zlv t.zeros
  | .int=>⟨_,[],rfl,Rd.leaves (t:= .int) (al:=al) (Own.rd (Yg .int w) (by simp)) |>.one rfl,rfl⟩
  | .bool=>⟨_,[],rfl,Rd.leaves (t:= .bool) (al:=al) (Own.rd (Yg .bool w) (by simp)) |>.one rfl,rfl⟩
  | .str=>⟨_,[],rfl,Rd.leaves (t:= .str) (al:=al) (Own.rd (Yg .str w) (by simp)) |>.one rfl,rfl⟩
  | .u8=>⟨_,[],rfl,Rd.leaves (t:= .u8) (al:=al) (Own.rd (Yg .u8 w) (by simp)) |>.one rfl,rfl⟩
  | .vl=>⟨_,[],rfl,Rd.leaves (t:= .vl) (al:=al) (Own.rd (Yg .vl w) (by simp)) |>.one rfl,rfl⟩
  | .sl _ _=>⟨_,[],rfl,rfl,rfl⟩
  | .pr a b=>LVs.app (Jf al gh w a) (Jf al gh w b)
theorem KT:∀t:Ty,Q8 t.zlv=[]
  | .int=>rfl
  | .bool=>rfl
  | .str=>rfl
  | .u8=>rfl
  | .vl=>rfl
  | .sl _ _=>rfl
  | .pr a b=>by
    have:∀l1 l2:List LV,Q8 (l1++l2)=Q8 l1++Q8 l2:=by
      intro l1 l2
      induction l1 with
      | nil=>rfl
      | cons l ls ih=>simp[Q8,ih]
    simp[Ty.zlv,this,KT a,KT b]
section
variable {A:Amb}{P:Program}{s:St}{x y:Operand}{d:Nat}{T T' ty:TypeId}{pos:String}{af:Array Edge}{g:Option (Nat×Bool)}
theorem Us {z:Value}{w:World}(h:zer P T=some z):(zeroValue T).run P w= .ok z w:=by
  unfold zer at h
  cases hi:P.info? T with
  | none=>rw[hi] at h; cases h
  | some i=>
    rw[hi] at h
    have hz:i.zero=some z:=h
    simp[zeroValue,typeInfo,hi,hz,Go.Sem.run_bind]
theorem Qw (k:Nat)(t:Ty){z:Value}(hz:zer P T=some z)(hzt:z.cells.toList=t.zeros)(hn:Nat.blt d A.n=true)(hfr:Fresh s k)(hk0:A.k0≤k):Does A P ⟨some d, .alloc T,ty,pos,af,g⟩ s (s.new d k (.ptr k 0) (.box T t.zlv)):=
  fun a w K Q r hK=>by
    obtain ⟨gh,r⟩:=r
    have hc:z.cells=t.zeros.toArray:=by rw[← hzt]
    have e:(execOp a.eval ⟨some d, .alloc T,ty,pos,af,g⟩).run P w= .ok (.value (.pointer (some ⟨w.heap.size,0,none⟩))) (w.alloc (.cells t.zeros.toArray T)):=by
      simp only[execOp,Instr.alloc,newVar,newRow,Go.Sem.run_bind,Us hz,Result.andThen_ok,hc]
      simp
    unfold Oper.wp
    rw[e,Oper.upon_value]
    exact hK _ _ (r.box k hfr hk0 T (Jf _ _ _ t) (by rw[KT]; simp) (Nat.le_of_ble_eq_true hn))
theorem Qz {q off o f:Nat}(hx:Evl A s x (.ptr q off))(hf:fld P T f=some o)(ha:(s.tab.ent q).isSome=true)(hn:Nat.blt d A.n=true):Does A P ⟨some d, .fieldAddr T x f,ty,pos,af,g⟩ s (s.put d (lf (.ptr q (off+o)))):=
  Qu rfl hn fun gh a w r=>by
    obtain ⟨e,he⟩:=Option.isSome_iff_exists.1 ha
    obtain ⟨g,h1,h2⟩:=hx gh a w r ⟨e,he⟩
    refine ⟨.pointer (some ⟨g,off+o,none⟩), ?_,_,rfl,fun _=>⟨g,h1,rfl⟩⟩
    simp only[execOp,h2,Go.Sem.run_bind,KA hf]
    simp
theorem Qa7 {t:Ty}{z:t.Den}{off o f:Nat}(hx:Evl A s x (.elt t z off))(hf:fld P T f=some o)(hn:Nat.blt d A.n=true):Does A P ⟨some d, .fieldAddr T x f,ty,pos,af,g⟩ s (s.put d (lf (.elt t z (off+o)))):=
  Qu rfl hn fun gh a w r=>by
    obtain ⟨b,o',ds,wN,h1,h2,h3,h4⟩:=hx gh a w r
    refine ⟨.pointer (some ⟨b,o'+(off+o),none⟩), ?_,_,rfl,b,o',ds,wN,rfl,h2,h3,h4⟩
    simp only[execOp,h1,Go.Sem.run_bind,KA hf]
    simp[Nat.add_assoc]
theorem QgG {q wd i j o f:Nat}(hx:Evl A s x (.ept q wd i j))(hf:fld P T f=some o)(ha:(s.tab.ent q).isSome=true)(hn:Nat.blt d A.n=true):Does A P ⟨some d, .fieldAddr T x f,ty,pos,af,g⟩ s (s.put d (lf (.ept q wd i (j+o)))):=
  Qu rfl hn fun gh a w r=>by
    obtain ⟨e,he⟩:=Option.isSome_iff_exists.1 ha
    obtain ⟨g,n,c,h1,h2⟩:=hx gh a w r ⟨e,he⟩
    refine ⟨.pointer (some ⟨g,i*wd+(j+o),none⟩), ?_,_,rfl,fun _=>⟨g,n,c,h1,rfl⟩⟩
    simp only[execOp,h2,Go.Sem.run_bind,KA hf]
    simp[Nat.add_assoc]
theorem YU {q off:Nat}(hx:Evl A s x (.ptr q off))(ha:(s.tab.ent q).isSome=true)(hn:Nat.blt d A.n=true):Does A P ⟨some d, .nilCheck x,ty,pos,af,g⟩ s (s.put d (lf (.ptr q off))):=
  Qu rfl hn fun gh a w r=>by
    obtain ⟨e,he⟩:=Option.isSome_iff_exists.1 ha
    obtain ⟨g,h1,h2⟩:=hx gh a w r ⟨e,he⟩
    refine ⟨.pointer (some ⟨g,off,none⟩), ?_,_,rfl,fun _=>⟨g,h1,rfl⟩⟩
    simp only[execOp,h2]
    simp
theorem Qk2 {q wd i j:Nat}(hx:Evl A s x (.ept q wd i j))(ha:(s.tab.ent q).isSome=true)(hn:Nat.blt d A.n=true):Does A P ⟨some d, .nilCheck x,ty,pos,af,g⟩ s (s.put d (lf (.ept q wd i j))):=
  Qu rfl hn fun gh a w r=>by
    obtain ⟨e,he⟩:=Option.isSome_iff_exists.1 ha
    obtain ⟨g,n,c,h1,h2⟩:=hx gh a w r ⟨e,he⟩
    refine ⟨.pointer (some ⟨g,i*wd+j,none⟩), ?_,_,rfl,fun _=>⟨g,n,c,h1,rfl⟩⟩
    simp only[execOp,h2]
    simp
theorem KB {E:TypeId}{i:Int}{n cap b o sz:Nat}{bb:Bool}{w:World}(hT:P.underlying T=some (.slice E))(hE:tsh P E=some (bb,sz))(h0:0≤i)(h1:i < n):
    (Instr.indexAt T (.slice (some ⟨b,o,none⟩) n cap) (.int .i64 i)).run P w= .ok (.pointer (some ⟨b,o+i.toNat*sz,none⟩)) w:=by
  have he:P.elem T=E:=by simp[Program.elem,hT]
  rw[run_indexAt_slice w T _ n cap .i64 i (by rw[he]; exact hT),if_pos ⟨h0,h1⟩,he,Wx hE]
  simp[Addr.add_lit]
theorem Qm {E E':TypeId}{e:Ty}{l:List e.Den}{i:Int}{z:e.Den}{bb:Bool}(hx:Evl A s x (.dat (.sl E e) l))(hy:Evl A s y (dI i))(hT:P.underlying T=some (.slice E'))(hE:tsh P E'=some (bb,e.wd))(hn:Nat.blt d A.n=true)
    (h0:0≤i) (hz:l[i.toNat]? =some z):Does A P ⟨some d, .indexAddr T x y,ty,pos,af,g⟩ s (s.put d (lf (.elt e z 0))):=
  Qu rfl hn fun gh a w r=>by
    have hi:=hy.i r
    obtain ⟨wN,hS,hR⟩:=hx gh a w r
    obtain ⟨B,c,h1,h2,h3⟩:=hR.slv
    rw[h1] at hR
    obtain ⟨b,o,ds,rfl,h5,h6⟩:=hR.at_ hz
    have hlt:i < l.length:=by have:=(List.getElem?_eq_some_iff.1 hz).1; omega
    refine ⟨.pointer (some ⟨b,o+i.toNat*e.wd,none⟩), ?_,_,rfl,b,o+i.toNat*e.wd,ds,wN,rfl,hS,h5,h6⟩
    simp only[execOp,h1,hi,Go.Sem.run_bind,KB hT hE h0 hlt]
    simp
theorem Qq {E E':TypeId}{e:Ty}{q:Nat}{l:List e.Den}{i:Int}{bb:Bool}(hx:Evl A s x (.ref q))(he:s.tab.ent q=some (.arr E e l))(hy:Evl A s y (dI i))(hT:P.underlying T=some (.slice E'))(hE:tsh P E'=some (bb,e.wd))(hn:Nat.blt d A.n=true)
    (h0:0≤i) (h1:i < l.length):Does A P ⟨some d, .indexAddr T x y,ty,pos,af,g⟩ s (s.put d (lf (.ept q e.wd i.toNat 0))):=
  Qu rfl hn fun gh a w r=>by
    have hi:=hy.i r
    have hv:a.eval x=gh.h q:=hx gh a w r ⟨_,he⟩
    have hO:Own (.sl E e) w (gh.f q) [gh.h q] l:=r.cx.en q _ he
    rcases hO with ⟨_,_,h⟩ | ⟨b,cap,cur,fps,h2,h3,h4,h5,h6,h7,h8⟩
    · subst h; simp at h1; omega
    · simp only [List.cons.injEq, and_true] at h3
      refine ⟨.pointer (some ⟨b,0+i.toNat*e.wd,none⟩), ?_,_,rfl,fun _=>⟨b,l.length,cap,h3,by simp⟩⟩
      simp only[execOp,hv,h3,hi,Go.Sem.run_bind,KB hT hE h0 h1]
      simp
theorem W3 (l1 l2:List LV):Q8 (l1++l2)=Q8 l1++Q8 l2:=by
  induction l1 with
  | nil=>rfl
  | cons l ls ih=>simp[Q8,ih]
theorem QeU {ls:List LV}(n:Nat):∀q∈Q8 (ls.take n),q∈Q8 ls:=by
  intro q hq
  rw[← List.take_append_drop n ls,W3]
  exact List.mem_append_left _ hq
theorem QeL {ls:List LV}(n:Nat):∀q∈Q8 (ls.drop n),q∈Q8 ls:=by
  intro q hq
  rw[← List.take_append_drop n ls,W3]
  exact List.mem_append_right _ hq
theorem LVs.nth {al:Nat→Prop}{gh:Gh}{w:World}{ls:List LV}{vs:List Value}(h:LVs al gh w ls vs){i:Nat}{l:LV}(hl:ls[i]? =some l):∃v,vs[i]? =some v∧LVR al gh w l v:=LVs.get h hl
theorem QI {q off n:Nat}{E:TypeId}{cs:List LV}{l:LV}(hx:Evl A s x (.ptr q off))(he:s.tab.ent q=some (.box E cs))(hT:tsh P T=some (false,n))(hl:cs[off]? =some l)(hn:Nat.blt d A.n=true):
    Does A P ⟨some d, .load T x,ty,pos,af,g⟩ s (s.put d (lf l)):=
  Qu rfl hn fun gh a w r=>by
    obtain ⟨g,h1,h2⟩:=hx gh a w r ⟨_,he⟩
    obtain ⟨g',cur,h3,h4,h5,h6⟩:=r.cx.en q _ he
    rw[h1] at h3
    cases h3
    obtain ⟨v,h7,h8⟩:=h6.nth hl
    refine ⟨v, ?_,_,rfl,h8⟩
    have hc:w.cell? ⟨g,off,none⟩=some v:=by simp only[World.cell?,h5]; simpa using h7
    simp only[execOp,h2,Instr.loadAt,Instr.sureAddr,Go.Sem.run_bind,Go.Sem.run_pure,Result.andThen_ok,XU hT _ v hc]
theorem Z5 {q off n:Nat}{E:TypeId}{cs:List LV}(hx:Evl A s x (.ptr q off))(he:s.tab.ent q=some (.box E cs))(hT:tsh P T=some (true,n))(hl:Nat.ble (off+n) cs.length=true)(hn:Nat.blt d A.n=true):
    Does A P ⟨some d, .load T x,ty,pos,af,g⟩ s (s.put d (ag ((cs.drop off).take n))):=
  Qu rfl hn fun gh a w r=>by
    obtain ⟨g,h1,h2⟩:=hx gh a w r ⟨_,he⟩
    obtain ⟨g',cur,h3,h4,h5,h6⟩:=r.cx.en q _ he
    rw[h1] at h3
    cases h3
    have h7:=(h6.drop off).take n
    have hle:=Nat.le_of_ble_eq_true hl
    have hcl:=h6.len
    refine ⟨.agg ((cur.toList.drop off).take n).toArray, ?_,_,rfl,h7⟩
    have hr:=XR (w:=w) hT g off ((cur.toList.drop off).take n) (by rw[List.length_take,List.length_drop,hcl]; omega) fun j u hj=>by
      rw[List.getElem?_take] at hj
      split at hj
      · rw [List.getElem?_drop] at hj
        simp only[World.cell?,h5]
        simpa using hj
      · cases hj
    simp only[execOp,h2,Instr.loadAt,Instr.sureAddr,Go.Sem.run_bind,Go.Sem.run_pure,Result.andThen_ok,hr]
theorem Zv {t:Ty}{z:t.Den}{off n:Nat}{l:LV}(hx:Evl A s x (.elt t z off))(hT:tsh P T=some (false,n))(hl:(leaves t z)[off]? =some l)(hn:Nat.blt d A.n=true):
    Does A P ⟨some d, .load T x,ty,pos,af,g⟩ s (s.put d (lf l)):=
  Qu rfl hn fun gh a w r=>by
    obtain ⟨b,o,ds,wN,h1,h2,h3,h4⟩:=hx gh a w r
    obtain ⟨v,h5,h6⟩:=(Rd.leaves (al:=s.tab.al) (gh:=gh) (w:=w) ⟨wN,h2,h3⟩).nth hl
    refine ⟨v, ?_,_,rfl,h6⟩
    have hc:w.cell? ⟨b,o+off,none⟩=some v:=(h2 _ _ (h4 off v h5)).2
    simp only[execOp,h1,Instr.loadAt,Instr.sureAddr,Go.Sem.run_bind,Go.Sem.run_pure,Result.andThen_ok,XU hT _ v hc]
theorem KF:∀(t:Ty) (z:t.Den),Q8 (leaves t z)=[]
  | .int,_=>rfl
  | .bool,_=>rfl
  | .str,_=>rfl
  | .u8,_=>rfl
  | .vl,_=>rfl
  | .sl _ _,_=>rfl
  | .pr a b,z=>by simp[leaves,W3,KF a,KF b]
theorem KD {t:Ty}{z:t.Den}{off n:Nat}(hx:Evl A s x (.elt t z off))(hT:tsh P T=some (true,n))(hl:Nat.ble (off+n) t.wd=true)(hn:Nat.blt d A.n=true):
    Does A P ⟨some d, .load T x,ty,pos,af,g⟩ s (s.put d (ag (((leaves t z).drop off).take n))):=
  Qu rfl hn fun gh a w r=>by
    obtain ⟨b,o,ds,wN,h1,h2,h3,h4⟩:=hx gh a w r
    have h5:=((Rd.leaves (al:=s.tab.al) (gh:=gh) (w:=w) ⟨wN,h2,h3⟩).drop off).take n
    have hle:=Nat.le_of_ble_eq_true hl
    have hds:=h3.len
    refine ⟨.agg ((ds.drop off).take n).toArray, ?_,_,rfl,h5⟩
    · have hr:=XR (w:=w) hT b (o+off) ((ds.drop off).take n) (by rw[List.length_take,List.length_drop,hds]; omega) fun j u hj=>by
        rw[List.getElem?_take] at hj
        split at hj
        · rw [List.getElem?_drop] at hj
          rw[Nat.add_assoc]
          exact (h2 _ _ (h4 (off+j) u hj)).2
        · cases hj
      simp only[execOp,h1,Instr.loadAt,Instr.sureAddr,Go.Sem.run_bind,Go.Sem.run_pure,Result.andThen_ok,hr]
end
end Go.Proofs.YtnakmhfjafecpaaGreat
namespace Go.Proofs.YtnakmhfjafecpaaGreat
open Go.RowKit
def splice (cs:List LV)(off:Nat)(ls:List LV):List LV:=cs.take off++ls++cs.drop (off+ls.length)
theorem LVs.splice {al:Nat→Prop}{gh:Gh}{w:World}{cs ls:List LV}{us vs:List Value}{off:Nat}(h:LVs al gh w cs us)(k:LVs al gh w ls vs):LVs al gh w (Go.Proofs.YtnakmhfjafecpaaGreat.splice cs off ls) (us.take off++vs++us.drop (off+vs.length)):=by
  rw[k.len]
  exact ((h.take off).app k).app (h.drop _)
section
variable {A:Amb}{P:Program}{s:St}{x y:Operand}{d:Nat}{T T' ty:TypeId}{pos:String}{af:Array Edge}{g:Option (Nat×Bool)}
theorem Rg.mod {gh:Gh}{a:Act}{w w':World}(r:Rg A s gh a w){q:Nat}{e0 e:Ent}(he:s.tab.ent q=some e0)(hg:Grw w w')(hb:∀g,g < w.heap.size→g∉gh.f q→w'.heap[g]? =w.heap[g]?)
    (hE:EntR s.tab.al gh w' q e):Rg A ⟨s.tm,(q,some e) :: s.tab⟩ gh a w':=by
  have hal:∀q',Tab.al ((q,some e) :: s.tab) q'↔s.tab.al q':=fun q'=>by
    unfold Tab.al
    rw[Qp]
    by_cases h:q'=q
    · subst h; simp[he]
    · rw[if_neg h]
  have hq:s.tab.al q:=⟨e0,he⟩
  have hNk:∀g,gh.N g→gh.N g∧w'.heap[g]? =w.heap[g]? :=fun g hN=>⟨hN,hb g (r.cx.nl g hN) fun h=>r.cx.no q hq g h hN⟩
  refine r.step ⟨fun q' e' h=> ?_,fun q1 q2 h1 h2=>r.cx.dj q1 q2 ((hal _).1 h1) ((hal _).1 h2),fun q' h=>r.cx.nd q' ((hal _).1 h),fun q' h=>r.cx.no q' ((hal _).1 h),fun g hN=>Nat.lt_of_lt_of_le (r.cx.nl g hN) hg.size⟩
    (fun q' h=> .inl ⟨(hal _).1 h,rfl,fun _=>rfl⟩) hNk hg (fun g hlt hx=>hb g hlt (hx q hq)) (fun g h=> .inl h) (fun q' h g hg'=> .inr ⟨q',(hal _).1 h,hg'⟩)
  · rw [Qp] at h
    by_cases h1:q'=q
    · rw [if_pos h1] at h
      cases h
      subst h1
      exact hE.mono (fun r' _ h=>⟨(hal _).1 h,rfl⟩) (fun g h=>⟨h,rfl⟩) rfl rfl fun _ _=>rfl
    · rw [if_neg h1] at h
      exact (r.cx.en q' e' h).mono (fun r' _ h=>⟨(hal _).1 h,rfl⟩) hNk rfl rfl fun g hg'=>hb g (r.cx.lt ⟨e',h⟩ g hg') fun h2=>r.cx.dj q' q ⟨e',h⟩ hq h1 g hg' h2
theorem Ky (w:World)(g off:Nat)(vs:List Value):Grw w (Wg w g off vs):=by
  induction vs generalizing w off with
  | nil=>exact ZO w
  | cons v vs ih=>
    have h:Grw w (w.setCell ⟨g,off,none⟩ v):=⟨rfl,rfl,rfl,by simp[World.setCell]⟩
    exact h.trans (ih _ _)
theorem Qf {q off:Nat}{E:TypeId}{cs ls:List LV}{b:Bool}(hx:Evl A s x (.ptr q off))(he:s.tab.ent q=some (.box E cs))(hy:Ev A s y (b,ls))(hk:Yf s.tab ls=true)(hT:tsh P T=some (b,ls.length))
    (hl:Nat.ble (off+ls.length) cs.length=true):Does A P ⟨none, .store T x y,ty,pos,af,g⟩ s ⟨s.tm,(q,some (.box E (splice cs off ls))) :: s.tab⟩:=fun a w K Q r hK=>by
  obtain ⟨gh,r⟩:=r
  obtain ⟨g,h1,h2⟩:=hx gh a w r ⟨_,he⟩
  obtain ⟨g',cur,h3,h4,h5,h6⟩:=r.cx.en q _ he
  rw[h1] at h3
  cases h3
  have hv:=hy gh a w r
  obtain ⟨vs,h7,h8⟩:=CmR.cells hv fun hb=>by
    subst hb
    obtain ⟨l,rfl,h1⟩:=hv
    simp only[Yf,Bool.and_true] at hk
    obtain ⟨h3,h4⟩:=VQ hk
    exact h1.oneCell h4 h3 fun q ⟨e,he⟩=>(r.cx.en q e he).oneCell
  have h9:vs.length=ls.length:=h8.len
  have hle:=Nat.le_of_ble_eq_true hl
  have hcl:cur.size=cs.length:=by have:=h6.len; simpa using this
  have h10:=UY (P:=P) (w:=w) (b:=g) (o:=off) hT (a.eval y) vs h7 h9 h5 (by omega) (h8.oneCells r.cx hk)
  have e:(execOp a.eval ⟨none, .store T x y,ty,pos,af,‹_›⟩).run P w= .ok .skip (Wg w g off vs):=by
    simp only[execOp,h2,Instr.storeAt,Instr.sureAddr,Go.Sem.run_bind,Go.Sem.run_pure,Result.andThen_ok,h10]
  unfold Oper.wp
  rw[e,Oper.upon_skip]
  obtain ⟨cur',k1,k2,k3⟩:=Ue g E (0,0) vs w off cur h5 (by omega)
  have hNk:∀g0,gh.N g0→gh.N g0∧(Wg w g off vs).heap[g0]? =w.heap[g0]? :=fun g0 hN=>⟨hN,Xs _ _ _ _ _ fun h=>r.cx.no q ⟨_,he⟩ g0 (by rw[h4,h]; simp) hN⟩
  refine hK _ _ ⟨gh,r.mod he (Ky _ _ _ _) (fun g0 _ hg0=>Xs _ _ _ _ _ fun h=>hg0 (by rw[h4,h]; simp)) ⟨g,cur',h1,h4,k1, ?_⟩⟩
  rw[k3]
  exact (h6.splice h8).mono (fun _ _ h=>⟨h,rfl⟩) hNk
@[reducible] def KC:List Nat→Tab
  | []=>[]
  | q :: qs=>(q,none) :: KC qs
theorem QaI (used:List Nat)(T:Tab)(q:Nat):Tab.ent (KC used++T) q=if q∈used then none else T.ent q:=by
  induction used with
  | nil=>simp[KC]
  | cons u us ih=>
    simp only[KC,List.cons_append,Qp,ih,List.mem_cons]
    by_cases h:q=u <;> simp[h]
theorem Rg.make {gh:Gh}{a:Act}{w w':World}(r:Rg A s gh a w)(t:Nat)(hfr:Fresh s t)(hk0:A.k0≤t)(used:List Nat)(hu:∀q∈used,s.tab.al q)(hg:Grw w w')(hb:∀g,g < w.heap.size→(∀q∈used,g∉gh.f q)→w'.heap[g]? =w.heap[g]?)
    {E:TypeId} {e:Ty} {xs:List e.Den} {hv:Value} {fp:List Nat} (hE:Own (.sl E e) w' fp [hv] xs) (hnd:fp.Nodup) (hfp:∀g∈fp,w.heap.size≤g∨∃q∈used,g∈gh.f q):
    Rg A ⟨s.tm,(t,some (.arr E e xs)) :: (KC used++s.tab)⟩ ⟨fun q=>if q=t then hv else gh.h q,fun q=>if q=t then fp else gh.f q,gh.N⟩ a w':=by
  have hal:∀q,Tab.al ((t,some (.arr E e xs)) :: (KC used++s.tab)) q→q=t∨(q≠t∧s.tab.al q∧q∉used):=fun q h=>by
    by_cases h1:q=t
    · exact .inl h1
    · unfold Tab.al at h
      rw[Qp,if_neg h1,QaI] at h
      by_cases h2:q∈used
      · rw[if_pos h2] at h; obtain ⟨_,h⟩:=h; cases h
      · rw[if_neg h2] at h; exact .inr ⟨h1,h,h2⟩
  have hNk:∀g,gh.N g→gh.N g∧w'.heap[g]? =w.heap[g]? :=fun g hN=>⟨hN,hb g (r.cx.nl g hN) fun q hq h=>r.cx.no q (hu q hq) g h hN⟩
  have hold:∀q,s.tab.al q→q∉used→∀g∈gh.f q,w'.heap[g]? =w.heap[g]? :=fun q hq hn g hg'=>hb g (r.cx.lt hq g hg') fun q' hq' h=>r.cx.dj q q' hq (hu q' hq') (fun h=>hn (h▸hq')) g hg' h
  refine r.step ⟨fun q e' h=> ?_,fun q q' h1 h2 hne g hg1 hg2=> ?_,fun q h=> ?_,fun q h g hg1 hN=> ?_,fun g hN=>Nat.lt_of_lt_of_le (r.cx.nl g hN) hg.size⟩ (fun q h=> ?_) hNk hg
    (fun g hlt' hx=>hb g hlt' fun q hq=>hx q (hu q hq)) (fun g h=> .inl h) (fun q h g hg1=> ?_)
  · rw [Qp] at h
    by_cases h1:q=t
    · rw [if_pos h1] at h
      cases h
      subst h1
      simpa [EntR] using hE
    · rw [if_neg h1, QaI] at h
      by_cases h2:q∈used
      · rw[if_pos h2] at h; cases h
      · rw [if_neg h2] at h
        refine (r.cx.en q e' h).mono (fun r' hr' h'=> ?_) hNk (by simp[h1]) (by simp[h1]) (hold q ⟨e',h⟩ h2)
        rcases hal r' h' with h3 | ⟨h3,h4,_⟩
        · exact absurd (h3▸hr') (hfr.en q e' h)
        · exact ⟨h4,by simp[h3]⟩
  · rcases hal q h1 with h1 | ⟨h1, k1, u1⟩ <;> rcases hal q' h2 with h2 | ⟨h2, k2, u2⟩
    · exact hne (h1.trans h2.symm)
    · subst h1
      simp only[if_true] at hg1
      simp only[if_neg h2] at hg2
      rcases hfp g hg1 with h | ⟨q2,h,h3⟩
      · have:=r.cx.lt k2 g hg2; omega
      · exact r.cx.dj q' q2 k2 (hu q2 h) (fun h=>u2 (by rw[h]; assumption)) g hg2 h3
    · subst h2
      simp only[if_true] at hg2
      simp only[if_neg h1] at hg1
      rcases hfp g hg2 with h | ⟨q2,h,h3⟩
      · have:=r.cx.lt k1 g hg1; omega
      · exact r.cx.dj q q2 k1 (hu q2 h) (fun h=>u1 (by rw[h]; assumption)) g hg1 h3
    · simp only [if_neg h1] at hg1
      simp only[if_neg h2] at hg2
      exact r.cx.dj q q' k1 k2 hne g hg1 hg2
  · rcases hal q h with h | ⟨h, k, _⟩
    · simpa [h] using hnd
    · simp only[if_neg h]; exact r.cx.nd q k
  · rcases hal q h with h | ⟨h, k, _⟩
    · simp only [h, if_true] at hg1
      rcases hfp g hg1 with h2 | ⟨q2,h2,h3⟩
      · have:=r.cx.nl g hN; omega
      · exact r.cx.no q2 (hu q2 h2) g h3 hN
    · simp only [if_neg h] at hg1
      exact r.cx.no q k g hg1 hN
  · rcases hal q h with h | ⟨h, k, _⟩
    · exact .inr ⟨h▸hfr,h▸hk0⟩
    · exact .inl ⟨k,by simp[h],fun _=>by simp[h]⟩
  · rcases hal q h with h | ⟨h, k, _⟩
    · simp only [h, if_true] at hg1
      rcases hfp g hg1 with h2 | ⟨q2,h2,h3⟩
      · exact .inl h2
      · exact .inr ⟨q2,hu q2 h2,h3⟩
    · simp only [if_neg h] at hg1
      exact .inr ⟨q,k,hg1⟩
@[reducible] def St.mk_ (s:St) (d t:Nat) (used:List Nat) (E:TypeId) (e:Ty) (xs:List e.Den):St:=⟨(d,lf (.ref t)) :: s.tm,(t,some (.arr E e xs)) :: (KC used++s.tab)⟩
theorem Rg.make_put {gh:Gh}{a:Act}{w w':World}(r:Rg A s gh a w)(t:Nat)(hfr:Fresh s t)(hk0:A.k0≤t)(used:List Nat)(hu:∀q∈used,s.tab.al q)(hg:Grw w w')(hb:∀g,g < w.heap.size→(∀q∈used,g∉gh.f q)→w'.heap[g]? =w.heap[g]?)
    {E:TypeId} {e:Ty} {xs:List e.Den} {hv:Value} {fp:List Nat} (hE:Own (.sl E e) w' fp [hv] xs) (hnd:fp.Nodup) (hfp:∀g∈fp,w.heap.size≤g∨∃q∈used,g∈gh.f q) (hd:Nat.blt d A.n=true):
    R A (s.mk_ d t used E e xs) (a.put (some d) hv) w':=
  ⟨_,(r.make t hfr hk0 used hu hg hb hE hnd hfp).put (Nat.le_of_ble_eq_true hd) (pv:=lf (.ref t)) ⟨_,rfl,fun _=>by simp⟩⟩
def Abs (T:Tab):(t:Ty)→List LV→t.Den→List Nat→Prop
  | .int,ls,x,used=>ls=[.dat .int x]∧used=[]
  | .bool,ls,x,used=>ls=[.dat .bool x]∧used=[]
  | .str,ls,x,used=>ls=[.dat .str x]∧used=[]
  | .u8,ls,x,used=>ls=[.dat .u8 x]∧used=[]
  | .vl,ls,x,used=>ls=[.dat .vl x]∧used=[]
  | .sl E e,ls,xs,used=>(∃q,ls=[.ref q]∧T.ent q=some (.arr E e xs)∧used=[q])∨(ls=[.val (.slice none 0 0)]∧xs=[]∧used=[])
  | .pr a b,ls,x,used=>∃l1 l2 x1 x2 u1 u2,ls=l1++l2∧x=(x1,x2)∧Abs T a l1 x1 u1∧Abs T b l2 x2 u2∧used=u1++u2
def fps (f:Nat→List Nat):List Nat→List Nat
  | []=>[]
  | q :: qs=>f q++fps f qs
theorem Qi0 (f:Nat→List Nat)(a b:List Nat):fps f (a++b)=fps f a++fps f b:=by
  induction a with
  | nil=>rfl
  | cons q qs ih=>simp[fps,ih]
theorem Qfm {f:Nat→List Nat}{l:List Nat}{g:Nat}:g∈fps f l↔∃q∈l,g∈f q:=by
  induction l with
  | nil=>simp[fps]
  | cons q qs ih=>simp[fps,ih]
theorem Qkn {T:Tab}{gh:Gh}{w:World}(cx:Cx T gh w){l:List Nat}(h:l.Nodup)(hal:∀q∈l,T.al q):(fps gh.f l).Nodup:=by
  induction l with
  | nil=>exact List.nodup_nil
  | cons q qs ih=>
    obtain ⟨h1,h2⟩:=List.nodup_cons.1 h
    refine List.nodup_append.2 ⟨cx.nd q (hal q (List.mem_cons_self ..)),ih h2 fun r hr=>hal r (List.mem_cons_of_mem _ hr),fun a ha b hb e=> ?_⟩
    subst e
    obtain ⟨r,hr,hg⟩:=Qfm.1 hb
    exact cx.dj q r (hal q (List.mem_cons_self ..)) (hal r (List.mem_cons_of_mem _ hr)) (fun e=>h1 (e▸hr)) a ha hg
theorem Abs.own {T:Tab}{gh:Gh}{w:World}(cx:Cx T gh w):∀{t:Ty} {ls:List LV} {x:t.Den} {used:List Nat} {vs:List Value},Abs T t ls x used→LVs T.al gh w ls vs→Own t w (fps gh.f used) vs x∧∀q∈used,T.al q
  | .int,_,_,_,_,⟨rfl,rfl⟩,h=>⟨(LVs.rd (t:= .int) h).rep.own0 rfl,by simp⟩
  | .bool,_,_,_,_,⟨rfl,rfl⟩,h=>⟨(LVs.rd (t:= .bool) h).rep.own0 rfl,by simp⟩
  | .str,_,_,_,_,⟨rfl,rfl⟩,h=>⟨(LVs.rd (t:= .str) h).rep.own0 rfl,by simp⟩
  | .u8,_,_,_,_,⟨rfl,rfl⟩,h=>⟨(LVs.rd (t:= .u8) h).rep.own0 rfl,by simp⟩
  | .vl,_,_,_,_,⟨rfl,rfl⟩,h=>⟨(LVs.rd (t:= .vl) h).rep.own0 rfl,by simp⟩
  | .sl E e,_,xs,_,_,h,k=>by
    rcases h with ⟨q,rfl,h2,rfl⟩ | ⟨rfl,rfl,rfl⟩
    · obtain ⟨v, vs', rfl, k1, k2⟩ := k
      rw[show vs'=[] from k2,show v=gh.h q from k1 ⟨_,h2⟩]
      have:=cx.en q _ h2
      exact ⟨by simpa [fps,EntR] using this,by simpa using ⟨_,h2⟩⟩
    · obtain ⟨v, vs', rfl, k1, k2⟩ := k
      rw[show vs'=[] from k2,show v=_ from k1]
      exact ⟨.inl ⟨rfl,rfl,rfl⟩,by simp⟩
  | .pr a b,_,_,_,_,⟨l1,l2,x1,x2,u1,u2,rfl,rfl,h1,h2,rfl⟩,k=>by
    obtain ⟨v1,v2,rfl,k1,k2⟩:=Qd1 k
    obtain ⟨m1,n1⟩:=Abs.own cx h1 k1
    obtain ⟨m2,n2⟩:=Abs.own cx h2 k2
    exact ⟨⟨_,_,v1,v2,Qi0 ..,rfl,m1,m2⟩,fun q hq=>(List.mem_append.1 hq).elim (n1 q) (n2 q)⟩
def AbsL (T:Tab)(e:Ty):List (Bool×List LV)→List e.Den→List Nat→Prop
  | [],xs,used=>xs=[]∧used=[]
  | c :: cs,xs,used=>∃x xs' u1 u2,xs=x :: xs'∧Abs T e c.2 x u1∧AbsL T e cs xs' u2∧used=u1++u2
def EvL (A:Amb)(s:St):List Operand→List (Bool×List LV)→Prop
  | [],cs=>cs=[]
  | x :: xs,cs=>∃c cs',cs=c :: cs'∧Ev A s x c∧EvL A s xs cs'
theorem EvL.cms {xs:List Operand}{cs:List (Bool×List LV)}(h:EvL A s xs cs){gh:Gh}{a:Act}{w:World}(r:Rg A s gh a w):CmsR s.tab.al gh w cs (xs.map a.eval):=by
  induction xs generalizing cs with
  | nil=>rw[show cs=[] from h]; rfl
  | cons x xs ih=>obtain ⟨c,cs',rfl,h1,h2⟩:=h; exact ⟨_,_,rfl,h1 gh a w r,ih h2⟩
def Qnf (v:Value):List Value:=v.cells.toList
theorem AbsL.own {T:Tab}{gh:Gh}{w:World}(cx:Cx T gh w){e:Ty}:∀{cs:List (Bool×List LV)} {xs:List e.Den} {used:List Nat} {vs:List Value},AbsL T e cs xs used→CmsR T.al gh w cs vs→
    (∀v∈vs,∀b ls,(b,ls)∈cs→True)→(∀c∈cs,Yf T c.2=true)→OwnL (Own e w) (fps gh.f used) (vs.flatMap fun v=>v.cells.toList) xs∧(∀q∈used,T.al q)∧(∀v∈vs,v.cells.size=e.wd)∧vs.length=xs.length
  | [],_,_,_,⟨rfl,rfl⟩,h,_,_=>by rw[show _=[] from h]; exact ⟨⟨rfl,rfl⟩,by simp,by simp,rfl⟩
  | c :: cs,_,_,_,⟨x,xs',u1,u2,rfl,h1,h2,rfl⟩,⟨v,vs',hv,k1,k2⟩,_,hok=>by
    subst hv
    obtain ⟨m1,m2,m3,m4⟩:=AbsL.own cx h2 k2 (fun _ _ _ _ _=>trivial) fun c hc=>hok c (List.mem_cons_of_mem _ hc)
    have hc:=hok c (List.mem_cons_self ..)
    obtain ⟨b,ls⟩:=c
    obtain ⟨us,p1,p2⟩:=CmR.cells k1 fun hb=>by
      subst hb
      obtain ⟨l,rfl,q1⟩:=k1
      simp only[Yf,Bool.and_true] at hc
      obtain ⟨h3,h4⟩:=VQ hc
      exact q1.oneCell h4 h3 fun q ⟨e,he⟩=>(cx.en q e he).oneCell
    obtain ⟨n1,n2⟩:=Abs.own cx h1 p2
    refine ⟨⟨_,_,us,_,Qi0 ..,by simp[p1],n1,m1⟩,fun q hq=>(List.mem_append.1 hq).elim (n2 q) (m2 q),fun u hu=> ?_,by simp[m4]⟩
    rcases List.mem_cons.1 hu with rfl | hu
    · rw[p1]; simpa using n1.len
    · exact m3 u hu
theorem QdG (vs:List Value):∀(o:Nat) (cs:Array Value) (k:Nat),o+k+vs.length≤cs.size→
    ((vs.zipIdx k).foldl (fun (cs:Array Value) (p:Value×Nat)=>cs.setIfInBounds (o+p.2) p.1) cs).toList=cs.toList.take (o+k)++vs++cs.toList.drop (o+k+vs.length):=by
  induction vs with
  | nil=>intro o cs k _; simp
  | cons v vs ih=>
    intro o cs k hl
    simp only[List.length_cons] at hl
    rw[List.zipIdx_cons,List.foldl_cons,ih o _ (k+1) (by simp; omega)]
    have hlt:o+k < cs.toList.length:=by simp; omega
    simp only[Array.toList_setIfInBounds,List.length_cons]
    rw[show o+(k+1)=o+k+1 by omega,List.drop_set_of_lt (by omega)]
    have:(cs.toList.set (o+k) v).take (o+k+1)=cs.toList.take (o+k)++[v]:=by
      rw[List.take_succ_eq_append_getElem (by simpa using hlt),List.take_set_of_le (Nat.le_refl _)]
      simp
    rw[this,show o+k+1+vs.length=o+k+(vs.length+1) by omega]
    simp
theorem Qim (wd:Nat):∀(vs:List Value) (k:Nat) (cs:Array Value),(∀v∈vs,v.cells.size=wd)→cs.size=(k+vs.length)*wd→
    ∃cs',Instr.fill (fun i=>some (i*wd,wd)) cs ((vs.zipIdx k).map fun p=>(p.2,p.1))=some cs'∧cs'.toList=cs.toList.take (k*wd)++vs.flatMap fun v=>v.cells.toList:=by
  intro vs
  induction vs with
  | nil=>intro k cs _ hs; exact ⟨cs,rfl,by simp at hs ⊢; rw[← hs]; exact (List.take_of_length_le (by simp)).symm⟩
  | cons v vs ih=>
    intro k cs hv hs
    simp only[List.length_cons] at hs
    have h1:=hv v (List.mem_cons_self ..)
    have hfit:k*wd+v.cells.size≤cs.size:=by
      rw[hs,h1,show k+(vs.length+1)=k+1+vs.length by omega,Nat.add_mul,Nat.add_mul,Nat.one_mul]
      omega
    have h2:=QdG v.cells.toList (k*wd) cs 0 (by simpa using hfit)
    generalize hF:List.foldl (fun (cs:Array Value) (p:Value×Nat)=>cs.setIfInBounds (k*wd+p.2) p.1) cs (v.cells.toList.zipIdx 0)=F at h2
    have hsz:F.size=(k+1+vs.length)*wd:=by
      have:F.toList.length=cs.toList.length:=by rw[h2]; simp; omega
      rw[show F.size=F.toList.length by simp,this]
      simp[hs]
      congr 1; omega
    obtain ⟨cs',h3,h4⟩:=ih (k+1) F (fun u hu=>hv u (List.mem_cons_of_mem _ hu)) hsz
    refine ⟨cs', ?_, ?_⟩
    · rw [List.zipIdx_cons, List.map_cons, Instr.fill]
      have hcond:(decide (v.cells.size≠wd)||decide (k*wd+v.cells.size > cs.size))=false:=by
        simp only[Bool.or_eq_false_iff,decide_eq_false_iff_not,ne_eq,Decidable.not_not,Nat.not_lt]
        exact ⟨h1,by omega⟩
      have hF2:v.cells.zipIdx.foldl (fun cs (x:Value×Nat)=>match x with | (c,j)=>cs.setIfInBounds (k*wd+j) c) cs=F:=by
        rw[← hF,← Array.foldl_toList,Array.toList_zipIdx]
      show (if (decide (v.cells.size≠wd)||decide (k*wd+v.cells.size > cs.size))=true then none else Instr.fill _ (v.cells.zipIdx.foldl (fun cs (x:Value×Nat)=>match x with | (c,j)=>cs.setIfInBounds (k*wd+j) c) cs) _)=some cs'
      rw[hcond,hF2]
      exact h3
    · rw [h4, h2, show (k + 1) * wd = k * wd + wd by rw [Nat.add_mul, Nat.one_mul]]
      have hl:(cs.toList.take (k*wd+0)++v.cells.toList).length=k*wd+wd:=by
        simp[h1]; omega
      rw[← hl,List.take_left]
      simp
theorem Qk (t:Nat){E:TypeId}{e:Ty}{n:Nat}{parts:Array (Nat×Operand)}{css:List (Bool×List LV)}{xs:List e.Den}{used:List Nat}{bb:Bool}{z:Value}(hT:P.underlying T=some (.slice E))(hE:tsh P E=some (bb,e.wd))
    (hz:zer P E=some z) (hpn:parts.toList.map (·.1)=List.range n) (hv:EvL A s (parts.toList.map (·.2)) css) (hok:∀c∈css,Yf s.tab c.2=true) (hab:AbsL s.tab e css xs used) (hun:used.Nodup) (hsz:Nat.ble (n*e.wd) 16777216=true) (hn:Nat.blt d A.n=true) (hfr:Fresh s t) (hk0:A.k0≤t):
    Does A P ⟨some d, .buildSlice T n parts,ty,pos,af,g⟩ s (s.mk_ d t used E e xs):=fun a w K Q r hK=>by
  obtain ⟨gh,r⟩:=r
  have hvs:=hv.cms r
  obtain ⟨h1,h2,h3,h4⟩:=hab.own r.cx hvs (fun _ _ _ _ _=>trivial) hok
  generalize hV:(parts.toList.map (·.2)).map a.eval=vs at*
  have hvn:vs.length=n:=by
    have:=congrArg List.length hpn
    rw[← hV]
    simpa using this
  have hpar:(parts.map fun p=>(p.1,a.eval p.2)).toList=(vs.zipIdx 0).map fun p=>(p.2,p.1):=by
    rw[Array.toList_map]
    apply List.ext_getElem?
    intro i
    have e1:=congrArg (fun l=>l[i]?) hpn
    have e2:=congrArg (fun l=>l[i]?) hV
    simp only[List.getElem?_map] at e1 e2 ⊢
    rw[List.getElem?_zipIdx]
    cases hp:parts.toList[i]? with
    | none=>
      have h0:vs[i]? =none:=by rw[hp] at e2; exact e2.symm
      simp[h0]
    | some p=>
      rw[hp] at e1 e2
      simp only[Option.map_some] at e1 e2
      rw[← e2]
      have:p.1=i:=by
        have hi:=(List.getElem?_eq_some_iff.1 e1.symm)
        obtain ⟨hi,hi2⟩:=hi
        rw[List.getElem_range] at hi2
        exact hi2.symm
      simp[this]
  obtain ⟨cs',k1,k2⟩:=Qim e.wd vs 0 ((Array.range (n*e.wd)).map (((if n*e.wd=0 then #[] else z.cells):Array Value)[· % ((if n*e.wd=0 then #[] else z.cells):Array Value).size]!)) h3 (by simp[hvn])
  have hrun:(execOp a.eval ⟨some d, .buildSlice T n parts,ty,pos,af,g⟩).run P w= .ok (.value (.slice (some ⟨w.heap.size,0,none⟩) n n)) (w.alloc (.cells cs' E)):=by
    have hle:=Nat.le_of_ble_eq_true hsz
    have hngt:¬(n*e.wd > 2 ^ 24):=by omega
    simp only[execOp,Instr.buildSlice,Go.Sem.run_bind,run_underlying hT,Result.andThen_ok,Wx hE]
    rw[if_neg hngt]
    by_cases h0:n*e.wd=0
    · rw [if_pos h0] at k1 ⊢
      simp only[Go.Sem.run_pure,Result.andThen_ok,Go.Sem.run_bind]
      rw[hpar,k1]
      simp[newRow,Go.Sem.run_bind]
    · rw [if_neg h0] at k1 ⊢
      simp only[Go.Sem.run_pure,Result.andThen_ok,Go.Sem.run_bind,Us hz]
      rw[hpar,k1]
      simp[newRow,Go.Sem.run_bind]
  unfold Oper.wp
  rw[hrun,Oper.upon_value]
  have hlen:cs'.size=n*e.wd:=by
    have:cs'.toList.length=xs.length*e.wd:=by rw[k2]; simpa using h1.len
    rw[show cs'.size=cs'.toList.length by simp,this,← h4,hvn]
  have hbl:∀g,g < w.heap.size→(w.alloc (.cells cs' E)).heap[g]? =w.heap[g]? :=fun g hg=>Below.heap_alloc w _ g hg
  have hmax:n≤maxLen:=by
    have hw:=Vm e
    have hle:=Nat.le_of_ble_eq_true hsz
    have:n*1≤n*e.wd:=Nat.mul_le_mul_left _ hw
    unfold maxLen; omega
  have hul:∀g∈fps gh.f used,g < w.heap.size:=fun g hg=>by
    obtain ⟨q,hq,hg⟩:=Qfm.1 hg
    exact r.cx.lt (h2 q hq) g hg
  have hxn:xs.length=n:=by omega
  refine hK _ _ (r.make_put (d:=d) (w':=w.alloc (.cells cs' E)) t hfr hk0 used h2 ⟨rfl,rfl,rfl,by simp⟩ (fun g hg _=>hbl g hg) (hv:= .slice (some ⟨w.heap.size,0,none⟩) n n) (fp:=w.heap.size :: fps gh.f used) (E:=E) (xs:=xs) (e:=e) ?_ ?_ ?_ hn)
  · refine .inr ⟨w.heap.size, n, cs', _, rfl, by rw [hxn], heap_alloc_new w _, by omega, hmax, hlen, ?_⟩
    rw[hxn,← hlen,show cs'.size=cs'.toList.length by simp,List.take_length,k2]
    simp only[Nat.zero_mul,List.take_zero,List.nil_append]
    exact h1.mono fun f c x hf ho=>ho.keep fun g hg=>hbl g (hul g (hf g hg))
  · exact List.nodup_cons.2 ⟨fun h=>by have:=hul _ h; omega,Qkn r.cx hun h2⟩
  · intro g hg
    rcases List.mem_cons.1 hg with rfl | hg
    · exact .inl (Nat.le_refl _)
    · exact .inr (Qfm.1 hg)
end
end Go.Proofs.YtnakmhfjafecpaaGreat
