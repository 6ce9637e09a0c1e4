/- Abstract states: control, contracts, operands. No program is named here. -/
import Derived.Test.YtnakmhfjafecpaaGreatAs
set_option linter.unusedSimpArgs false
set_option linter.unusedVariables false
set_option linter.unusedSectionVars false
namespace Go.Proofs.YtnakmhfjafecpaaGreat
open Go.RowKit
def AQ (A:Amb)(Q:Exit→St→Prop)(e:Exit)(a:Act)(w:World):Prop:=∃s,Q e s∧R A s a w
def AC (A:Amb)(P:Program)(c:Code)(Q:Exit→St→Prop)(s:St):Prop:=∀a w,R A s a w→c.wp P (AQ A Q) a w
def AL (A:Amb)(P:Program)(ops:Array Oper)(l:List Oper)(Q:Exit→St→Prop)(s:St):Prop:=∀a w,R A s a w→wpList P ops (AQ A Q) l a w
def QbP (K:St→Prop)(Q:Exit→St→Prop):Exit→St→Prop
  | .normal,s=>K s
  | e,s=>Q e s
def QgP (id:Nat)(Q:Exit→St→Prop):Exit→St→Prop
  | .exit id',s=>match Nat.beq id' id with
    | true=>Q .normal s
    | false=>Q (.exit id') s
  | e,s=>Q e s
section
variable {A:Amb}{P:Program}{Q:Exit→St→Prop}{s s':St}
theorem AC.wk {c:Code}(k:Wk A s s')(h:AC A P c Q s'):AC A P c Q s:=fun a w r=>h a w (k a w r)
theorem AL.wk {ops:Array Oper}{l:List Oper}(k:Wk A s s')(h:AL A P ops l Q s'):AL A P ops l Q s:=fun a w r=>h a w (k a w r)
theorem AC.mono {c:Code}{Q':Exit→St→Prop}(h:AC A P c Q s)(k:∀e s,Q e s→Q' e s):AC A P c Q' s:=fun a w r=>
  wp_mono (h a w r) fun e a w ⟨s,q,r⟩=>⟨s,k e s q,r⟩
theorem AC.skip (h:Q .normal s):AC A P .skip Q s:=fun _ _ r=>wp_skip ⟨s,h,r⟩
theorem Wz {x y:Code}(h:AC A P x (QbP (AC A P y Q) Q) s):AC A P (.seq x y) Q s:=fun a w r=>
  wp_seq (wp_mono (h a w r) fun e a w q=>by
    obtain ⟨s',q,r⟩:=q
    cases e <;> first | exact q a w r | exact ⟨s',q,r⟩)
theorem QmV {id:Nat}{c:Code}(h:AC A P c (QgP id Q) s):AC A P (.block id c) Q s:=fun a w r=>
  wp_block (wp_mono (h a w r) fun e a w q=>by
    obtain ⟨s',q,r⟩:=q
    cases e with
    | exit id'=>
      simp only[QgP] at q
      simp only[Exit.inBlock]
      by_cases hi:id'=id
      · rw [if_pos hi]
        rw[hi,Nat.beq_refl] at q
        exact ⟨s',q,r⟩
      · rw [if_neg hi]
        have:Nat.beq id' id=false:=by
          cases h':Nat.beq id' id with
          | true=>exact absurd (Nat.eq_of_beq_eq_true h') hi
          | false=>rfl
        rw[this] at q
        exact ⟨s',q,r⟩
    | _=>exact ⟨s',q,r⟩)
theorem QA {id:Nat}(h:Q (.exit id) s):AC A P (.exit id) Q s:=fun _ _ r=>wp_exit ⟨s,h,r⟩
theorem Qe (h:Q .ret s):AC A P .ret Q s:=fun _ _ r=>wp_ret ⟨s,h,r⟩
theorem Qnq {c:Code}(I:Nat→St→Prop){m:Nat}(h0:I m s)
    (round:∀m s,I m s→AC A P c (QbP (fun s1=>∃m' s2,m' < m∧Wk A s1 s2∧I m' s2) Q) s):AC A P (.loop c) Q s:=fun a w r=>by
  intro b k cs
  have key:∀n s a w,R A s a w→I n s→∃e a' w',AQ A Q e a' w'∧Arrives P (lone (b.at a (.code c :: .inLoop c :: k)) cs w) b k cs e a' w':=by
    intro n
    induction n using Nat.strongRecOn with
    | _ n ih=>
      intro s a w r hI
      obtain ⟨e,a1,w1,⟨s1,hq,r1⟩,harr⟩:=round n s hI a w r b (.inLoop c :: k) cs
      cases e with
      | normal=>
        obtain ⟨m',s2,hlt,hw,hI2⟩:=hq
        obtain ⟨e2,a2,w2,hq2,harr2⟩:=ih m' hlt s2 a1 w1 (hw _ _ r1) hI2
        exact ⟨e2,a2,w2,hq2, .of_steps (Steps.trans harr (.one step_inLoop)) harr2⟩
      | exit id=>exact ⟨_,a1,w1,⟨s1,hq,r1⟩, .pass (x:= .inLoop c) rfl (fun _ _=> .inl (by simp)) harr⟩
      | goto l=>exact ⟨_,a1,w1,⟨s1,hq,r1⟩, .pass (x:= .inLoop c) rfl (fun _ _=> .inl (by simp)) harr⟩
      | ret=>exact ⟨_,a1,w1,⟨s1,hq,r1⟩, .pass (x:= .inLoop c) rfl (fun _ _=> .inl (by simp)) harr⟩
      | panic ch=>exact ⟨_,a1,w1,⟨s1,hq,r1⟩, .pass (x:= .inLoop c) rfl (fun _ _=> .inl (by simp)) harr⟩
      | outgrown=>exact ⟨_,a1,w1,⟨s1,hq,r1⟩, .pass (x:= .inLoop c) rfl (fun _ _=> .inl (by simp)) harr⟩
  obtain ⟨e,a',w',hq,harr⟩:=key m s a w r h0
  exact ⟨e,a',w',hq, .of_steps (.one step_loop) harr⟩
theorem Qee {id:Nat}{l:List Oper}(h:AL A P l.toArray l Q s):AC A P (.region id l.toArray false) Q s:=fun a w r=>wp_region_lit (h a w r)
theorem Qj {ops:Array Oper}(h:Q .normal s):AL A P ops [] Q s:=fun _ _ r=>wpList_nil ⟨s,h,r⟩
theorem AL.cons {ops:Array Oper}{o:Oper}{l:List Oper}(hg:o.guard=none)(h:Does A P o s s')(k:AL A P ops l Q s'):AL A P ops (o :: l) Q s:=
  fun a w r=>wpList_plain hg fun _ hK=>h a w _ _ r fun a' w' r'=>hK _ _ (k a' w' r')
def Ev (A:Amb)(s:St)(x:Operand)(c:Bool×List LV):Prop:=∀gh a w,Rg A s gh a w→CmR s.tab.al gh w c (a.eval x)
theorem Qb {t:Nat}{b:Bool}{ls:List LV}(h:lk s.tm t=some (.cm b ls)):Ev A s (.tmp t) (b,ls):=fun gh a w r=>by
  obtain ⟨v,h1,h2⟩:=r.tm t _ h
  have e:a.eval (.tmp t)=v:=by
    show a.tmps.getD t undef=v
    rw[Array.getD_eq_getD_getElem?,h1]
    rfl
  rw[e]
  exact h2
def Evl (A:Amb)(s:St)(x:Operand)(l:LV):Prop:=∀gh a w,Rg A s gh a w→LVR s.tab.al gh w l (a.eval x)
theorem Qa {t:Nat}{l:LV}(h:lk s.tm t=some (lf l)):Evl A s (.tmp t) l:=fun gh a w r=>by
  obtain ⟨l',e,h1⟩:=Qb h gh a w r
  simp only[List.cons.injEq,and_true] at e
  rw[e]; exact h1
theorem Evl.ev {x:Operand}{l:LV}(h:Evl A s x l):Ev A s x (false,[l]):=fun gh a w r=>⟨l,rfl,h gh a w r⟩
theorem Evl.val {v:Value}:Evl A s (.const v) (.val v):=fun _ _ _ _=>rfl
theorem QE {n:Int}(h:decide (-9223372036854775808≤n∧n≤9223372036854775807)=true):Evl A s (.const (.int .i64 n)) (dI n):=fun gh a w r=>
  Rep.rd0 (t:= .int) (w:=w) (cs:=[.int .i64 n]) ⟨rfl,of_decide_eq_true h⟩ rfl
theorem QU {b:Bool}:Evl A s (.const (.bool b)) (dB b):=fun gh a w r=>Rep.rd0 (t:= .bool) (w:=w) (cs:=[.bool b]) rfl rfl
theorem Evl.str {x:ByteArray}(h:Nat.ble x.size 1000000=true):Evl A s (.const (.string x)) (dS x):=fun gh a w r=>
  Rep.rd0 (t:= .str) (w:=w) (cs:=[.string x]) ⟨rfl,Nat.le_trans (Nat.le_of_ble_eq_true h) (by decide)⟩ rfl
theorem QW {n:Int}(x:UInt8)(h:n=x.toNat):Evl A s (.const (.int .u8 n)) (.dat .u8 x):=fun gh a w r=>by
  subst h
  exact Rep.rd0 (t:= .u8) (w:=w) (cs:=[.int .u8 x.toNat]) rfl rfl
theorem Evl.nil {E:TypeId}{e:Ty}:Evl A s (.const (.slice none 0 0)) (.dat (.sl E e) []):=fun gh a w r=>by
  refine ⟨{w with heap:= #[]},fun p v e=> ?_,none,0,rfl,Nat.le_refl _,Nat.zero_le _,fun h=>absurd h (by simp)⟩
  simp[World.cell?] at e
theorem Qqf {f:FuncId}:Evl A s (.func f) (.clo f []):=fun gh a w r _=>rfl
theorem LVR.int {al:Nat→Prop}{gh:Gh}{w:World}{n:Int}{v:Value}(h:LVR al gh w (dI n) v):v= .int .i64 n∧ -9223372036854775808≤n∧n≤9223372036854775807:=(Rd.rep h).int_
theorem LVR.bool {al:Nat→Prop}{gh:Gh}{w:World}{b:Bool}{v:Value}(h:LVR al gh w (dB b) v):v= .bool b:=(Rd.rep h).bool_
theorem LVR.str {al:Nat→Prop}{gh:Gh}{w:World}{x:ByteArray}{v:Value}(h:LVR al gh w (dS x) v):v= .string x∧x.size≤maxLen:=(Rd.rep h).str_
theorem LVR.u8 {al:Nat→Prop}{gh:Gh}{w:World}{x:UInt8}{v:Value}(h:LVR al gh w (.dat .u8 x) v):v= .int .u8 x.toNat:=by
  have h:[v]=_:=Rd.rep h
  simpa using h
theorem YA {al:Nat→Prop}{gh:Gh}{w:World}{n:Int}(h: -9223372036854775808≤n∧n≤9223372036854775807):LVR al gh w (dI n) (.int .i64 n):=Rep.rd0 (t:= .int) (w:=w) ⟨rfl,h⟩ rfl
theorem Yr {al:Nat→Prop}{gh:Gh}{w:World}{b:Bool}:LVR al gh w (dB b) (.bool b):=Rep.rd0 (t:= .bool) (w:=w) rfl rfl
theorem Qe7 {al:Nat→Prop}{gh:Gh}{w:World}{x:ByteArray}(h:x.size≤maxLen):LVR al gh w (dS x) (.string x):=Rep.rd0 (t:= .str) (w:=w) ⟨rfl,h⟩ rfl
theorem Qje {al:Nat→Prop}{gh:Gh}{w:World}{x:UInt8}:LVR al gh w (.dat .u8 x) (.int .u8 x.toNat):=Rep.rd0 (t:= .u8) (w:=w) rfl rfl
theorem AC.fact {c:Code}{F:Prop}(hF:∀gh a w,Rg A s gh a w→F)(h:F→AC A P c Q s):AC A P c Q s:=fun a w r=>by
  obtain ⟨gh,r'⟩:=r
  exact h (hF gh a w r') a w ⟨gh,r'⟩
theorem AL.fact {ops:Array Oper}{l:List Oper}{F:Prop}(hF:∀gh a w,Rg A s gh a w→F)(h:F→AL A P ops l Q s):AL A P ops l Q s:=fun a w r=>by
  obtain ⟨gh,r'⟩:=r
  exact h (hF gh a w r') a w ⟨gh,r'⟩
theorem Qs {x:Operand}{n:Int}(h:Evl A s x (dI n)):∀gh a w,Rg A s gh a w→ -9223372036854775808≤n∧n≤9223372036854775807:=fun gh a w r=>(LVR.int (h gh a w r)).2
theorem Ql3 {x:Operand}{n:ByteArray}(h:Evl A s x (dS n)):∀gh a w,Rg A s gh a w→n.size≤maxLen:=fun gh a w r=>(LVR.str (h gh a w r)).2
theorem Qnk {x:Operand}{E:TypeId}{e:Ty}{l:List e.Den}(h:Evl A s x (.dat (.sl E e) l)):∀gh a w,Rg A s gh a w→l.length≤maxLen:=fun gh a w r=>by
  obtain ⟨A',c,_,h1,h2⟩:=(Rd.rep (h gh a w r)).slv
  omega
theorem Qqc {id:Nat}{l:List Oper}{y:Code}(h:AL A P l.toArray l (QbP (AC A P y Q) Q) s):AC A P (.seq (.region id l.toArray false) y) Q s:=Wz (Qee h)
theorem Qof {ops:Array Oper}{y:Code}{Q':Exit→St→Prop}(h:AC A P y Q' s):AL A P ops [] (QbP (AC A P y Q') Q) s:=Qj h
theorem QlG {y:Code}{Q':Exit→St→Prop}(h:AC A P y Q' s):AC A P .skip (QbP (AC A P y Q') Q) s:=AC.skip h
theorem Qy {c:Code}(I:Nat→St→Prop){m:Nat}{s':St}(h0:I m s')(k:Wk A s s')
    (round:∀m s,I m s→AC A P c (QbP (fun s1=>∃m' s2,m' < m∧Wk A s1 s2∧I m' s2) Q) s):AC A P (.loop c) Q s:=AC.wk k (Qnq I h0 round)
theorem QjZ {c:Operand}{x y:Code}{b:Bool}(hc:Evl A s c (dB b))(ht:b=true→AC A P x Q s)(hf:b=false→AC A P y Q s):AC A P (.cond c x y) Q s:=fun a w r=>by
  obtain ⟨gh,r'⟩:=r
  have:=LVR.bool (hc gh a w r')
  exact wp_cond_split this (fun h=>ht h a w ⟨gh,r'⟩) (fun h=>hf h a w ⟨gh,r'⟩)
theorem UR {ops:Array Oper}{j d:Nat}{b:Bool}(hd:(ops[j]?).bind (·.dst)=some d)(h:lk s.tm d=some (lf (dB b))){gh:Gh}{a:Act}{w:World}(r:Rg A s gh a w):yielded ops a.tmps j=some b:=by
  obtain ⟨v,h1,l,h2,h3⟩:=r.tm d _ h
  simp only[List.cons.injEq,and_true] at h2
  subst h2
  have:=LVR.bool h3
  subst this
  simp[yielded,hd,h1]
theorem QeA {ops:Array Oper}{o:Oper}{l:List Oper}{j d:Nat}{b:Bool}(hg:o.guard=some (j,b))(hd:(ops[j]?).bind (·.dst)=some d)(hb:lk s.tm d=some (lf (dB b)))(h:Does A P o s s')
    (k:AL A P ops l Q s'):AL A P ops (o :: l) Q s:=fun a w r=>by
  obtain ⟨gh,r'⟩:=r
  refine wpList_step fun K hK=> ?_
  rw[if_pos (by simp[Region.wanted,hg,UR hd hb r'])]
  exact h a w _ _ ⟨gh,r'⟩ fun a' w' r2=>hK _ _ (k a' w' r2)
theorem Qf8 {ops:Array Oper}{o:Oper}{l:List Oper}{j d:Nat}{b:Bool}(hg:o.guard=some (j,b))(hd:(ops[j]?).bind (·.dst)=some d)(hb:lk s.tm d=some (lf (dB (!b))))
    (k:AL A P ops l Q (match o.dst with | some d'=>s.put d' (lf (.val undef)) | none=>s)) (hn:(match o.dst with | some d'=>Nat.blt d' A.n | none=>true)=true):AL A P ops (o :: l) Q s:=fun a w r=>by
  obtain ⟨gh,r'⟩:=r
  refine wpList_step fun K hK=> ?_
  rw[if_neg (by simp[Region.wanted,hg,UR hd hb r'])]
  refine hK _ _ (k _ _ ?_)
  cases hdst:o.dst with
  | none=>exact ⟨gh,r'⟩
  | some d'=>
    rw[hdst] at hn
    exact ⟨gh,r'.put (Nat.le_of_ble_eq_true hn) (pv:=lf (.val undef)) ⟨_,rfl,rfl⟩⟩
theorem Qu {o:Oper}{d:Nat}{pv:PV}(hd:o.dst=some d)(hn:Nat.blt d A.n=true)
    (h:∀gh a w,Rg A s gh a w→∃v,(execOp a.eval o).run P w= .ok (.value v) w∧PVR s.tab.al gh w pv v):Does A P o s (s.put d pv):=fun a w K Q r hK=>by
  obtain ⟨gh,r⟩:=r
  obtain ⟨v,h1,h2⟩:=h gh a w r
  unfold Oper.wp
  rw[h1,Oper.upon_value,hd]
  exact hK _ _ ⟨gh,r.put (Nat.le_of_ble_eq_true hn) h2⟩
end
structure Fr (T T':Tab) (gh gh':Gh) (w w':World):Prop where
  gw:Grw w w'
  kp:∀g,g < w.heap.size→(∀q,T.al q→g∉gh.f q)→w'.heap[g]? =w.heap[g]?
  nn:∀g,gh'.N g→gh.N g∨w.heap.size≤g∨∃q,T.al q∧g∈gh.f q
  ox:∀q,T'.al q→∀g∈gh'.f q,w.heap.size≤g∨∃q',T.al q'∧g∈gh.f q'
def FC (P:Program)(f:FuncId)(args:List (Bool×List LV))(T:Tab)(k:Nat)(O:PV→Tab→Prop):Prop:=
  ∀(gh:Gh) (w:World) (vs:List Value),Cx T gh w→CmsR T.al gh w args vs→
    Calls P f vs.toArray w fun e w'=>∃v pv T' gh',e= .returned v∧O pv T'∧Cx T' gh' w'∧PVR T'.al gh' w' pv v∧Fr T T' gh gh' w w'∧∀q,q < k→T'.al q→gh'.h q=gh.h q
def Qal:Nat→List (Bool×List LV)→List (Nat×PV)
  | _,[]=>[]
  | i,c :: cs=>(i, .cm c.1 c.2) :: Qal (i+1) cs
section
variable {P:Program}
theorem QcV {al:Nat→Prop}{gh:Gh}{w:World}:∀{cs:List (Bool×List LV)} {vs:List Value} {k i:Nat} {pv:PV},CmsR al gh w cs vs→lk (Qal k cs) i=some pv→∃v,k≤i∧vs[i - k]? =some v∧PVR al gh w pv v
  | [],_,_,_,_,_,h=>by cases h
  | c :: cs,_,k,i,pv,⟨v,vs',hv,h1,h2⟩,h=>by
    subst hv
    rw[Qal,V0] at h
    by_cases e:i=k
    · rw [if_pos e] at h
      cases h
      exact ⟨v,by omega,by simp[e],h1⟩
    · rw [if_neg e] at h
      obtain ⟨v',h3,h4,h5⟩:=QcV h2 h
      exact ⟨v',by omega,by rw[show i - k=i - (k+1)+1 by omega]; exact h4,h5⟩
theorem CmsR.len {al:Nat→Prop}{gh:Gh}{w:World}{cs:List (Bool×List LV)}{vs:List Value}(h:CmsR al gh w cs vs):vs.length=cs.length:=by
  induction cs generalizing vs with
  | nil=>rw[show vs=[] from h]; rfl
  | cons c cs ih=>obtain ⟨v,vs',rfl,_,h2⟩:=h; simp[ih h2]
def Res (A:Amb)(P:Program)(fn:Func)(s:St)(pv:PV):Prop:=∀gh a w,Rg A s gh a w→∃v,(results fn a.tmps).run P w= .ok v w∧PVR s.tab.al gh w pv v
def fin (A:Amb)(P:Program)(fn:Func)(O:PV→Tab→Prop):Exit→St→Prop
  | .ret,s=>∃pv,Res A P fn s pv∧O pv s.tab
  | .normal,s=>∃pv,Res A P fn s pv∧O pv s.tab
  | _,_=>False
theorem Qqk {f:FuncId}{fn:Func}{c:Code}{args:List (Bool×List LV)}{T:Tab}{k:Nat}{O:PV→Tab→Prop}(hf:P.funcs[f]? =some fn)(hb:fn.body=some c)(hl:Nat.ble args.length fn.ntmps=true)
    (h:∀A:Amb,A.n=fn.ntmps→A.k0=k→AC A P c (fin A P fn O) ⟨Qal 0 args,T⟩):FC P f args T k O:=fun gh w vs cx ha=>by
  let A:Amb:=⟨w,fun g=>gh.N g∨∃q,T.al q∧g∈gh.f q,fun g=>∀q,T.al q→g∉gh.f q,fn.ntmps,k,gh.h,gh.f⟩
  have hlen:=ha.len
  have hle:args.length≤fn.ntmps:=Nat.le_of_ble_eq_true hl
  have r:R A ⟨Qal 0 args,T⟩ {tmps:=vs.toArray++Array.replicate (fn.ntmps - vs.toArray.size) undef,defers:=[]} w:=by
    refine ⟨gh,cx, ?_,rfl,fun i pv hi=> ?_,ZO _,fun _ _ _=>rfl,fun g hg=> .inl (.inl hg),fun q hq g hg _ hx=>hx q hq hg,fun _ _ _=>rfl,fun g _ hx=> .inr (Classical.byContradiction fun hn=>hx fun q hq hg=>hn ⟨q,hq,hg⟩)⟩
    · simp only [Array.size_append, List.size_toArray, Array.size_replicate]
      show vs.length+(fn.ntmps - vs.length)=fn.ntmps
      omega
    · obtain ⟨v, _, h2, h3⟩ := QcV ha hi
      refine ⟨v, ?_,h3⟩
      have:i < vs.length:=by have:=(List.getElem?_eq_some_iff.1 h2).1; simpa using this
      rw[Array.getElem?_append_left (by simpa using this)]
      simpa using h2
  refine calls_of_wp hf hb (wp_mono (h A rfl rfl _ _ r) fun e a w' q=> ?_)
  have done:∀s,R A s a w'→(∃pv,Res A P fn s pv∧O pv s.tab)→a.defers=[]∧∃v,(results fn a.tmps).run P w'= .ok v w'∧
      ∃v' pv T' gh',Ending.returned v= .returned v'∧O pv T'∧Cx T' gh' w'∧PVR T'.al gh' w' pv v'∧Fr T T' gh gh' w w'∧∀q,q < k→T'.al q→gh'.h q=gh.h q:=by
    rintro s ⟨gh',r'⟩ ⟨pv,h1,h2⟩
    obtain ⟨v,h3,h4⟩:=h1 gh' a w' r'
    refine ⟨r'.df,v,h3,v,pv,s.tab,gh',rfl,h2,r'.cx,h4,⟨r'.gw,fun g hg hx=>r'.kp g hx hg,fun g hg=> ?_,fun q hq g hg=> ?_⟩,fun q hq hal=>r'.hh q hq hal⟩
    · rcases r'.fr g hg with (k1 | k1) | k1
      · exact .inl k1
      · exact .inr (.inr k1)
      · exact .inr (.inl k1)
    · rcases Nat.lt_or_ge g w.heap.size with k1 | k1
      · right
        exact Classical.byContradiction fun hn=>r'.ox q hq g hg k1 fun q' hq' hg'=>hn ⟨q',hq',hg'⟩
      · exact .inl k1
  obtain ⟨s,q,r'⟩:=q
  cases e with
  | ret=>exact done s r' q
  | normal=>exact done s r' q
  | exit _=>exact q.elim
  | goto _=>exact q.elim
  | panic _=>exact q.elim
  | outgrown=>exact q.elim
end
def Qpx (tmps:Array Value):ResultVar→Sem Value
  | .tmp t=>pure (tmps.getD t undef)
  | .cell a t=>do loadVar t (← asAddr (tmps.getD a undef))
theorem VZ {α β:Type}(m:Sem α)(f:α→Sem β):Sem.bind m f=m >>= f:=rfl
theorem U2 (fn:Func)(tmps:Array Value):results fn tmps=(fn.results.mapM (Qpx tmps)).bind fun vs=>pure (if h:vs.size=1 then vs[0] else .tuple vs):=by
  unfold results
  show Sem.bind _ _=Sem.bind _ _
  congr 1
section
variable {A:Amb}{P:Program}{fn:Func}{s:St}
def Rs (A:Amb)(P:Program)(s:St)(r:ResultVar)(c:Bool×List LV):Prop:=∀gh a w,Rg A s gh a w→∃v,(Qpx a.tmps r).run P w= .ok v w∧CmR s.tab.al gh w c v
theorem Qc {t:Nat}{b:Bool}{ls:List LV}(h:lk s.tm t=some (.cm b ls)):Rs A P s (.tmp t) (b,ls):=fun gh a w r=>⟨_,rfl,Qb h gh a w r⟩
theorem Qd {r:ResultVar}{b:Bool}{ls:List LV}(hr:fn.results= #[r])(h:Rs A P s r (b,ls)):Res A P fn s (.cm b ls):=fun gh a w g=>by
  obtain ⟨v,h1,h2⟩:=h gh a w g
  refine ⟨v, ?_,h2⟩
  rw[U2,hr]; simp[VZ,h1,Sem.run_bind]
theorem Z8 {r1 r2:ResultVar}{c1 c2:Bool×List LV}(hr:fn.results= #[r1,r2])(h1:Rs A P s r1 c1)(h2:Rs A P s r2 c2):Res A P fn s (.tup [c1,c2]):=fun gh a w g=>by
  obtain ⟨v1,a1,b1⟩:=h1 gh a w g
  obtain ⟨v2,a2,b2⟩:=h2 gh a w g
  refine ⟨.tuple #[v1,v2], ?_,[v1,v2],rfl,v1,[v2],rfl,b1,v2,[],rfl,b2,rfl⟩
  rw[U2,hr]; simp[VZ,a1,a2,Sem.run_bind]
theorem Zj {r1 r2 r3:ResultVar}{c1 c2 c3:Bool×List LV}(hr:fn.results= #[r1,r2,r3])(h1:Rs A P s r1 c1)(h2:Rs A P s r2 c2)(h3:Rs A P s r3 c3):Res A P fn s (.tup [c1,c2,c3]):=fun gh a w g=>by
  obtain ⟨v1,a1,b1⟩:=h1 gh a w g
  obtain ⟨v2,a2,b2⟩:=h2 gh a w g
  obtain ⟨v3,a3,b3⟩:=h3 gh a w g
  refine ⟨.tuple #[v1,v2,v3], ?_,[v1,v2,v3],rfl,v1,[v2,v3],rfl,b1,v2,[v3],rfl,b2,v3,[],rfl,b3,rfl⟩
  rw[U2,hr]; simp[VZ,a1,a2,a3,Sem.run_bind]
end
end Go.Proofs.YtnakmhfjafecpaaGreat
namespace Go.Proofs.YtnakmhfjafecpaaGreat
open Go.RowKit
section
variable {A:Amb}{P:Program}{s:St}{x y:Operand}{d:Nat}{T T' ty:TypeId}{pos:String}{af:Array Edge}{g:Option (Nat×Bool)}
theorem Evl.i {m:Int}(h:Evl A s x (dI m)){gh:Gh}{a:Act}{w:World}(r:Rg A s gh a w):a.eval x= .int .i64 m:=(LVR.int (h gh a w r)).1
theorem Evl.b {m:Bool}(h:Evl A s x (dB m)){gh:Gh}{a:Act}{w:World}(r:Rg A s gh a w):a.eval x= .bool m:=LVR.bool (h gh a w r)
theorem Evl.st {m:ByteArray}(h:Evl A s x (dS m)){gh:Gh}{a:Act}{w:World}(r:Rg A s gh a w):a.eval x= .string m:=(LVR.str (h gh a w r)).1
theorem Evl.u {m:UInt8}(h:Evl A s x (.dat .u8 m)){gh:Gh}{a:Act}{w:World}(r:Rg A s gh a w):a.eval x= .int .u8 m.toNat:=LVR.u8 (h gh a w r)
theorem QF {t:Nat}{pv:PV}(h:lk s.tm t=some pv)(hn:Nat.blt d A.n=true):Does A P ⟨some d, .move (.tmp t),ty,pos,af,g⟩ s (s.put d pv):=
  Qu rfl hn fun gh a w r=>by
    obtain ⟨v,h1,h2⟩:=r.tm t pv h
    have e:a.eval (.tmp t)=v:=by
      show a.tmps.getD t undef=v
      rw[Array.getD_eq_getD_getElem?,h1]; rfl
    exact ⟨v,by show Result.ok (Next.value (a.eval (.tmp t))) w=_; rw[e],h2⟩
theorem Qbg {t:Nat}{pv:PV}(h:lk s.tm t=some pv)(hn:Nat.blt d A.n=true):Does A P ⟨some d, .assign (.tmp t),ty,pos,af,g⟩ s (s.put d pv):=
  Qu rfl hn fun gh a w r=>by
    obtain ⟨v,h1,h2⟩:=r.tm t pv h
    have e:a.eval (.tmp t)=v:=by
      show a.tmps.getD t undef=v
      rw[Array.getD_eq_getD_getElem?,h1]; rfl
    exact ⟨v,by show Result.ok (Next.value (a.eval (.tmp t))) w=_; rw[e],h2⟩
theorem Qca {l:LV}(h:Evl A s x l)(hn:Nat.blt d A.n=true):Does A P ⟨some d, .move x,ty,pos,af,g⟩ s (s.put d (lf l)):=
  Qu rfl hn fun gh a w r=>⟨a.eval x,rfl,l,rfl,h gh a w r⟩
theorem Y6 {l:LV}(h:Evl A s x l)(hn:Nat.blt d A.n=true):Does A P ⟨some d, .assign x,ty,pos,af,g⟩ s (s.put d (lf l)):=
  Qu rfl hn fun gh a w r=>⟨a.eval x,rfl,l,rfl,h gh a w r⟩
theorem YN {t i:Nat}{cs:List (Bool×List LV)}{b:Bool}{ls:List LV}(h:lk s.tm t=some (.tup cs))(hi:cs[i]? =some (b,ls))(hn:Nat.blt d A.n=true):
    Does A P ⟨some d, .extract (.tmp t) i,ty,pos,af,g⟩ s (s.put d (.cm b ls)):=
  Qu rfl hn fun gh a w r=>by
    obtain ⟨v,h1,vs,rfl,h2⟩:=r.tm t _ h
    have e:a.eval (.tmp t)= .tuple vs.toArray:=by
      show a.tmps.getD t undef=_
      rw[Array.getD_eq_getD_getElem?,h1]; rfl
    have hg:∀(cs:List (Bool×List LV)) (vs:List Value) (i:Nat),CmsR s.tab.al gh w cs vs→cs[i]? =some (b,ls)→∃v,vs[i]? =some v∧CmR s.tab.al gh w (b,ls) v:=by
      intro cs
      induction cs with
      | nil=>intro vs i _ h; simp at h
      | cons c cs ih=>
        rintro vs i ⟨v,vs',rfl,k1,k2⟩ hi
        cases i with
        | zero=>simp at hi; subst hi; exact ⟨v,rfl,k1⟩
        | succ i=>
          obtain ⟨v',k3,k4⟩:=ih vs' i k2 (by simpa using hi)
          exact ⟨v',by simpa using k3,k4⟩
    obtain ⟨v,k1,k2⟩:=hg cs vs i h2 hi
    exact ⟨v,by simp only[execOp,e,Instr.extract]; simp[k1,Go.Sem.run_bind],k2⟩
theorem Qgr {m n:Int}(hx:Evl A s x (dI m))(hy:Evl A s y (dI n))(hn:Nat.blt d A.n=true):Does A P ⟨some d, .binOp .lss T x y T',ty,pos,af,g⟩ s (s.put d (lf (dB (decide (m < n))))):=
  Qu rfl hn fun gh a w r=>⟨.bool (decide (m < n)),by
    have h1:=hx.i r
    have h2:=hy.i r
    simp only[execOp,h1,h2,eqGuard_at_int,binOp,Op.intCmp]
    simp,_,rfl,Yr⟩
theorem QfY {m n:Int}(hx:Evl A s x (dI m))(hy:Evl A s y (dI n))(hn:Nat.blt d A.n=true):Does A P ⟨some d, .binOp .leq T x y T',ty,pos,af,g⟩ s (s.put d (lf (dB (decide (m≤n))))):=
  Qu rfl hn fun gh a w r=>⟨.bool (decide (m≤n)),by
    have h1:=hx.i r
    have h2:=hy.i r
    simp only[execOp,h1,h2,eqGuard_at_int,binOp,Op.intCmp]
    simp,_,rfl,Yr⟩
theorem Qb1 {m n:Int}(hx:Evl A s x (dI m))(hy:Evl A s y (dI n))(hn:Nat.blt d A.n=true):Does A P ⟨some d, .binOp .gtr T x y T',ty,pos,af,g⟩ s (s.put d (lf (dB (decide (n < m))))):=
  Qu rfl hn fun gh a w r=>⟨.bool (decide (n < m)),by
    have h1:=hx.i r
    have h2:=hy.i r
    simp only[execOp,h1,h2,eqGuard_at_int,binOp,Op.intCmp]
    simp,_,rfl,Yr⟩
theorem Qml {m n:Int}(hx:Evl A s x (dI m))(hy:Evl A s y (dI n))(hn:Nat.blt d A.n=true):Does A P ⟨some d, .binOp .geq T x y T',ty,pos,af,g⟩ s (s.put d (lf (dB (decide (n≤m))))):=
  Qu rfl hn fun gh a w r=>⟨.bool (decide (n≤m)),by
    have h1:=hx.i r
    have h2:=hy.i r
    simp only[execOp,h1,h2,eqGuard_at_int,binOp,Op.intCmp]
    simp,_,rfl,Yr⟩
theorem Ws {m n:Int}(hx:Evl A s x (dI m))(hy:Evl A s y (dI n))(hn:Nat.blt d A.n=true):Does A P ⟨some d, .binOp .eql T x y T',ty,pos,af,g⟩ s (s.put d (lf (dB (decide (m=n))))):=
  Qu rfl hn fun gh a w r=>⟨.bool (decide (m=n)),by
    have h1:=hx.i r
    have h2:=hy.i r
    simp only[execOp,h1,h2,eqGuard_at_int,binOp,Op.intCmp]
    simp; rfl,_,rfl,Yr⟩
theorem Hb {m n:Int}(hx:Evl A s x (dI m))(hy:Evl A s y (dI n))(hn:Nat.blt d A.n=true):Does A P ⟨some d, .binOp .neq T x y T',ty,pos,af,g⟩ s (s.put d (lf (dB (!decide (m=n))))):=
  Qu rfl hn fun gh a w r=>⟨.bool (!decide (m=n)),by
    have h1:=hx.i r
    have h2:=hy.i r
    simp only[execOp,h1,h2,eqGuard_at_int,binOp,Op.intCmp]
    simp; rfl,_,rfl,Yr⟩
theorem Uw {m n:Int}(hx:Evl A s x (dI m))(hy:Evl A s y (dI n))(hn:Nat.blt d A.n=true)(hb: -9223372036854775808≤m+n∧m+n≤9223372036854775807):Does A P ⟨some d, .binOp .add T x y T',ty,pos,af,g⟩ s (s.put d (lf (dI (m+n)))):=
  Qu rfl hn fun gh a w r=>⟨.int .i64 (m+n),by
    have h1:=hx.i r
    have h2:=hy.i r
    have h3:IntKind.i64.wrap (m+n)=m+n:=IntWalk.i64_in _ (by omega)
    simp only[execOp,h1,h2,eqGuard_at_int,binOp,Op.intArith,h3]
    simp,_,rfl,YA hb⟩
theorem Qg2 {m n:Int}(hx:Evl A s x (dI m))(hy:Evl A s y (dI n))(hn:Nat.blt d A.n=true)(hb: -9223372036854775808≤m - n∧m - n≤9223372036854775807):Does A P ⟨some d, .binOp .sub T x y T',ty,pos,af,g⟩ s (s.put d (lf (dI (m - n)))):=
  Qu rfl hn fun gh a w r=>⟨.int .i64 (m - n),by
    have h1:=hx.i r
    have h2:=hy.i r
    have h3:IntKind.i64.wrap (m - n)=m - n:=IntWalk.i64_in _ (by omega)
    simp only[execOp,h1,h2,eqGuard_at_int,binOp,Op.intArith,h3]
    simp,_,rfl,YA hb⟩
theorem VF {m n:Int}(hx:Evl A s x (dI m))(hy:Evl A s y (dI n))(hn:Nat.blt d A.n=true)(hb: -9223372036854775808≤m*n∧m*n≤9223372036854775807):Does A P ⟨some d, .binOp .mul T x y T',ty,pos,af,g⟩ s (s.put d (lf (dI (m*n)))):=
  Qu rfl hn fun gh a w r=>⟨.int .i64 (m*n),by
    have h1:=hx.i r
    have h2:=hy.i r
    have h3:IntKind.i64.wrap (m*n)=m*n:=IntWalk.i64_in _ (by omega)
    simp only[execOp,h1,h2,eqGuard_at_int,binOp,Op.intArith,h3]
    simp,_,rfl,YA hb⟩
theorem QbZ {m n:Int}(hx:Evl A s x (dI m))(hy:Evl A s y (dI n))(hn:Nat.blt d A.n=true)(h0:0≤m)(h1:0 < n):Does A P ⟨some d, .binOp .quo T x y T',ty,pos,af,g⟩ s (s.put d (lf (dI (m / n)))):=
  Qu rfl hn fun gh a w r=>by
    have k1:=hx.i r
    have k2:=hy.i r
    have k3:=(LVR.int (hx gh a w r)).2
    have k4:m.tdiv n=m / n:=Int.tdiv_eq_ediv_of_nonneg h0
    have k5:0≤m / n:=Int.ediv_nonneg h0 (by omega)
    have k6:m / n≤m:=Int.ediv_le_self _ h0
    have k7:IntKind.i64.wrap (m / n)=m / n:=IntWalk.i64_in _ (by omega)
    have k8:n≠0:=by omega
    refine ⟨.int .i64 (m / n), ?_,_,rfl,YA (by omega)⟩
    simp only[execOp,k1,k2,eqGuard_at_int,binOp,Op.intDiv,k4,k7]
    simp[k8]
theorem WV {m n:Int}(hx:Evl A s x (dI m))(hy:Evl A s y (dI n))(hn:Nat.blt d A.n=true)(h0:0≤m)(h1:0 < n):Does A P ⟨some d, .binOp .rem T x y T',ty,pos,af,g⟩ s (s.put d (lf (dI (m % n)))):=
  Qu rfl hn fun gh a w r=>by
    have k1:=hx.i r
    have k2:=hy.i r
    have k3:=(LVR.int (hx gh a w r)).2
    have k9:=(LVR.int (hy gh a w r)).2
    have k4:m.tmod n=m % n:=Int.tmod_eq_emod_of_nonneg h0
    have k5:0≤m % n:=Int.emod_nonneg _ (by omega)
    have k6:m % n < n:=Int.emod_lt_of_pos _ h1
    have k8:n≠0:=by omega
    refine ⟨.int .i64 (m % n), ?_,_,rfl,YA (by omega)⟩
    simp only[execOp,k1,k2,eqGuard_at_int,binOp,Op.intDiv,k4]
    simp[k8]
theorem Qig {a b:UInt8}:((a.toNat:Int)==(b.toNat:Int))=decide (a=b):=by
  rw[Bool.eq_iff_iff]
  simp only[beq_iff_eq,decide_eq_true_eq]
  constructor
  · intro h; exact UInt8.toNat_inj.1 (by omega)
  · rintro rfl; rfl
theorem QG {m n:UInt8}(hx:Evl A s x (.dat .u8 m))(hy:Evl A s y (.dat .u8 n))(hn:Nat.blt d A.n=true):Does A P ⟨some d, .binOp .eql T x y T',ty,pos,af,g⟩ s (s.put d (lf (dB (decide (m=n))))):=
  Qu rfl hn fun gh a w r=>⟨.bool (decide (m=n)),by
    have h1:=hx.u r
    have h2:=hy.u r
    simp only[execOp,h1,h2,eqGuard_at_int,binOp,Op.intCmp]
    simp[Qig,bne,UInt8.lt_iff_toNat_lt,UInt8.le_iff_toNat_le],_,rfl,Yr⟩
theorem Yb {m n:UInt8}(hx:Evl A s x (.dat .u8 m))(hy:Evl A s y (.dat .u8 n))(hn:Nat.blt d A.n=true):Does A P ⟨some d, .binOp .neq T x y T',ty,pos,af,g⟩ s (s.put d (lf (dB (!decide (m=n))))):=
  Qu rfl hn fun gh a w r=>⟨.bool (!decide (m=n)),by
    have h1:=hx.u r
    have h2:=hy.u r
    simp only[execOp,h1,h2,eqGuard_at_int,binOp,Op.intCmp]
    simp[Qig,bne,UInt8.lt_iff_toNat_lt,UInt8.le_iff_toNat_le],_,rfl,Yr⟩
theorem Qfd {a b:ByteArray}:(a.toList==b.toList)=decide (a=b):=by
  rw[Bool.eq_iff_iff]
  simp only[beq_iff_eq,decide_eq_true_eq]
  constructor
  · intro h
    rw[ByteArray.toList_eq,ByteArray.toList_eq] at h
    cases a; cases b
    simpa using h
  · rintro rfl; rfl
theorem Vq {m n:ByteArray}(hx:Evl A s x (dS m))(hy:Evl A s y (dS n))(hn:Nat.blt d A.n=true):Does A P ⟨some d, .binOp .eql T x y T',ty,pos,af,g⟩ s (s.put d (lf (dB (decide (m=n))))):=
  Qu rfl hn fun gh a w r=>⟨.bool (decide (m=n)),by
    have h1:=hx.st r
    have h2:=hy.st r
    simp only[execOp,h1,h2,eqGuard_at_string,binOp,Op.stringOp]
    simp[Qfd],_,rfl,Yr⟩
theorem Jc {m n:ByteArray}(hx:Evl A s x (dS m))(hy:Evl A s y (dS n))(hn:Nat.blt d A.n=true):Does A P ⟨some d, .binOp .neq T x y T',ty,pos,af,g⟩ s (s.put d (lf (dB (!decide (m=n))))):=
  Qu rfl hn fun gh a w r=>⟨.bool (!decide (m=n)),by
    have h1:=hx.st r
    have h2:=hy.st r
    simp only[execOp,h1,h2,eqGuard_at_string,binOp,Op.stringOp]
    simp[Qfd],_,rfl,Yr⟩
theorem X9 {m n:ByteArray}(hx:Evl A s x (dS m))(hy:Evl A s y (dS n))(hn:Nat.blt d A.n=true)(hb:m.size+n.size≤9223372036854775807):Does A P ⟨some d, .binOp .add T x y T',ty,pos,af,g⟩ s (s.put d (lf (dS (m++n)))):=
  Qu rfl hn fun gh a w r=>⟨.string (m++n),by
    have h1:=hx.st r
    have h2:=hy.st r
    simp only[execOp,h1,h2,eqGuard_at_string,binOp]
    simp[Go.Sem.run_bind,run_string_add_sum w m n hb],_,rfl,Qe7 (by unfold maxLen; simpa using hb)⟩
theorem Jb {m n:Bool}(hx:Evl A s x (dB m))(hy:Evl A s y (dB n))(hn:Nat.blt d A.n=true)(hT:P.underlying T=some .bool):Does A P ⟨some d, .binOp .eql T x y T',ty,pos,af,g⟩ s (s.put d (lf (dB (m==n)))):=
  Qu rfl hn fun gh a w r=>⟨.bool (m==n),by
    have h1:=hx.b r
    have h2:=hy.b r
    simp only[execOp,h1,h2,eqGuard_at_bool]
    simp[run_eql_bool _ _ _ _ hT,Go.Sem.run_bind],_,rfl,Yr⟩
theorem XC {m n:Bool}(hx:Evl A s x (dB m))(hy:Evl A s y (dB n))(hn:Nat.blt d A.n=true)(hT:P.underlying T=some .bool):Does A P ⟨some d, .binOp .neq T x y T',ty,pos,af,g⟩ s (s.put d (lf (dB (!(m==n))))):=
  Qu rfl hn fun gh a w r=>⟨.bool (!(m==n)),by
    have h1:=hx.b r
    have h2:=hy.b r
    simp only[execOp,h1,h2,eqGuard_at_bool]
    simp[run_neq_bool _ _ _ _ hT,Go.Sem.run_bind],_,rfl,Yr⟩
theorem ZK {m:Bool}(hx:Evl A s x (dB m))(hn:Nat.blt d A.n=true):Does A P ⟨some d, .unOp .not T x,ty,pos,af,g⟩ s (s.put d (lf (dB (!m)))):=
  Qu rfl hn fun gh a w r=>⟨.bool (!m),by
    have h1:=hx.b r
    simp only[execOp,h1,unary_not]
    simp,_,rfl,Yr⟩
theorem QH {m:ByteArray}{i:Int}{c:UInt8}(hx:Evl A s x (dS m))(hy:Evl A s y (dI i))(hn:Nat.blt d A.n=true)(hT:P.underlying T=some .string)(h0:0≤i)(hc:m[i.toNat]? =some c):
    Does A P ⟨some d, .index T x y,ty,pos,af,g⟩ s (s.put d (lf (.dat .u8 c))):=
  Qu rfl hn fun gh a w r=>⟨.int .u8 c.toNat,by
    have h1:=hx.st r
    have h2:=hy.i r
    simp only[execOp,h1,h2,Instr.index,asIntOf]
    simp[run_underlying hT,h0,hc,Go.Sem.run_bind],_,rfl,Qje⟩
theorem Xg {m:ByteArray}(hx:Evl A s x (dS m))(hn:Nat.blt d A.n=true)(hT:P.underlying T=some .string):Does A P ⟨some d, .call ⟨.builtin .len, #[x], #[T]⟩,ty,pos,af,g⟩ s (s.put d (lf (dI m.size))):=
  Qu rfl hn fun gh a w r=>by
    have h1:=hx.st r
    have h2:=(LVR.str (hx gh a w r)).2
    refine ⟨.int .i64 m.size, ?_,_,rfl,YA (by unfold maxLen at h2; omega)⟩
    simp only[execOp,resolve,invoke,builtin]
    simp[Go.Sem.run_bind,h1,run_len_string w T ty m hT,goInt]
theorem VA {E:TypeId}{e:Ty}{l:List e.Den}(hx:Evl A s x (.dat (.sl E e) l))(hn:Nat.blt d A.n=true)(hT:P.underlying T=some (.slice E)):Does A P ⟨some d, .call ⟨.builtin .len, #[x], #[T]⟩,ty,pos,af,g⟩ s (s.put d (lf (dI l.length))):=
  Qu rfl hn fun gh a w r=>by
    obtain ⟨B,c,h1,h2,h3⟩:=(Rd.rep (hx gh a w r)).slv
    have hE:P.elem T=E:=by simp[Program.elem,hT]
    refine ⟨.int .i64 l.length, ?_,_,rfl,YA (by unfold maxLen at h3; omega)⟩
    simp only[execOp,resolve,invoke,builtin]
    simp[Go.Sem.run_bind,h1,run_len_slice w T ty B l.length c (by rw[hE]; exact hT),goInt]
theorem WC {q:Nat}{E E':TypeId}{e:Ty}{l:List e.Den}(hx:Evl A s x (.ref q))(he:s.tab.ent q=some (.arr E e l))(hn:Nat.blt d A.n=true)(hT:P.underlying T=some (.slice E')):
    Does A P ⟨some d, .call ⟨.builtin .len, #[x], #[T]⟩,ty,pos,af,g⟩ s (s.put d (lf (dI l.length))):=
  Qu rfl hn fun gh a w r=>by
    have h0:a.eval x=gh.h q:=hx gh a w r ⟨_,he⟩
    have hO:Own (.sl E e) w (gh.f q) [gh.h q] l:=r.cx.en q _ he
    obtain ⟨B,c,h1,h2,h3⟩:=hO.rep.slv
    have hE:P.elem T=E':=by simp[Program.elem,hT]
    refine ⟨.int .i64 l.length, ?_,_,rfl,YA (by unfold maxLen at h3; omega)⟩
    simp only[execOp,resolve,invoke,builtin]
    simp[Go.Sem.run_bind,h0,h1,run_len_slice w T ty B l.length c (by rw[hE]; exact hT),goInt]
end
end Go.Proofs.YtnakmhfjafecpaaGreat
