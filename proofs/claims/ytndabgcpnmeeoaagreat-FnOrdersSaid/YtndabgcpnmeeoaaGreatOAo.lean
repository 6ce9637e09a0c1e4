/- Abstract states: control, contracts, operands. No program is named here. -/
import Derived.Test.YtndabgcpnmeeoaaGreatOAs
set_option linter.unusedSimpArgs false
set_option linter.unusedVariables false
set_option linter.unusedSectionVars false
namespace Go.Proofs.YtndabgcpnmeeoaaGreat
open Go.RowKit
def AQ (A:Amb)(Q:Exit→St→Prop)(e:Exit)(a:Act)(w:World):Prop:=∃s,Q e s∧R A s a w
def AC (A:Amb)(P:Program)(c:Code)(Q:Exit→St→Prop)(s:St):Prop:=∀a w,R A s a w→c.wp P (AQ A Q) a w
def AL (A:Amb)(P:Program)(ops:Array Oper)(l:List Oper)(Q:Exit→St→Prop)(s:St):Prop:=∀a w,R A s a w→wpList P ops (AQ A Q) l a w
def Qai (K:St→Prop)(Q:Exit→St→Prop):Exit→St→Prop
 | .normal,s=>K s
 | e,s=>Q e s
def QjK (id:Nat)(Q:Exit→St→Prop):Exit→St→Prop
 | .exit id',s=>match Nat.beq id' id with
  | true=>Q .normal s
  | false=>Q (.exit id') s
 | e,s=>Q e s
section
variable {A:Amb}{P:Program}{Q:Exit→St→Prop}{s s':St}
theorem AC.wk {c:Code}(k:Wk A s s')(h:AC A P c Q s'):AC A P c Q s:=fun a w r=>h a w (k a w r)
theorem AL.wk {ops:Array Oper}{l:List Oper}(k:Wk A s s')(h:AL A P ops l Q s'):AL A P ops l Q s:=fun a w r=>h a w (k a w r)
theorem AC.mono {c:Code}{b:Exit→St→Prop}(h:AC A P c Q s)(k:∀e s,Q e s→b e s):AC A P c b s:=fun a w r=>
 wp_mono (h a w r) fun e a w ⟨s,q,r⟩=>⟨s,k e s q,r⟩
theorem AC.skip (h:Q .normal s):AC A P .skip Q s:=fun _ _ r=>wp_skip ⟨s,h,r⟩
theorem Yg {x y:Code}(h:AC A P x (Qai (AC A P y Q) Q) s):AC A P (.seq x y) Q s:=fun a w r=>
 wp_seq (wp_mono (h a w r) fun e a w q=>by
  obtain ⟨s',q,r⟩:=q
  cases e <;> first | exact q a w r | exact ⟨s',q,r⟩)
theorem Qqh {id:Nat}{c:Code}(h:AC A P c (QjK id Q) s):AC A P (.block id c) Q s:=fun a w r=>
 wp_block (wp_mono (h a w r) fun e a w q=>by
  obtain ⟨s',q,r⟩:=q
  cases e with
  | exit b=>
   simp only[QjK] at q
   simp only[Exit.inBlock]
   by_cases d:b=id
   ·rw[if_pos d]
    rw[d,dq] at q
    exact ⟨s',q,r⟩
   ·rw[if_neg d]
    have:Nat.beq b id=false:=by
     cases f:Nat.beq b id with
     | true=>exact absurd (bg f) d
     | false=>rfl
    rw[this] at q
    exact ⟨s',q,r⟩
  | _=>exact ⟨s',q,r⟩)
theorem QhB {id:Nat}(h:Q (.exit id) s):AC A P (.exit id) Q s:=fun _ _ r=>wp_exit ⟨s,h,r⟩
theorem Qe (h:Q .ret s):AC A P .ret Q s:=fun _ _ r=>wp_ret ⟨s,h,r⟩
theorem Qtl {c:Code}(I:Nat→St→Prop){m:Nat}(h0:I m s)
 (round:∀m s,I m s→AC A P c (Qai (fun h=>∃q t,q < m∧Wk A h t∧I q t) Q) s):AC A P (.loop c) Q s:=fun a w r=>by
 intro b k v
 have C:∀n s a w,R A s a w→I n s→∃e p u,AQ A Q e p u∧Arrives P (lone (b.at a (.code c :: .inLoop c :: k)) v w) b k v e p u:=by
  intro n
  induction n using Nat.strongRecOn with
  | _ n H=>
   intro s a w r F
   obtain ⟨e,i,o,⟨h,f,j⟩,d⟩:=round n s F a w r b (.inLoop c :: k) v
   cases e with
   | normal=>
    obtain ⟨q,t,z,G,y⟩:=f
    obtain ⟨E,D,w2,B,g⟩:=H q z t i o (G _ _ j) y
    exact ⟨E,D,w2,B, .of_steps (Steps.trans d (.one step_inLoop)) g⟩
   | exit id=>exact ⟨_,i,o,⟨h,f,j⟩, .pass (x:= .inLoop c) rfl (fun _ _=> .inl (by simp)) d⟩
   | goto l=>exact ⟨_,i,o,⟨h,f,j⟩, .pass (x:= .inLoop c) rfl (fun _ _=> .inl (by simp)) d⟩
   | ret=>exact ⟨_,i,o,⟨h,f,j⟩, .pass (x:= .inLoop c) rfl (fun _ _=> .inl (by simp)) d⟩
   | panic J=>exact ⟨_,i,o,⟨h,f,j⟩, .pass (x:= .inLoop c) rfl (fun _ _=> .inl (by simp)) d⟩
   | outgrown=>exact ⟨_,i,o,⟨h,f,j⟩, .pass (x:= .inLoop c) rfl (fun _ _=> .inl (by simp)) d⟩
 obtain ⟨e,p,u,f,d⟩:=C m s a w r h0
 exact ⟨e,p,u,f, .of_steps (.one step_loop) d⟩
theorem Qgo {id:Nat}{l:List Oper}(h:AL A P l.toArray l Q s):AC A P (.region id l.toArray false) Q s:=fun a w r=>wp_region_lit (h a w r)
theorem Qf {ops:Array Oper}(h:Q .normal s):AL A P ops [] Q s:=fun _ _ r=>wpList_nil ⟨s,h,r⟩
theorem AL.cons {ops:Array Oper}{o:Oper}{l:List Oper}(d:o.guard=none)(h:Does A P o s s')(k:AL A P ops l Q s'):AL A P ops (o :: l) Q s:=
 fun a w r=>wpList_plain d fun _ c=>h a w _ _ r fun b f e=>c _ _ (k b f e)
def Ev (A:Amb)(s:St)(x:Operand)(c:Bool×List LV):Prop:=∀gh a w,Rg A s gh a w→CmR s.tab.al gh w c (a.eval x)
theorem Ql {t:Nat}{b:Bool}{ls:List LV}(h:lk s.tm t=some (.cm b ls)):Ev A s (.tmp t) (b,ls):=fun f a w r=>by
 obtain ⟨v,c,d⟩:=r.tm t _ h
 have e:a.eval (.tmp t)=v:=by
  show a.tmps.getD t undef=v
  rw[cc,c]
  rfl
 rw[e]
 exact d
def Evl (A:Amb)(s:St)(x:Operand)(l:LV):Prop:=∀gh a w,Rg A s gh a w→LVR s.tab.al gh w l (a.eval x)
theorem Qa {t:Nat}{l:LV}(h:lk s.tm t=some (lf l)):Evl A s (.tmp t) l:=fun b a w r=>by
 obtain ⟨d,e,c⟩:=Ql h b a w r
 simp only[aD,and_true] at e
 rw[e]; exact c
theorem Evl.ev {x:Operand}{l:LV}(h:Evl A s x l):Ev A s x (false,[l]):=fun b a w r=>⟨l,rfl,h b a w r⟩
theorem Evl.val {v:Value}:Evl A s (.const v) (.val v):=fun _ _ _ _=>rfl
theorem Qr {n:Int}(h:decide (-9223372036854775808≤n∧n≤9223372036854775807)=true):Evl A s (.const (.int .i64 n)) (dI n):=fun b a w r=>
 Rep.rd0 (t:= .int) (w:=w) (cs:=[.int .i64 n]) ⟨rfl,ab h⟩ rfl
theorem Zt {b:Bool}:Evl A s (.const (.bool b)) (dB b):=fun c a w r=>Rep.rd0 (t:= .bool) (w:=w) (cs:=[.bool b]) rfl rfl
theorem Evl.str {x:ByteArray}(h:Nat.ble x.size 1000000=true):Evl A s (.const (.string x)) (dS x):=fun b a w r=>
 Rep.rd0 (t:= .str) (w:=w) (cs:=[.string x]) ⟨rfl,bn (aA h) (by decide)⟩ rfl
theorem Q0 {n:Int}(x:UInt8)(h:n=x.toNat):Evl A s (.const (.int .u8 n)) (.dat .u8 x):=fun b a w r=>by
 subst h
 exact Rep.rd0 (t:= .u8) (w:=w) (cs:=[.int .u8 x.toNat]) rfl rfl
theorem Evl.nil {E:TypeId}{e:Ty}:Evl A s (.const (.slice none 0 0)) (.dat (.sl E e) []):=fun c a w r=>by
 refine ⟨{w with heap:= #[]},fun p v e=> ?_,none,0,rfl,aL _,aP _,fun h=>absurd h (by simp)⟩
 simp[World.cell?] at e
theorem Qee {f:FuncId}:Evl A s (.func f) (.clo f []):=fun b a w r _=>rfl
theorem LVR.int {al:Nat→Prop}{gh:Gh}{w:World}{n:Int}{v:Value}(h:LVR al gh w (dI n) v):v= .int .i64 n∧ -9223372036854775808≤n∧n≤9223372036854775807:=(Rd.rep h).int_
theorem LVR.bool {al:Nat→Prop}{gh:Gh}{w:World}{b:Bool}{v:Value}(h:LVR al gh w (dB b) v):v= .bool b:=(Rd.rep h).bool_
theorem LVR.str {al:Nat→Prop}{gh:Gh}{w:World}{x:ByteArray}{v:Value}(h:LVR al gh w (dS x) v):v= .string x∧x.size≤maxLen:=(Rd.rep h).str_
theorem LVR.u8 {al:Nat→Prop}{gh:Gh}{w:World}{x:UInt8}{v:Value}(h:LVR al gh w (.dat .u8 x) v):v= .int .u8 x.toNat:=by
 have h:[v]=_:=Rd.rep h
 simpa using h
theorem Yj {al:Nat→Prop}{gh:Gh}{w:World}{n:Int}(h: -9223372036854775808≤n∧n≤9223372036854775807):LVR al gh w (dI n) (.int .i64 n):=Rep.rd0 (t:= .int) (w:=w) ⟨rfl,h⟩ rfl
theorem ZI {al:Nat→Prop}{gh:Gh}{w:World}{b:Bool}:LVR al gh w (dB b) (.bool b):=Rep.rd0 (t:= .bool) (w:=w) rfl rfl
theorem QhF {al:Nat→Prop}{gh:Gh}{w:World}{x:ByteArray}(h:x.size≤maxLen):LVR al gh w (dS x) (.string x):=Rep.rd0 (t:= .str) (w:=w) ⟨rfl,h⟩ rfl
theorem Qtp {al:Nat→Prop}{gh:Gh}{w:World}{x:UInt8}:LVR al gh w (.dat .u8 x) (.int .u8 x.toNat):=Rep.rd0 (t:= .u8) (w:=w) rfl rfl
theorem AC.fact {c:Code}{F:Prop}(d:∀gh a w,Rg A s gh a w→F)(h:F→AC A P c Q s):AC A P c Q s:=fun a w r=>by
 obtain ⟨gh,b⟩:=r
 exact h (d gh a w b) a w ⟨gh,b⟩
theorem AL.fact {ops:Array Oper}{l:List Oper}{F:Prop}(c:∀gh a w,Rg A s gh a w→F)(h:F→AL A P ops l Q s):AL A P ops l Q s:=fun a w r=>by
 obtain ⟨gh,b⟩:=r
 exact h (c gh a w b) a w ⟨gh,b⟩
theorem Qjy {x:Operand}{n:Int}(h:Evl A s x (dI n)):∀gh a w,Rg A s gh a w→ -9223372036854775808≤n∧n≤9223372036854775807:=fun gh a w r=>(LVR.int (h gh a w r)).2
theorem Qrz {x:Operand}{n:ByteArray}(h:Evl A s x (dS n)):∀gh a w,Rg A s gh a w→n.size≤maxLen:=fun gh a w r=>(LVR.str (h gh a w r)).2
theorem Qua {x:Operand}{E:TypeId}{e:Ty}{l:List e.Den}(h:Evl A s x (.dat (.sl E e) l)):∀gh a w,Rg A s gh a w→l.length≤maxLen:=fun gh a w r=>by
 obtain ⟨b,c,_,d,f⟩:=(Rd.rep (h gh a w r)).slv
 omega
theorem Qxc {id:Nat}{l:List Oper}{y:Code}(h:AL A P l.toArray l (Qai (AC A P y Q) Q) s):AC A P (.seq (.region id l.toArray false) y) Q s:=Yg (Qgo h)
theorem Qtm {ops:Array Oper}{y:Code}{a:Exit→St→Prop}(h:AC A P y a s):AL A P ops [] (Qai (AC A P y a) Q) s:=Qf h
theorem Qql {y:Code}{a:Exit→St→Prop}(h:AC A P y a s):AC A P .skip (Qai (AC A P y a) Q) s:=AC.skip h
theorem QH {c:Code}(I:Nat→St→Prop){m:Nat}{s':St}(h0:I m s')(k:Wk A s s')
 (round:∀m s,I m s→AC A P c (Qai (fun d=>∃a b,a < m∧Wk A d b∧I a b) Q) s):AC A P (.loop c) Q s:=AC.wk k (Qtl I h0 round)
theorem Hh {c:Operand}{x y:Code}{b:Bool}(f:Evl A s c (dB b))(i:b=true→AC A P x Q s)(g:b=false→AC A P y Q s):AC A P (.cond c x y) Q s:=fun a w r=>by
 obtain ⟨d,e⟩:=r
 have:=LVR.bool (f d a w e)
 exact wp_cond_split this (fun h=>i h a w ⟨d,e⟩) (fun h=>g h a w ⟨d,e⟩)
theorem Jj {ops:Array Oper}{j d:Nat}{b:Bool}(g:(ops[j]?).bind (·.dst)=some d)(h:lk s.tm d=some (lf (dB b))){gh:Gh}{a:Act}{w:World}(r:Rg A s gh a w):yielded ops a.tmps j=some b:=by
 obtain ⟨v,e,l,c,f⟩:=r.tm d _ h
 simp only[aD,and_true] at c
 subst c
 have:=LVR.bool f
 subst this
 simp[yielded,g,e]
theorem QhC {ops:Array Oper}{o:Oper}{l:List Oper}{j d:Nat}{b:Bool}(m:o.guard=some (j,b))(i:(ops[j]?).bind (·.dst)=some d)(hb:lk s.tm d=some (lf (dB b)))(h:Does A P o s s')
 (k:AL A P ops l Q s'):AL A P ops (o :: l) Q s:=fun a w r=>by
 obtain ⟨f,c⟩:=r
 refine wpList_step fun K g=> ?_
 rw[if_pos (by simp[Region.wanted,m,Jj i hb c])]
 exact h a w _ _ ⟨f,c⟩ fun e p n=>g _ _ (k e p n)
theorem QiR {ops:Array Oper}{o:Oper}{l:List Oper}{j d:Nat}{b:Bool}(m:o.guard=some (j,b))(i:(ops[j]?).bind (·.dst)=some d)(hb:lk s.tm d=some (lf (dB (!b))))
 (k:AL A P ops l Q (match o.dst with | some e=>s.put e (lf (.val undef)) | none=>s)) (hn:(match o.dst with | some e=>Nat.blt e A.n | none=>true)=true):AL A P ops (o :: l) Q s:=fun a w r=>by
 obtain ⟨g,f⟩:=r
 refine wpList_step fun K h=> ?_
 rw[if_neg (by simp[Region.wanted,m,Jj i hb f])]
 refine h _ _ (k _ _ ?_)
 cases c:o.dst with
 | none=>exact ⟨g,f⟩
 | some e=>
  rw[c] at hn
  exact ⟨g,f.put (aA hn) (pv:=lf (.val undef)) ⟨_,rfl,rfl⟩⟩
theorem Qi {o:Oper}{d:Nat}{pv:PV}(f:o.dst=some d)(g:Nat.blt d A.n=true)
 (h:∀gh a w,Rg A s gh a w→∃v,(execOp a.eval o).run P w= .ok (.value v) w∧PVR s.tab.al gh w pv v):Does A P o s (s.put d pv):=fun a w K Q r e=>by
 obtain ⟨gh,r⟩:=r
 obtain ⟨v,b,c⟩:=h gh a w r
 unfold Oper.wp
 rw[b,Oper.upon_value,f]
 exact e _ _ ⟨gh,r.put (aA g) c⟩
end
structure Fr (T T':Tab) (gh gh':Gh) (w w':World):Prop where
  gw:Grw w w'
  kp:∀g,g < w.heap.size→(∀q,T.al q→g∉gh.f q)→w'.heap[g]? =w.heap[g]?
  nn:∀g,gh'.N g→gh.N g∨w.heap.size≤g∨∃q,T.al q∧g∈gh.f q
  ox:∀q,T'.al q→∀g∈gh'.f q,w.heap.size≤g∨∃q',T.al q'∧g∈gh.f q'
def FC (P:Program)(f:FuncId)(args:List (Bool×List LV))(T:Tab)(k:Nat)(O:PV→Tab→Prop):Prop:=
 ∀(gh:Gh) (w:World) (vs:List Value),Cx T gh w→CmsR T.al gh w args vs→
  Calls P f vs.toArray w fun e w'=>∃v pv T' gh',e= .returned v∧O pv T'∧Cx T' gh' w'∧PVR T'.al gh' w' pv v∧Fr T T' gh gh' w w'∧∀q,q < k→T'.al q→gh'.h q=gh.h q
def Qb5:Nat→List (Bool×List LV)→List (Nat×PV)
 | _,[]=>[]
 | i,c :: cs=>(i, .cm c.1 c.2) :: Qb5 (i+1) cs
section
variable {P:Program}
theorem Qel {al:Nat→Prop}{gh:Gh}{w:World}:∀{cs:List (Bool×List LV)} {vs:List Value} {k i:Nat} {pv:PV},CmsR al gh w cs vs→lk (Qb5 k cs) i=some pv→∃v,k≤i∧vs[i - k]? =some v∧PVR al gh w pv v
 | [],_,_,_,_,_,h=>by cases h
 | c :: cs,_,k,i,pv,⟨v,vs',hv,h1,h2⟩,h=>by
  subst hv
  rw[Qb5,WB] at h
  by_cases e:i=k
  ·rw[if_pos e] at h
   cases h
   exact ⟨v,by omega,by simp[e],h1⟩
  ·rw[if_neg e] at h
   obtain ⟨d,f,a,b⟩:=Qel h2 h
   exact ⟨d,by omega,by rw[show i - k=i - (k+1)+1 by omega]; exact a,b⟩
theorem CmsR.len {al:Nat→Prop}{gh:Gh}{w:World}{cs:List (Bool×List LV)}{vs:List Value}(h:CmsR al gh w cs vs):vs.length=cs.length:=by
 induction cs generalizing vs with
 | nil=>rw[show vs=[] from h]; rfl
 | cons c cs b=>obtain ⟨v,d,rfl,_,a⟩:=h; simp[b a]
def Res (A:Amb)(P:Program)(fn:Func)(s:St)(pv:PV):Prop:=∀gh a w,Rg A s gh a w→∃v,(results fn a.tmps).run P w= .ok v w∧PVR s.tab.al gh w pv v
def fin (A:Amb)(P:Program)(fn:Func)(O:PV→Tab→Prop):Exit→St→Prop
 | .ret,s=>∃pv,Res A P fn s pv∧O pv s.tab
 | .normal,s=>∃pv,Res A P fn s pv∧O pv s.tab
 | _,_=>False
theorem Qxk {f:FuncId}{fn:Func}{c:Code}{args:List (Bool×List LV)}{T:Tab}{k:Nat}{O:PV→Tab→Prop}(M:P.funcs[f]? =some fn)(hb:fn.body=some c)(U:Nat.ble args.length fn.ntmps=true)
 (h:∀A:Amb,A.n=fn.ntmps→A.k0=k→AC A P c (fin A P fn O) ⟨Qb5 0 args,T⟩):FC P f args T k O:=fun m w y J G=>by
 let A:Amb:=⟨w,fun g=>m.N g∨∃q,T.al q∧g∈m.f q,fun g=>∀q,T.al q→g∉m.f q,fn.ntmps,k,m.h,m.f⟩
 have H:=G.len
 have V:args.length≤fn.ntmps:=aA U
 have r:R A ⟨Qb5 0 args,T⟩ {tmps:=y.toArray++Array.replicate (fn.ntmps - y.toArray.size) undef,defers:=[]} w:=by
  refine ⟨m,J, ?_,rfl,fun i o S=> ?_,QV _,fun _ _ _=>rfl,fun g d=> .inl (.inl d),fun q p g d _ x=>x q p d,fun _ _ _=>rfl,fun g _ x=> .inr (ck fun E=>x fun q p d=>E ⟨q,p,d⟩)⟩
  ·simp only[Array.size_append,List.size_toArray,Array.size_replicate]
   show y.length+(fn.ntmps - y.length)=fn.ntmps
   omega
  ·obtain ⟨v,_,z,B⟩:=Qel G S
   refine ⟨v, ?_,B⟩
   have:i < y.length:=by have:=(ah.1 z).1; simpa using this
   rw[Array.getElem?_append_left (by simpa using this)]
   simpa using z
 refine calls_of_wp M hb (wp_mono (h A rfl rfl _ _ r) fun e a t q=> ?_)
 have done:∀s,R A s a t→(∃o,Res A P fn s o∧O o s.tab)→a.defers=[]∧∃v,(results fn a.tmps).run P t= .ok v t∧
  ∃I o u b,Ending.returned v= .returned I∧O o u∧Cx u b t∧PVR u.al b t o I∧Fr T u m b w t∧∀q,q < k→u.al q→b.h q=m.h q:=by
  rintro s ⟨b,j⟩ ⟨o,K,z⟩
  obtain ⟨v,B,L⟩:=K b a t j
  refine ⟨j.df,v,B,v,o,s.tab,b,rfl,z,j.cx,L,⟨j.gw,fun g d x=>j.kp g x d,fun g d=> ?_,fun q p g d=> ?_⟩,fun q p C=>j.hh q p C⟩
  ·rcases j.fr g d with (l | l) | l
   ·exact .inl l
   ·exact .inr (.inr l)
   ·exact .inr (.inl l)
  ·rcases dp g w.heap.size with l | l
   ·right
    exact ck fun E=>j.ox q p g d l fun W F D=>E ⟨W,F,D⟩
   ·exact .inl l
 obtain ⟨s,q,j⟩:=q
 cases e with
 | ret=>exact done s j q
 | normal=>exact done s j q
 | exit _=>exact q.elim
 | goto _=>exact q.elim
 | panic _=>exact q.elim
 | outgrown=>exact q.elim
end
def QuJ (tmps:Array Value):ResultVar→Sem Value
 | .tmp t=>pure (tmps.getD t undef)
 | .cell a t=>do loadVar t (← asAddr (tmps.getD a undef))
theorem Vg {α β:Type}(m:Sem α)(f:α→Sem β):Sem.bind m f=m >>= f:=rfl
theorem Up (fn:Func)(tmps:Array Value):results fn tmps=(fn.results.mapM (QuJ tmps)).bind fun vs=>pure (if h:vs.size=1 then vs[0] else .tuple vs):=by
 unfold results
 show Sem.bind _ _=Sem.bind _ _
 congr 1
section
variable {A:Amb}{P:Program}{fn:Func}{s:St}
def Rs (A:Amb)(P:Program)(s:St)(r:ResultVar)(c:Bool×List LV):Prop:=∀gh a w,Rg A s gh a w→∃v,(QuJ a.tmps r).run P w= .ok v w∧CmR s.tab.al gh w c v
theorem Vu {t:Nat}{b:Bool}{ls:List LV}(h:lk s.tm t=some (.cm b ls)):Rs A P s (.tmp t) (b,ls):=fun c a w r=>⟨_,rfl,Ql h c a w r⟩
theorem Res.one {r:ResultVar}{b:Bool}{ls:List LV}(f:fn.results= #[r])(h:Rs A P s r (b,ls)):Res A P fn s (.cm b ls):=fun c a w g=>by
 obtain ⟨v,d,e⟩:=h c a w g
 refine ⟨v, ?_,e⟩
 rw[Up,f]; simp[Vg,d,dY]
theorem Y9 {e f:ResultVar}{c1 c2:Bool×List LV}(n:fn.results= #[e,f])(l:Rs A P s e c1)(m:Rs A P s f c2):Res A P fn s (.tup [c1,c2]):=fun d a w g=>by
 obtain ⟨c,h,j⟩:=l d a w g
 obtain ⟨b,i,k⟩:=m d a w g
 refine ⟨.tuple #[c,b], ?_,[c,b],rfl,c,[b],rfl,j,b,[],rfl,k,rfl⟩
 rw[Up,n]; simp[Vg,h,i,dY]
theorem QbY {f h i:ResultVar}{c1 c2 c3:Bool×List LV}(t:fn.results= #[f,h,i])(p:Rs A P s f c1)(q:Rs A P s h c2)(r:Rs A P s i c3):Res A P fn s (.tup [c1,c2,c3]):=fun d a w g=>by
 obtain ⟨e,j,m⟩:=p d a w g
 obtain ⟨c,k,n⟩:=q d a w g
 obtain ⟨b,l,o⟩:=r d a w g
 refine ⟨.tuple #[e,c,b], ?_,[e,c,b],rfl,e,[c,b],rfl,m,c,[b],rfl,n,b,[],rfl,o,rfl⟩
 rw[Up,t]; simp[Vg,j,k,l,dY]
end
end Go.Proofs.YtndabgcpnmeeoaaGreat
namespace Go.Proofs.YtndabgcpnmeeoaaGreat
open Go.RowKit
section
variable {A:Amb}{P:Program}{s:St}{x y:Operand}{d:Nat}{T T' ty:TypeId}{pos:String}{af:Array Edge}{g:Option (Nat×Bool)}
theorem Evl.i {m:Int}(h:Evl A s x (dI m)){gh:Gh}{a:Act}{w:World}(r:Rg A s gh a w):a.eval x= .int .i64 m:=(LVR.int (h gh a w r)).1
theorem Evl.b {m:Bool}(h:Evl A s x (dB m)){gh:Gh}{a:Act}{w:World}(r:Rg A s gh a w):a.eval x= .bool m:=LVR.bool (h gh a w r)
theorem Evl.st {m:ByteArray}(h:Evl A s x (dS m)){gh:Gh}{a:Act}{w:World}(r:Rg A s gh a w):a.eval x= .string m:=(LVR.str (h gh a w r)).1
theorem Evl.u {m:UInt8}(h:Evl A s x (.dat .u8 m)){gh:Gh}{a:Act}{w:World}(r:Rg A s gh a w):a.eval x= .int .u8 m.toNat:=LVR.u8 (h gh a w r)
theorem Hk {t:Nat}{pv:PV}(h:lk s.tm t=some pv)(f:Nat.blt d A.n=true):Does A P ⟨some d, .move (.tmp t),ty,pos,af,g⟩ s (s.put d pv):=
 Qi rfl f fun i a w r=>by
  obtain ⟨v,b,c⟩:=r.tm t pv h
  have e:a.eval (.tmp t)=v:=by
   show a.tmps.getD t undef=v
   rw[cc,b]; rfl
  exact ⟨v,by show Result.ok (Next.value (a.eval (.tmp t))) w=_; rw[e],c⟩
theorem UA {t:Nat}{pv:PV}(h:lk s.tm t=some pv)(f:Nat.blt d A.n=true):Does A P ⟨some d, .assign (.tmp t),ty,pos,af,g⟩ s (s.put d pv):=
 Qi rfl f fun i a w r=>by
  obtain ⟨v,b,c⟩:=r.tm t pv h
  have e:a.eval (.tmp t)=v:=by
   show a.tmps.getD t undef=v
   rw[cc,b]; rfl
  exact ⟨v,by show Result.ok (Next.value (a.eval (.tmp t))) w=_; rw[e],c⟩
theorem Qeb {l:LV}(h:Evl A s x l)(c:Nat.blt d A.n=true):Does A P ⟨some d, .move x,ty,pos,af,g⟩ s (s.put d (lf l)):=
 Qi rfl c fun b a w r=>⟨a.eval x,rfl,l,rfl,h b a w r⟩
theorem Wn {l:LV}(h:Evl A s x l)(c:Nat.blt d A.n=true):Does A P ⟨some d, .assign x,ty,pos,af,g⟩ s (s.put d (lf l)):=
 Qi rfl c fun b a w r=>⟨a.eval x,rfl,l,rfl,h b a w r⟩
theorem QaY {t i:Nat}{cs:List (Bool×List LV)}{b:Bool}{ls:List LV}(h:lk s.tm t=some (.tup cs))(hi:cs[i]? =some (b,ls))(u:Nat.blt d A.n=true):
 Does A P ⟨some d, .extract (.tmp t) i,ty,pos,af,g⟩ s (s.put d (.cm b ls)):=
 Qi rfl u fun m a w r=>by
  obtain ⟨v,o,f,rfl,p⟩:=r.tm t _ h
  have e:a.eval (.tmp t)= .tuple f.toArray:=by
   show a.tmps.getD t undef=_
   rw[cc,o]; rfl
  have q:∀(cs:List (Bool×List LV)) (f:List Value) (i:Nat),CmsR s.tab.al m w cs f→cs[i]? =some (b,ls)→∃v,f[i]? =some v∧CmR s.tab.al m w (b,ls) v:=by
   intro cs
   induction cs with
   | nil=>intro f i _ h; simp at h
   | cons c cs z=>
    rintro f i ⟨v,l,rfl,j,k⟩ hi
    cases i with
    | zero=>simp at hi; subst hi; exact ⟨v,rfl,j⟩
    | succ i=>
     obtain ⟨D,B,C⟩:=z l i k (by simpa using hi)
     exact ⟨D,by simpa using B,C⟩
  obtain ⟨v,j,k⟩:=q cs f i p hi
  exact ⟨v,by simp only[execOp,e,Instr.extract]; simp[j,ay],k⟩
theorem QaZ {m n:Int}(f:Evl A s x (dI m))(h:Evl A s y (dI n))(e:Nat.blt d A.n=true):Does A P ⟨some d, .binOp .lss T x y T',ty,pos,af,g⟩ s (s.put d (lf (dB (decide (m < n))))):=
 Qi rfl e fun j a w r=>⟨.bool (decide (m < n)),by
  have b:=f.i r
  have c:=h.i r
  simp only[execOp,b,c,eqGuard_at_int,binOp,Op.intCmp]
  simp,_,rfl,ZI⟩
theorem Qi3 {m n:Int}(f:Evl A s x (dI m))(h:Evl A s y (dI n))(e:Nat.blt d A.n=true):Does A P ⟨some d, .binOp .leq T x y T',ty,pos,af,g⟩ s (s.put d (lf (dB (decide (m≤n))))):=
 Qi rfl e fun j a w r=>⟨.bool (decide (m≤n)),by
  have b:=f.i r
  have c:=h.i r
  simp only[execOp,b,c,eqGuard_at_int,binOp,Op.intCmp]
  simp,_,rfl,ZI⟩
theorem Qi1 {m n:Int}(f:Evl A s x (dI m))(h:Evl A s y (dI n))(e:Nat.blt d A.n=true):Does A P ⟨some d, .binOp .gtr T x y T',ty,pos,af,g⟩ s (s.put d (lf (dB (decide (n < m))))):=
 Qi rfl e fun j a w r=>⟨.bool (decide (n < m)),by
  have b:=f.i r
  have c:=h.i r
  simp only[execOp,b,c,eqGuard_at_int,binOp,Op.intCmp]
  simp,_,rfl,ZI⟩
theorem Qi0 {m n:Int}(f:Evl A s x (dI m))(h:Evl A s y (dI n))(e:Nat.blt d A.n=true):Does A P ⟨some d, .binOp .geq T x y T',ty,pos,af,g⟩ s (s.put d (lf (dB (decide (n≤m))))):=
 Qi rfl e fun j a w r=>⟨.bool (decide (n≤m)),by
  have b:=f.i r
  have c:=h.i r
  simp only[execOp,b,c,eqGuard_at_int,binOp,Op.intCmp]
  simp,_,rfl,ZI⟩
theorem Xh {m n:Int}(f:Evl A s x (dI m))(h:Evl A s y (dI n))(e:Nat.blt d A.n=true):Does A P ⟨some d, .binOp .eql T x y T',ty,pos,af,g⟩ s (s.put d (lf (dB (decide (m=n))))):=
 Qi rfl e fun j a w r=>⟨.bool (decide (m=n)),by
  have b:=f.i r
  have c:=h.i r
  simp only[execOp,b,c,eqGuard_at_int,binOp,Op.intCmp]
  simp; rfl,_,rfl,ZI⟩
theorem Qi5 {m n:Int}(f:Evl A s x (dI m))(h:Evl A s y (dI n))(e:Nat.blt d A.n=true):Does A P ⟨some d, .binOp .neq T x y T',ty,pos,af,g⟩ s (s.put d (lf (dB (!decide (m=n))))):=
 Qi rfl e fun j a w r=>⟨.bool (!decide (m=n)),by
  have b:=f.i r
  have c:=h.i r
  simp only[execOp,b,c,eqGuard_at_int,binOp,Op.intCmp]
  simp; rfl,_,rfl,ZI⟩
theorem Wm {m n:Int}(h:Evl A s x (dI m))(j:Evl A s y (dI n))(f:Nat.blt d A.n=true)(hb: -9223372036854775808≤m+n∧m+n≤9223372036854775807):Does A P ⟨some d, .binOp .add T x y T',ty,pos,af,g⟩ s (s.put d (lf (dI (m+n)))):=
 Qi rfl f fun k a w r=>⟨.int .i64 (m+n),by
  have b:=h.i r
  have c:=j.i r
  have e:IntKind.i64.wrap (m+n)=m+n:=IntWalk.i64_in _ (by omega)
  simp only[execOp,b,c,eqGuard_at_int,binOp,Op.intArith,e]
  simp,_,rfl,Yj hb⟩
theorem V8 {m n:Int}(h:Evl A s x (dI m))(j:Evl A s y (dI n))(f:Nat.blt d A.n=true)(hb: -9223372036854775808≤m - n∧m - n≤9223372036854775807):Does A P ⟨some d, .binOp .sub T x y T',ty,pos,af,g⟩ s (s.put d (lf (dI (m - n)))):=
 Qi rfl f fun k a w r=>⟨.int .i64 (m - n),by
  have b:=h.i r
  have c:=j.i r
  have e:IntKind.i64.wrap (m - n)=m - n:=IntWalk.i64_in _ (by omega)
  simp only[execOp,b,c,eqGuard_at_int,binOp,Op.intArith,e]
  simp,_,rfl,Yj hb⟩
theorem Qqr {m n:Int}(h:Evl A s x (dI m))(j:Evl A s y (dI n))(f:Nat.blt d A.n=true)(hb: -9223372036854775808≤m*n∧m*n≤9223372036854775807):Does A P ⟨some d, .binOp .mul T x y T',ty,pos,af,g⟩ s (s.put d (lf (dI (m*n)))):=
 Qi rfl f fun k a w r=>⟨.int .i64 (m*n),by
  have b:=h.i r
  have c:=j.i r
  have e:IntKind.i64.wrap (m*n)=m*n:=IntWalk.i64_in _ (by omega)
  simp only[execOp,b,c,eqGuard_at_int,binOp,Op.intArith,e]
  simp,_,rfl,Yj hb⟩
theorem Qi7 {m n:Int}(b:Evl A s x (dI m))(f:Evl A s y (dI n))(e:Nat.blt d A.n=true)(h0:0≤m)(p:0 < n):Does A P ⟨some d, .binOp .quo T x y T',ty,pos,af,g⟩ s (s.put d (lf (dI (m / n)))):=
 Qi rfl e fun c a w r=>by
  have h:=b.i r
  have j:=f.i r
  have q:=(LVR.int (b c a w r)).2
  have k:m.tdiv n=m / n:=Int.tdiv_eq_ediv_of_nonneg h0
  have t:0≤m / n:=Int.ediv_nonneg h0 (by omega)
  have u:m / n≤m:=Int.ediv_le_self _ h0
  have l:IntKind.i64.wrap (m / n)=m / n:=IntWalk.i64_in _ (by omega)
  have o:n≠0:=by omega
  refine ⟨.int .i64 (m / n), ?_,_,rfl,Yj (by omega)⟩
  simp only[execOp,h,j,eqGuard_at_int,binOp,Op.intDiv,k,l]
  simp[o]
theorem Qi8 {m n:Int}(c:Evl A s x (dI m))(e:Evl A s y (dI n))(h:Nat.blt d A.n=true)(h0:0≤m)(f:0 < n):Does A P ⟨some d, .binOp .rem T x y T',ty,pos,af,g⟩ s (s.put d (lf (dI (m % n)))):=
 Qi rfl h fun b a w r=>by
  have j:=c.i r
  have k:=e.i r
  have p:=(LVR.int (c b a w r)).2
  have u:=(LVR.int (e b a w r)).2
  have l:m.tmod n=m % n:=Int.tmod_eq_emod_of_nonneg h0
  have q:0≤m % n:=Int.emod_nonneg _ (by omega)
  have t:m % n < n:=Int.emod_lt_of_pos _ f
  have o:n≠0:=by omega
  refine ⟨.int .i64 (m % n), ?_,_,rfl,Yj (by omega)⟩
  simp only[execOp,j,k,eqGuard_at_int,binOp,Op.intDiv,l]
  simp[o]
theorem QmW {a b:UInt8}:((a.toNat:Int)==(b.toNat:Int))=decide (a=b):=by
 rw[cF]
 simp only[beq_iff_eq,aS]
 constructor
 ·intro h; exact UInt8.toNat_inj.1 (by omega)
 ·rintro rfl; rfl
theorem Zm {m n:UInt8}(f:Evl A s x (.dat .u8 m))(h:Evl A s y (.dat .u8 n))(e:Nat.blt d A.n=true):Does A P ⟨some d, .binOp .eql T x y T',ty,pos,af,g⟩ s (s.put d (lf (dB (decide (m=n))))):=
 Qi rfl e fun i a w r=>⟨.bool (decide (m=n)),by
  have b:=f.u r
  have c:=h.u r
  simp only[execOp,b,c,eqGuard_at_int,binOp,Op.intCmp]
  simp[QmW,bne,UInt8.lt_iff_toNat_lt,UInt8.le_iff_toNat_le],_,rfl,ZI⟩
theorem Zy {m n:UInt8}(f:Evl A s x (.dat .u8 m))(h:Evl A s y (.dat .u8 n))(e:Nat.blt d A.n=true):Does A P ⟨some d, .binOp .neq T x y T',ty,pos,af,g⟩ s (s.put d (lf (dB (!decide (m=n))))):=
 Qi rfl e fun i a w r=>⟨.bool (!decide (m=n)),by
  have b:=f.u r
  have c:=h.u r
  simp only[execOp,b,c,eqGuard_at_int,binOp,Op.intCmp]
  simp[QmW,bne,UInt8.lt_iff_toNat_lt,UInt8.le_iff_toNat_le],_,rfl,ZI⟩
theorem QdY {a b:ByteArray}:(a.toList==b.toList)=decide (a=b):=by
 rw[cF]
 simp only[beq_iff_eq,aS]
 constructor
 ·intro h
  rw[bB,bB] at h
  cases a; cases b
  simpa using h
 ·rintro rfl; rfl
theorem VT {m n:ByteArray}(f:Evl A s x (dS m))(h:Evl A s y (dS n))(e:Nat.blt d A.n=true):Does A P ⟨some d, .binOp .eql T x y T',ty,pos,af,g⟩ s (s.put d (lf (dB (decide (m=n))))):=
 Qi rfl e fun i a w r=>⟨.bool (decide (m=n)),by
  have b:=f.st r
  have c:=h.st r
  simp only[execOp,b,c,eqGuard_at_string,binOp,Op.stringOp]
  simp[QdY],_,rfl,ZI⟩
theorem Qgu {m n:ByteArray}(f:Evl A s x (dS m))(h:Evl A s y (dS n))(e:Nat.blt d A.n=true):Does A P ⟨some d, .binOp .neq T x y T',ty,pos,af,g⟩ s (s.put d (lf (dB (!decide (m=n))))):=
 Qi rfl e fun i a w r=>⟨.bool (!decide (m=n)),by
  have b:=f.st r
  have c:=h.st r
  simp only[execOp,b,c,eqGuard_at_string,binOp,Op.stringOp]
  simp[QdY],_,rfl,ZI⟩
theorem QoO {m n:ByteArray}(f:Evl A s x (dS m))(h:Evl A s y (dS n))(e:Nat.blt d A.n=true):Does A P ⟨some d, .binOp .lss T x y T',ty,pos,af,g⟩ s (s.put d (lf (dB (Op.bytesLess m.toList n.toList)))):=
 Qi rfl e fun i a w r=>⟨.bool (Op.bytesLess m.toList n.toList),by
  have b:=f.st r
  have c:=h.st r
  simp only[execOp,b,c,eqGuard_at_string,binOp,Op.stringOp]
  simp[QdY],_,rfl,ZI⟩
theorem Q7 {m n:ByteArray}(f:Evl A s x (dS m))(h:Evl A s y (dS n))(e:Nat.blt d A.n=true)(hb:m.size+n.size≤9223372036854775807):Does A P ⟨some d, .binOp .add T x y T',ty,pos,af,g⟩ s (s.put d (lf (dS (m++n)))):=
 Qi rfl e fun i a w r=>⟨.string (m++n),by
  have b:=f.st r
  have c:=h.st r
  simp only[execOp,b,c,eqGuard_at_string,binOp]
  simp[ay,run_string_add_sum w m n hb],_,rfl,QhF (by unfold maxLen; simpa using hb)⟩
theorem Qgq {m n:Bool}(i:Evl A s x (dB m))(j:Evl A s y (dB n))(h:Nat.blt d A.n=true)(f:P.underlying T=some .bool):Does A P ⟨some d, .binOp .eql T x y T',ty,pos,af,g⟩ s (s.put d (lf (dB (m==n)))):=
 Qi rfl h fun k a w r=>⟨.bool (m==n),by
  have c:=i.b r
  have e:=j.b r
  simp only[execOp,c,e,eqGuard_at_bool]
  simp[run_eql_bool _ _ _ _ f,ay],_,rfl,ZI⟩
theorem X6 {m n:Bool}(i:Evl A s x (dB m))(j:Evl A s y (dB n))(h:Nat.blt d A.n=true)(f:P.underlying T=some .bool):Does A P ⟨some d, .binOp .neq T x y T',ty,pos,af,g⟩ s (s.put d (lf (dB (!(m==n))))):=
 Qi rfl h fun k a w r=>⟨.bool (!(m==n)),by
  have c:=i.b r
  have e:=j.b r
  simp only[execOp,c,e,eqGuard_at_bool]
  simp[run_neq_bool _ _ _ _ f,ay],_,rfl,ZI⟩
theorem Qi6 {m:Bool}(f:Evl A s x (dB m))(e:Nat.blt d A.n=true):Does A P ⟨some d, .unOp .not T x,ty,pos,af,g⟩ s (s.put d (lf (dB (!m)))):=
 Qi rfl e fun h a w r=>⟨.bool (!m),by
  have c:=f.b r
  simp only[execOp,c,unary_not]
  simp,_,rfl,ZI⟩
theorem QcT {m:ByteArray}{i:Int}{c:UInt8}(k:Evl A s x (dS m))(l:Evl A s y (dI i))(j:Nat.blt d A.n=true)(f:P.underlying T=some .string)(h0:0≤i)(h:m[i.toNat]? =some c):
 Does A P ⟨some d, .index T x y,ty,pos,af,g⟩ s (s.put d (lf (.dat .u8 c))):=
 Qi rfl j fun o a w r=>⟨.int .u8 c.toNat,by
  have b:=k.st r
  have e:=l.i r
  simp only[execOp,b,e,Instr.index,asIntOf]
  simp[run_underlying f,h0,h,ay],_,rfl,Qtp⟩
theorem Yq {m:ByteArray}(b:Evl A s x (dS m))(i:Nat.blt d A.n=true)(h:P.underlying T=some .string):Does A P ⟨some d, .call ⟨.builtin .len, #[x], #[T]⟩,ty,pos,af,g⟩ s (s.put d (lf (dI m.size))):=
 Qi rfl i fun c a w r=>by
  have e:=b.st r
  have f:=(LVR.str (b c a w r)).2
  refine ⟨.int .i64 m.size, ?_,_,rfl,Yj (by unfold maxLen at f; omega)⟩
  simp only[execOp,resolve,invoke,builtin]
  simp[ay,e,run_len_string w T ty m h,goInt]
theorem Does.len {E:TypeId}{e:Ty}{l:List e.Den}(m:Evl A s x (.dat (.sl E e) l))(k:Nat.blt d A.n=true)(b:P.underlying T=some (.slice E)):Does A P ⟨some d, .call ⟨.builtin .len, #[x], #[T]⟩,ty,pos,af,g⟩ s (s.put d (lf (dI l.length))):=
 Qi rfl k fun f a w r=>by
  obtain ⟨B,c,h,o,i⟩:=(Rd.rep (m f a w r)).slv
  have j:P.elem T=E:=by simp[Program.elem,b]
  refine ⟨.int .i64 l.length, ?_,_,rfl,Yj (by unfold maxLen at i; omega)⟩
  simp only[execOp,resolve,invoke,builtin]
  simp[ay,h,run_len_slice w T ty B l.length c (by rw[j]; exact b),goInt]
theorem Qgs {q:Nat}{E E':TypeId}{e:Ty}{l:List e.Den}(v:Evl A s x (.ref q))(j:s.tab.ent q=some (.arr E e l))(u:Nat.blt d A.n=true)(i:P.underlying T=some (.slice E')):
 Does A P ⟨some d, .call ⟨.builtin .len, #[x], #[T]⟩,ty,pos,af,g⟩ s (s.put d (lf (dI l.length))):=
 Qi rfl u fun b a w r=>by
  have k:a.eval x=b.h q:=v b a w r ⟨_,j⟩
  have t:Own (.sl E e) w (b.f q) [b.h q] l:=r.cx.en q _ j
  obtain ⟨B,c,m,z,o⟩:=t.rep.slv
  have p:P.elem T=E':=by simp[Program.elem,i]
  refine ⟨.int .i64 l.length, ?_,_,rfl,Yj (by unfold maxLen at o; omega)⟩
  simp only[execOp,resolve,invoke,builtin]
  simp[ay,k,m,run_len_slice w T ty B l.length c (by rw[p]; exact i),goInt]
end
end Go.Proofs.YtndabgcpnmeeoaaGreat
