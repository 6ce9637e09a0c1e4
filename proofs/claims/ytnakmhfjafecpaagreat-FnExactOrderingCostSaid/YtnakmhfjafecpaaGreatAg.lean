/- Abstract states: maps of one's own, read and written. No program is named here. -/
import Derived.Test.YtnakmhfjafecpaaGreatAk
import Derived.Maps.Keyed
import Derived.StringKeys
import Derived.Carry
import Derived.Laws.StructEq
import Derived.Laws.CopyRow
import Derived.Test.YtnakmhfjafecpaaGreatAf
set_option linter.unusedSimpArgs false
set_option linter.unusedVariables false
set_option linter.unusedSectionVars false
namespace Go.Proofs.YtnakmhfjafecpaaGreat
open Go.RowKit
theorem QcM {A:Amb}{P:Program}{s:St}{fn:Func}{r1 r2 r3 r4:ResultVar}{c1 c2 c3 c4:Bool×List LV}(hr:fn.results= #[r1,r2,r3,r4])(h1:Rs A P s r1 c1)(h2:Rs A P s r2 c2)(h3:Rs A P s r3 c3)(h4:Rs A P s r4 c4):Res A P fn s (.tup [c1,c2,c3,c4]):=fun gh a w g=>by
  obtain ⟨v1,a1,b1⟩:=h1 gh a w g
  obtain ⟨v2,a2,b2⟩:=h2 gh a w g
  obtain ⟨v3,a3,b3⟩:=h3 gh a w g
  obtain ⟨v4,a4,b4⟩:=h4 gh a w g
  refine ⟨.tuple #[v1,v2,v3,v4], ?_,[v1,v2,v3,v4],rfl,v1,[v2,v3,v4],rfl,b1,v2,[v3,v4],rfl,b2,v3,[v4],rfl,b3,v4,[],rfl,b4,rfl⟩
  rw[Va,hr]; simp[Wg,a1,a2,a3,a4,Sem.run_bind]
theorem Qo7 {b w:Bool}(h:(!b)=w):b= !w:=by cases b <;> subst h <;> rfl
theorem QmO {b w:Bool}(h:b=w):(!b)= !w:=by rw[h]
theorem Q8 {A:Amb}{P:Program}{s:St}{Q:Exit→St→Prop}{ops:Array Oper}{o:Oper}{l:List Oper}{j d:Nat}{b:Bool}(hg:o.guard=some (j,b))(hd:(ops[j]?).bind (·.dst)=some d)(hb:lk s.tm d=some (lf (.val undef)))
    (k:AL A P ops l Q (match o.dst with | some d'=>s.put d' (lf (.val undef)) | none=>s)) (hn:(match o.dst with | some d'=>Nat.blt d' A.n | none=>true)=true):AL A P ops (o :: l) Q s:=fun a w r=>by
  obtain ⟨gh,r'⟩:=r
  have hy:yielded ops a.tmps j=none:=by
    obtain ⟨v,h1,l,h2,h3⟩:=r'.tm d _ hb
    simp only[List.cons.injEq,and_true] at h2
    subst h2
    have h3:v=undef:=h3
    subst h3
    simp[yielded,hd,h1,undef]
  refine wpList_step fun K hK=> ?_
  rw[if_neg (by simp[Region.wanted,hg,hy])]
  refine hK _ _ (k _ _ ?_)
  cases hdst:o.dst with
  | none=>exact ⟨gh,r'⟩
  | some d'=>
    rw[hdst] at hn
    exact ⟨gh,r'.put (Nat.le_of_ble_eq_true hn) (pv:=lf (.val undef)) ⟨_,rfl,rfl⟩⟩
theorem QaS {P:Program}{T E:TypeId}{w:World}{B:Option Addr}{n c:Nat}(d:Nat)(h:P.underlying T=some (.slice E)):(Op.equalIn (d+1) T (.slice B n c) (.slice none 0 0)).run P w= .ok B.isNone w:=by
  cases B <;> simp[Op.equalIn,run_underlying h]
theorem QdR {P:Program}{T E:TypeId}{w:World}{B:Option Addr}{n c:Nat}(h:P.underlying T=some (.slice E)):(binOp .eql T (.slice B n c) (.slice none 0 0)).run P w= .ok (.bool B.isNone) w:=by
  have h1:=QaS (w:=w) (B:=B) (n:=n) (c:=c) 9999 h
  simp only[binOp]
  simp[Op.equal,Op.maxDepth,h1]
theorem Ql9 {A:Amb}{P:Program}{s:St}{x y:Operand}{d:Nat}{T T' ty:TypeId}{pos:String}{af:Array Edge}{ops:Array Oper}{l:List Oper}{Q:Exit→St→Prop}{E E':TypeId}{e:Ty}{xs:List e.Den}(hx:Evl A s x (.dat (.sl E e) xs))(hy:Evl A s y (.val (.slice none 0 0)))
    (hT:P.underlying T=some (.slice E')) (hn:Nat.blt d A.n=true) (k:∀b:Bool,(b=true→xs=[])→AL A P ops l Q (s.put d (lf (dB b)))):AL A P ops (⟨some d, .binOp .eql T x y T',ty,pos,af,none⟩ :: l) Q s:=
  fun a w r=>wpList_plain rfl fun _ hK=>by
    obtain ⟨gh,r'⟩:=r
    obtain ⟨B,c,hv,h1,h2,h3⟩:=Rd.rep (hx gh a w r')
    simp only[List.cons.injEq,and_true] at hv
    have hy':a.eval y= .slice none 0 0:=hy gh a w r'
    have e:(execOp a.eval ⟨some d, .binOp .eql T x y T',ty,pos,af,none⟩).run P w= .ok (.value (.bool B.isNone)) w:=by
      simp only[execOp,hv,hy',eqGuard_at_slice]
      simp[Go.Sem.run_bind,QdR hT]
    unfold Oper.wp
    rw[e,Oper.upon_value]
    refine hK _ _ (k B.isNone (fun h=> ?_) _ _ ⟨gh,r'.put (Nat.le_of_ble_eq_true hn) (pv:=lf (dB B.isNone)) ⟨_,rfl,Z0⟩⟩)
    cases xs with
    | nil=>rfl
    | cons z zs=>
      obtain ⟨b,o,h4,_⟩:=h3 (by simp)
      rw[h4] at h
      cases h
theorem Qhn {A:Amb}{P:Program}{s:St}{x y:Operand}{d:Nat}{T ty:TypeId}{pos:String}{af:Array Edge}{g:Option (Nat×Bool)}(t:Nat){E:TypeId}{e:Ty}{n:Int}{z:Value}{bytes:Nat}(hx:Evl A s x (dI n))(hy:Evl A s y (dI n))(hT:P.underlying T=some (.slice E))(hi:(P.info? E).map (fun i=>(i.zero,i.size,i.bytes))=some (some z,e.wd,bytes))
    (hz:z.cells.toList=e.zeros) (h0:0≤n) (hb:bytes*n.toNat≤281474976710656) (hm:n.toNat≤1073741824) (hn:Nat.blt d A.n=true) (hfr:Fresh s t) (hk0:A.k0≤t):Does A P ⟨some d, .makeSlice T x y,ty,pos,af,g⟩ s (s.mk_ d t [] E e (List.replicate n.toNat e.zero)):=by
  have e0:n=(n.toNat:Int):=by omega
  rw[e0] at hx hy
  exact VX t hx hy hT hi hz hb hm hn hfr hk0
def Qh6 {α:Type}(f:α→α→Bool):List α→List α→Bool
  | [],[]=>true
  | x :: xs,y :: ys=>f x y&&Qh6 f xs ys
  | _,_=>false
def Ty.beq:(t:Ty)→t.Den→t.Den→Bool
  | .int,x,y=>decide ((x:Int)=y)
  | .bool,x,y=>(x:Bool)==y
  | .str,x,y=>decide ((x:ByteArray)=y)
  | .u8,x,y=>decide ((x:UInt8)=y)
  | .vl,x,y=>decide ((x:Hdr)=y)
  | .sl _ e,x,y=>Qh6 e.beq x y
  | .pr a b,x,y=>a.beq x.1 y.1&&b.beq x.2 y.2
theorem Qf0 {α:Type}{f:α→α→Bool}(h:∀x y,f x y=true↔x=y):∀xs ys:List α,Qh6 f xs ys=true↔xs=ys
  | [],[]=>by simp[Qh6]
  | [],_ :: _=>by simp[Qh6]
  | _ :: _,[]=>by simp[Qh6]
  | x :: xs,y :: ys=>by simp[Qh6,h,Qf0 h xs ys]
theorem Ty.beq_iff:∀(t:Ty) (x y:t.Den),t.beq x y=true↔x=y
  | .int,x,y=>by simp[Ty.beq]
  | .bool,x,y=>by simp[Ty.beq]
  | .str,x,y=>by simp[Ty.beq]
  | .u8,x,y=>by simp[Ty.beq]
  | .vl,x,y=>by simp[Ty.beq]
  | .sl _ e,x,y=>Qf0 (Ty.beq_iff e) x y
  | .pr a b,x,y=>by
    obtain ⟨x1,x2⟩:=x
    obtain ⟨y1,y2⟩:=y
    simp[Ty.beq,Ty.beq_iff a,Ty.beq_iff b]
def Ty.fcs:(t:Ty)→t.Den→List Value
  | .int,x=>[.int .i64 x]
  | .bool,x=>[.bool x]
  | .str,x=>[.string x]
  | .u8,x=>[.int .u8 (x:UInt8).toNat]
  | .vl,x=>[hdV x]
  | .sl _ _,_=>[]
  | .pr a b,x=>a.fcs x.1++b.fcs x.2
theorem Rep.fcs:∀{t:Ty} {w:World} {cs:List Value} {x:t.Den},Rep t w cs x→t.flat=true→cs=t.fcs x
  | .int,_,_,_,h,_=>h.1
  | .bool,_,_,_,h,_=>h
  | .str,_,_,_,h,_=>h.1
  | .u8,_,_,_,h,_=>h
  | .vl,_,_,_,h,_=>h
  | .sl _ _,_,_,_,_,hf=>by cases hf
  | .pr a b,w,_,_,⟨l,r,h1,h2,h3⟩,hf=>by
    have hf:(a.flat&&b.flat)=true:=hf
    rw[Bool.and_eq_true] at hf
    rw[h1,h2.fcs hf.1,h3.fcs hf.2]; rfl
theorem Rep.fcs_inj:∀{t:Ty} {w w':World} {cs:List Value} {x y:t.Den},Rep t w cs x→Rep t w' cs y→t.flat=true→x=y
  | .int,_,_,_,x,y,h,k,_=>by have h1:=h.1; have h2:=k.1; rw[h1] at h2; simpa using h2
  | .bool,_,_,_,x,y,h,k,_=>by have h1:_=_:=h; have h2:_=_:=k; rw[h1] at h2; simpa using h2
  | .str,_,_,_,x,y,h,k,_=>by have h1:=h.1; have h2:=k.1; rw[h1] at h2; simpa using h2
  | .u8,_,_,_,x,y,h,k,_=>by
    have h1:_=_:=h; have h2:_=_:=k; rw[h1] at h2
    simp only[List.cons.injEq,Value.int.injEq,and_true,true_and] at h2
    exact UInt8.toNat_inj.1 (by omega)
  | .vl,_,_,_,x,y,h,k,_=>by
    have h1:_=_:=h; have h2:_=_:=k; rw[h1] at h2
    exact Qjc (by simpa using h2)
  | .sl _ _,_,_,_,_,_,_,_,hf=>by cases hf
  | .pr a b,w,w',_,x,y,⟨l,r,h1,h2,h3⟩,⟨l',r',k1,k2,k3⟩,hf=>by
    have hf:(a.flat&&b.flat)=true:=hf
    rw[Bool.and_eq_true] at hf
    rw[h1] at k1
    have hl:l.length=l'.length:=by rw[h2.len,k2.len]
    obtain ⟨rfl,rfl⟩:=List.append_inj k1 hl
    exact Prod.ext (h2.fcs_inj k2 hf.1) (h3.fcs_inj k3 hf.2)
def KV:Bool→(t:Ty)→Value→t.Den→Prop
  | true,t,v,x=>∃cs w,v= .agg cs.toArray∧Rep t w cs x
  | false,t,v,x=>∃w,Rep t w [v] x
theorem MV.kv {gh:Gh}{w:World}{b:Bool}{t:Ty}{v:Value}{x:t.Den}(h:MV gh w b t v x):KV b t v x:=by
  cases b with
  | true=>obtain ⟨cs,h1,h2⟩:=h; exact ⟨cs,w,h1,h2.rep⟩
  | false=>exact ⟨w,Rd.rep h⟩
theorem Qk7 {b:Bool}{t:Ty}{v v':Value}{x y:t.Den}(h:KV b t v x)(k:KV b t v' y)(hf:t.flat=true):v=v'↔x=y:=by
  cases b with
  | true=>
    obtain ⟨cs,w,rfl,h2⟩:=h
    obtain ⟨cs',w',rfl,k2⟩:=k
    constructor
    · intro e
      have e:cs=cs':=by simpa using e
      subst e
      exact h2.fcs_inj k2 hf
    · rintro rfl
      rw[h2.fcs hf,k2.fcs hf]
  | false=>
    obtain ⟨w,h2⟩:=h
    obtain ⟨w',k2⟩:=k
    constructor
    · rintro rfl
      exact h2.fcs_inj k2 hf
    · rintro rfl
      have:=(h2.fcs hf).trans (k2.fcs hf).symm
      simpa using this
structure KeyL (P:Program) (kt:TypeId) (kb:Bool) (k:Ty):Prop where
  K:Maps.Keyed P kt
  flat:k.flat=true
  rd:∀v x,KV kb k v x→∃l,keyOf P kt v=some l
theorem KeyL.str {P:Program}{kt:TypeId}(h:P.underlying kt=some .string):KeyL P kt false .str:=
  ⟨Maps.string_keyed h,rfl,fun v x ⟨w,h1,h2⟩=>by
    simp only[List.cons.injEq,and_true] at h1
    subst h1
    exact ⟨_,WideMaps.keyOf_string_mk h h2⟩⟩
theorem KeyL.int {P:Program}{kt:TypeId}(h:P.underlying kt=some (.int .i64)):KeyL P kt false .int:=
  ⟨Maps.int_keyed h,rfl,fun v x ⟨w,h1,h2⟩=>by
    simp only[List.cons.injEq,and_true] at h1
    subst h1
    exact ⟨_,Maps.keyOf_int_mk h (by simp[Lit.wf]; exact h2)⟩⟩
def XE (k:Ty){V:Type}:List (k.Den×V)→k.Den→Option V
  | [],_=>none
  | p :: m,x=>if k.beq p.1 x then some p.2 else XE k m x
def Y6 (k:Ty){V:Type}:List (k.Den×V)→k.Den→V→List (k.Den×V)
  | [],x,v=>[(x,v)]
  | p :: m,x,v=>if k.beq p.1 x then (x,v) :: m else p :: Y6 k m x v
section
variable {k:Ty}{V:Type}{m:List (k.Den×V)}{x:k.Den}{v:V}
theorem QeC (h:∀p∈m,p.1≠x):XE k m x=none:=by
  induction m with
  | nil=>rfl
  | cons p m ih=>
    have h1:k.beq p.1 x=false:=Bool.eq_false_iff.2 fun e=>h p (List.mem_cons_self ..) ((k.beq_iff _ _).1 e)
    simp only[XE,h1]
    exact ih fun q hq=>h q (List.mem_cons_of_mem _ hq)
theorem Qd2 (h:∀p∈m,p.1≠x):Y6 k m x v=m++[(x,v)]:=by
  induction m with
  | nil=>rfl
  | cons p m ih=>
    have h1:k.beq p.1 x=false:=Bool.eq_false_iff.2 fun e=>h p (List.mem_cons_self ..) ((k.beq_iff _ _).1 e)
    simp only[Y6,h1,List.cons_append]
    rw[← ih fun q hq=>h q (List.mem_cons_of_mem _ hq)]
    rfl
theorem Qjg (hd:m.Pairwise (fun p q=>p.1≠q.1)){j:Nat}{p:k.Den×V}(hj:m[j]? =some p)(he:p.1=x):XE k m x=some p.2:=by
  induction m generalizing j with
  | nil=>simp at hj
  | cons p0 m ih=>
    obtain ⟨h1,h2⟩:=List.pairwise_cons.1 hd
    cases j with
    | zero=>
      simp only[List.getElem?_cons_zero,Option.some.injEq] at hj
      subst hj
      simp[XE,(k.beq_iff _ _).2 he]
    | succ j=>
      simp only[List.getElem?_cons_succ] at hj
      have h3:k.beq p0.1 x=false:=Bool.eq_false_iff.2 fun e=>h1 p (List.mem_of_getElem? hj) (((k.beq_iff _ _).1 e).trans he.symm)
      simp only[XE,h3]
      exact ih h2 hj
theorem Qm0 (hd:m.Pairwise (fun p q=>p.1≠q.1)){j:Nat}{p:k.Den×V}(hj:m[j]? =some p)(he:p.1=x):Y6 k m x v=m.set j (x,v):=by
  induction m generalizing j with
  | nil=>simp at hj
  | cons p0 m ih=>
    obtain ⟨h1,h2⟩:=List.pairwise_cons.1 hd
    cases j with
    | zero=>
      simp only[List.getElem?_cons_zero,Option.some.injEq] at hj
      subst hj
      simp[Y6,(k.beq_iff _ _).2 he]
    | succ j=>
      simp only[List.getElem?_cons_succ] at hj
      have h3:k.beq p0.1 x=false:=Bool.eq_false_iff.2 fun e=>h1 p (List.mem_of_getElem? hj) (((k.beq_iff _ _).1 e).trans he.symm)
      simp only[Y6,h3,List.set_cons_succ]
      rw[← ih h2 hj]
      rfl
theorem Qmk {q:k.Den×V}(h:q∈Y6 k m x v):q=(x,v)∨q∈m:=by
  induction m with
  | nil=>simpa [Y6] using h
  | cons p m ih=>
    unfold Y6 at h
    split at h
    · rcases List.mem_cons.1 h with h | h
      · exact .inl h
      · exact .inr (List.mem_cons_of_mem _ h)
    · rcases List.mem_cons.1 h with h | h
      · exact .inr (by rw[h]; exact List.mem_cons_self ..)
      · rcases ih h with h | h
        · exact .inl h
        · exact .inr (List.mem_cons_of_mem _ h)
theorem QjN (hd:m.Pairwise (fun p q=>p.1≠q.1)):(Y6 k m x v).Pairwise (fun p q=>p.1≠q.1):=by
  induction m with
  | nil=>simp[Y6]
  | cons p m ih=>
    obtain ⟨h1,h2⟩:=List.pairwise_cons.1 hd
    unfold Y6
    split
    · rename_i h
      have h:=(k.beq_iff _ _).1 h
      exact List.pairwise_cons.2 ⟨fun q hq=>by rw[← h]; exact h1 q hq,h2⟩
    · rename_i h
      refine List.pairwise_cons.2 ⟨fun q hq=> ?_,ih h2⟩
      rcases Qmk hq with rfl | hq
      · exact fun e=>h ((k.beq_iff _ _).2 e)
      · exact h1 q hq
theorem Qek (y:k.Den):XE k (Y6 k m x v) y=if k.beq x y then some v else XE k m y:=by
  induction m with
  | nil=>simp[Y6,XE]
  | cons p m ih=>
    unfold Y6
    split
    · rename_i h
      have h:=(k.beq_iff _ _).1 h
      simp only[XE]
      rw[h]
      split <;> rfl
    · rename_i h
      simp only[XE]
      rw[ih]
      split
      · rename_i h2
        have h2:=(k.beq_iff _ _).1 h2
        rw[if_neg]
        intro h3
        exact h ((k.beq_iff _ _).2 (h2.trans ((k.beq_iff _ _).1 h3).symm))
      · rfl
end
section
variable {A:Amb}{P:Program}{s:St}{x y z:Operand}{d:Nat}{T T' ty:TypeId}{pos:String}{af:Array Edge}{g:Option (Nat×Bool)}
theorem MpL.len {gh:Gh}{w:World}{kb vb:Bool}{k v:Ty}{es:List MapEntry}{m:List (k.Den×v.Den)}(h:MpL gh w kb k vb v es m):es.length=m.length:=by
  induction es generalizing m with
  | nil=>rw[show m=[] from h]; rfl
  | cons e es ih=>obtain ⟨_,_,m',rfl,_,_,h3⟩:=h; simp[ih h3]
theorem MpL.at {gh:Gh}{w:World}{kb vb:Bool}{k v:Ty}{es:List MapEntry}{m:List (k.Den×v.Den)}(h:MpL gh w kb k vb v es m){j:Nat}{e:MapEntry}(hj:es[j]? =some e):
    ∃p,m[j]? =some p∧MV gh w kb k e.key p.1∧MV gh w vb v e.val p.2:=by
  induction es generalizing m j with
  | nil=>simp at hj
  | cons e0 es ih=>
    obtain ⟨a,b,m',rfl,h1,h2,h3⟩:=h
    cases j with
    | zero=>
      simp only[List.getElem?_cons_zero,Option.some.injEq] at hj
      subst hj
      exact ⟨(a,b),rfl,h1,h2⟩
    | succ j=>exact ih h3 (by simpa using hj)
theorem MpL.set {gh:Gh}{w:World}{kb vb:Bool}{k v:Ty}{es:List MapEntry}{m:List (k.Den×v.Den)}(h:MpL gh w kb k vb v es m){j:Nat}{e:MapEntry}{p:k.Den×v.Den}(h1:MV gh w kb k e.key p.1)(h2:MV gh w vb v e.val p.2):
    MpL gh w kb k vb v (es.set j e) (m.set j p):=by
  induction es generalizing m j with
  | nil=>rw[show m=[] from h]; exact rfl
  | cons e0 es ih=>
    obtain ⟨a,b,m',rfl,k1,k2,k3⟩:=h
    cases j with
    | zero=>exact ⟨p.1,p.2,m',rfl,h1,h2,k3⟩
    | succ j=>exact ⟨a,b,_,rfl,k1,k2,ih k3⟩
theorem MpL.push {gh:Gh}{w:World}{kb vb:Bool}{k v:Ty}{es:List MapEntry}{m:List (k.Den×v.Den)}(h:MpL gh w kb k vb v es m){e:MapEntry}{p:k.Den×v.Den}(h1:MV gh w kb k e.key p.1)(h2:MV gh w vb v e.val p.2):
    MpL gh w kb k vb v (es++[e]) (m++[p]):=by
  induction es generalizing m with
  | nil=>rw[show m=[] from h]; exact ⟨p.1,p.2,[],rfl,h1,h2,rfl⟩
  | cons e0 es ih=>obtain ⟨a,b,m',rfl,k1,k2,k3⟩:=h; exact ⟨a,b,_,rfl,k1,k2,ih k3⟩
theorem KeyL.find {kt:TypeId}{kb vb:Bool}{k v:Ty}(KL:KeyL P kt kb k){gh:Gh}{w:World}{es:List MapEntry}{m:List (k.Den×v.Den)}(h:MpL gh w kb k vb v es m){key:Value}{q:k.Den}(hk:KV kb k key q):
    ((Instr.findKey kt key es).run P w= .ok none w∧∀p∈m,p.1≠q)∨∃(j:Nat) (e:MapEntry) (p:k.Den×v.Den),(Instr.findKey kt key es).run P w= .ok (some (j,e.val)) w∧es[j]? =some e∧m[j]? =some p∧p.1=q∧e.key=key∧MV gh w vb v e.val p.2:=by
  obtain ⟨l,hl⟩:=KL.rd _ _ hk
  rcases KL.K.find w hl es fun e he=>by
      obtain ⟨j,hj⟩:=List.mem_iff_getElem?.1 he
      obtain ⟨p,h1,h2,_⟩:=h.at hj
      exact KL.rd _ _ h2.kv with ⟨h1,h2⟩ | ⟨j,e,h1,h2,h3⟩
  · refine .inl ⟨h1, fun p hp e1 => ?_⟩
    obtain ⟨j,hj⟩:=List.mem_iff_getElem?.1 hp
    have hlt:j < es.length:=by rw[h.len]; exact (List.getElem?_eq_some_iff.1 hj).1
    obtain ⟨p',k1,k2,_⟩:=h.at (List.getElem?_eq_getElem hlt)
    rw[hj] at k1
    cases k1
    exact h2 _ (List.getElem_mem hlt) ((Qk7 k2.kv hk KL.flat).2 e1)
  · obtain ⟨p, k1, k2, k3⟩ := h.at h2
    exact .inr ⟨j,e,p,h1,h2,k1,(Qk7 k2.kv hk KL.flat).1 h3,h3,k3⟩
theorem CmR.mv {al:Nat→Prop}{gh:Gh}{w:World}{b:Bool}{t:Ty}{v:Value}{q:t.Den}(h:CmR al gh w (b,leaves t q) v):MV gh w b t v q:=by
  cases b with
  | true=>obtain ⟨vs,rfl,h1⟩:=h; exact ⟨vs,rfl,LVs.rd h1⟩
  | false=>
    obtain ⟨l,hl,h1⟩:=h
    exact LVs.rd (al:=al) (gh:=gh) (w:=w) (show LVs al gh w (leaves t q) [v] by rw[hl]; exact ⟨v,[],rfl,h1,rfl⟩)
theorem MV.cm {al:Nat→Prop}{gh:Gh}{w:World}{b:Bool}{t:Ty}{v:Value}{q:t.Den}(h:MV gh w b t v q):CmR al gh w (b,leaves t q) v:=by
  cases b with
  | true=>obtain ⟨vs,rfl,h1⟩:=h; exact ⟨vs,rfl,h1.leaves⟩
  | false=>
    have h2:LVs al gh w (leaves t q) [v]:=Rd.leaves h
    revert h2
    generalize leaves t q=L
    intro h2
    match L,h2 with
    | [],h2=>cases h2
    | [l],h2=>
      obtain ⟨_,_,h0,h1,_⟩:=h2
      cases h0
      exact ⟨l,rfl,h1⟩
    | l :: l' :: ls,h2=>
      obtain ⟨_,_,h0,_,h3⟩:=h2
      cases h0
      obtain ⟨_,_,h0,_⟩:=h3
      cases h0
theorem Hr (t:Nat){kt et:TypeId}{kb vb:Bool}{k v:Ty}(hn:Nat.blt d A.n=true)(hfr:Fresh s t)(hk0:A.k0≤t):Does A P ⟨some d, .makeMap T none,ty,pos,af,g⟩ s (s.new d t (.ref t) (.mp kb k vb v [])):=
  fun a w K Q r hK=>by
    obtain ⟨gh,r⟩:=r
    have e:(execOp a.eval ⟨some d, .makeMap T none,ty,pos,af,g⟩).run P w= .ok (.value (.map (some w.heap.size))) (w.alloc (.map #[] 0)):=by
      simp only[execOp,Option.map_none,Go.Sem.run_bind,run_makeMap,Result.andThen_ok]
      simp
    unfold Oper.wp
    rw[e,Oper.upon_value]
    refine hK _ _ ⟨_,(r.grow t hfr hk0 (.map #[] 0) (.map (some w.heap.size)) [w.heap.size] (.mp kb k vb v []) (by simp) (by simp) (by simp[Ent.tags]) ?_).put (Nat.le_of_ble_eq_true hn) (pv:=lf (.ref t)) ⟨_,rfl,fun _=>by simp⟩⟩
    exact ⟨w.heap.size, #[],0,by simp,by simp,heap_alloc_new w _,List.Pairwise.nil,rfl⟩
theorem QkP {q:Nat}{kt et:TypeId}{kb vb:Bool}{k v:Ty}{m:List (k.Den×v.Den)}(hx:Evl A s x (.ref q))(he:s.tab.ent q=some (.mp kb k vb v m))(hT:P.underlying T=some (.map kt et))(hb:m.length≤9223372036854775807)(hn:Nat.blt d A.n=true):
    Does A P ⟨some d, .call ⟨.builtin .len, #[x], #[T]⟩,ty,pos,af,g⟩ s (s.put d (lf (dI m.length))):=
  Qr rfl hn fun gh a w r=>by
    have hv:a.eval x=gh.h q:=hx gh a w r ⟨_,he⟩
    obtain ⟨b,es,clock,h1,h2,h3,h4,h5⟩:=r.cx.en q _ he
    have h6:es.size=m.length:=by simpa using h5.len
    refine ⟨.int .i64 m.length, ?_,_,rfl,Xc (by omega)⟩
    simp only[execOp,resolve,invoke,builtin]
    simp[Go.Sem.run_bind,hv,h1,Builtin.len_,run_underlying hT,MapKept.run_getObj_map h3,goInt,h6,Result.andThen]
theorem QgK {kt et:TypeId}{kb vb:Bool}{k v:Ty}(c:Bool)(KL:KeyL P kt kb k)(hT:P.underlying T=some (.map kt et)){zv:Value}(hz:zer P et=some zv){gh:Gh}{w:World}(hzv:MV gh w vb v zv v.zero)
    {b clock:Nat} {es:Array MapEntry} {m:List (k.Den×v.Den)} (hb:w.heap[b]? =some (.map es clock)) (hd:m.Pairwise (fun p q=>p.1≠q.1)) (h:MpL gh w kb k vb v es.toList m) {key:Value} {q:k.Den} (hk:KV kb k key q):
    ∃u,(Instr.lookup T (.map (some b)) key c).run P w= .ok (if c then .tuple #[u, .bool (XE k m q).isSome] else u) w∧MV gh w vb v u ((XE k m q).getD v.zero):=by
  obtain ⟨l,hl⟩:=KL.rd _ _ hk
  have hz':=Ky (w:=w) hz
  rcases KL.find h hk with ⟨h1,h2⟩ | ⟨j,e,p,h1,h2,h3,h4,h5,h6⟩
  · refine ⟨zv, ?_, by rw [QeC h2]; exact hzv⟩
    rw[QeC h2]
    simp[Instr.lookup,run_underlying hT,MapKept.run_getObj_map hb,KL.K.check w _ hl,h1,hz',Result.andThen]
  · refine ⟨e.val, ?_, by rw [Qjg hd h3 h4]; exact h6⟩
    rw[Qjg hd h3 h4]
    simp[Instr.lookup,run_underlying hT,MapKept.run_getObj_map hb,KL.K.check w _ hl,h1,Result.andThen]
def ZeroV (P:Program)(et:TypeId)(vb:Bool)(v:Ty):Prop:=∃zv,zer P et=some zv∧(if vb then zv= .agg v.zeros.toArray else v.zeros=[zv])
theorem ZeroV.mv {et:TypeId}{vb:Bool}{v:Ty}(h:ZeroV P et vb v)(gh:Gh)(w:World):∃zv,zer P et=some zv∧MV gh w vb v zv v.zero:=by
  obtain ⟨zv,h1,h2⟩:=h
  refine ⟨zv,h1, ?_⟩
  cases vb with
  | true=>exact ⟨v.zeros,h2,(ZK v w).rd (by simp)⟩
  | false=>
    have h2:v.zeros=[zv]:=h2
    show Rd gh.N v w [zv] v.zero
    rw[← h2]
    exact (ZK v w).rd (by simp)
theorem Qod {kt et:TypeId}{kb vb:Bool}{k v:Ty}{q:Nat}{m:List (k.Den×v.Den)}{p:k.Den}{ls kls:List LV}(KL:KeyL P kt kb k)(hT:P.underlying T=some (.map kt et))(hz:ZeroV P et vb v)
    (hx:Evl A s x (.ref q)) (he:s.tab.ent q=some (.mp kb k vb v m)) (hy:Ev A s y (kb,kls)) (hkl:kls=leaves k p) (hl:leaves v ((XE k m p).getD v.zero)=ls) (hn:Nat.blt d A.n=true):
    Does A P ⟨some d, .lookup T x y false,ty,pos,af,g⟩ s (s.put d (.cm vb ls)):=
  Qr rfl hn fun gh a w r=>by
    subst hkl hl
    have hv:a.eval x=gh.h q:=hx gh a w r ⟨_,he⟩
    obtain ⟨b,es,clock,h1,h2,h3,h4,h5⟩:=r.cx.en q _ he
    obtain ⟨zv,z1,z2⟩:=hz.mv gh w
    obtain ⟨u,h6,h7⟩:=QgK false KL hT z1 z2 h3 h4 h5 (hy gh a w r).mv.kv
    refine ⟨u, ?_,h7.cm⟩
    simp only[execOp,hv,h1,Go.Sem.run_bind,h6]
    simp
theorem Qdt {kt et:TypeId}{kb vb:Bool}{k v:Ty}{q:Nat}{m:List (k.Den×v.Den)}{p:k.Den}{ls kls:List LV}(KL:KeyL P kt kb k)(hT:P.underlying T=some (.map kt et))(hz:ZeroV P et vb v)
    (hx:Evl A s x (.ref q)) (he:s.tab.ent q=some (.mp kb k vb v m)) (hy:Ev A s y (kb,kls)) (hkl:kls=leaves k p) (hl:leaves v ((XE k m p).getD v.zero)=ls) (hn:Nat.blt d A.n=true):
    Does A P ⟨some d, .lookup T x y true,ty,pos,af,g⟩ s (s.put d (.tup [(vb,ls),(false,[dB (XE k m p).isSome])])):=
  Qr rfl hn fun gh a w r=>by
    subst hkl hl
    have hv:a.eval x=gh.h q:=hx gh a w r ⟨_,he⟩
    obtain ⟨b,es,clock,h1,h2,h3,h4,h5⟩:=r.cx.en q _ he
    obtain ⟨zv,z1,z2⟩:=hz.mv gh w
    obtain ⟨u,h6,h7⟩:=QgK true KL hT z1 z2 h3 h4 h5 (hy gh a w r).mv.kv
    refine ⟨.tuple #[u, .bool (XE k m p).isSome], ?_,[u, .bool (XE k m p).isSome],rfl,u,[.bool (XE k m p).isSome],rfl,h7.cm,_,[],rfl,⟨_,rfl,Z0⟩,rfl⟩
    simp only[execOp,hv,h1,Go.Sem.run_bind,h6]
    simp
theorem Qd0 {kt et:TypeId}{kb vb:Bool}{k v:Ty}(KL:KeyL P kt kb k)(hT:P.underlying T=some (.map kt et)){gh:Gh}{w:World}
    {b clock:Nat} {es:Array MapEntry} {m:List (k.Den×v.Den)} (hb:w.heap[b]? =some (.map es clock)) (hd:m.Pairwise (fun p q=>p.1≠q.1)) (h:MpL gh w kb k vb v es.toList m) {key val:Value} {q:k.Den} {u:v.Den} (hk:MV gh w kb k key q) (hv:MV gh w vb v val u):
    ∃es' clock',(Instr.mapUpdate T (.map (some b)) key val).run P w= .ok () {w with heap:=w.heap.setIfInBounds b (.map es' clock')}∧MpL gh w kb k vb v es'.toList (Y6 k m q u):=by
  obtain ⟨l,hl⟩:=KL.rd _ _ hk.kv
  rcases KL.find h hk.kv with ⟨h1,h2⟩ | ⟨j,e,p,h1,h2,h3,h4,h5,h6⟩
  · refine ⟨es.push ⟨key, val, clock⟩, clock + 1, ?_, ?_⟩
    · simp[Instr.mapUpdate,run_underlying hT,MapKept.run_getObj_map hb,KL.K.check w _ hl,h1,MapKept.run_setObj_map _ hb,Result.andThen]
    · rw [Qd2 h2, Array.toList_push]
      exact h.push hk hv
  · have hj : es[j]? = some e := by simpa using h2
    refine ⟨es.modify j (fun e'=>{e' with key:=key,val:=val}),clock, ?_, ?_⟩
    · simp[Instr.mapUpdate,run_underlying hT,MapKept.run_getObj_map hb,KL.K.check w _ hl,h1,hj,h5,KL.K.stays w hl,MapKept.run_setObj_map _ hb,Result.andThen]
    · rw [Qm0 hd h3 h4, Array.toList_modify, ChangeMaps.modify_eq_set _ _ _ _ h2]
      exact h.set hk hv
theorem Rg.mapset {gh:Gh}{a:Act}{w:World}(r:Rg A s gh a w){kb vb:Bool}{k v:Ty}{q:Nat}{m m':List (k.Den×v.Den)}(he:s.tab.ent q=some (.mp kb k vb v m)){b clock clock':Nat}{es es':Array MapEntry}(h1:gh.h q= .map (some b))(h2:gh.f q=[b])
    (h3:w.heap[b]? =some (.map es clock)) (h4:m'.Pairwise (fun p q=>p.1≠q.1)) (h5:MpL gh w kb k vb v es'.toList m'):Rg A ⟨s.tm,(q,some (.mp kb k vb v m')) :: s.tab⟩ gh a {w with heap:=w.heap.setIfInBounds b (.map es' clock')}:=by
  have hlt:b < w.heap.size:=(Array.getElem?_eq_some_iff.1 h3).1
  have hb:∀g,g < w.heap.size→g∉gh.f q→({w with heap:=w.heap.setIfInBounds b (.map es' clock')}:World).heap[g]? =w.heap[g]? :=fun g _ hg=>by
    rw[h2] at hg
    exact Array.getElem?_setIfInBounds_ne fun e=>hg (by simp[e])
  refine r.mod he ⟨rfl,rfl,rfl,by simp⟩ hb ⟨b,es',clock',h1,h2,by simp[hlt],h4,h5.mono fun g hg=>⟨hg,hb g (r.cx.nl g hg) fun hf=>r.cx.no q ⟨_,he⟩ g hf hg⟩⟩
theorem Ko {kt et:TypeId}{kb vb:Bool}{k v:Ty}{q:Nat}{m:List (k.Den×v.Den)}{p:k.Den}{u:v.Den}{kls vls:List LV}(KL:KeyL P kt kb k)(hT:P.underlying T=some (.map kt et))
    (hx:Evl A s x (.ref q)) (he:s.tab.ent q=some (.mp kb k vb v m)) (hy:Ev A s y (kb,kls)) (hkl:kls=leaves k p) (hz:Ev A s z (vb,vls)) (hvl:vls=leaves v u):
    Does A P ⟨none, .mapUpdate T x y z,ty,pos,af,g⟩ s ⟨s.tm,(q,some (.mp kb k vb v (Y6 k m p u))) :: s.tab⟩:=fun a w K Q r hK=>by
  subst hkl hvl
  obtain ⟨gh,r⟩:=r
  have hv:a.eval x=gh.h q:=hx gh a w r ⟨_,he⟩
  obtain ⟨b,es,clock,h1,h2,h3,h4,h5⟩:=r.cx.en q _ he
  obtain ⟨es',clock',h6,h7⟩:=Qd0 KL hT h3 h4 h5 (hy gh a w r).mv (hz gh a w r).mv
  have e:(execOp a.eval ⟨none, .mapUpdate T x y z,ty,pos,af,g⟩).run P w= .ok .skip {w with heap:=w.heap.setIfInBounds b (.map es' clock')}:=by
    simp only[execOp,hv,h1,Go.Sem.run_bind,h6]
    simp
  unfold Oper.wp
  rw[e,Oper.upon_skip]
  exact hK _ _ ⟨gh,(r.mapset he h1 h2 h3 (QjN h4) h7).puto⟩
theorem QfV {kt et:TypeId}{kb vb:Bool}{k v:Ty}{q:Nat}{m:List (k.Den×v.Den)}{p:k.Den}{u:v.Den}{kls vls:List LV}(KL:KeyL P kt kb k)(hT:P.underlying T=some (.map kt et))
    (hx:Evl A s x (.ref q)) (he:s.tab.ent q=some (.mp kb k vb v m)) (hy:Ev A s y (kb,kls)) (hkl:kls=leaves k p) (hz:Ev A s z (vb,vls)) (hvl:vls=leaves v u):
    Does A P ⟨none, .insert T x y z,ty,pos,af,g⟩ s ⟨s.tm,(q,some (.mp kb k vb v (Y6 k m p u))) :: s.tab⟩:=fun a w K Q r hK=>by
  subst hkl hvl
  obtain ⟨gh,r⟩:=r
  have hv:a.eval x=gh.h q:=hx gh a w r ⟨_,he⟩
  obtain ⟨b,es,clock,h1,h2,h3,h4,h5⟩:=r.cx.en q _ he
  obtain ⟨es',clock',h6,h7⟩:=Qd0 KL hT h3 h4 h5 (hy gh a w r).mv (hz gh a w r).mv
  have e:(execOp a.eval ⟨none, .insert T x y z,ty,pos,af,g⟩).run P w= .ok .skip {w with heap:=w.heap.setIfInBounds b (.map es' clock')}:=by
    simp only[execOp,hv,h1,Go.Sem.run_bind,h6]
    simp
  unfold Oper.wp
  rw[e,Oper.upon_skip]
  exact hK _ _ ⟨gh,(r.mapset he h1 h2 h3 (QjN h4) h7).puto⟩
end
section
variable {P:Program}{T:TypeId}{m:Nat}
def EqT (P:Program)(m:Nat)(T:TypeId)(b:Bool)(t:Ty):Prop:=∀(d:Nat) (w:World) (v v':Value) (x x':t.Den),KV b t v x→KV b t v' x'→(Op.equalIn (d+m) T v v').run P w= .ok (t.beq x x') w
theorem Qql {b:Bool}{t:Ty}(j:Nat)(h:EqT P m T b t):EqT P (m+j) T b t:=fun d w v v' x x' k k'=>by
  have:=h (d+j) w v v' x x' k k'
  rwa [Nat.add_assoc,Nat.add_comm j m] at this
theorem EqT.int (h:P.underlying T=some (.int .i64)):EqT P (m+1) T false .int:=fun d w v v' x x' ⟨_,h1,_⟩ ⟨_,h2,_⟩=>by
  simp only[List.cons.injEq,and_true] at h1 h2
  rw[h1,h2,← Nat.add_assoc,run_equalIn_int w (d+m) T _ _ _ _ h]
  rfl
theorem EqT.u8 (h:P.underlying T=some (.int .u8)):EqT P (m+1) T false .u8:=fun d w v v' x x' ⟨_,h1⟩ ⟨_,h2⟩=>by
  have h1:[v]=[.int .u8 (x:UInt8).toNat]:=h1
  have h2:[v']=[.int .u8 (x':UInt8).toNat]:=h2
  simp only[List.cons.injEq,and_true] at h1 h2
  rw[h1,h2,← Nat.add_assoc,run_equalIn_int w (d+m) T _ _ _ _ h,Qhq]
  rfl
theorem EqT.bool (h:P.underlying T=some .bool):EqT P (m+1) T false .bool:=fun d w v v' x x' ⟨_,h1⟩ ⟨_,h2⟩=>by
  have h1:[v]=[.bool x]:=h1
  have h2:[v']=[.bool x']:=h2
  simp only[List.cons.injEq,and_true] at h1 h2
  rw[h1,h2,← Nat.add_assoc,run_equalIn_bool' w (d+m) T _ _ h]
  rfl
theorem EqT.str (h:P.underlying T=some .string):EqT P (m+1) T false .str:=fun d w v v' x x' ⟨_,h1,_⟩ ⟨_,h2,_⟩=>by
  simp only[List.cons.injEq,and_true] at h1 h2
  rw[h1,h2,← Nat.add_assoc,run_equalIn_string w (d+m) T _ _ h,Qfr]
  rfl
def KAt (t:Ty)(xs:Array Value)(off:Nat)(x:t.Den):Prop:=∃w,Rep t w ((xs.toList.drop off).take t.wd) x
def EqFs (P:Program)(m:Nat)(fs:List Field)(off:Nat)(t:Ty):Prop:=∀(d:Nat) (w:World) (xs ys:Array Value) (x x':t.Den),KAt t xs off x→KAt t ys off x'→(Op.eqFields (d+m) xs ys fs).run P w= .ok (t.beq x x') w
theorem Qd8 {b:Bool}{t:Ty}{xs:Array Value}{off:Nat}{x:t.Den}{w:World}(hT:tsh P T=some (b,t.wd))(h1:b=false→t.wd=1)(h:KAt t xs off x):∃v,(part T xs off).run P w= .ok v w∧KV b t v x:=by
  obtain ⟨w0,hR⟩:=h
  have hl:=hR.len
  cases b with
  | true=>
    refine ⟨.agg (xs.extract off (off+t.wd)), ?_, ?_⟩
    · simp only [part, Go.Sem.run_bind, K4 hT, Result.andThen_ok, if_true, YU hT]
      simp
    · refine ⟨(xs.toList.drop off).take t.wd, w0, ?_, hR⟩
      congr 1
      apply Array.ext'
      simp[List.extract_eq_take_drop]
  | false=>
    have hw:=h1 rfl
    rw[hw] at hR hl
    match hd:(xs.toList.drop off).take 1,hl with
    | [v],_=>
      rw[hd] at hR
      refine ⟨v, ?_,w0,hR⟩
      have hx:xs[off]? =some v:=by
        have h2:((xs.toList.drop off).take 1)[0]? =some v:=by rw[hd]; rfl
        rw[List.getElem?_take,if_pos (by omega),List.getElem?_drop] at h2
        simpa using h2
      simp only[part,Go.Sem.run_bind,K4 hT,Result.andThen_ok]
      simp[hx]
theorem HH {f:Field}{fs:List Field}{b:Bool}{t:Ty}{d:Nat}{w:World}{xs ys:Array Value}{x x':t.Den}(hn:f.name≠ "_")(hT:tsh P f.type=some (b,t.wd))(h1:b=false→t.wd=1)(E:EqT P m f.type b t)
    (hx:KAt t xs f.offset x) (hy:KAt t ys f.offset x'):(Op.eqFields (d+m) xs ys (f :: fs)).run P w=if t.beq x x' then (Op.eqFields (d+m) xs ys fs).run P w else .ok false w:=by
  obtain ⟨v,h2,h3⟩:=Qd8 (w:=w) hT h1 hx
  obtain ⟨v',h4,h5⟩:=Qd8 (w:=w) hT h1 hy
  have h6:=E d w v v' x x' h3 h5
  simp only[Op.eqFields,if_pos hn,ne_eq,hn,not_false_eq_true,if_true,Go.Sem.run_bind,h2,h4,h6,Result.andThen_ok]
  cases t.beq x x' <;> simp
theorem EqFs.one {f:Field}{b:Bool}{t:Ty}{off:Nat}(hn:f.name≠ "_")(ho:f.offset=off)(hT:tsh P f.type=some (b,t.wd))(h1:b=false→t.wd=1)(E:EqT P m f.type b t):EqFs P m [f] off t:=fun d w xs ys x x' hx hy=>by
  subst ho
  rw[HH hn hT h1 E hx hy]
  cases t.beq x x' <;> simp[Op.eqFields]
theorem EqFs.cons {f:Field}{fs:List Field}{b:Bool}{t u:Ty}{off:Nat}(hn:f.name≠ "_")(ho:f.offset=off)(hT:tsh P f.type=some (b,t.wd))(h1:b=false→t.wd=1)(E:EqT P m f.type b t)(k:EqFs P m fs (off+t.wd) u):EqFs P m (f :: fs) off (.pr t u):=fun d w xs ys x x' hx hy=>by
  subst ho
  have cut:∀{zs:Array Value} {z:t.Den×u.Den},KAt (.pr t u) zs f.offset z→KAt t zs f.offset z.1∧KAt u zs (f.offset+t.wd) z.2:=fun {zs z} ⟨w0,l,r,e1,e2,e3⟩=>by
    have hl:=e2.len
    have hr:=e3.len
    have e4:(zs.toList.drop f.offset).take t.wd=l:=by
      have:=congrArg (List.take t.wd) e1
      have e6:(Ty.pr t u).wd=t.wd+u.wd:=rfl
      rw[e6,List.take_take,Nat.min_eq_left (Nat.le_add_right _ _)] at this
      rw[this,← hl,List.take_left]
    have e5:(zs.toList.drop (f.offset+t.wd)).take u.wd=r:=by
      have:=congrArg (List.drop t.wd) e1
      have e6:(Ty.pr t u).wd=t.wd+u.wd:=rfl
      rw[e6,List.drop_take,List.drop_drop,Nat.add_sub_cancel_left] at this
      rw[this,← hl,List.drop_left]
    exact ⟨⟨w0,by rw[e4]; exact e2⟩,⟨w0,by rw[e5]; exact e3⟩⟩
  obtain ⟨a1,a2⟩:=cut hx
  obtain ⟨b1,b2⟩:=cut hy
  rw[HH hn hT h1 E a1 b1,k d w xs ys x.2 x'.2 a2 b2]
  show _=Result.ok (t.beq x.1 x'.1&&u.beq x.2 x'.2) w
  cases t.beq x.1 x'.1 <;> rfl
theorem EqT.struct {fs:Array Field}{t:Ty}(ht:P.underlying T=some (.struct fs))(hp:P.stoodInHeld T=false)(h:EqFs P m fs.toList 0 t):EqT P (m+1) T true t:=fun d w v v' x x' ⟨cs,w1,h1,h2⟩ ⟨cs',w2,h3,h4⟩=>by
  have e:P.fieldsOf T=fs:=by simp[Program.fieldsOf,ht]
  rw[h1,h3,← Nat.add_assoc,run_equalIn_struct w (d+m) T _ _ (by rw[e]; exact ht) hp,e]
  refine h d w _ _ x x' ⟨w1, ?_⟩ ⟨w2, ?_⟩
  · rw[List.drop_zero,List.take_of_length_le (by rw[List.toList_toArray,h2.len]; exact Nat.le_refl _)]; simpa using h2
  · rw[List.drop_zero,List.take_of_length_le (by rw[List.toList_toArray,h4.len]; exact Nat.le_refl _)]; simpa using h4
section
variable {A:Amb}{s:St}{x y:Operand}{d:Nat}{T' ty:TypeId}{pos:String}{af:Array Edge}{g:Option (Nat×Bool)}{t:Ty}{p q:t.Den}{ls ls':List LV}
theorem Qew (E:EqT P m T true t)(hm:(P.eqGuardType P.depth T=false)∧m≤10000)(hx:Ev A s x (true,ls))(hy:Ev A s y (true,ls'))(hl:ls=leaves t p)(hl':ls'=leaves t q)(hn:Nat.blt d A.n=true):
    Does A P ⟨some d, .binOp .eql T x y T',ty,pos,af,g⟩ s (s.put d (lf (dB (t.beq p q)))):=
  Qr rfl hn fun gh a w r=>by
    subst hl hl'
    obtain ⟨cs,h1,h2⟩:=hx gh a w r
    obtain ⟨cs',h3,h4⟩:=hy gh a w r
    have h5:=E (10000 - m) w _ _ p q ⟨cs,w,rfl,(LVs.rd h2).rep⟩ ⟨cs',w,rfl,(LVs.rd h4).rep⟩
    rw[Nat.sub_add_cancel hm.2] at h5
    refine ⟨.bool (t.beq p q), ?_,_,rfl,Z0⟩
    simp only[execOp,h1,h3]
    simp[Go.Sem.run_bind,run_eqGuard_agg w _ _ _ _ _ _ hm.1,run_eql_struct,h5]
theorem KW (E:EqT P m T true t)(hm:(P.eqGuardType P.depth T=false)∧m≤10000)(hx:Ev A s x (true,ls))(hy:Ev A s y (true,ls'))(hl:ls=leaves t p)(hl':ls'=leaves t q)(hn:Nat.blt d A.n=true):
    Does A P ⟨some d, .binOp .neq T x y T',ty,pos,af,g⟩ s (s.put d (lf (dB (!(t.beq p q))))):=
  Qr rfl hn fun gh a w r=>by
    subst hl hl'
    obtain ⟨cs,h1,h2⟩:=hx gh a w r
    obtain ⟨cs',h3,h4⟩:=hy gh a w r
    have h5:=E (10000 - m) w _ _ p q ⟨cs,w,rfl,(LVs.rd h2).rep⟩ ⟨cs',w,rfl,(LVs.rd h4).rep⟩
    rw[Nat.sub_add_cancel hm.2] at h5
    refine ⟨.bool (!(t.beq p q)), ?_,_,rfl,Z0⟩
    simp only[execOp,h1,h3]
    simp[Go.Sem.run_bind,run_eqGuard_agg w _ _ _ _ _ _ hm.1,run_neq_struct,h5]
end
end
end Go.Proofs.YtnakmhfjafecpaaGreat
namespace Go.Proofs.YtnakmhfjafecpaaGreat
open Go.RowKit
section
variable {A:Amb}{P:Program}{s:St}{x y:Operand}{d:Nat}{T T' ty:TypeId}{pos:String}{af:Array Edge}{g:Option (Nat×Bool)}
variable {E:TypeId}{e:Ty}{xs:List e.Den}{q lo n:Nat}
theorem SubR.all {h:Value}{w:World}{fp:List Nat}{wd:Nat}(hO:Own (.sl E e) w fp [h] xs):SubR h wd 0 xs.length h:=by
  rcases hO with ⟨_,h1,h2⟩ | ⟨b,cap,cur,fps,_,h1,_⟩
  · subst h2
    simp only[List.cons.injEq,and_true] at h1
    exact ⟨none,0,0,h1,by rw[h1]; rfl⟩
  · simp only [List.cons.injEq, and_true] at h1
    refine ⟨some ⟨b,0,none⟩,xs.length,cap,h1, ?_⟩
    rw[h1]
    congr 1
    split
    · rfl
    · simp[Addr.add_lit]
theorem SubR.rep {h v:Value}{w:World}{fp:List Nat}(hO:Own (.sl E e) w fp [h] xs)(hs:SubR h e.wd lo n v)(hb:lo+n≤xs.length):Rep (.sl E e) w [v] ((xs.take (lo+n)).drop lo):=by
  obtain ⟨B,m,c,rfl,rfl⟩:=hs
  have hR:=hO.rep
  obtain ⟨B',c',k,_⟩:=hR
  have hR:=hO.rep
  simp only[List.cons.injEq,Value.slice.injEq,and_true] at k
  obtain ⟨rfl,rfl,rfl⟩:=k
  have:=hR.part (lo:=lo) (hi:=lo+n) (by omega) hb
  rwa [Nat.add_sub_cancel_left] at this
theorem Ya {lo hi:Option Operand}{l h:Option Int}{bb:Bool}(hx:Evl A s x (.ref q))(he:s.tab.ent q=some (.arr E e xs))(hlo:opI A s lo l)(hhi:opI A s hi h){E':TypeId}(hT:P.underlying T=some (.slice E'))(hE:tsh P E'=some (bb,e.wd))(hn:Nat.blt d A.n=true)
    (h0:0≤l.getD 0) (h1:l.getD 0≤h.getD xs.length) (h2:h.getD xs.length≤xs.length) {a b:Nat} (ha:a=(l.getD 0).toNat) (hb:b=(h.getD xs.length).toNat - (l.getD 0).toNat):Does A P ⟨some d, .slice T x lo hi none,ty,pos,af,g⟩ s (s.put d (lf (.sub q e.wd a b))):=
  Qr rfl hn fun gh a' w r=>by
    subst ha hb
    have hv:a'.eval x=gh.h q:=hx gh a' w r ⟨_,he⟩
    have hO:Own (.sl E e) w (gh.f q) [gh.h q] xs:=r.cx.en q _ he
    obtain ⟨B,c,k1,k2,k3⟩:=hO.rep.slv
    refine ⟨_, ?_,_,rfl,fun _=>⟨B,xs.length,c,k1,rfl⟩⟩
    simp only[execOp,hv,k1,hlo.ev r,hhi.ev r,Option.map_none,Instr.sliceAt,Instr.slice,Go.Sem.run_bind,run_underlying hT,Result.andThen_ok,Ws h0 h1 h2 k2,YU hE]
    simp
theorem UA (h:Evl A s x (.sub q e.wd lo n))(he:s.tab.ent q=some (.arr E e xs))(hb:lo+n≤xs.length):QdG A s x (.sl E e) ((xs.take (lo+n)).drop lo):=fun gh a w r=>by
  have hO:Own (.sl E e) w (gh.f q) [gh.h q] xs:=r.cx.en q _ he
  exact (h gh a w r ⟨_,he⟩).rep hO hb
theorem QfS {Tl:TypeId}(hx:Evl A s x (.sub q e.wd lo n))(he:s.tab.ent q=some (.arr E e xs))(hb:lo+n≤xs.length)(hT:P.underlying Tl=some (.slice E))(hn:Nat.blt d A.n=true):
    Does A P ⟨some d, .call ⟨.builtin .len, #[x], #[Tl]⟩,ty,pos,af,g⟩ s (s.put d (lf (dI n))):=
  Qr rfl hn fun gh a w r=>by
    have hO:Own (.sl E e) w (gh.f q) [gh.h q] xs:=r.cx.en q _ he
    obtain ⟨B,m,c,h1,h2⟩:=hx gh a w r ⟨_,he⟩
    obtain ⟨B',c',k1,k2,k3⟩:=hO.rep.slv
    refine ⟨.int .i64 n, ?_,_,rfl,Xc (by unfold maxLen at k3; omega)⟩
    simp only[execOp,resolve,invoke,builtin]
    simp[Go.Sem.run_bind,h2,Builtin.len_,run_underlying hT,goInt,Result.andThen]
theorem VM {i:Int}{E':TypeId}{bb:Bool}(hx:Evl A s x (.sub q e.wd lo n))(he:s.tab.ent q=some (.arr E e xs))(hb:lo+n≤xs.length)(hy:Evl A s y (dI i))(hT:P.underlying T=some (.slice E'))(hE:tsh P E'=some (bb,e.wd))(hn:Nat.blt d A.n=true)
    (h0:0≤i) (h1:i < n) {k:Nat} (hk:k=lo+i.toNat):Does A P ⟨some d, .indexAddr T x y,ty,pos,af,g⟩ s (s.put d (lf (.ept q e.wd k 0))):=
  Qr rfl hn fun gh a w r=>by
    subst hk
    have hi:=hy.i r
    have hO:Own (.sl E e) w (gh.f q) [gh.h q] xs:=r.cx.en q _ he
    obtain ⟨B,m,c,h2,h3⟩:=hx gh a w r ⟨_,he⟩
    rcases hO with ⟨_,_,h⟩ | ⟨b,cap,cur,fps,k2,k3,k4,k5,k6,k7,k8⟩
    · subst h; simp at hb; omega
    · simp only [List.cons.injEq, and_true] at k3
      rw[h2] at k3
      simp only[Value.slice.injEq] at k3
      obtain ⟨rfl,rfl,rfl⟩:=k3
      rw[if_neg (by omega)] at h3
      simp only[Option.map_some,Addr.add_lit] at h3
      refine ⟨.pointer (some ⟨b,(0+lo*e.wd)+i.toNat*e.wd,none⟩), ?_,_,rfl,fun _=>⟨b,xs.length,c,h2,by rw[Nat.add_mul]; simp⟩⟩
      simp only[execOp,h3,hi,Go.Sem.run_bind,Wd hT hE h0 h1]
      simp
def cpy {α:Type}(xs:List α)(lo n:Nat)(ys:List α):List α:=xs.take lo++ys.take (min ys.length n)++xs.drop (lo+min ys.length n)
theorem Qf9 {α:Type}{l:List α}{len lo:Nat}{cs:List α}(h:lo+cs.length≤len)(h2:len≤l.length):(l.take lo++cs++l.drop (lo+cs.length)).take len=(l.take len).take lo++cs++(l.take len).drop (lo+cs.length):=by
  have hA:(l.take lo++cs).length=lo+cs.length:=by simp; omega
  rw[List.take_append,List.take_of_length_le (by omega),hA,List.take_take,Nat.min_eq_left (by omega),List.drop_take]
theorem OwnL.fp0 {w:World}(hf:e.flat=true):∀{xs:List e.Den} {fp:List Nat} {cs:List Value},OwnL (Own e w) fp cs xs→fp=[]
  | [],_,_,h=>h.1
  | _ :: _,_,_,⟨f1,f2,c1,c2,h1,h2,h3,h4⟩=>by rw[h1,Kw hf h3,OwnL.fp0 hf h4]; rfl
def Qqp (A:Amb)(s:St)(x:Operand)(q wd lo n:Nat):Prop:=∀gh a w,Rg A s gh a w→SubR (gh.h q) wd lo n (a.eval x)
end
end Go.Proofs.YtnakmhfjafecpaaGreat
namespace Go.Proofs.YtnakmhfjafecpaaGreat
open Go.RowKit
set_option maxRecDepth 100000
theorem Qe0 {α:Type _}:∀{l:List (Nat×α)} {i:Nat} {x:α},lk l i=some x→(i,x)∈l
  | (j,y) :: l,i,x,h=>by
    rw[Vw] at h
    split at h
    · rename_i e; cases h; subst e; exact List.mem_cons_self ..
    · exact List.mem_cons_of_mem _ (Qe0 h)
noncomputable def tshT:List (Nat×Bool×Nat):=[(0,false,1),(2,false,1),(3,false,1),(4,false,1),(5,false,1),(6,false,1),(8,true,4),(9,false,1),(10,false,1),(11,false,1),(12,false,1),(14,true,2),(15,false,1),(16,false,1),(17,false,1),(19,true,1),(20,false,1),(22,false,1),(24,true,2),(25,false,1),(26,false,1),(28,true,5),(30,false,1),(31,false,1),(33,false,1),(35,true,2),(36,false,1),(37,false,1),(39,true,5),(46,false,1),(47,false,1),(49,true,3),(51,true,2),(53,true,4),(55,false,1),(57,false,1),(59,true,3),(61,true,2),(63,true,4),(67,false,1),(71,false,1),(72,false,1),(77,false,1),(78,false,1),(83,true,3),(85,true,3),(88,false,1),(91,false,1),(96,false,1),(98,true,2),(99,false,1),(105,false,1),(106,false,1),(117,false,1),(123,false,1),(129,true,7),(130,false,1),(134,false,1),(142,false,1),(143,false,1),(145,true,2),(147,false,1),(153,true,2),(155,true,6),(159,true,2),(169,false,1),(172,false,1),(175,false,1),(179,true,4),(181,true,4),(186,false,1),(192,false,1),(193,false,1),(203,false,1),(209,false,1),(210,false,1),(214,false,1),(215,false,1),(217,false,1),(222,true,2),(226,true,3),(231,false,1),(239,false,1),(255,false,1),(258,true,2),(261,false,1),(265,false,1),(266,false,1),(272,false,1),(274,false,1),(276,false,1),(279,false,1),(281,false,1),(282,false,1),(286,false,1),(288,true,8),(293,false,1),(294,false,1),(295,false,1),(297,true,9),(300,true,2),(302,false,1),(305,false,1),(309,false,1),(320,false,1),(322,false,1),(324,false,1),(328,false,1),(331,false,1),(338,false,1),(340,false,1),(354,false,1)]
noncomputable def fldT:List (Nat×Nat):=[(512,0),(513,1),(514,2),(515,3),(896,0),(897,1),(1216,0),(1536,0),(1537,1),(1792,0),(1793,2),(1794,3),(1795,4),(2240,0),(2241,1),(2496,0),(2497,2),(2498,3),(2499,4),(3136,0),(3137,1),(3138,2),(3264,0),(3265,1),(3392,0),(3393,2),(3776,0),(3777,1),(3778,2),(3904,0),(3905,1),(4032,0),(4033,2),(5312,0),(5313,1),(5314,2),(5440,0),(5441,1),(5442,2),(6272,0),(6273,1),(8256,0),(8257,4),(9280,0),(9281,1),(9792,0),(9793,1),(9920,0),(9921,2),(9922,3),(9923,4),(9924,5),(10176,0),(10177,1),(11456,0),(11457,1),(11458,2),(11459,3),(11584,0),(11585,1),(11586,2),(11587,3),(14208,0),(14209,1),(14464,0),(14465,1),(14466,2),(16512,0),(16513,1),(18432,0),(18433,3),(18434,4),(18435,5),(19008,0),(19009,3),(19010,4),(19011,7),(19012,8),(19200,0),(19201,1)]
noncomputable def sliT:List (Nat×Nat):=[(22,222),(25,153),(26,51),(30,106),(33,159),(36,145),(37,61),(46,9),(47,181),(57,179),(71,63),(77,85),(96,226),(106,3),(134,129),(143,4),(203,258),(209,5),(295,300)]
theorem Qor:(tshT.all fun p=>decide (tsh Tryz.prog p.1=some p.2))=true:=by kernel_rfl
theorem QoM:(fldT.all fun p=>decide (fld Tryz.prog (p.1 / 64) (p.1 % 64)=some p.2))=true:=by kernel_rfl
noncomputable def sliB (T E:Nat):Bool:=match Tryz.prog.underlying T with
  | some (.slice E')=>Nat.beq E' E
  | _=>false
theorem Qol:(sliT.all fun p=>sliB p.1 p.2)=true:=by kernel_rfl
theorem Qny {T:TypeId}{b:Bool}{n:Nat}(h:lk tshT T=some (b,n)):tsh Tryz.prog T=some (b,n):=of_decide_eq_true (List.all_eq_true.1 Qor _ (Qe0 h))
theorem QoE {T f o:Nat}(h:lk fldT (Nat.add (Nat.mul 64 T) f)=some o)(hf:Nat.blt f 64=true):fld Tryz.prog T f=some o:=by
  have h1:=of_decide_eq_true (List.all_eq_true.1 QoM _ (Qe0 h))
  have hf:=Nat.le_of_ble_eq_true hf
  rwa [show Nat.add (Nat.mul 64 T) f=64*T+f from rfl,show (64*T+f) / 64=T by omega,show (64*T+f) % 64=f by omega] at h1
theorem QoT {T E:TypeId}(h:lk sliT T=some E):Tryz.prog.underlying T=some (.slice E):=by
  have h1:=List.all_eq_true.1 Qol _ (Qe0 h)
  unfold sliB at h1
  split at h1
  · rename_i h2; rw[h2,Nat.eq_of_beq_eq_true h1]
  · cases h1
section
variable {A:Amb}{s s':St}{o:Oper}
theorem D_ (h:Does A Tryz.prog o s s':=by
    first
    | ((with_reducible apply Ux); exact Qa rfl; rfl; exact Qny rfl; rfl; rfl)
    | ((with_reducible apply Xy); exact Qa rfl; exact QoE rfl rfl; rfl; rfl)
    | ((with_reducible apply X0); rfl; rfl)
    | ((with_reducible apply QaI); rfl; rfl)
    | ((with_reducible apply Zz); rfl; rfl; rfl)
    | ((with_reducible apply VI); exact Qa rfl; rfl; exact Qny rfl; rfl; rfl)
    | ((with_reducible apply JG); (first | exact QM rfl | exact Yy | exact Evl.str rfl | exact Evl.val); rfl)
    | ((with_reducible apply WH); (first | exact QM rfl | exact Yy | exact Evl.str rfl | exact Evl.val); rfl)
    | ((with_reducible apply HV); (first | exact Qa rfl | exact QM rfl); (first | exact Qa rfl | exact QM rfl); rfl)
    | ((with_reducible apply Qb0); (first | exact Qa rfl | exact QM rfl); (first | exact Qa rfl | exact QM rfl); rfl)
    | ((with_reducible apply He); (first | exact Qa rfl | exact QM rfl); (first | exact Qa rfl | exact QM rfl); rfl)
    | ((with_reducible apply Qld); (first | exact Qa rfl | exact QM rfl); (first | exact Qa rfl | exact QM rfl); rfl)
    | ((with_reducible apply Ql2); (first | exact Qa rfl | exact QM rfl); (first | exact Qa rfl | exact QM rfl); rfl)
    | ((with_reducible apply Qli); (first | exact Qa rfl | exact QM rfl); (first | exact Qa rfl | exact QM rfl); rfl)
    | ((with_reducible apply Qc3); (first | exact Qa rfl | exact QM rfl); (first | exact Qa rfl | exact QM rfl); rfl; omega)
    | ((with_reducible apply Qc9); (first | exact Qa rfl | exact QM rfl); (first | exact Qa rfl | exact QM rfl); rfl; omega)
    | ((with_reducible apply Wn); exact Qa rfl; rfl)
    | ((with_reducible apply Jw); exact Qa rfl; (first | exact Qb rfl | exact Evl.ev Yy | exact Evl.ev (QM rfl)); rfl)
    | ((with_reducible apply JK); exact Qa rfl; (first | exact Qb rfl | exact Evl.ev Yy | exact Evl.ev (QM rfl)); rfl)
    | ((with_reducible apply Q0); exact Qa rfl; exact Qny rfl; rfl; rfl)
    | ((with_reducible apply Z1); exact Qa rfl; exact Qny rfl; rfl; rfl)
    | ((with_reducible apply XC); exact Qa rfl; exact QoE rfl rfl; rfl)
    | ((with_reducible apply Z8); exact Qa rfl; exact QoE rfl rfl; rfl; rfl)
    | ((with_reducible apply Qex); exact Qa rfl; rfl; rfl)
    | ((with_reducible apply Xp); exact Qa rfl; rfl; rfl)
    | ((with_reducible apply KU); exact Qa rfl; rfl; rfl; exact QoT rfl)
    | ((with_reducible apply V5); exact Qa rfl; rfl; exact QoT rfl)
    | ((with_reducible apply Qat); (first | exact Qa rfl | exact Evl.str rfl); (first | exact Qa rfl | exact Evl.str rfl); rfl)
    | ((with_reducible apply QeB); (first | exact Qa rfl | exact Evl.str rfl); (first | exact Qa rfl | exact Evl.str rfl); rfl)
    | ((with_reducible apply Z7); exact Qa rfl; exact Qa rfl; rfl)
    | ((with_reducible apply YW); exact Qa rfl; exact Qa rfl; rfl)):Does A Tryz.prog o s s':=h
theorem w_ {G G':Prop}(k:G')(h:G'→G:=by
    first
    | ((with_reducible apply lm); rfl; rfl)
    | ((with_reducible apply lgn); rfl; rfl; rfl)
    | ((with_reducible apply lc); exact D_)
    | ((with_reducible apply lgy); rfl; rfl; exact D_)
    | (with_reducible exact Qm5)
    | (with_reducible exact Qpc)
    | (with_reducible exact Wp)
    | ((with_reducible apply Qmd); exact Qa rfl)
    | ((with_reducible apply QmC); exact Qa rfl)
    | (with_reducible exact QlC)
    | (with_reducible exact QlK)
    | (with_reducible exact Qev)):G:=h k
end
end Go.Proofs.YtnakmhfjafecpaaGreat
