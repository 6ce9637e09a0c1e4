/- Abstract states: maps of one's own, read and written. No program is named here. -/
import Derived.Test.YtjaadeknhofhpaaGreatAk
import Derived.Maps.Keyed
import Derived.StringKeys
import Derived.Carry
import Derived.Laws.StructEq
import Derived.Laws.CopyRow
set_option linter.unusedSimpArgs false
set_option linter.unusedVariables false
set_option linter.unusedSectionVars false
namespace Go.Proofs.YtjaadeknhofhpaaGreat
open Go.RowKit
theorem QoV {b w:Bool}(h:(!b)=w):b= !w:=by cases b <;> subst h <;> rfl
theorem QdV {b w:Bool}(h:b=w):(!b)= !w:=by rw[h]
theorem Qg {A:Amb}{P:Program}{s:St}{Q:Exit→St→Prop}{ops:Array Oper}{o:Oper}{l:List Oper}{j d:Nat}{b:Bool}(hg:o.guard=some (j,b))(hd:(ops[j]?).bind (·.dst)=some d)(hb:lk s.tm d=some (lf (.val undef)))
    (k:AL A P ops l Q (match o.dst with | some d'=>s.put d' (lf (.val undef)) | none=>s)) (hn:(match o.dst with | some d'=>Nat.blt d' A.n | none=>true)=true):AL A P ops (o :: l) Q s:=fun a w r=>by
  obtain ⟨gh,r'⟩:=r
  have hy:yielded ops a.tmps j=none:=by
    obtain ⟨v,h1,l,h2,h3⟩:=r'.tm d _ hb
    simp only[aB,and_true] at h2
    subst h2
    have h3:v=undef:=h3
    subst h3
    simp[yielded,hd,h1,undef]
  refine wpList_step fun K hK=> ?_
  rw[if_neg (by simp[Region.wanted,hg,hy])]
  refine hK _ _ (k _ _ ?_)
  cases hdst:o.dst with
  | none=>exact ⟨gh,r'⟩
  | some d'=>
    rw[hdst] at hn
    exact ⟨gh,r'.put (aE hn) (pv:=lf (.val undef)) ⟨_,rfl,rfl⟩⟩
theorem Qsi {A:Amb}{P:Program}{s:St}{ops:Array Oper}{o:Oper}{j d d':Nat}{b:Bool}(hg:o.guard=some (j,b))(hd:(ops[j]?).bind (·.dst)=some d)(hb:lk s.tm d=some (lf (.val undef)))(ho:o.dst=some d')(hn:Nat.blt d' A.n=true):Acts A P ops o s (s.put d' (lf (.val undef))):=fun a w K Q r hK=>by
  obtain ⟨gh,r'⟩:=r
  have hy:yielded ops a.tmps j=none:=by
    obtain ⟨v,h1,l,h2,h3⟩:=r'.tm d _ hb
    simp only[aB,and_true] at h2
    subst h2
    have h3:v=undef:=h3
    subst h3
    simp[yielded,hd,h1,undef]
  rw[if_neg (by simp[Region.wanted,hg,hy]),ho]
  exact hK _ _ ⟨gh,r'.put (aE hn) (pv:=lf (.val undef)) ⟨_,rfl,rfl⟩⟩
theorem QcD {P:Program}{T E:TypeId}{w:World}{B:Option Addr}{n c:Nat}(d:Nat)(h:P.underlying T=some (.slice E)):(Op.equalIn (d+1) T (.slice B n c) (.slice none 0 0)).run P w= .ok B.isNone w:=by
  cases B <;> simp[Op.equalIn,run_underlying h]
theorem Qoi {P:Program}{T E:TypeId}{w:World}{B:Option Addr}{n c:Nat}(h:P.underlying T=some (.slice E)):(binOp .eql T (.slice B n c) (.slice none 0 0)).run P w= .ok (.bool B.isNone) w:=by
  have h1:=QcD (w:=w) (B:=B) (n:=n) (c:=c) 9999 h
  simp only[binOp]
  simp[Op.equal,Op.maxDepth,h1]
theorem Qje {A:Amb}{P:Program}{s:St}{x y:Operand}{d:Nat}{T T' ty:TypeId}{pos:String}{af:Array Edge}{ops:Array Oper}{l:List Oper}{Q:Exit→St→Prop}{E E':TypeId}{e:Ty}{xs:List e.Den}(hx:Evl A s x (.dat (.sl E e) xs))(hy:Evl A s y (.val (.slice none 0 0)))
    (hT:P.underlying T=some (.slice E')) (hn:Nat.blt d A.n=true) (k:∀b:Bool,(b=true→xs=[])→AL A P ops l Q (s.put d (lf (dB b)))):AL A P ops (⟨some d, .binOp .eql T x y T',ty,pos,af,none⟩ :: l) Q s:=
  fun a w r=>wpList_plain rfl fun _ hK=>by
    obtain ⟨gh,r'⟩:=r
    obtain ⟨B,c,hv,h1,h2,h3⟩:=Rd.rep (hx gh a w r')
    simp only[aB,and_true] at hv
    have hy':a.eval y= .slice none 0 0:=hy gh a w r'
    have e:(execOp a.eval ⟨some d, .binOp .eql T x y T',ty,pos,af,none⟩).run P w= .ok (.value (.bool B.isNone)) w:=by
      simp only[execOp,hv,hy',eqGuard_at_slice]
      simp[aw,Qoi hT]
    unfold Oper.wp
    rw[e,Oper.upon_value]
    refine hK _ _ (k B.isNone (fun h=> ?_) _ _ ⟨gh,r'.put (aE hn) (pv:=lf (dB B.isNone)) ⟨_,rfl,Yg⟩⟩)
    cases xs with
    | nil=>rfl
    | cons z zs=>
      obtain ⟨b,o,h4,_⟩:=h3 (by simp)
      rw[h4] at h
      cases h
theorem Qd1 {A:Amb}{P:Program}{s:St}{x y:Operand}{d:Nat}{T ty:TypeId}{pos:String}{af:Array Edge}{g:Option (Nat×Bool)}(t:Nat){E:TypeId}{e:Ty}{n:Int}{z:Value}{bytes:Nat}(hx:Evl A s x (dI n))(hy:Evl A s y (dI n))(hT:P.underlying T=some (.slice E))(hi:(P.info? E).map (fun i=>(i.zero,i.size,i.bytes))=some (some z,e.wd,bytes))
    (hz:z.cells.toList=e.zeros) (h0:0≤n) (hb:bytes*n.toNat≤281474976710656) (hm:n.toNat≤1073741824) (hn:Nat.blt d A.n=true) (hfr:Fresh s t) (hk0:A.k0≤t):Does A P ⟨some d, .makeSlice T x y,ty,pos,af,g⟩ s (s.mk_ d t [] E e (List.replicate n.toNat e.zero)):=by
  have e0:n=(n.toNat:Int):=by omega
  rw[e0] at hx hy
  exact Wd t hx hy hT hi hz hb hm hn hfr hk0
def QjH {α:Type}(f:α→α→Bool):List α→List α→Bool
  | [],[]=>true
  | x :: xs,y :: ys=>f x y&&QjH f xs ys
  | _,_=>false
def Ty.beq:(t:Ty)→t.Den→t.Den→Bool
  | .int,x,y=>decide ((x:Int)=y)
  | .bool,x,y=>(x:Bool)==y
  | .str,x,y=>decide ((x:ByteArray)=y)
  | .u8,x,y=>decide ((x:UInt8)=y)
  | .vl,x,y=>decide ((x:Hdr)=y)
  | .sl _ e,x,y=>QjH e.beq x y
  | .pr a b,x,y=>a.beq x.1 y.1&&b.beq x.2 y.2
theorem QiN {α:Type}{f:α→α→Bool}(h:∀x y,f x y=true↔x=y):∀xs ys:List α,QjH f xs ys=true↔xs=ys
  | [],[]=>by simp[QjH]
  | [],_ :: _=>by simp[QjH]
  | _ :: _,[]=>by simp[QjH]
  | x :: xs,y :: ys=>by simp[QjH,h,QiN h xs ys]
theorem Ty.beq_iff:∀(t:Ty) (x y:t.Den),t.beq x y=true↔x=y
  | .int,x,y=>by simp[Ty.beq]
  | .bool,x,y=>by simp[Ty.beq]
  | .str,x,y=>by simp[Ty.beq]
  | .u8,x,y=>by simp[Ty.beq]
  | .vl,x,y=>by simp[Ty.beq]
  | .sl _ e,x,y=>QiN (Ty.beq_iff e) x y
  | .pr a b,x,y=>by
    obtain ⟨x1,x2⟩:=x
    obtain ⟨y1,y2⟩:=y
    simp[Ty.beq,Ty.beq_iff a,Ty.beq_iff b]
theorem Z2 (t:Ty)(x:t.Den):t.beq x x=true:=(t.beq_iff x x).2 rfl
def Ty.fcs:(t:Ty)→t.Den→List Value
  | .int,x=>[.int .i64 x]
  | .bool,x=>[.bool x]
  | .str,x=>[.string x]
  | .u8,x=>[.int .u8 (x:UInt8).toNat]
  | .vl,x=>[hdV x]
  | .sl _ _,_=>[]
  | .pr a b,x=>a.fcs x.1++b.fcs x.2
theorem Rep.fcs:∀{t:Ty} {w:World} {cs:List Value} {x:t.Den},Rep t w cs x→t.flat=true→cs=t.fcs x
  | .int,_,_,_,h,_=>h.1
  | .bool,_,_,_,h,_=>h
  | .str,_,_,_,h,_=>h.1
  | .u8,_,_,_,h,_=>h
  | .vl,_,_,_,h,_=>h
  | .sl _ _,_,_,_,_,hf=>by cases hf
  | .pr a b,w,_,_,⟨l,r,h1,h2,h3⟩,hf=>by
    have hf:(a.flat&&b.flat)=true:=hf
    rw[aG] at hf
    rw[h1,h2.fcs hf.1,h3.fcs hf.2]; rfl
theorem Rep.fcs_inj:∀{t:Ty} {w w':World} {cs:List Value} {x y:t.Den},Rep t w cs x→Rep t w' cs y→t.flat=true→x=y
  | .int,_,_,_,x,y,h,k,_=>by have h1:=h.1; have h2:=k.1; rw[h1] at h2; simpa using h2
  | .bool,_,_,_,x,y,h,k,_=>by have h1:_=_:=h; have h2:_=_:=k; rw[h1] at h2; simpa using h2
  | .str,_,_,_,x,y,h,k,_=>by have h1:=h.1; have h2:=k.1; rw[h1] at h2; simpa using h2
  | .u8,_,_,_,x,y,h,k,_=>by
    have h1:_=_:=h; have h2:_=_:=k; rw[h1] at h2
    simp only[aB,Value.int.injEq,and_true,true_and] at h2
    exact UInt8.toNat_inj.1 (by omega)
  | .vl,_,_,_,x,y,h,k,_=>by
    have h1:_=_:=h; have h2:_=_:=k; rw[h1] at h2
    exact QlO (by simpa using h2)
  | .sl _ _,_,_,_,_,_,_,_,hf=>by cases hf
  | .pr a b,w,w',_,x,y,⟨l,r,h1,h2,h3⟩,⟨l',r',k1,k2,k3⟩,hf=>by
    have hf:(a.flat&&b.flat)=true:=hf
    rw[aG] at hf
    rw[h1] at k1
    have hl:l.length=l'.length:=by rw[h2.len,k2.len]
    obtain ⟨rfl,rfl⟩:=List.append_inj k1 hl
    exact Prod.ext (h2.fcs_inj k2 hf.1) (h3.fcs_inj k3 hf.2)
def KV:Bool→(t:Ty)→Value→t.Den→Prop
  | true,t,v,x=>∃cs w,v= .agg cs.toArray∧Rep t w cs x
  | false,t,v,x=>∃w,Rep t w [v] x
theorem MV.kv {gh:Gh}{w:World}{b:Bool}{t:Ty}{v:Value}{x:t.Den}(h:MV gh w b t v x):KV b t v x:=by
  cases b with
  | true=>obtain ⟨cs,h1,h2⟩:=h; exact ⟨cs,w,h1,h2.rep⟩
  | false=>exact ⟨w,Rd.rep h⟩
theorem QqG {b:Bool}{t:Ty}{v v':Value}{x y:t.Den}(h:KV b t v x)(k:KV b t v' y)(hf:t.flat=true):v=v'↔x=y:=by
  cases b with
  | true=>
    obtain ⟨cs,w,rfl,h2⟩:=h
    obtain ⟨cs',w',rfl,k2⟩:=k
    constructor
    · intro e
      have e:cs=cs':=by simpa using e
      subst e
      exact h2.fcs_inj k2 hf
    · rintro rfl
      rw[h2.fcs hf,k2.fcs hf]
  | false=>
    obtain ⟨w,h2⟩:=h
    obtain ⟨w',k2⟩:=k
    constructor
    · rintro rfl
      exact h2.fcs_inj k2 hf
    · rintro rfl
      have:=(h2.fcs hf).trans (k2.fcs hf).symm
      simpa using this
structure KeyL (P:Program) (kt:TypeId) (kb:Bool) (k:Ty):Prop where
  K:Maps.Keyed P kt
  flat:k.flat=true
  rd:∀v x,KV kb k v x→∃l,keyOf P kt v=some l
theorem KeyL.str {P:Program}{kt:TypeId}(h:P.underlying kt=some .string):KeyL P kt false .str:=
  ⟨Maps.string_keyed h,rfl,fun v x ⟨w,h1,h2⟩=>by
    simp only[aB,and_true] at h1
    subst h1
    exact ⟨_,WideMaps.keyOf_string_mk h h2⟩⟩
theorem KeyL.int {P:Program}{kt:TypeId}(h:P.underlying kt=some (.int .i64)):KeyL P kt false .int:=
  ⟨Maps.int_keyed h,rfl,fun v x ⟨w,h1,h2⟩=>by
    simp only[aB,and_true] at h1
    subst h1
    exact ⟨_,Maps.keyOf_int_mk h (by simp[Lit.wf]; exact h2)⟩⟩
def YI (k:Ty){V:Type}:List (k.Den×V)→k.Den→Option V
  | [],_=>none
  | p :: m,x=>if k.beq p.1 x then some p.2 else YI k m x
def Vl (k:Ty){V:Type}:List (k.Den×V)→k.Den→V→List (k.Den×V)
  | [],x,v=>[(x,v)]
  | p :: m,x,v=>if k.beq p.1 x then (x,v) :: m else p :: Vl k m x v
section
variable {k:Ty}{V:Type}{m:List (k.Den×V)}{x:k.Den}{v:V}
theorem Qgh (h:∀p∈m,p.1≠x):YI k m x=none:=by
  induction m with
  | nil=>rfl
  | cons p m ih=>
    have h1:k.beq p.1 x=false:=cg.2 fun e=>h p (aA ..) ((k.beq_iff _ _).1 e)
    simp only[YI,h1]
    exact ih fun q hq=>h q (ax _ hq)
theorem QnT (h:∀p∈m,p.1≠x):Vl k m x v=m++[(x,v)]:=by
  induction m with
  | nil=>rfl
  | cons p m ih=>
    have h1:k.beq p.1 x=false:=cg.2 fun e=>h p (aA ..) ((k.beq_iff _ _).1 e)
    simp only[Vl,h1,bR]
    rw[← ih fun q hq=>h q (ax _ hq)]
    rfl
theorem Qmt (hd:m.Pairwise (fun p q=>p.1≠q.1)){j:Nat}{p:k.Den×V}(hj:m[j]? =some p)(he:p.1=x):YI k m x=some p.2:=by
  induction m generalizing j with
  | nil=>simp at hj
  | cons p0 m ih=>
    obtain ⟨h1,h2⟩:=bq.1 hd
    cases j with
    | zero=>
      simp only[bJ,ba] at hj
      subst hj
      simp[YI,(k.beq_iff _ _).2 he]
    | succ j=>
      simp only[List.getElem?_cons_succ] at hj
      have h3:k.beq p0.1 x=false:=cg.2 fun e=>h1 p (a8 hj) (((k.beq_iff _ _).1 e).trans he.symm)
      simp only[YI,h3]
      exact ih h2 hj
theorem Qsm (hd:m.Pairwise (fun p q=>p.1≠q.1)){j:Nat}{p:k.Den×V}(hj:m[j]? =some p)(he:p.1=x):Vl k m x v=m.set j (x,v):=by
  induction m generalizing j with
  | nil=>simp at hj
  | cons p0 m ih=>
    obtain ⟨h1,h2⟩:=bq.1 hd
    cases j with
    | zero=>
      simp only[bJ,ba] at hj
      subst hj
      simp[Vl,(k.beq_iff _ _).2 he]
    | succ j=>
      simp only[List.getElem?_cons_succ] at hj
      have h3:k.beq p0.1 x=false:=cg.2 fun e=>h1 p (a8 hj) (((k.beq_iff _ _).1 e).trans he.symm)
      simp only[Vl,h3,cB]
      rw[← ih h2 hj]
      rfl
theorem QqJ {q:k.Den×V}(h:q∈Vl k m x v):q=(x,v)∨q∈m:=by
  induction m with
  | nil=>simpa [Vl] using h
  | cons p m ih=>
    unfold Vl at h
    split at h
    · rcases aH.1 h with h | h
      · exact .inl h
      · exact .inr (ax _ h)
    · rcases aH.1 h with h | h
      · exact .inr (by rw[h]; exact aA ..)
      · rcases ih h with h | h
        · exact .inl h
        · exact .inr (ax _ h)
theorem Qra (hd:m.Pairwise (fun p q=>p.1≠q.1)):(Vl k m x v).Pairwise (fun p q=>p.1≠q.1):=by
  induction m with
  | nil=>simp[Vl]
  | cons p m ih=>
    obtain ⟨h1,h2⟩:=bq.1 hd
    unfold Vl
    split
    · rename_i h
      have h:=(k.beq_iff _ _).1 h
      exact bq.2 ⟨fun q hq=>by rw[← h]; exact h1 q hq,h2⟩
    · rename_i h
      refine bq.2 ⟨fun q hq=> ?_,ih h2⟩
      rcases QqJ hq with rfl | hq
      · exact fun e=>h ((k.beq_iff _ _).2 e)
      · exact h1 q hq
theorem Qfp (y:k.Den):YI k (Vl k m x v) y=if k.beq x y then some v else YI k m y:=by
  induction m with
  | nil=>simp[Vl,YI]
  | cons p m ih=>
    unfold Vl
    split
    · rename_i h
      have h:=(k.beq_iff _ _).1 h
      simp only[YI]
      rw[h]
      split <;> rfl
    · rename_i h
      simp only[YI]
      rw[ih]
      split
      · rename_i h2
        have h2:=(k.beq_iff _ _).1 h2
        rw[if_neg]
        intro h3
        exact h ((k.beq_iff _ _).2 (h2.trans ((k.beq_iff _ _).1 h3).symm))
      · rfl
end
section
variable {A:Amb}{P:Program}{s:St}{x y z:Operand}{d:Nat}{T T' ty:TypeId}{pos:String}{af:Array Edge}{g:Option (Nat×Bool)}
theorem MpL.len {gh:Gh}{w:World}{kb vb:Bool}{k v:Ty}{es:List MapEntry}{m:List (k.Den×v.Den)}(h:MpL gh w kb k vb v es m):es.length=m.length:=by
  induction es generalizing m with
  | nil=>rw[show m=[] from h]; rfl
  | cons e es ih=>obtain ⟨_,_,m',rfl,_,_,h3⟩:=h; simp[ih h3]
theorem MpL.at {gh:Gh}{w:World}{kb vb:Bool}{k v:Ty}{es:List MapEntry}{m:List (k.Den×v.Den)}(h:MpL gh w kb k vb v es m){j:Nat}{e:MapEntry}(hj:es[j]? =some e):
    ∃p,m[j]? =some p∧MV gh w kb k e.key p.1∧MV gh w vb v e.val p.2:=by
  induction es generalizing m j with
  | nil=>simp at hj
  | cons e0 es ih=>
    obtain ⟨a,b,m',rfl,h1,h2,h3⟩:=h
    cases j with
    | zero=>
      simp only[bJ,ba] at hj
      subst hj
      exact ⟨(a,b),rfl,h1,h2⟩
    | succ j=>exact ih h3 (by simpa using hj)
theorem MpL.set {gh:Gh}{w:World}{kb vb:Bool}{k v:Ty}{es:List MapEntry}{m:List (k.Den×v.Den)}(h:MpL gh w kb k vb v es m){j:Nat}{e:MapEntry}{p:k.Den×v.Den}(h1:MV gh w kb k e.key p.1)(h2:MV gh w vb v e.val p.2):
    MpL gh w kb k vb v (es.set j e) (m.set j p):=by
  induction es generalizing m j with
  | nil=>rw[show m=[] from h]; exact rfl
  | cons e0 es ih=>
    obtain ⟨a,b,m',rfl,k1,k2,k3⟩:=h
    cases j with
    | zero=>exact ⟨p.1,p.2,m',rfl,h1,h2,k3⟩
    | succ j=>exact ⟨a,b,_,rfl,k1,k2,ih k3⟩
theorem MpL.push {gh:Gh}{w:World}{kb vb:Bool}{k v:Ty}{es:List MapEntry}{m:List (k.Den×v.Den)}(h:MpL gh w kb k vb v es m){e:MapEntry}{p:k.Den×v.Den}(h1:MV gh w kb k e.key p.1)(h2:MV gh w vb v e.val p.2):
    MpL gh w kb k vb v (es++[e]) (m++[p]):=by
  induction es generalizing m with
  | nil=>rw[show m=[] from h]; exact ⟨p.1,p.2,[],rfl,h1,h2,rfl⟩
  | cons e0 es ih=>obtain ⟨a,b,m',rfl,k1,k2,k3⟩:=h; exact ⟨a,b,_,rfl,k1,k2,ih k3⟩
theorem KeyL.find {kt:TypeId}{kb vb:Bool}{k v:Ty}(KL:KeyL P kt kb k){gh:Gh}{w:World}{es:List MapEntry}{m:List (k.Den×v.Den)}(h:MpL gh w kb k vb v es m){key:Value}{q:k.Den}(hk:KV kb k key q):
    ((Instr.findKey kt key es).run P w= .ok none w∧∀p∈m,p.1≠q)∨∃(j:Nat) (e:MapEntry) (p:k.Den×v.Den),(Instr.findKey kt key es).run P w= .ok (some (j,e.val)) w∧es[j]? =some e∧m[j]? =some p∧p.1=q∧e.key=key∧MV gh w vb v e.val p.2:=by
  obtain ⟨l,hl⟩:=KL.rd _ _ hk
  rcases KL.K.find w hl es fun e he=>by
      obtain ⟨j,hj⟩:=aJ.1 he
      obtain ⟨p,h1,h2,_⟩:=h.at hj
      exact KL.rd _ _ h2.kv with ⟨h1,h2⟩ | ⟨j,e,h1,h2,h3⟩
  · refine .inl ⟨h1, fun p hp e1 => ?_⟩
    obtain ⟨j,hj⟩:=aJ.1 hp
    have hlt:j < es.length:=by rw[h.len]; exact (ab.1 hj).1
    obtain ⟨p',k1,k2,_⟩:=h.at (ai hlt)
    rw[hj] at k1
    cases k1
    exact h2 _ (cI hlt) ((QqG k2.kv hk KL.flat).2 e1)
  · obtain ⟨p, k1, k2, k3⟩ := h.at h2
    exact .inr ⟨j,e,p,h1,h2,k1,(QqG k2.kv hk KL.flat).1 h3,h3,k3⟩
theorem CmR.mv {al:Nat→Prop}{gh:Gh}{w:World}{b:Bool}{t:Ty}{v:Value}{q:t.Den}(h:CmR al gh w (b,leaves t q) v):MV gh w b t v q:=by
  cases b with
  | true=>obtain ⟨vs,rfl,h1⟩:=h; exact ⟨vs,rfl,LVs.rd h1⟩
  | false=>
    obtain ⟨l,hl,h1⟩:=h
    exact LVs.rd (al:=al) (gh:=gh) (w:=w) (show LVs al gh w (leaves t q) [v] by rw[hl]; exact ⟨v,[],rfl,h1,rfl⟩)
theorem MV.cm {al:Nat→Prop}{gh:Gh}{w:World}{b:Bool}{t:Ty}{v:Value}{q:t.Den}(h:MV gh w b t v q):CmR al gh w (b,leaves t q) v:=by
  cases b with
  | true=>obtain ⟨vs,rfl,h1⟩:=h; exact ⟨vs,rfl,h1.leaves⟩
  | false=>
    have h2:LVs al gh w (leaves t q) [v]:=Rd.leaves h
    revert h2
    generalize leaves t q=L
    intro h2
    match L,h2 with
    | [],h2=>cases h2
    | [l],h2=>
      obtain ⟨_,_,h0,h1,_⟩:=h2
      cases h0
      exact ⟨l,rfl,h1⟩
    | l :: l' :: ls,h2=>
      obtain ⟨_,_,h0,_,h3⟩:=h2
      cases h0
      obtain ⟨_,_,h0,_⟩:=h3
      cases h0
theorem Born.nil:Born [] 0:=⟨by simp,by simp⟩
theorem Born.push {es:List MapEntry}{clock:Nat}(h:Born es clock)(k v:Value):Born (es++[⟨k,v,clock⟩]) (clock+1):=by
  obtain ⟨h1,h2⟩:=h
  refine ⟨fun x hx=> ?_, ?_⟩
  · rcases aL.1 hx with hx | hx
    · have:=h1 x hx; omega
    · rw[aK] at hx; subst hx; exact Nat.lt_succ_self _
  · rw [bh, bl]
    refine ⟨h2,by simp,fun a ha b hb e=> ?_⟩
    obtain ⟨x,hx,rfl⟩:=bQ.1 ha
    simp only[bf,d6,aK] at hb
    have:=h1 x hx; omega
theorem Born.set {es:List MapEntry}{clock j:Nat}{e e':MapEntry}(h:Born es clock)(hj:es[j]? =some e)(hb:e'.born=e.born):Born (es.set j e') clock:=by
  have e1:(es.set j e').map (·.born)=es.map (·.born):=by
    rw[List.map_set]
    apply bz
    intro i
    rw[bm,b6]
    by_cases e2:j=i
    · subst e2
      have hl:=(ab.1 hj).1
      rw[hj]; simp[hl,hb]
    · simp[e2]
  obtain ⟨h1,h2⟩:=h
  refine ⟨fun x hx=> ?_,by rw[e1]; exact h2⟩
  have h3:x.born∈es.map (·.born):=by rw[← e1]; exact bQ.2 ⟨x,hx,rfl⟩
  obtain ⟨y,hy,e3⟩:=bQ.1 h3
  rw[← e3]; exact h1 y hy
theorem Qg9 (t:Nat){kt et:TypeId}{kb vb:Bool}{k v:Ty}(hn:Nat.blt d A.n=true)(hfr:Fresh s t)(hk0:A.k0≤t):Does A P ⟨some d, .makeMap T none,ty,pos,af,g⟩ s (s.new d t (.ref t) (.mp kb k vb v [])):=
  fun a w K Q r hK=>by
    obtain ⟨gh,r⟩:=r
    have e:(execOp a.eval ⟨some d, .makeMap T none,ty,pos,af,g⟩).run P w= .ok (.value (.map (some w.heap.size))) (w.alloc (.map #[] 0)):=by
      simp only[execOp,Option.map_none,aw,run_makeMap,aC]
      simp
    unfold Oper.wp
    rw[e,Oper.upon_value]
    refine hK _ _ ⟨_,(r.grow t hfr hk0 (.map #[] 0) (.map (some w.heap.size)) [w.heap.size] (.mp kb k vb v []) (by simp) (by simp) (by simp[Ent.tags]) ?_).put (aE hn) (pv:=lf (.ref t)) ⟨_,rfl,fun _=>by simp⟩⟩
    exact ⟨w.heap.size, #[],0,by simp,by simp,heap_alloc_new w _,Born.nil,bT,rfl⟩
theorem Qh1 {kt et:TypeId}{kb vb:Bool}{k v:Ty}(c:Bool)(KL:KeyL P kt kb k)(hT:P.underlying T=some (.map kt et)){zv:Value}(hz:zer P et=some zv){gh:Gh}{w:World}(hzv:MV gh w vb v zv v.zero)
    {b clock:Nat} {es:Array MapEntry} {m:List (k.Den×v.Den)} (hb:w.heap[b]? =some (.map es clock)) (hd:m.Pairwise (fun p q=>p.1≠q.1)) (h:MpL gh w kb k vb v es.toList m) {key:Value} {q:k.Den} (hk:KV kb k key q):
    ∃u,(Instr.lookup T (.map (some b)) key c).run P w= .ok (if c then .tuple #[u, .bool (YI k m q).isSome] else u) w∧MV gh w vb v u ((YI k m q).getD v.zero):=by
  obtain ⟨l,hl⟩:=KL.rd _ _ hk
  have hz':=VP (w:=w) hz
  rcases KL.find h hk with ⟨h1,h2⟩ | ⟨j,e,p,h1,h2,h3,h4,h5,h6⟩
  · refine ⟨zv, ?_, by rw [Qgh h2]; exact hzv⟩
    rw[Qgh h2]
    simp[Instr.lookup,run_underlying hT,MapKept.run_getObj_map hb,KL.K.check w _ hl,h1,hz',Result.andThen]
  · refine ⟨e.val, ?_, by rw [Qmt hd h3 h4]; exact h6⟩
    rw[Qmt hd h3 h4]
    simp[Instr.lookup,run_underlying hT,MapKept.run_getObj_map hb,KL.K.check w _ hl,h1,Result.andThen]
def ZeroV (P:Program)(et:TypeId)(vb:Bool)(v:Ty):Prop:=∃zv,zer P et=some zv∧(if vb then zv= .agg v.zeros.toArray else v.zeros=[zv])
theorem ZeroV.mv {et:TypeId}{vb:Bool}{v:Ty}(h:ZeroV P et vb v)(gh:Gh)(w:World):∃zv,zer P et=some zv∧MV gh w vb v zv v.zero:=by
  obtain ⟨zv,h1,h2⟩:=h
  refine ⟨zv,h1, ?_⟩
  cases vb with
  | true=>exact ⟨v.zeros,h2,(Z0 v w).rd (by simp)⟩
  | false=>
    have h2:v.zeros=[zv]:=h2
    show Rd gh.N v w [zv] v.zero
    rw[← h2]
    exact (Z0 v w).rd (by simp)
theorem Qsu {kt et:TypeId}{kb vb:Bool}{k v:Ty}{q:Nat}{m:List (k.Den×v.Den)}{p:k.Den}{ls kls:List LV}(KL:KeyL P kt kb k)(hT:P.underlying T=some (.map kt et))(hz:ZeroV P et vb v)
    (hx:Evl A s x (.ref q)) (he:s.tab.ent q=some (.mp kb k vb v m)) (hy:Ev A s y (kb,kls)) (hkl:kls=leaves k p) (hl:leaves v ((YI k m p).getD v.zero)=ls) (hn:Nat.blt d A.n=true):
    Does A P ⟨some d, .lookup T x y false,ty,pos,af,g⟩ s (s.put d (.cm vb ls)):=
  Qn rfl hn fun gh a w r=>by
    subst hkl hl
    have hv:a.eval x=gh.h q:=hx gh a w r ⟨_,he⟩
    obtain ⟨b,es,clock,h1,h2,h3,hB,h4,h5⟩:=r.cx.en q _ he
    obtain ⟨zv,z1,z2⟩:=hz.mv gh w
    obtain ⟨u,h6,h7⟩:=Qh1 false KL hT z1 z2 h3 h4 h5 (hy gh a w r).mv.kv
    refine ⟨u, ?_,h7.cm⟩
    simp only[execOp,hv,h1,aw,h6]
    simp
theorem Qfn {kt et:TypeId}{kb vb:Bool}{k v:Ty}{q:Nat}{m:List (k.Den×v.Den)}{p:k.Den}{ls kls:List LV}(KL:KeyL P kt kb k)(hT:P.underlying T=some (.map kt et))(hz:ZeroV P et vb v)
    (hx:Evl A s x (.ref q)) (he:s.tab.ent q=some (.mp kb k vb v m)) (hy:Ev A s y (kb,kls)) (hkl:kls=leaves k p) (hl:leaves v ((YI k m p).getD v.zero)=ls) (hn:Nat.blt d A.n=true):
    Does A P ⟨some d, .lookup T x y true,ty,pos,af,g⟩ s (s.put d (.tup [(vb,ls),(false,[dB (YI k m p).isSome])])):=
  Qn rfl hn fun gh a w r=>by
    subst hkl hl
    have hv:a.eval x=gh.h q:=hx gh a w r ⟨_,he⟩
    obtain ⟨b,es,clock,h1,h2,h3,hB,h4,h5⟩:=r.cx.en q _ he
    obtain ⟨zv,z1,z2⟩:=hz.mv gh w
    obtain ⟨u,h6,h7⟩:=Qh1 true KL hT z1 z2 h3 h4 h5 (hy gh a w r).mv.kv
    refine ⟨.tuple #[u, .bool (YI k m p).isSome], ?_,[u, .bool (YI k m p).isSome],rfl,u,[.bool (YI k m p).isSome],rfl,h7.cm,_,[],rfl,⟨_,rfl,Yg⟩,rfl⟩
    simp only[execOp,hv,h1,aw,h6]
    simp
theorem Qoy {kt et:TypeId}{kb vb:Bool}{k v:Ty}(KL:KeyL P kt kb k)(hT:P.underlying T=some (.map kt et)){gh:Gh}{w:World}
    {b clock:Nat} {es:Array MapEntry} {m:List (k.Den×v.Den)} (hb:w.heap[b]? =some (.map es clock)) (hB:Born es.toList clock) (hd:m.Pairwise (fun p q=>p.1≠q.1)) (h:MpL gh w kb k vb v es.toList m) {key val:Value} {q:k.Den} {u:v.Den} (hk:MV gh w kb k key q) (hv:MV gh w vb v val u):
    ∃es' clock',(Instr.mapUpdate T (.map (some b)) key val).run P w= .ok () {w with heap:=w.heap.setIfInBounds b (.map es' clock')}∧MpL gh w kb k vb v es'.toList (Vl k m q u)∧Born es'.toList clock':=by
  obtain ⟨l,hl⟩:=KL.rd _ _ hk.kv
  rcases KL.find h hk.kv with ⟨h1,h2⟩ | ⟨j,e,p,h1,h2,h3,h4,h5,h6⟩
  · refine ⟨es.push ⟨key, val, clock⟩, clock + 1, ?_, ?_⟩
    · simp[Instr.mapUpdate,run_underlying hT,MapKept.run_getObj_map hb,KL.K.check w _ hl,h1,MapKept.run_setObj_map _ hb,Result.andThen]
    · rw [QnT h2, Array.toList_push]
      exact ⟨h.push hk hv,hB.push _ _⟩
  · have hj : es[j]? = some e := by simpa using h2
    refine ⟨es.modify j (fun e'=>{e' with key:=key,val:=val}),clock, ?_, ?_⟩
    · simp[Instr.mapUpdate,run_underlying hT,MapKept.run_getObj_map hb,KL.K.check w _ hl,h1,hj,h5,KL.K.stays w hl,MapKept.run_setObj_map _ hb,Result.andThen]
    · rw [Qsm hd h3 h4, Array.toList_modify, ChangeMaps.modify_eq_set _ _ _ _ h2]
      exact ⟨h.set hk hv,hB.set h2 rfl⟩
theorem Rg.mapset {gh:Gh}{a:Act}{w:World}(r:Rg A s gh a w){kb vb:Bool}{k v:Ty}{q:Nat}{m m':List (k.Den×v.Den)}(he:s.tab.ent q=some (.mp kb k vb v m)){b clock clock':Nat}{es es':Array MapEntry}(h1:gh.h q= .map (some b))(h2:gh.f q=[b])
    (h3:w.heap[b]? =some (.map es clock)) (hB:Born es'.toList clock') (h4:m'.Pairwise (fun p q=>p.1≠q.1)) (h5:MpL gh w kb k vb v es'.toList m'):Rg A ⟨s.tm,(q,some (.mp kb k vb v m')) :: s.tab⟩ gh a {w with heap:=w.heap.setIfInBounds b (.map es' clock')}:=by
  have hlt:b < w.heap.size:=(bH.1 h3).1
  have hb:∀g,g < w.heap.size→g∉gh.f q→({w with heap:=w.heap.setIfInBounds b (.map es' clock')}:World).heap[g]? =w.heap[g]? :=fun g _ hg=>by
    rw[h2] at hg
    exact Array.getElem?_setIfInBounds_ne fun e=>hg (by simp[e])
  refine r.mod he ⟨rfl,rfl,rfl,by simp⟩ hb ⟨b,es',clock',h1,h2,by simp[hlt],hB,h4,h5.mono fun g hg=>⟨hg,hb g (r.cx.nl g hg) fun hf=>r.cx.no q ⟨_,he⟩ g hf hg⟩⟩
theorem QeZ {kt et:TypeId}{kb vb:Bool}{k v:Ty}{q:Nat}{m:List (k.Den×v.Den)}{p:k.Den}{u:v.Den}{kls vls:List LV}(KL:KeyL P kt kb k)(hT:P.underlying T=some (.map kt et))
    (hx:Evl A s x (.ref q)) (he:s.tab.ent q=some (.mp kb k vb v m)) (hy:Ev A s y (kb,kls)) (hkl:kls=leaves k p) (hz:Ev A s z (vb,vls)) (hvl:vls=leaves v u):
    Does A P ⟨none, .mapUpdate T x y z,ty,pos,af,g⟩ s ⟨s.tm,(q,some (.mp kb k vb v (Vl k m p u))) :: s.tab⟩:=fun a w K Q r hK=>by
  subst hkl hvl
  obtain ⟨gh,r⟩:=r
  have hv:a.eval x=gh.h q:=hx gh a w r ⟨_,he⟩
  obtain ⟨b,es,clock,h1,h2,h3,hB,h4,h5⟩:=r.cx.en q _ he
  obtain ⟨es',clock',h6,h7,hB'⟩:=Qoy KL hT h3 hB h4 h5 (hy gh a w r).mv (hz gh a w r).mv
  have e:(execOp a.eval ⟨none, .mapUpdate T x y z,ty,pos,af,g⟩).run P w= .ok .skip {w with heap:=w.heap.setIfInBounds b (.map es' clock')}:=by
    simp only[execOp,hv,h1,aw,h6]
    simp
  unfold Oper.wp
  rw[e,Oper.upon_skip]
  exact hK _ _ ⟨gh,(r.mapset he h1 h2 h3 hB' (Qra h4) h7).puto⟩
end
section
variable {P:Program}{T:TypeId}{m:Nat}
def EqT (P:Program)(m:Nat)(T:TypeId)(b:Bool)(t:Ty):Prop:=∀(d:Nat) (w:World) (v v':Value) (x x':t.Den),KV b t v x→KV b t v' x'→(Op.equalIn (d+m) T v v').run P w= .ok (t.beq x x') w
theorem Qvt {b:Bool}{t:Ty}(j:Nat)(h:EqT P m T b t):EqT P (m+j) T b t:=fun d w v v' x x' k k'=>by
  have:=h (d+j) w v v' x x' k k'
  rwa [bM,Nat.add_comm j m] at this
theorem EqT.int (h:P.underlying T=some (.int .i64)):EqT P (m+1) T false .int:=fun d w v v' x x' ⟨_,h1,_⟩ ⟨_,h2,_⟩=>by
  simp only[aB,and_true] at h1 h2
  rw[h1,h2,← bM,run_equalIn_int w (d+m) T _ _ _ _ h]
  rfl
theorem EqT.u8 (h:P.underlying T=some (.int .u8)):EqT P (m+1) T false .u8:=fun d w v v' x x' ⟨_,h1⟩ ⟨_,h2⟩=>by
  have h1:[v]=[.int .u8 (x:UInt8).toNat]:=h1
  have h2:[v']=[.int .u8 (x':UInt8).toNat]:=h2
  simp only[aB,and_true] at h1 h2
  rw[h1,h2,← bM,run_equalIn_int w (d+m) T _ _ _ _ h,Qld]
  rfl
theorem EqT.bool (h:P.underlying T=some .bool):EqT P (m+1) T false .bool:=fun d w v v' x x' ⟨_,h1⟩ ⟨_,h2⟩=>by
  have h1:[v]=[.bool x]:=h1
  have h2:[v']=[.bool x']:=h2
  simp only[aB,and_true] at h1 h2
  rw[h1,h2,← bM,run_equalIn_bool' w (d+m) T _ _ h]
  rfl
theorem EqT.str (h:P.underlying T=some .string):EqT P (m+1) T false .str:=fun d w v v' x x' ⟨_,h1,_⟩ ⟨_,h2,_⟩=>by
  simp only[aB,and_true] at h1 h2
  rw[h1,h2,← bM,run_equalIn_string w (d+m) T _ _ h,Qg0]
  rfl
def KAt (t:Ty)(xs:Array Value)(off:Nat)(x:t.Den):Prop:=∃w,Rep t w ((xs.toList.drop off).take t.wd) x
def EqFs (P:Program)(m:Nat)(fs:List Field)(off:Nat)(t:Ty):Prop:=∀(d:Nat) (w:World) (xs ys:Array Value) (x x':t.Den),KAt t xs off x→KAt t ys off x'→(Op.eqFields (d+m) xs ys fs).run P w= .ok (t.beq x x') w
theorem Qf3 {b:Bool}{t:Ty}{xs:Array Value}{off:Nat}{x:t.Den}{w:World}(hT:tsh P T=some (b,t.wd))(h1:b=false→t.wd=1)(h:KAt t xs off x):∃v,(part T xs off).run P w= .ok v w∧KV b t v x:=by
  obtain ⟨w0,hR⟩:=h
  have hl:=hR.len
  cases b with
  | true=>
    refine ⟨.agg (xs.extract off (off+t.wd)), ?_, ?_⟩
    · simp only [part, aw, J7 hT, aC, if_true, XZ hT]
      simp
    · refine ⟨(xs.toList.drop off).take t.wd, w0, ?_, hR⟩
      congr 1
      apply Array.ext'
      simp[List.extract_eq_take_drop]
  | false=>
    have hw:=h1 rfl
    rw[hw] at hR hl
    match hd:(xs.toList.drop off).take 1,hl with
    | [v],_=>
      rw[hd] at hR
      refine ⟨v, ?_,w0,hR⟩
      have hx:xs[off]? =some v:=by
        have h2:((xs.toList.drop off).take 1)[0]? =some v:=by rw[hd]; rfl
        rw[b8,if_pos (by omega),cC] at h2
        simpa using h2
      simp only[part,aw,J7 hT,aC]
      simp[hx]
theorem QaY {f:Field}{fs:List Field}{b:Bool}{t:Ty}{d:Nat}{w:World}{xs ys:Array Value}{x x':t.Den}(hn:f.name≠ "_")(hT:tsh P f.type=some (b,t.wd))(h1:b=false→t.wd=1)(E:EqT P m f.type b t)
    (hx:KAt t xs f.offset x) (hy:KAt t ys f.offset x'):(Op.eqFields (d+m) xs ys (f :: fs)).run P w=if t.beq x x' then (Op.eqFields (d+m) xs ys fs).run P w else .ok false w:=by
  obtain ⟨v,h2,h3⟩:=Qf3 (w:=w) hT h1 hx
  obtain ⟨v',h4,h5⟩:=Qf3 (w:=w) hT h1 hy
  have h6:=E d w v v' x x' h3 h5
  simp only[Op.eqFields,if_pos hn,ne_eq,hn,not_false_eq_true,if_true,aw,h2,h4,h6,aC]
  cases t.beq x x' <;> simp
theorem EqFs.one {f:Field}{b:Bool}{t:Ty}{off:Nat}(hn:f.name≠ "_")(ho:f.offset=off)(hT:tsh P f.type=some (b,t.wd))(h1:b=false→t.wd=1)(E:EqT P m f.type b t):EqFs P m [f] off t:=fun d w xs ys x x' hx hy=>by
  subst ho
  rw[QaY hn hT h1 E hx hy]
  cases t.beq x x' <;> simp[Op.eqFields]
theorem EqFs.cons {f:Field}{fs:List Field}{b:Bool}{t u:Ty}{off:Nat}(hn:f.name≠ "_")(ho:f.offset=off)(hT:tsh P f.type=some (b,t.wd))(h1:b=false→t.wd=1)(E:EqT P m f.type b t)(k:EqFs P m fs (off+t.wd) u):EqFs P m (f :: fs) off (.pr t u):=fun d w xs ys x x' hx hy=>by
  subst ho
  have cut:∀{zs:Array Value} {z:t.Den×u.Den},KAt (.pr t u) zs f.offset z→KAt t zs f.offset z.1∧KAt u zs (f.offset+t.wd) z.2:=fun {zs z} ⟨w0,l,r,e1,e2,e3⟩=>by
    have hl:=e2.len
    have hr:=e3.len
    have e4:(zs.toList.drop f.offset).take t.wd=l:=by
      have:=congrArg (List.take t.wd) e1
      have e6:(Ty.pr t u).wd=t.wd+u.wd:=rfl
      rw[e6,List.take_take,cv (Nat.le_add_right _ _)] at this
      rw[this,← hl,cX]
    have e5:(zs.toList.drop (f.offset+t.wd)).take u.wd=r:=by
      have:=congrArg (List.drop t.wd) e1
      have e6:(Ty.pr t u).wd=t.wd+u.wd:=rfl
      rw[e6,List.drop_take,cY,be] at this
      rw[this,← hl,List.drop_left]
    exact ⟨⟨w0,by rw[e4]; exact e2⟩,⟨w0,by rw[e5]; exact e3⟩⟩
  obtain ⟨a1,a2⟩:=cut hx
  obtain ⟨b1,b2⟩:=cut hy
  rw[QaY hn hT h1 E a1 b1,k d w xs ys x.2 x'.2 a2 b2]
  show _=Result.ok (t.beq x.1 x'.1&&u.beq x.2 x'.2) w
  cases t.beq x.1 x'.1 <;> rfl
theorem EqT.struct {fs:Array Field}{t:Ty}(ht:P.underlying T=some (.struct fs))(hp:P.stoodInHeld T=false)(h:EqFs P m fs.toList 0 t):EqT P (m+1) T true t:=fun d w v v' x x' ⟨cs,w1,h1,h2⟩ ⟨cs',w2,h3,h4⟩=>by
  have e:P.fieldsOf T=fs:=by simp[Program.fieldsOf,ht]
  rw[h1,h3,← bM,run_equalIn_struct w (d+m) T _ _ (by rw[e]; exact ht) hp,e]
  refine h d w _ _ x x' ⟨w1, ?_⟩ ⟨w2, ?_⟩
  · rw[List.drop_zero,br (by rw[List.toList_toArray,h2.len]; exact aO _)]; simpa using h2
  · rw[List.drop_zero,br (by rw[List.toList_toArray,h4.len]; exact aO _)]; simpa using h4
section
variable {A:Amb}{s:St}{x y:Operand}{d:Nat}{T' ty:TypeId}{pos:String}{af:Array Edge}{g:Option (Nat×Bool)}{t:Ty}{p q:t.Den}{ls ls':List LV}
theorem U4 (E:EqT P m T true t)(hm:(P.eqGuardType P.depth T=false)∧m≤10000)(hx:Ev A s x (true,ls))(hy:Ev A s y (true,ls'))(hl:ls=leaves t p)(hl':ls'=leaves t q)(hn:Nat.blt d A.n=true):
    Does A P ⟨some d, .binOp .eql T x y T',ty,pos,af,g⟩ s (s.put d (lf (dB (t.beq p q)))):=
  Qn rfl hn fun gh a w r=>by
    subst hl hl'
    obtain ⟨cs,h1,h2⟩:=hx gh a w r
    obtain ⟨cs',h3,h4⟩:=hy gh a w r
    have h5:=E (10000 - m) w _ _ p q ⟨cs,w,rfl,(LVs.rd h2).rep⟩ ⟨cs',w,rfl,(LVs.rd h4).rep⟩
    rw[Nat.sub_add_cancel hm.2] at h5
    refine ⟨.bool (t.beq p q), ?_,_,rfl,Yg⟩
    simp only[execOp,h1,h3]
    simp[aw,run_eqGuard_agg w _ _ _ _ _ _ hm.1,run_eql_struct,h5]
theorem UJ (E:EqT P m T true t)(hm:(P.eqGuardType P.depth T=false)∧m≤10000)(hx:Ev A s x (true,ls))(hy:Ev A s y (true,ls'))(hl:ls=leaves t p)(hl':ls'=leaves t q)(hn:Nat.blt d A.n=true):
    Does A P ⟨some d, .binOp .neq T x y T',ty,pos,af,g⟩ s (s.put d (lf (dB (!(t.beq p q))))):=
  Qn rfl hn fun gh a w r=>by
    subst hl hl'
    obtain ⟨cs,h1,h2⟩:=hx gh a w r
    obtain ⟨cs',h3,h4⟩:=hy gh a w r
    have h5:=E (10000 - m) w _ _ p q ⟨cs,w,rfl,(LVs.rd h2).rep⟩ ⟨cs',w,rfl,(LVs.rd h4).rep⟩
    rw[Nat.sub_add_cancel hm.2] at h5
    refine ⟨.bool (!(t.beq p q)), ?_,_,rfl,Yg⟩
    simp only[execOp,h1,h3]
    simp[aw,run_eqGuard_agg w _ _ _ _ _ _ hm.1,run_neq_struct,h5]
end
end
end Go.Proofs.YtjaadeknhofhpaaGreat
namespace Go.Proofs.YtjaadeknhofhpaaGreat
open Go.RowKit
section
variable {A:Amb}{P:Program}{s:St}{x y:Operand}{d:Nat}{T T' ty:TypeId}{pos:String}{af:Array Edge}{g:Option (Nat×Bool)}
variable {E:TypeId}{e:Ty}{xs:List e.Den}{q lo n:Nat}
theorem SubR.all {h:Value}{w:World}{fp:List Nat}{wd:Nat}(hO:Own (.sl E e) w fp [h] xs):SubR h wd 0 xs.length h:=by
  rcases hO with ⟨_,h1,h2⟩ | ⟨b,cap,cur,fps,_,h1,_⟩
  · subst h2
    simp only[aB,and_true] at h1
    exact ⟨none,0,0,h1,by rw[h1]; rfl⟩
  · simp only [aB, and_true] at h1
    refine ⟨some ⟨b,0,none⟩,xs.length,cap,h1, ?_⟩
    rw[h1]
    congr 1
    split
    · rfl
    · simp[Addr.add_lit]
theorem SubR.rep {h v:Value}{w:World}{fp:List Nat}(hO:Own (.sl E e) w fp [h] xs)(hs:SubR h e.wd lo n v)(hb:lo+n≤xs.length):Rep (.sl E e) w [v] ((xs.take (lo+n)).drop lo):=by
  obtain ⟨B,m,c,rfl,rfl⟩:=hs
  have hR:=hO.rep
  obtain ⟨B',c',k,_⟩:=hR
  have hR:=hO.rep
  simp only[aB,Value.slice.injEq,and_true] at k
  obtain ⟨rfl,rfl,rfl⟩:=k
  have:=hR.part (lo:=lo) (hi:=lo+n) (by omega) hb
  rwa [be] at this
theorem Yh {lo hi:Option Operand}{l h:Option Int}{bb:Bool}(hx:Evl A s x (.ref q))(he:s.tab.ent q=some (.arr E e xs))(hlo:opI A s lo l)(hhi:opI A s hi h){E':TypeId}(hT:P.underlying T=some (.slice E'))(hE:tsh P E'=some (bb,e.wd))(hn:Nat.blt d A.n=true)
    (h0:0≤l.getD 0) (h1:l.getD 0≤h.getD xs.length) (h2:h.getD xs.length≤xs.length) {a b:Nat} (ha:a=(l.getD 0).toNat) (hb:b=(h.getD xs.length).toNat - (l.getD 0).toNat):Does A P ⟨some d, .slice T x lo hi none,ty,pos,af,g⟩ s (s.put d (lf (.sub q e.wd a b))):=
  Qn rfl hn fun gh a' w r=>by
    subst ha hb
    have hv:a'.eval x=gh.h q:=hx gh a' w r ⟨_,he⟩
    have hO:Own (.sl E e) w (gh.f q) [gh.h q] xs:=r.cx.en q _ he
    obtain ⟨B,c,k1,k2,k3⟩:=hO.rep.slv
    refine ⟨_, ?_,_,rfl,fun _=>⟨B,xs.length,c,k1,rfl⟩⟩
    simp only[execOp,hv,k1,hlo.ev r,hhi.ev r,Option.map_none,Instr.sliceAt,Instr.slice,aw,run_underlying hT,aC,KP h0 h1 h2 k2,XZ hE]
    simp
theorem VK (h:Evl A s x (.sub q e.wd lo n))(he:s.tab.ent q=some (.arr E e xs))(hb:lo+n≤xs.length):QdH A s x (.sl E e) ((xs.take (lo+n)).drop lo):=fun gh a w r=>by
  have hO:Own (.sl E e) w (gh.f q) [gh.h q] xs:=r.cx.en q _ he
  exact (h gh a w r ⟨_,he⟩).rep hO hb
def cpy {α:Type}(xs:List α)(lo n:Nat)(ys:List α):List α:=xs.take lo++ys.take (min ys.length n)++xs.drop (lo+min ys.length n)
theorem QhE {α:Type}{xs:List α}{lo n:Nat}{ys:List α}(h:lo+n≤xs.length):(cpy xs lo n ys).length=xs.length:=by
  simp[cpy]; omega
theorem Qcf {α:Type}{l:List α}{len lo:Nat}{cs:List α}(h:lo+cs.length≤len)(h2:len≤l.length):(l.take lo++cs++l.drop (lo+cs.length)).take len=(l.take len).take lo++cs++(l.take len).drop (lo+cs.length):=by
  have hA:(l.take lo++cs).length=lo+cs.length:=by simp; omega
  rw[List.take_append,br (by omega),hA,List.take_take,cv (by omega),List.drop_take]
theorem OwnL.fp0 {w:World}(hf:e.flat=true):∀{xs:List e.Den} {fp:List Nat} {cs:List Value},OwnL (Own e w) fp cs xs→fp=[]
  | [],_,_,h=>h.1
  | _ :: _,_,_,⟨f1,f2,c1,c2,h1,h2,h3,h4⟩=>by rw[h1,Ug hf h3,OwnL.fp0 hf h4]; rfl
theorem OwnL.takeN {w:World}(hw:e.wd=1)(hf:e.flat=true):∀{xs:List e.Den} {fp:List Nat} {cs:List Value} (k:Nat),OwnL (Own e w) fp cs xs→OwnL (Own e w) [] (cs.take k) (xs.take k)
  | [],_,_,k,h=>by rw[h.2]; simp[OwnL]
  | x :: xs,_,_,0,_=>by simp[OwnL]
  | x :: xs,_,_,k+1,⟨f1,f2,c1,c2,h1,h2,h3,h4⟩=>by
    have hl:=h3.len
    rw[hw] at hl
    have hf1:=Ug hf h3
    subst hf1
    match c1,hl with
    | [c],_=>
      rw[h2]
      exact ⟨[],[],[c],c2.take k,rfl,rfl,h3,OwnL.takeN hw hf k h4⟩
theorem OwnL.dropN {w:World}(hw:e.wd=1)(hf:e.flat=true):∀{xs:List e.Den} {fp:List Nat} {cs:List Value} (k:Nat),OwnL (Own e w) fp cs xs→OwnL (Own e w) [] (cs.drop k) (xs.drop k)
  | [],_,_,k,h=>by rw[h.2]; simp[OwnL]
  | x :: xs,_,_,0,h=>by have:=h.fp0 hf; subst this; exact h
  | x :: xs,_,_,k+1,⟨f1,f2,c1,c2,h1,h2,h3,h4⟩=>by
    have hl:=h3.len
    rw[hw] at hl
    match c1,hl with
    | [c],_=>
      rw[h2]
      exact OwnL.dropN hw hf k h4
theorem Qfk {w:World}{dT sT ty elem:TypeId}{b o dLen dCap:Nat}{a:Addr}{sLen sCap:Nat}{cur:Array Value}{cs:List Value}(hu:P.underlying dT=some (.slice elem))(hs:(P.info? elem).map (·.size)=some 1)
    (hg:w.heap[b]? =some (.cells cur E (0,0))) (hn:cs.length=Nat.min sLen dLen) (hsrc:∀j v,cs[j]? =some v→w.cell? (a.add j)=some v) (hfit:o+cs.length≤cur.size) (h1:∀v∈cs,v.oneCell'=true):
    (Builtin.copy_ #[dT,sT] ty #[.slice (some ⟨b,o,none⟩) dLen dCap, .slice (some a) sLen sCap]).run P w= .ok (goInt cs.length) (WE w b o cs):=by
  have hl:=run_loadCells_list (P:=P) w a cs hsrc
  have hst:=V1 (P:=P) (b:=b) (E:=E) cs o 0 w cur hg (by omega) h1
  cases hq:P.info? elem with
  | none=>simp[hq] at hs
  | some i=>
    have hi:i.size=1:=by simpa [hq] using hs
    simp[Builtin.copy_,run_underlying hu,Builtin.lenOf,Builtin.firstCells,sizeOf,typeInfo,hq,hi,← hn,hl,hst]
def Qq0 (A:Amb)(s:St)(x:Operand)(q wd lo n:Nat):Prop:=∀gh a w,Rg A s gh a w→SubR (gh.h q) wd lo n (a.eval x)
theorem QoN (h:Evl A s x (.sub q e.wd lo n))(he:s.tab.ent q=some (.arr E e xs)):Qq0 A s x q e.wd lo n:=fun gh a w r=>h gh a w r ⟨_,he⟩
theorem QpQ (h:Evl A s x (.ref q))(he:s.tab.ent q=some (.arr E e xs)):Qq0 A s x q e.wd 0 xs.length:=fun gh a w r=>by
  have hO:Own (.sl E e) w (gh.f q) [gh.h q] xs:=r.cx.en q _ he
  rw[show a.eval x=gh.h q from h gh a w r ⟨_,he⟩]
  exact SubR.all hO
theorem Qez {T1 T2 elem:TypeId}{z:Value}{bytes:Nat}{ys:List e.Den}(hx:Qq0 A s x q e.wd lo n)(he:s.tab.ent q=some (.arr E e xs))(hb:lo+n≤xs.length)(hy:QdH A s y (.sl E e) ys)(hw:e.wd=1)(hf:e.flat=true)
    (hu:P.underlying T1=some (.slice elem)) (hi:(P.info? elem).map (fun i=>(i.zero,i.size,i.bytes))=some (some z,1,bytes)) (hn:Nat.blt d A.n=true):
    Does A P ⟨some d, .call ⟨.builtin .copy, #[x,y], #[T1,T2]⟩,ty,pos,af,g⟩ s ⟨(d,lf (dI (min ys.length n:Nat))) :: s.tm,(q,some (.arr E e (cpy xs lo n ys))) :: s.tab⟩:=fun a w K Q r hK=>by
  obtain ⟨gh,r⟩:=r
  have hs:(P.info? elem).map (·.size)=some 1:=by
    cases hq:P.info? elem with
    | none=>rw[hq] at hi; simp at hi
    | some i=>rw[hq] at hi; simp at hi; simp[hi.2.1]
  have hO:Own (.sl E e) w (gh.f q) [gh.h q] xs:=r.cx.en q _ he
  have hO':=hO
  obtain ⟨B,m,c,q1,q2⟩:=hx gh a w r
  have hr:=hy gh a w r
  obtain ⟨A',c2,hv2,h3,h4⟩:=hr.slv
  obtain ⟨B0,c0,z1,z2,z3⟩:=hO.rep.slv
  have hsz:(min ys.length n:Nat)≤9223372036854775807:=by unfold maxLen at z3; omega
  by_cases hz:min ys.length n=0
  · have hc : cpy xs lo n ys = xs := by simp [cpy, hz]
    have e0:(execOp a.eval ⟨some d, .call ⟨.builtin .copy, #[x,y], #[T1,T2]⟩,ty,pos,af,g⟩).run P w= .ok (.value (goInt ((min ys.length n:Nat):Int))) w:=by
      have h5:=run_copy_none (P:=P) w T1 T2 ty elem (if c=lo then B else B.map (·.add (lo*e.wd))) A' n (c - lo) ys.length c2 hu hs hz
      rw[hz]
      simp only[execOp,resolve,invoke,builtin,q2,hv2,aw,aY,aC,d7,bf,d6,h5]
      rfl
    unfold Oper.wp
    rw[e0,Oper.upon_value]
    refine hK _ _ ⟨gh,Rg.put (s:=⟨s.tm,(q,some (.arr E e (cpy xs lo n ys))) :: s.tab⟩) (r.mod he (ZP w) (fun _ _ _=>rfl) ?_) (aE hn) (pv:=lf (dI (min ys.length n:Nat))) ⟨_,rfl,Yo (n:=((min ys.length n:Nat):Int)) (by omega)⟩⟩
    rw[hc]
    exact hO'
  · rcases hO with ⟨_, _, h⟩ | ⟨b, cap, cur, fps, p2, p3, p4, p5, p6, p7, p8⟩
    · subst h; simp at hb; omega
    have hfp:=p8.fp0 hf
    subst hfp
    simp only[aB,and_true] at p3
    rw[q1] at p3
    simp only[Value.slice.injEq] at p3
    obtain ⟨rfl,rfl,rfl⟩:=p3
    rw[if_neg (by omega)] at q2
    simp only[cU,Addr.add_lit,hw,cH,bP] at q2
    rw[hv2] at hr
    obtain ⟨_,hsrc⟩:=hr.src (M:=0) hf
    rcases hsrc with ⟨_,h0⟩ | ⟨ad,news,rfl,⟨fp,n1,_,_⟩,n4⟩
    · omega
    have hnl:=n1.len
    rw[hw,cH] at hnl
    have n5:=n1.takeN hw hf (min ys.length n)
    have hcl:(news.take (min ys.length n)).length=min ys.length n:=by rw[ak]; omega
    have hcs:cur.size=c:=by rw[p7,hw,cH]
    have h5:=Qfk (P:=P) (w:=w) (dT:=T1) (sT:=T2) (ty:=ty) (o:=lo) (dCap:=c - lo) (sCap:=c2) (sLen:=ys.length) (dLen:=n) (a:=ad) (cs:=news.take (min ys.length n)) hu hs p4 hcl
      (fun j v hj=>n4 j v (by rw[b8] at hj; split at hj; exact hj; cases hj)) (by rw[hcl]; omega) (OwnL.one (fp:=[]) n5)
    have e0:(execOp a.eval ⟨some d, .call ⟨.builtin .copy, #[x,y], #[T1,T2]⟩,ty,pos,af,g⟩).run P w= .ok (.value (goInt ((min ys.length n:Nat):Int))) (WE w b lo (news.take (min ys.length n))):=by
      rw[hcl] at h5
      simp only[execOp,resolve,invoke,builtin,q2,hv2,aw,aY,aC,d7,bf,d6,h5]
    unfold Oper.wp
    rw[e0,Oper.upon_value]
    obtain ⟨cur',m1,m2,m3⟩:=VH b E (0,0) (news.take (min ys.length n)) w lo cur p4 (by rw[hcl]; omega)
    refine hK _ _ ⟨gh,Rg.put (s:=⟨s.tm,(q,some (.arr E e (cpy xs lo n ys))) :: s.tab⟩) (r.mod he (UK w b lo _) (fun g0 _ hg0=>Y2 w b lo _ g0 fun h=>hg0 (by rw[p2,h]; simp)) ?_) (aE hn) (pv:=lf (dI (min ys.length n:Nat))) ⟨_,rfl,Yo (n:=((min ys.length n:Nat):Int)) (by omega)⟩⟩
    have hcp:=QhE (ys:=ys) hb
    refine .inr ⟨b,c,cur',[],p2,by rw[q1,hcp],m1,by omega,p6,by rw[m2]; exact p7, ?_⟩
    rw[hw,cH] at p8 ⊢
    rw[hcp]
    have hlist:cur'.toList.take xs.length=(cur.toList.take xs.length).take lo++news.take (min ys.length n)++(cur.toList.take xs.length).drop (lo+min ys.length n):=by
      have h9:=Qcf (l:=cur.toList) (len:=xs.length) (lo:=lo) (cs:=news.take (min ys.length n)) (by rw[hcl]; omega) (by simp; omega)
      rw[m3,h9,hcl]
    rw[hlist]
    have keep:∀{cs:List Value} {zs:List e.Den},OwnL (Own e w) [] cs zs→OwnL (Own e (WE w b lo (news.take (min ys.length n)))) [] cs zs:=fun h=>h.mono fun f c x hf' ho=>ho.keep fun g hg=>absurd (hf' g hg) (by simp)
    exact ((keep (p8.takeN hw hf lo)).append (keep n5)).append (keep (p8.dropN hw hf (lo+min ys.length n)))
theorem Qk3 (i:Nat)(hi:lk s.tm i=some (lf (.ref q)))(he:s.tab.ent q=some (.arr E e xs)):Wk A s ⟨(i,lf (.dat (.sl E e) xs)) :: s.tm,(q,none) :: s.tab⟩:=fun a w r=>by
  obtain ⟨gh,r⟩:=r
  obtain ⟨v,h1,l,h2,h3⟩:=r.tm i _ hi
  simp only[aB,and_true] at h2
  subst h2
  have hv:v=gh.h q:=h3 ⟨_,he⟩
  have hO:Own (.sl E e) w (gh.f q) [gh.h q] xs:=r.cx.en q _ he
  have hal:∀q',Tab.al ((q,none) :: s.tab) q'→q'≠q∧s.tab.al q':=fun q' ⟨e',h⟩=>by
    rw[Qq] at h
    by_cases e2:q'=q
    · rw[if_pos e2] at h; cases h
    · rw[if_neg e2] at h; exact ⟨e2,e',h⟩
  have r2:=r.step (T:=(q,none) :: s.tab) (gh':=⟨gh.h,gh.f,fun g=>gh.N g∨g∈gh.f q⟩) (w':=w) ⟨fun q' e' h=> ?_,fun q1 q2 k1 k2 hne=>r.cx.dj q1 q2 (hal q1 k1).2 (hal q2 k2).2 hne,fun q' h=>r.cx.nd q' (hal q' h).2,fun q' h g hg hN=> ?_,fun g hN=> ?_⟩
    (fun q' h=> .inl ⟨(hal q' h).2,rfl,fun _=>rfl⟩) (fun g hg=>⟨.inl hg,rfl⟩) (ZP w) (fun _ _ _=>rfl) (fun g hN=> ?_) (fun q' h g hg=> .inr ⟨q',(hal q' h).2,hg⟩)
  · exact ⟨_,r2.know h1 (pv:=lf (.dat (.sl E e) xs)) ⟨_,rfl,by rw[hv]; exact hO.rd fun g hg=> .inr hg⟩⟩
  · rw [Qq] at h
    by_cases e2:q'=q
    · rw[if_pos e2] at h; cases h
    · rw [if_neg e2] at h
      exact (r.cx.en q' e' h).mono (fun r' _ h'=>⟨(hal r' h').2,rfl⟩) (fun g hg=>⟨.inl hg,rfl⟩) rfl rfl fun _ _=>rfl
  · rcases hN with hN | hN
    · exact r.cx.no q' (hal q' h).2 g hg hN
    · exact r.cx.dj q' q (hal q' h).2 ⟨_,he⟩ (hal q' h).1 g hg hN
  · rcases hN with hN | hN
    · exact r.cx.nl g hN
    · exact Own.lt hO g hN
  · rcases hN with hN | hN
    · exact .inl hN
    · exact .inr (.inr ⟨q,⟨_,he⟩,hN,fun hl=>r.xn g hl (r.ox q ⟨_,he⟩ g hN hl)⟩)
end
end Go.Proofs.YtjaadeknhofhpaaGreat
