/- Abstract states: maps of one's own, read and written. No program is named here. -/
import Derived.Test.YtjaadeknhofhpaaGreatAk
import Derived.Maps.Keyed
import Derived.StringKeys
import Derived.Carry
import Derived.Laws.StructEq
import Derived.Laws.CopyRow
import Derived.Test.YtjaadeknhofhpaaGreatAf
set_option linter.unusedSimpArgs false
set_option linter.unusedVariables false
set_option linter.unusedSectionVars false
namespace Go.Proofs.YtjaadeknhofhpaaGreat
open Go.RowKit
theorem QeM {A:Amb}{P:Program}{s:St}{fn:Func}{r1 r2 r3 r4:ResultVar}{c1 c2 c3 c4:Bool×List LV}(hr:fn.results= #[r1,r2,r3,r4])(h1:Rs A P s r1 c1)(h2:Rs A P s r2 c2)(h3:Rs A P s r3 c3)(h4:Rs A P s r4 c4):Res A P fn s (.tup [c1,c2,c3,c4]):=fun gh a w g=>by
  obtain ⟨v1,a1,b1⟩:=h1 gh a w g
  obtain ⟨v2,a2,b2⟩:=h2 gh a w g
  obtain ⟨v3,a3,b3⟩:=h3 gh a w g
  obtain ⟨v4,a4,b4⟩:=h4 gh a w g
  refine ⟨.tuple #[v1,v2,v3,v4], ?_,[v1,v2,v3,v4],rfl,v1,[v2,v3,v4],rfl,b1,v2,[v3,v4],rfl,b2,v3,[v4],rfl,b3,v4,[],rfl,b4,rfl⟩
  rw[Uh,hr]; simp[Vq,a1,a2,a3,a4,db]
theorem QsK {b w:Bool}(h:(!b)=w):b= !w:=by cases b <;> subst h <;> rfl
theorem Qo3 {b w:Bool}(h:b=w):(!b)= !w:=by rw[h]
theorem QQ {A:Amb}{P:Program}{s:St}{Q:Exit→St→Prop}{ops:Array Oper}{o:Oper}{l:List Oper}{j d:Nat}{b:Bool}(hg:o.guard=some (j,b))(hd:(ops[j]?).bind (·.dst)=some d)(hb:lk s.tm d=some (lf (.val undef)))
    (k:AL A P ops l Q (match o.dst with | some d'=>s.put d' (lf (.val undef)) | none=>s)) (hn:(match o.dst with | some d'=>Nat.blt d' A.n | none=>true)=true):AL A P ops (o :: l) Q s:=fun a w r=>by
  obtain ⟨gh,r'⟩:=r
  have hy:yielded ops a.tmps j=none:=by
    obtain ⟨v,h1,l,h2,h3⟩:=r'.tm d _ hb
    simp only[aB,and_true] at h2
    subst h2
    have h3:v=undef:=h3
    subst h3
    simp[yielded,hd,h1,undef]
  refine wpList_step fun K hK=> ?_
  rw[if_neg (by simp[Region.wanted,hg,hy])]
  refine hK _ _ (k _ _ ?_)
  cases hdst:o.dst with
  | none=>exact ⟨gh,r'⟩
  | some d'=>
    rw[hdst] at hn
    exact ⟨gh,r'.put (aC hn) (pv:=lf (.val undef)) ⟨_,rfl,rfl⟩⟩
theorem QcQ {P:Program}{T E:TypeId}{w:World}{B:Option Addr}{n c:Nat}(d:Nat)(h:P.underlying T=some (.slice E)):(Op.equalIn (d+1) T (.slice B n c) (.slice none 0 0)).run P w= .ok B.isNone w:=by
  cases B <;> simp[Op.equalIn,run_underlying h]
theorem Qgi {P:Program}{T E:TypeId}{w:World}{B:Option Addr}{n c:Nat}(h:P.underlying T=some (.slice E)):(binOp .eql T (.slice B n c) (.slice none 0 0)).run P w= .ok (.bool B.isNone) w:=by
  have h1:=QcQ (w:=w) (B:=B) (n:=n) (c:=c) 9999 h
  simp only[binOp]
  simp[Op.equal,Op.maxDepth,h1]
theorem QoN {A:Amb}{P:Program}{s:St}{x y:Operand}{d:Nat}{T T' ty:TypeId}{pos:String}{af:Array Edge}{ops:Array Oper}{l:List Oper}{Q:Exit→St→Prop}{E E':TypeId}{e:Ty}{xs:List e.Den}(hx:Evl A s x (.dat (.sl E e) xs))(hy:Evl A s y (.val (.slice none 0 0)))
    (hT:P.underlying T=some (.slice E')) (hn:Nat.blt d A.n=true) (k:∀b:Bool,(b=true→xs=[])→AL A P ops l Q (s.put d (lf (dB b)))):AL A P ops (⟨some d, .binOp .eql T x y T',ty,pos,af,none⟩ :: l) Q s:=
  fun a w r=>wpList_plain rfl fun _ hK=>by
    obtain ⟨gh,r'⟩:=r
    obtain ⟨B,c,hv,h1,h2,h3⟩:=Rd.rep (hx gh a w r')
    simp only[aB,and_true] at hv
    have hy':a.eval y= .slice none 0 0:=hy gh a w r'
    have e:(execOp a.eval ⟨some d, .binOp .eql T x y T',ty,pos,af,none⟩).run P w= .ok (.value (.bool B.isNone)) w:=by
      simp only[execOp,hv,hy',eqGuard_at_slice]
      simp[ax,Qgi hT]
    unfold Oper.wp
    rw[e,Oper.upon_value]
    refine hK _ _ (k B.isNone (fun h=> ?_) _ _ ⟨gh,r'.put (aC hn) (pv:=lf (dB B.isNone)) ⟨_,rfl,YR⟩⟩)
    cases xs with
    | nil=>rfl
    | cons z zs=>
      obtain ⟨b,o,h4,_⟩:=h3 (by simp)
      rw[h4] at h
      cases h
theorem Qi8 {A:Amb}{P:Program}{s:St}{x y:Operand}{d:Nat}{T ty:TypeId}{pos:String}{af:Array Edge}{g:Option (Nat×Bool)}(t:Nat){E:TypeId}{e:Ty}{n:Int}{z:Value}{bytes:Nat}(hx:Evl A s x (dI n))(hy:Evl A s y (dI n))(hT:P.underlying T=some (.slice E))(hi:(P.info? E).map (fun i=>(i.zero,i.size,i.bytes))=some (some z,e.wd,bytes))
    (hz:z.cells.toList=e.zeros) (h0:0≤n) (hb:bytes*n.toNat≤281474976710656) (hm:n.toNat≤1073741824) (hn:Nat.blt d A.n=true) (hfr:Fresh s t) (hk0:A.k0≤t):Does A P ⟨some d, .makeSlice T x y,ty,pos,af,g⟩ s (s.mk_ d t [] E e (List.replicate n.toNat e.zero)):=by
  have e0:n=(n.toNat:Int):=by omega
  rw[e0] at hx hy
  exact Kg t hx hy hT hi hz hb hm hn hfr hk0
def Qkk {α:Type}(f:α→α→Bool):List α→List α→Bool
  | [],[]=>true
  | x :: xs,y :: ys=>f x y&&Qkk f xs ys
  | _,_=>false
def Ty.beq:(t:Ty)→t.Den→t.Den→Bool
  | .int,x,y=>decide ((x:Int)=y)
  | .bool,x,y=>(x:Bool)==y
  | .str,x,y=>decide ((x:ByteArray)=y)
  | .u8,x,y=>decide ((x:UInt8)=y)
  | .vl,x,y=>decide ((x:Hdr)=y)
  | .sl _ e,x,y=>Qkk e.beq x y
  | .pr a b,x,y=>a.beq x.1 y.1&&b.beq x.2 y.2
theorem Qic {α:Type}{f:α→α→Bool}(h:∀x y,f x y=true↔x=y):∀xs ys:List α,Qkk f xs ys=true↔xs=ys
  | [],[]=>by simp[Qkk]
  | [],_ :: _=>by simp[Qkk]
  | _ :: _,[]=>by simp[Qkk]
  | x :: xs,y :: ys=>by simp[Qkk,h,Qic h xs ys]
theorem Ty.beq_iff:∀(t:Ty) (x y:t.Den),t.beq x y=true↔x=y
  | .int,x,y=>by simp[Ty.beq]
  | .bool,x,y=>by simp[Ty.beq]
  | .str,x,y=>by simp[Ty.beq]
  | .u8,x,y=>by simp[Ty.beq]
  | .vl,x,y=>by simp[Ty.beq]
  | .sl _ e,x,y=>Qic (Ty.beq_iff e) x y
  | .pr a b,x,y=>by
    obtain ⟨x1,x2⟩:=x
    obtain ⟨y1,y2⟩:=y
    simp[Ty.beq,Ty.beq_iff a,Ty.beq_iff b]
theorem Zc (t:Ty)(x:t.Den):t.beq x x=true:=(t.beq_iff x x).2 rfl
def Ty.fcs:(t:Ty)→t.Den→List Value
  | .int,x=>[.int .i64 x]
  | .bool,x=>[.bool x]
  | .str,x=>[.string x]
  | .u8,x=>[.int .u8 (x:UInt8).toNat]
  | .vl,x=>[hdV x]
  | .sl _ _,_=>[]
  | .pr a b,x=>a.fcs x.1++b.fcs x.2
theorem Rep.fcs:∀{t:Ty} {w:World} {cs:List Value} {x:t.Den},Rep t w cs x→t.flat=true→cs=t.fcs x
  | .int,_,_,_,h,_=>h.1
  | .bool,_,_,_,h,_=>h
  | .str,_,_,_,h,_=>h.1
  | .u8,_,_,_,h,_=>h
  | .vl,_,_,_,h,_=>h
  | .sl _ _,_,_,_,_,hf=>by cases hf
  | .pr a b,w,_,_,⟨l,r,h1,h2,h3⟩,hf=>by
    have hf:(a.flat&&b.flat)=true:=hf
    rw[aF] at hf
    rw[h1,h2.fcs hf.1,h3.fcs hf.2]; rfl
theorem Rep.fcs_inj:∀{t:Ty} {w w':World} {cs:List Value} {x y:t.Den},Rep t w cs x→Rep t w' cs y→t.flat=true→x=y
  | .int,_,_,_,x,y,h,k,_=>by have h1:=h.1; have h2:=k.1; rw[h1] at h2; simpa using h2
  | .bool,_,_,_,x,y,h,k,_=>by have h1:_=_:=h; have h2:_=_:=k; rw[h1] at h2; simpa using h2
  | .str,_,_,_,x,y,h,k,_=>by have h1:=h.1; have h2:=k.1; rw[h1] at h2; simpa using h2
  | .u8,_,_,_,x,y,h,k,_=>by
    have h1:_=_:=h; have h2:_=_:=k; rw[h1] at h2
    simp only[aB,Value.int.injEq,and_true,true_and] at h2
    exact UInt8.toNat_inj.1 (by omega)
  | .vl,_,_,_,x,y,h,k,_=>by
    have h1:_=_:=h; have h2:_=_:=k; rw[h1] at h2
    exact Qk2 (by simpa using h2)
  | .sl _ _,_,_,_,_,_,_,_,hf=>by cases hf
  | .pr a b,w,w',_,x,y,⟨l,r,h1,h2,h3⟩,⟨l',r',k1,k2,k3⟩,hf=>by
    have hf:(a.flat&&b.flat)=true:=hf
    rw[aF] at hf
    rw[h1] at k1
    have hl:l.length=l'.length:=by rw[h2.len,k2.len]
    obtain ⟨rfl,rfl⟩:=List.append_inj k1 hl
    exact Prod.ext (h2.fcs_inj k2 hf.1) (h3.fcs_inj k3 hf.2)
def KV:Bool→(t:Ty)→Value→t.Den→Prop
  | true,t,v,x=>∃cs w,v= .agg cs.toArray∧Rep t w cs x
  | false,t,v,x=>∃w,Rep t w [v] x
theorem MV.kv {gh:Gh}{w:World}{b:Bool}{t:Ty}{v:Value}{x:t.Den}(h:MV gh w b t v x):KV b t v x:=by
  cases b with
  | true=>obtain ⟨cs,h1,h2⟩:=h; exact ⟨cs,w,h1,h2.rep⟩
  | false=>exact ⟨w,Rd.rep h⟩
theorem QoP {b:Bool}{t:Ty}{v v':Value}{x y:t.Den}(h:KV b t v x)(k:KV b t v' y)(hf:t.flat=true):v=v'↔x=y:=by
  cases b with
  | true=>
    obtain ⟨cs,w,rfl,h2⟩:=h
    obtain ⟨cs',w',rfl,k2⟩:=k
    constructor
    · intro e
      have e:cs=cs':=by simpa using e
      subst e
      exact h2.fcs_inj k2 hf
    · rintro rfl
      rw[h2.fcs hf,k2.fcs hf]
  | false=>
    obtain ⟨w,h2⟩:=h
    obtain ⟨w',k2⟩:=k
    constructor
    · rintro rfl
      exact h2.fcs_inj k2 hf
    · rintro rfl
      have:=(h2.fcs hf).trans (k2.fcs hf).symm
      simpa using this
structure KeyL (P:Program) (kt:TypeId) (kb:Bool) (k:Ty):Prop where
  K:Maps.Keyed P kt
  flat:k.flat=true
  rd:∀v x,KV kb k v x→∃l,keyOf P kt v=some l
theorem KeyL.str {P:Program}{kt:TypeId}(h:P.underlying kt=some .string):KeyL P kt false .str:=
  ⟨Maps.string_keyed h,rfl,fun v x ⟨w,h1,h2⟩=>by
    simp only[aB,and_true] at h1
    subst h1
    exact ⟨_,WideMaps.keyOf_string_mk h h2⟩⟩
theorem KeyL.int {P:Program}{kt:TypeId}(h:P.underlying kt=some (.int .i64)):KeyL P kt false .int:=
  ⟨Maps.int_keyed h,rfl,fun v x ⟨w,h1,h2⟩=>by
    simp only[aB,and_true] at h1
    subst h1
    exact ⟨_,Maps.keyOf_int_mk h (by simp[Lit.wf]; exact h2)⟩⟩
def WI (k:Ty){V:Type}:List (k.Den×V)→k.Den→Option V
  | [],_=>none
  | p :: m,x=>if k.beq p.1 x then some p.2 else WI k m x
def Wa (k:Ty){V:Type}:List (k.Den×V)→k.Den→V→List (k.Den×V)
  | [],x,v=>[(x,v)]
  | p :: m,x,v=>if k.beq p.1 x then (x,v) :: m else p :: Wa k m x v
section
variable {k:Ty}{V:Type}{m:List (k.Den×V)}{x:k.Den}{v:V}
theorem QfZ (h:∀p∈m,p.1≠x):WI k m x=none:=by
  induction m with
  | nil=>rfl
  | cons p m ih=>
    have h1:k.beq p.1 x=false:=cv.2 fun e=>h p (aA ..) ((k.beq_iff _ _).1 e)
    simp only[WI,h1]
    exact ih fun q hq=>h q (aD _ hq)
theorem Qfx (h:∀p∈m,p.1≠x):Wa k m x v=m++[(x,v)]:=by
  induction m with
  | nil=>rfl
  | cons p m ih=>
    have h1:k.beq p.1 x=false:=cv.2 fun e=>h p (aA ..) ((k.beq_iff _ _).1 e)
    simp only[Wa,h1,bl]
    rw[← ih fun q hq=>h q (aD _ hq)]
    rfl
theorem QlS (hd:m.Pairwise (fun p q=>p.1≠q.1)){j:Nat}{p:k.Den×V}(hj:m[j]? =some p)(he:p.1=x):WI k m x=some p.2:=by
  induction m generalizing j with
  | nil=>simp at hj
  | cons p0 m ih=>
    obtain ⟨h1,h2⟩:=bg.1 hd
    cases j with
    | zero=>
      simp only[bh,bd] at hj
      subst hj
      simp[WI,(k.beq_iff _ _).2 he]
    | succ j=>
      simp only[bJ] at hj
      have h3:k.beq p0.1 x=false:=cv.2 fun e=>h1 p (ai hj) (((k.beq_iff _ _).1 e).trans he.symm)
      simp only[WI,h3]
      exact ih h2 hj
theorem QqH (hd:m.Pairwise (fun p q=>p.1≠q.1)){j:Nat}{p:k.Den×V}(hj:m[j]? =some p)(he:p.1=x):Wa k m x v=m.set j (x,v):=by
  induction m generalizing j with
  | nil=>simp at hj
  | cons p0 m ih=>
    obtain ⟨h1,h2⟩:=bg.1 hd
    cases j with
    | zero=>
      simp only[bh,bd] at hj
      subst hj
      simp[Wa,(k.beq_iff _ _).2 he]
    | succ j=>
      simp only[bJ] at hj
      have h3:k.beq p0.1 x=false:=cv.2 fun e=>h1 p (ai hj) (((k.beq_iff _ _).1 e).trans he.symm)
      simp only[Wa,h3,co]
      rw[← ih h2 hj]
      rfl
theorem Qny {q:k.Den×V}(h:q∈Wa k m x v):q=(x,v)∨q∈m:=by
  induction m with
  | nil=>simpa [Wa] using h
  | cons p m ih=>
    unfold Wa at h
    split at h
    · rcases aG.1 h with h | h
      · exact .inl h
      · exact .inr (aD _ h)
    · rcases aG.1 h with h | h
      · exact .inr (by rw[h]; exact aA ..)
      · rcases ih h with h | h
        · exact .inl h
        · exact .inr (aD _ h)
theorem Qlp (hd:m.Pairwise (fun p q=>p.1≠q.1)):(Wa k m x v).Pairwise (fun p q=>p.1≠q.1):=by
  induction m with
  | nil=>simp[Wa]
  | cons p m ih=>
    obtain ⟨h1,h2⟩:=bg.1 hd
    unfold Wa
    split
    · rename_i h
      have h:=(k.beq_iff _ _).1 h
      exact bg.2 ⟨fun q hq=>by rw[← h]; exact h1 q hq,h2⟩
    · rename_i h
      refine bg.2 ⟨fun q hq=> ?_,ih h2⟩
      rcases Qny hq with rfl | hq
      · exact fun e=>h ((k.beq_iff _ _).2 e)
      · exact h1 q hq
theorem Qgm (y:k.Den):WI k (Wa k m x v) y=if k.beq x y then some v else WI k m y:=by
  induction m with
  | nil=>simp[Wa,WI]
  | cons p m ih=>
    unfold Wa
    split
    · rename_i h
      have h:=(k.beq_iff _ _).1 h
      simp only[WI]
      rw[h]
      split <;> rfl
    · rename_i h
      simp only[WI]
      rw[ih]
      split
      · rename_i h2
        have h2:=(k.beq_iff _ _).1 h2
        rw[if_neg]
        intro h3
        exact h ((k.beq_iff _ _).2 (h2.trans ((k.beq_iff _ _).1 h3).symm))
      · rfl
end
section
variable {A:Amb}{P:Program}{s:St}{x y z:Operand}{d:Nat}{T T' ty:TypeId}{pos:String}{af:Array Edge}{g:Option (Nat×Bool)}
theorem MpL.len {gh:Gh}{w:World}{kb vb:Bool}{k v:Ty}{es:List MapEntry}{m:List (k.Den×v.Den)}(h:MpL gh w kb k vb v es m):es.length=m.length:=by
  induction es generalizing m with
  | nil=>rw[show m=[] from h]; rfl
  | cons e es ih=>obtain ⟨_,_,m',rfl,_,_,h3⟩:=h; simp[ih h3]
theorem MpL.at {gh:Gh}{w:World}{kb vb:Bool}{k v:Ty}{es:List MapEntry}{m:List (k.Den×v.Den)}(h:MpL gh w kb k vb v es m){j:Nat}{e:MapEntry}(hj:es[j]? =some e):
    ∃p,m[j]? =some p∧MV gh w kb k e.key p.1∧MV gh w vb v e.val p.2:=by
  induction es generalizing m j with
  | nil=>simp at hj
  | cons e0 es ih=>
    obtain ⟨a,b,m',rfl,h1,h2,h3⟩:=h
    cases j with
    | zero=>
      simp only[bh,bd] at hj
      subst hj
      exact ⟨(a,b),rfl,h1,h2⟩
    | succ j=>exact ih h3 (by simpa using hj)
theorem MpL.set {gh:Gh}{w:World}{kb vb:Bool}{k v:Ty}{es:List MapEntry}{m:List (k.Den×v.Den)}(h:MpL gh w kb k vb v es m){j:Nat}{e:MapEntry}{p:k.Den×v.Den}(h1:MV gh w kb k e.key p.1)(h2:MV gh w vb v e.val p.2):
    MpL gh w kb k vb v (es.set j e) (m.set j p):=by
  induction es generalizing m j with
  | nil=>rw[show m=[] from h]; exact rfl
  | cons e0 es ih=>
    obtain ⟨a,b,m',rfl,k1,k2,k3⟩:=h
    cases j with
    | zero=>exact ⟨p.1,p.2,m',rfl,h1,h2,k3⟩
    | succ j=>exact ⟨a,b,_,rfl,k1,k2,ih k3⟩
theorem MpL.push {gh:Gh}{w:World}{kb vb:Bool}{k v:Ty}{es:List MapEntry}{m:List (k.Den×v.Den)}(h:MpL gh w kb k vb v es m){e:MapEntry}{p:k.Den×v.Den}(h1:MV gh w kb k e.key p.1)(h2:MV gh w vb v e.val p.2):
    MpL gh w kb k vb v (es++[e]) (m++[p]):=by
  induction es generalizing m with
  | nil=>rw[show m=[] from h]; exact ⟨p.1,p.2,[],rfl,h1,h2,rfl⟩
  | cons e0 es ih=>obtain ⟨a,b,m',rfl,k1,k2,k3⟩:=h; exact ⟨a,b,_,rfl,k1,k2,ih k3⟩
theorem KeyL.find {kt:TypeId}{kb vb:Bool}{k v:Ty}(KL:KeyL P kt kb k){gh:Gh}{w:World}{es:List MapEntry}{m:List (k.Den×v.Den)}(h:MpL gh w kb k vb v es m){key:Value}{q:k.Den}(hk:KV kb k key q):
    ((Instr.findKey kt key es).run P w= .ok none w∧∀p∈m,p.1≠q)∨∃(j:Nat) (e:MapEntry) (p:k.Den×v.Den),(Instr.findKey kt key es).run P w= .ok (some (j,e.val)) w∧es[j]? =some e∧m[j]? =some p∧p.1=q∧e.key=key∧MV gh w vb v e.val p.2:=by
  obtain ⟨l,hl⟩:=KL.rd _ _ hk
  rcases KL.K.find w hl es fun e he=>by
      obtain ⟨j,hj⟩:=aS.1 he
      obtain ⟨p,h1,h2,_⟩:=h.at hj
      exact KL.rd _ _ h2.kv with ⟨h1,h2⟩ | ⟨j,e,h1,h2,h3⟩
  · refine .inl ⟨h1, fun p hp e1 => ?_⟩
    obtain ⟨j,hj⟩:=aS.1 hp
    have hlt:j < es.length:=by rw[h.len]; exact (au.1 hj).1
    obtain ⟨p',k1,k2,_⟩:=h.at (ap hlt)
    rw[hj] at k1
    cases k1
    exact h2 _ (cR hlt) ((QoP k2.kv hk KL.flat).2 e1)
  · obtain ⟨p, k1, k2, k3⟩ := h.at h2
    exact .inr ⟨j,e,p,h1,h2,k1,(QoP k2.kv hk KL.flat).1 h3,h3,k3⟩
theorem CmR.mv {al:Nat→Prop}{gh:Gh}{w:World}{b:Bool}{t:Ty}{v:Value}{q:t.Den}(h:CmR al gh w (b,leaves t q) v):MV gh w b t v q:=by
  cases b with
  | true=>obtain ⟨vs,rfl,h1⟩:=h; exact ⟨vs,rfl,LVs.rd h1⟩
  | false=>
    obtain ⟨l,hl,h1⟩:=h
    exact LVs.rd (al:=al) (gh:=gh) (w:=w) (show LVs al gh w (leaves t q) [v] by rw[hl]; exact ⟨v,[],rfl,h1,rfl⟩)
theorem MV.cm {al:Nat→Prop}{gh:Gh}{w:World}{b:Bool}{t:Ty}{v:Value}{q:t.Den}(h:MV gh w b t v q):CmR al gh w (b,leaves t q) v:=by
  cases b with
  | true=>obtain ⟨vs,rfl,h1⟩:=h; exact ⟨vs,rfl,h1.leaves⟩
  | false=>
    have h2:LVs al gh w (leaves t q) [v]:=Rd.leaves h
    revert h2
    generalize leaves t q=L
    intro h2
    match L,h2 with
    | [],h2=>cases h2
    | [l],h2=>
      obtain ⟨_,_,h0,h1,_⟩:=h2
      cases h0
      exact ⟨l,rfl,h1⟩
    | l :: l' :: ls,h2=>
      obtain ⟨_,_,h0,_,h3⟩:=h2
      cases h0
      obtain ⟨_,_,h0,_⟩:=h3
      cases h0
theorem QaZ (t:Nat){kt et:TypeId}{kb vb:Bool}{k v:Ty}(hn:Nat.blt d A.n=true)(hfr:Fresh s t)(hk0:A.k0≤t):Does A P ⟨some d, .makeMap T none,ty,pos,af,g⟩ s (s.new d t (.ref t) (.mp kb k vb v [])):=
  fun a w K Q r hK=>by
    obtain ⟨gh,r⟩:=r
    have e:(execOp a.eval ⟨some d, .makeMap T none,ty,pos,af,g⟩).run P w= .ok (.value (.map (some w.heap.size))) (w.alloc (.map #[] 0)):=by
      simp only[execOp,d9,ax,run_makeMap,aE]
      simp
    unfold Oper.wp
    rw[e,Oper.upon_value]
    refine hK _ _ ⟨_,(r.grow t hfr hk0 (.map #[] 0) (.map (some w.heap.size)) [w.heap.size] (.mp kb k vb v []) (by simp) (by simp) (by simp[Ent.tags]) ?_).put (aC hn) (pv:=lf (.ref t)) ⟨_,rfl,fun _=>by simp⟩⟩
    exact ⟨w.heap.size, #[],0,by simp,by simp,heap_alloc_new w _,cu,rfl⟩
theorem Qmi {q:Nat}{kt et:TypeId}{kb vb:Bool}{k v:Ty}{m:List (k.Den×v.Den)}(hx:Evl A s x (.ref q))(he:s.tab.ent q=some (.mp kb k vb v m))(hT:P.underlying T=some (.map kt et))(hb:m.length≤9223372036854775807)(hn:Nat.blt d A.n=true):
    Does A P ⟨some d, .call ⟨.builtin .len, #[x], #[T]⟩,ty,pos,af,g⟩ s (s.put d (lf (dI m.length))):=
  Qr rfl hn fun gh a w r=>by
    have hv:a.eval x=gh.h q:=hx gh a w r ⟨_,he⟩
    obtain ⟨b,es,clock,h1,h2,h3,h4,h5⟩:=r.cx.en q _ he
    have h6:es.size=m.length:=by simpa using h5.len
    refine ⟨.int .i64 m.length, ?_,_,rfl,Y3 (by omega)⟩
    simp only[execOp,resolve,invoke,builtin]
    simp[ax,hv,h1,Builtin.len_,run_underlying hT,MapKept.run_getObj_map h3,goInt,h6,Result.andThen]
theorem Qh3 {kt et:TypeId}{kb vb:Bool}{k v:Ty}(c:Bool)(KL:KeyL P kt kb k)(hT:P.underlying T=some (.map kt et)){zv:Value}(hz:zer P et=some zv){gh:Gh}{w:World}(hzv:MV gh w vb v zv v.zero)
    {b clock:Nat} {es:Array MapEntry} {m:List (k.Den×v.Den)} (hb:w.heap[b]? =some (.map es clock)) (hd:m.Pairwise (fun p q=>p.1≠q.1)) (h:MpL gh w kb k vb v es.toList m) {key:Value} {q:k.Den} (hk:KV kb k key q):
    ∃u,(Instr.lookup T (.map (some b)) key c).run P w= .ok (if c then .tuple #[u, .bool (WI k m q).isSome] else u) w∧MV gh w vb v u ((WI k m q).getD v.zero):=by
  obtain ⟨l,hl⟩:=KL.rd _ _ hk
  have hz':=Ud (w:=w) hz
  rcases KL.find h hk with ⟨h1,h2⟩ | ⟨j,e,p,h1,h2,h3,h4,h5,h6⟩
  · refine ⟨zv, ?_, by rw [QfZ h2]; exact hzv⟩
    rw[QfZ h2]
    simp[Instr.lookup,run_underlying hT,MapKept.run_getObj_map hb,KL.K.check w _ hl,h1,hz',Result.andThen]
  · refine ⟨e.val, ?_, by rw [QlS hd h3 h4]; exact h6⟩
    rw[QlS hd h3 h4]
    simp[Instr.lookup,run_underlying hT,MapKept.run_getObj_map hb,KL.K.check w _ hl,h1,Result.andThen]
def ZeroV (P:Program)(et:TypeId)(vb:Bool)(v:Ty):Prop:=∃zv,zer P et=some zv∧(if vb then zv= .agg v.zeros.toArray else v.zeros=[zv])
theorem ZeroV.mv {et:TypeId}{vb:Bool}{v:Ty}(h:ZeroV P et vb v)(gh:Gh)(w:World):∃zv,zer P et=some zv∧MV gh w vb v zv v.zero:=by
  obtain ⟨zv,h1,h2⟩:=h
  refine ⟨zv,h1, ?_⟩
  cases vb with
  | true=>exact ⟨v.zeros,h2,(Yo v w).rd (by simp)⟩
  | false=>
    have h2:v.zeros=[zv]:=h2
    show Rd gh.N v w [zv] v.zero
    rw[← h2]
    exact (Yo v w).rd (by simp)
theorem Qq8 {kt et:TypeId}{kb vb:Bool}{k v:Ty}{q:Nat}{m:List (k.Den×v.Den)}{p:k.Den}{ls kls:List LV}(KL:KeyL P kt kb k)(hT:P.underlying T=some (.map kt et))(hz:ZeroV P et vb v)
    (hx:Evl A s x (.ref q)) (he:s.tab.ent q=some (.mp kb k vb v m)) (hy:Ev A s y (kb,kls)) (hkl:kls=leaves k p) (hl:leaves v ((WI k m p).getD v.zero)=ls) (hn:Nat.blt d A.n=true):
    Does A P ⟨some d, .lookup T x y false,ty,pos,af,g⟩ s (s.put d (.cm vb ls)):=
  Qr rfl hn fun gh a w r=>by
    subst hkl hl
    have hv:a.eval x=gh.h q:=hx gh a w r ⟨_,he⟩
    obtain ⟨b,es,clock,h1,h2,h3,h4,h5⟩:=r.cx.en q _ he
    obtain ⟨zv,z1,z2⟩:=hz.mv gh w
    obtain ⟨u,h6,h7⟩:=Qh3 false KL hT z1 z2 h3 h4 h5 (hy gh a w r).mv.kv
    refine ⟨u, ?_,h7.cm⟩
    simp only[execOp,hv,h1,ax,h6]
    simp
theorem Qfl {kt et:TypeId}{kb vb:Bool}{k v:Ty}{q:Nat}{m:List (k.Den×v.Den)}{p:k.Den}{ls kls:List LV}(KL:KeyL P kt kb k)(hT:P.underlying T=some (.map kt et))(hz:ZeroV P et vb v)
    (hx:Evl A s x (.ref q)) (he:s.tab.ent q=some (.mp kb k vb v m)) (hy:Ev A s y (kb,kls)) (hkl:kls=leaves k p) (hl:leaves v ((WI k m p).getD v.zero)=ls) (hn:Nat.blt d A.n=true):
    Does A P ⟨some d, .lookup T x y true,ty,pos,af,g⟩ s (s.put d (.tup [(vb,ls),(false,[dB (WI k m p).isSome])])):=
  Qr rfl hn fun gh a w r=>by
    subst hkl hl
    have hv:a.eval x=gh.h q:=hx gh a w r ⟨_,he⟩
    obtain ⟨b,es,clock,h1,h2,h3,h4,h5⟩:=r.cx.en q _ he
    obtain ⟨zv,z1,z2⟩:=hz.mv gh w
    obtain ⟨u,h6,h7⟩:=Qh3 true KL hT z1 z2 h3 h4 h5 (hy gh a w r).mv.kv
    refine ⟨.tuple #[u, .bool (WI k m p).isSome], ?_,[u, .bool (WI k m p).isSome],rfl,u,[.bool (WI k m p).isSome],rfl,h7.cm,_,[],rfl,⟨_,rfl,YR⟩,rfl⟩
    simp only[execOp,hv,h1,ax,h6]
    simp
theorem Qgf {kt et:TypeId}{kb vb:Bool}{k v:Ty}(KL:KeyL P kt kb k)(hT:P.underlying T=some (.map kt et)){gh:Gh}{w:World}
    {b clock:Nat} {es:Array MapEntry} {m:List (k.Den×v.Den)} (hb:w.heap[b]? =some (.map es clock)) (hd:m.Pairwise (fun p q=>p.1≠q.1)) (h:MpL gh w kb k vb v es.toList m) {key val:Value} {q:k.Den} {u:v.Den} (hk:MV gh w kb k key q) (hv:MV gh w vb v val u):
    ∃es' clock',(Instr.mapUpdate T (.map (some b)) key val).run P w= .ok () {w with heap:=w.heap.setIfInBounds b (.map es' clock')}∧MpL gh w kb k vb v es'.toList (Wa k m q u):=by
  obtain ⟨l,hl⟩:=KL.rd _ _ hk.kv
  rcases KL.find h hk.kv with ⟨h1,h2⟩ | ⟨j,e,p,h1,h2,h3,h4,h5,h6⟩
  · refine ⟨es.push ⟨key, val, clock⟩, clock + 1, ?_, ?_⟩
    · simp[Instr.mapUpdate,run_underlying hT,MapKept.run_getObj_map hb,KL.K.check w _ hl,h1,MapKept.run_setObj_map _ hb,Result.andThen]
    · rw [Qfx h2, Array.toList_push]
      exact h.push hk hv
  · have hj : es[j]? = some e := by simpa using h2
    refine ⟨es.modify j (fun e'=>{e' with key:=key,val:=val}),clock, ?_, ?_⟩
    · simp[Instr.mapUpdate,run_underlying hT,MapKept.run_getObj_map hb,KL.K.check w _ hl,h1,hj,h5,KL.K.stays w hl,MapKept.run_setObj_map _ hb,Result.andThen]
    · rw [QqH hd h3 h4, Array.toList_modify, ChangeMaps.modify_eq_set _ _ _ _ h2]
      exact h.set hk hv
theorem Rg.mapset {gh:Gh}{a:Act}{w:World}(r:Rg A s gh a w){kb vb:Bool}{k v:Ty}{q:Nat}{m m':List (k.Den×v.Den)}(he:s.tab.ent q=some (.mp kb k vb v m)){b clock clock':Nat}{es es':Array MapEntry}(h1:gh.h q= .map (some b))(h2:gh.f q=[b])
    (h3:w.heap[b]? =some (.map es clock)) (h4:m'.Pairwise (fun p q=>p.1≠q.1)) (h5:MpL gh w kb k vb v es'.toList m'):Rg A ⟨s.tm,(q,some (.mp kb k vb v m')) :: s.tab⟩ gh a {w with heap:=w.heap.setIfInBounds b (.map es' clock')}:=by
  have hlt:b < w.heap.size:=(bw.1 h3).1
  have hb:∀g,g < w.heap.size→g∉gh.f q→({w with heap:=w.heap.setIfInBounds b (.map es' clock')}:World).heap[g]? =w.heap[g]? :=fun g _ hg=>by
    rw[h2] at hg
    exact Array.getElem?_setIfInBounds_ne fun e=>hg (by simp[e])
  refine r.mod he ⟨rfl,rfl,rfl,by simp⟩ hb ⟨b,es',clock',h1,h2,by simp[hlt],h4,h5.mono fun g hg=>⟨hg,hb g (r.cx.nl g hg) fun hf=>r.cx.no q ⟨_,he⟩ g hf hg⟩⟩
theorem JS {kt et:TypeId}{kb vb:Bool}{k v:Ty}{q:Nat}{m:List (k.Den×v.Den)}{p:k.Den}{u:v.Den}{kls vls:List LV}(KL:KeyL P kt kb k)(hT:P.underlying T=some (.map kt et))
    (hx:Evl A s x (.ref q)) (he:s.tab.ent q=some (.mp kb k vb v m)) (hy:Ev A s y (kb,kls)) (hkl:kls=leaves k p) (hz:Ev A s z (vb,vls)) (hvl:vls=leaves v u):
    Does A P ⟨none, .mapUpdate T x y z,ty,pos,af,g⟩ s ⟨s.tm,(q,some (.mp kb k vb v (Wa k m p u))) :: s.tab⟩:=fun a w K Q r hK=>by
  subst hkl hvl
  obtain ⟨gh,r⟩:=r
  have hv:a.eval x=gh.h q:=hx gh a w r ⟨_,he⟩
  obtain ⟨b,es,clock,h1,h2,h3,h4,h5⟩:=r.cx.en q _ he
  obtain ⟨es',clock',h6,h7⟩:=Qgf KL hT h3 h4 h5 (hy gh a w r).mv (hz gh a w r).mv
  have e:(execOp a.eval ⟨none, .mapUpdate T x y z,ty,pos,af,g⟩).run P w= .ok .skip {w with heap:=w.heap.setIfInBounds b (.map es' clock')}:=by
    simp only[execOp,hv,h1,ax,h6]
    simp
  unfold Oper.wp
  rw[e,Oper.upon_skip]
  exact hK _ _ ⟨gh,(r.mapset he h1 h2 h3 (Qlp h4) h7).puto⟩
theorem QiZ {kt et:TypeId}{kb vb:Bool}{k v:Ty}{q:Nat}{m:List (k.Den×v.Den)}{p:k.Den}{u:v.Den}{kls vls:List LV}(KL:KeyL P kt kb k)(hT:P.underlying T=some (.map kt et))
    (hx:Evl A s x (.ref q)) (he:s.tab.ent q=some (.mp kb k vb v m)) (hy:Ev A s y (kb,kls)) (hkl:kls=leaves k p) (hz:Ev A s z (vb,vls)) (hvl:vls=leaves v u):
    Does A P ⟨none, .insert T x y z,ty,pos,af,g⟩ s ⟨s.tm,(q,some (.mp kb k vb v (Wa k m p u))) :: s.tab⟩:=fun a w K Q r hK=>by
  subst hkl hvl
  obtain ⟨gh,r⟩:=r
  have hv:a.eval x=gh.h q:=hx gh a w r ⟨_,he⟩
  obtain ⟨b,es,clock,h1,h2,h3,h4,h5⟩:=r.cx.en q _ he
  obtain ⟨es',clock',h6,h7⟩:=Qgf KL hT h3 h4 h5 (hy gh a w r).mv (hz gh a w r).mv
  have e:(execOp a.eval ⟨none, .insert T x y z,ty,pos,af,g⟩).run P w= .ok .skip {w with heap:=w.heap.setIfInBounds b (.map es' clock')}:=by
    simp only[execOp,hv,h1,ax,h6]
    simp
  unfold Oper.wp
  rw[e,Oper.upon_skip]
  exact hK _ _ ⟨gh,(r.mapset he h1 h2 h3 (Qlp h4) h7).puto⟩
end
section
variable {P:Program}{T:TypeId}{m:Nat}
def EqT (P:Program)(m:Nat)(T:TypeId)(b:Bool)(t:Ty):Prop:=∀(d:Nat) (w:World) (v v':Value) (x x':t.Den),KV b t v x→KV b t v' x'→(Op.equalIn (d+m) T v v').run P w= .ok (t.beq x x') w
theorem Qtn {b:Bool}{t:Ty}(j:Nat)(h:EqT P m T b t):EqT P (m+j) T b t:=fun d w v v' x x' k k'=>by
  have:=h (d+j) w v v' x x' k k'
  rwa [bN,Nat.add_comm j m] at this
theorem EqT.int (h:P.underlying T=some (.int .i64)):EqT P (m+1) T false .int:=fun d w v v' x x' ⟨_,h1,_⟩ ⟨_,h2,_⟩=>by
  simp only[aB,and_true] at h1 h2
  rw[h1,h2,← bN,run_equalIn_int w (d+m) T _ _ _ _ h]
  rfl
theorem EqT.u8 (h:P.underlying T=some (.int .u8)):EqT P (m+1) T false .u8:=fun d w v v' x x' ⟨_,h1⟩ ⟨_,h2⟩=>by
  have h1:[v]=[.int .u8 (x:UInt8).toNat]:=h1
  have h2:[v']=[.int .u8 (x':UInt8).toNat]:=h2
  simp only[aB,and_true] at h1 h2
  rw[h1,h2,← bN,run_equalIn_int w (d+m) T _ _ _ _ h,Qi4]
  rfl
theorem EqT.bool (h:P.underlying T=some .bool):EqT P (m+1) T false .bool:=fun d w v v' x x' ⟨_,h1⟩ ⟨_,h2⟩=>by
  have h1:[v]=[.bool x]:=h1
  have h2:[v']=[.bool x']:=h2
  simp only[aB,and_true] at h1 h2
  rw[h1,h2,← bN,run_equalIn_bool' w (d+m) T _ _ h]
  rfl
theorem EqT.str (h:P.underlying T=some .string):EqT P (m+1) T false .str:=fun d w v v' x x' ⟨_,h1,_⟩ ⟨_,h2,_⟩=>by
  simp only[aB,and_true] at h1 h2
  rw[h1,h2,← bN,run_equalIn_string w (d+m) T _ _ h,Qhp]
  rfl
def KAt (t:Ty)(xs:Array Value)(off:Nat)(x:t.Den):Prop:=∃w,Rep t w ((xs.toList.drop off).take t.wd) x
def EqFs (P:Program)(m:Nat)(fs:List Field)(off:Nat)(t:Ty):Prop:=∀(d:Nat) (w:World) (xs ys:Array Value) (x x':t.Den),KAt t xs off x→KAt t ys off x'→(Op.eqFields (d+m) xs ys fs).run P w= .ok (t.beq x x') w
theorem Qgs {b:Bool}{t:Ty}{xs:Array Value}{off:Nat}{x:t.Den}{w:World}(hT:tsh P T=some (b,t.wd))(h1:b=false→t.wd=1)(h:KAt t xs off x):∃v,(part T xs off).run P w= .ok v w∧KV b t v x:=by
  obtain ⟨w0,hR⟩:=h
  have hl:=hR.len
  cases b with
  | true=>
    refine ⟨.agg (xs.extract off (off+t.wd)), ?_, ?_⟩
    · simp only [part, ax, HO hT, aE, if_true, X0 hT]
      simp
    · refine ⟨(xs.toList.drop off).take t.wd, w0, ?_, hR⟩
      congr 1
      apply Array.ext'
      simp[List.extract_eq_take_drop]
  | false=>
    have hw:=h1 rfl
    rw[hw] at hR hl
    match hd:(xs.toList.drop off).take 1,hl with
    | [v],_=>
      rw[hd] at hR
      refine ⟨v, ?_,w0,hR⟩
      have hx:xs[off]? =some v:=by
        have h2:((xs.toList.drop off).take 1)[0]? =some v:=by rw[hd]; rfl
        rw[ba,if_pos (by omega),cg] at h2
        simpa using h2
      simp only[part,ax,HO hT,aE]
      simp[hx]
theorem QbI {f:Field}{fs:List Field}{b:Bool}{t:Ty}{d:Nat}{w:World}{xs ys:Array Value}{x x':t.Den}(hn:f.name≠ "_")(hT:tsh P f.type=some (b,t.wd))(h1:b=false→t.wd=1)(E:EqT P m f.type b t)
    (hx:KAt t xs f.offset x) (hy:KAt t ys f.offset x'):(Op.eqFields (d+m) xs ys (f :: fs)).run P w=if t.beq x x' then (Op.eqFields (d+m) xs ys fs).run P w else .ok false w:=by
  obtain ⟨v,h2,h3⟩:=Qgs (w:=w) hT h1 hx
  obtain ⟨v',h4,h5⟩:=Qgs (w:=w) hT h1 hy
  have h6:=E d w v v' x x' h3 h5
  simp only[Op.eqFields,if_pos hn,ne_eq,hn,not_false_eq_true,if_true,ax,h2,h4,h6,aE]
  cases t.beq x x' <;> simp
theorem EqFs.one {f:Field}{b:Bool}{t:Ty}{off:Nat}(hn:f.name≠ "_")(ho:f.offset=off)(hT:tsh P f.type=some (b,t.wd))(h1:b=false→t.wd=1)(E:EqT P m f.type b t):EqFs P m [f] off t:=fun d w xs ys x x' hx hy=>by
  subst ho
  rw[QbI hn hT h1 E hx hy]
  cases t.beq x x' <;> simp[Op.eqFields]
theorem EqFs.cons {f:Field}{fs:List Field}{b:Bool}{t u:Ty}{off:Nat}(hn:f.name≠ "_")(ho:f.offset=off)(hT:tsh P f.type=some (b,t.wd))(h1:b=false→t.wd=1)(E:EqT P m f.type b t)(k:EqFs P m fs (off+t.wd) u):EqFs P m (f :: fs) off (.pr t u):=fun d w xs ys x x' hx hy=>by
  subst ho
  have cut:∀{zs:Array Value} {z:t.Den×u.Den},KAt (.pr t u) zs f.offset z→KAt t zs f.offset z.1∧KAt u zs (f.offset+t.wd) z.2:=fun {zs z} ⟨w0,l,r,e1,e2,e3⟩=>by
    have hl:=e2.len
    have hr:=e3.len
    have e4:(zs.toList.drop f.offset).take t.wd=l:=by
      have:=congrArg (List.take t.wd) e1
      have e6:(Ty.pr t u).wd=t.wd+u.wd:=rfl
      rw[e6,List.take_take,cc (Nat.le_add_right _ _)] at this
      rw[this,← hl,cZ]
    have e5:(zs.toList.drop (f.offset+t.wd)).take u.wd=r:=by
      have:=congrArg (List.drop t.wd) e1
      have e6:(Ty.pr t u).wd=t.wd+u.wd:=rfl
      rw[e6,List.drop_take,d6,bf] at this
      rw[this,← hl,List.drop_left]
    exact ⟨⟨w0,by rw[e4]; exact e2⟩,⟨w0,by rw[e5]; exact e3⟩⟩
  obtain ⟨a1,a2⟩:=cut hx
  obtain ⟨b1,b2⟩:=cut hy
  rw[QbI hn hT h1 E a1 b1,k d w xs ys x.2 x'.2 a2 b2]
  show _=Result.ok (t.beq x.1 x'.1&&u.beq x.2 x'.2) w
  cases t.beq x.1 x'.1 <;> rfl
theorem EqT.struct {fs:Array Field}{t:Ty}(ht:P.underlying T=some (.struct fs))(hp:P.stoodInHeld T=false)(h:EqFs P m fs.toList 0 t):EqT P (m+1) T true t:=fun d w v v' x x' ⟨cs,w1,h1,h2⟩ ⟨cs',w2,h3,h4⟩=>by
  have e:P.fieldsOf T=fs:=by simp[Program.fieldsOf,ht]
  rw[h1,h3,← bN,run_equalIn_struct w (d+m) T _ _ (by rw[e]; exact ht) hp,e]
  refine h d w _ _ x x' ⟨w1, ?_⟩ ⟨w2, ?_⟩
  · rw[dc,aH (by rw[List.toList_toArray,h2.len]; exact aL _)]; simpa using h2
  · rw[dc,aH (by rw[List.toList_toArray,h4.len]; exact aL _)]; simpa using h4
section
variable {A:Amb}{s:St}{x y:Operand}{d:Nat}{T' ty:TypeId}{pos:String}{af:Array Edge}{g:Option (Nat×Bool)}{t:Ty}{p q:t.Den}{ls ls':List LV}
theorem QfV (E:EqT P m T true t)(hm:(P.eqGuardType P.depth T=false)∧m≤10000)(hx:Ev A s x (true,ls))(hy:Ev A s y (true,ls'))(hl:ls=leaves t p)(hl':ls'=leaves t q)(hn:Nat.blt d A.n=true):
    Does A P ⟨some d, .binOp .eql T x y T',ty,pos,af,g⟩ s (s.put d (lf (dB (t.beq p q)))):=
  Qr rfl hn fun gh a w r=>by
    subst hl hl'
    obtain ⟨cs,h1,h2⟩:=hx gh a w r
    obtain ⟨cs',h3,h4⟩:=hy gh a w r
    have h5:=E (10000 - m) w _ _ p q ⟨cs,w,rfl,(LVs.rd h2).rep⟩ ⟨cs',w,rfl,(LVs.rd h4).rep⟩
    rw[Nat.sub_add_cancel hm.2] at h5
    refine ⟨.bool (t.beq p q), ?_,_,rfl,YR⟩
    simp only[execOp,h1,h3]
    simp[ax,run_eqGuard_agg w _ _ _ _ _ _ hm.1,run_eql_struct,h5]
theorem V9 (E:EqT P m T true t)(hm:(P.eqGuardType P.depth T=false)∧m≤10000)(hx:Ev A s x (true,ls))(hy:Ev A s y (true,ls'))(hl:ls=leaves t p)(hl':ls'=leaves t q)(hn:Nat.blt d A.n=true):
    Does A P ⟨some d, .binOp .neq T x y T',ty,pos,af,g⟩ s (s.put d (lf (dB (!(t.beq p q))))):=
  Qr rfl hn fun gh a w r=>by
    subst hl hl'
    obtain ⟨cs,h1,h2⟩:=hx gh a w r
    obtain ⟨cs',h3,h4⟩:=hy gh a w r
    have h5:=E (10000 - m) w _ _ p q ⟨cs,w,rfl,(LVs.rd h2).rep⟩ ⟨cs',w,rfl,(LVs.rd h4).rep⟩
    rw[Nat.sub_add_cancel hm.2] at h5
    refine ⟨.bool (!(t.beq p q)), ?_,_,rfl,YR⟩
    simp only[execOp,h1,h3]
    simp[ax,run_eqGuard_agg w _ _ _ _ _ _ hm.1,run_neq_struct,h5]
end
end
end Go.Proofs.YtjaadeknhofhpaaGreat
namespace Go.Proofs.YtjaadeknhofhpaaGreat
open Go.RowKit
section
variable {A:Amb}{P:Program}{s:St}{x y:Operand}{d:Nat}{T T' ty:TypeId}{pos:String}{af:Array Edge}{g:Option (Nat×Bool)}
variable {E:TypeId}{e:Ty}{xs:List e.Den}{q lo n:Nat}
theorem SubR.all {h:Value}{w:World}{fp:List Nat}{wd:Nat}(hO:Own (.sl E e) w fp [h] xs):SubR h wd 0 xs.length h:=by
  rcases hO with ⟨_,h1,h2⟩ | ⟨b,cap,cur,fps,_,h1,_⟩
  · subst h2
    simp only[aB,and_true] at h1
    exact ⟨none,0,0,h1,by rw[h1]; rfl⟩
  · simp only [aB, and_true] at h1
    refine ⟨some ⟨b,0,none⟩,xs.length,cap,h1, ?_⟩
    rw[h1]
    congr 1
    split
    · rfl
    · simp[Addr.add_lit]
theorem SubR.rep {h v:Value}{w:World}{fp:List Nat}(hO:Own (.sl E e) w fp [h] xs)(hs:SubR h e.wd lo n v)(hb:lo+n≤xs.length):Rep (.sl E e) w [v] ((xs.take (lo+n)).drop lo):=by
  obtain ⟨B,m,c,rfl,rfl⟩:=hs
  have hR:=hO.rep
  obtain ⟨B',c',k,_⟩:=hR
  have hR:=hO.rep
  simp only[aB,Value.slice.injEq,and_true] at k
  obtain ⟨rfl,rfl,rfl⟩:=k
  have:=hR.part (lo:=lo) (hi:=lo+n) (by omega) hb
  rwa [bf] at this
theorem Z8 {lo hi:Option Operand}{l h:Option Int}{bb:Bool}(hx:Evl A s x (.ref q))(he:s.tab.ent q=some (.arr E e xs))(hlo:opI A s lo l)(hhi:opI A s hi h){E':TypeId}(hT:P.underlying T=some (.slice E'))(hE:tsh P E'=some (bb,e.wd))(hn:Nat.blt d A.n=true)
    (h0:0≤l.getD 0) (h1:l.getD 0≤h.getD xs.length) (h2:h.getD xs.length≤xs.length) {a b:Nat} (ha:a=(l.getD 0).toNat) (hb:b=(h.getD xs.length).toNat - (l.getD 0).toNat):Does A P ⟨some d, .slice T x lo hi none,ty,pos,af,g⟩ s (s.put d (lf (.sub q e.wd a b))):=
  Qr rfl hn fun gh a' w r=>by
    subst ha hb
    have hv:a'.eval x=gh.h q:=hx gh a' w r ⟨_,he⟩
    have hO:Own (.sl E e) w (gh.f q) [gh.h q] xs:=r.cx.en q _ he
    obtain ⟨B,c,k1,k2,k3⟩:=hO.rep.slv
    refine ⟨_, ?_,_,rfl,fun _=>⟨B,xs.length,c,k1,rfl⟩⟩
    simp only[execOp,hv,k1,hlo.ev r,hhi.ev r,d9,Instr.sliceAt,Instr.slice,ax,run_underlying hT,aE,VA h0 h1 h2 k2,X0 hE]
    simp
theorem XM (h:Evl A s x (.sub q e.wd lo n))(he:s.tab.ent q=some (.arr E e xs))(hb:lo+n≤xs.length):Qge A s x (.sl E e) ((xs.take (lo+n)).drop lo):=fun gh a w r=>by
  have hO:Own (.sl E e) w (gh.f q) [gh.h q] xs:=r.cx.en q _ he
  exact (h gh a w r ⟨_,he⟩).rep hO hb
theorem Qis {Tl:TypeId}(hx:Evl A s x (.sub q e.wd lo n))(he:s.tab.ent q=some (.arr E e xs))(hb:lo+n≤xs.length)(hT:P.underlying Tl=some (.slice E))(hn:Nat.blt d A.n=true):
    Does A P ⟨some d, .call ⟨.builtin .len, #[x], #[Tl]⟩,ty,pos,af,g⟩ s (s.put d (lf (dI n))):=
  Qr rfl hn fun gh a w r=>by
    have hO:Own (.sl E e) w (gh.f q) [gh.h q] xs:=r.cx.en q _ he
    obtain ⟨B,m,c,h1,h2⟩:=hx gh a w r ⟨_,he⟩
    obtain ⟨B',c',k1,k2,k3⟩:=hO.rep.slv
    refine ⟨.int .i64 n, ?_,_,rfl,Y3 (by unfold maxLen at k3; omega)⟩
    simp only[execOp,resolve,invoke,builtin]
    simp[ax,h2,Builtin.len_,run_underlying hT,goInt,Result.andThen]
theorem U1 {i:Int}{E':TypeId}{bb:Bool}(hx:Evl A s x (.sub q e.wd lo n))(he:s.tab.ent q=some (.arr E e xs))(hb:lo+n≤xs.length)(hy:Evl A s y (dI i))(hT:P.underlying T=some (.slice E'))(hE:tsh P E'=some (bb,e.wd))(hn:Nat.blt d A.n=true)
    (h0:0≤i) (h1:i < n) {k:Nat} (hk:k=lo+i.toNat):Does A P ⟨some d, .indexAddr T x y,ty,pos,af,g⟩ s (s.put d (lf (.ept q e.wd k 0))):=
  Qr rfl hn fun gh a w r=>by
    subst hk
    have hi:=hy.i r
    have hO:Own (.sl E e) w (gh.f q) [gh.h q] xs:=r.cx.en q _ he
    obtain ⟨B,m,c,h2,h3⟩:=hx gh a w r ⟨_,he⟩
    rcases hO with ⟨_,_,h⟩ | ⟨b,cap,cur,fps,k2,k3,k4,k5,k6,k7,k8⟩
    · subst h; simp at hb; omega
    · simp only [aB, and_true] at k3
      rw[h2] at k3
      simp only[Value.slice.injEq] at k3
      obtain ⟨rfl,rfl,rfl⟩:=k3
      rw[if_neg (by omega)] at h3
      simp only[cX,Addr.add_lit] at h3
      refine ⟨.pointer (some ⟨b,(0+lo*e.wd)+i.toNat*e.wd,none⟩), ?_,_,rfl,fun _=>⟨b,xs.length,c,h2,by rw[bD]; simp⟩⟩
      simp only[execOp,h3,hi,ax,Vr hT hE h0 h1]
      simp
def cpy {α:Type}(xs:List α)(lo n:Nat)(ys:List α):List α:=xs.take lo++ys.take (min ys.length n)++xs.drop (lo+min ys.length n)
theorem QhN {α:Type}{l:List α}{len lo:Nat}{cs:List α}(h:lo+cs.length≤len)(h2:len≤l.length):(l.take lo++cs++l.drop (lo+cs.length)).take len=(l.take len).take lo++cs++(l.take len).drop (lo+cs.length):=by
  have hA:(l.take lo++cs).length=lo+cs.length:=by simp; omega
  rw[List.take_append,aH (by omega),hA,List.take_take,cc (by omega),List.drop_take]
theorem OwnL.fp0 {w:World}(hf:e.flat=true):∀{xs:List e.Den} {fp:List Nat} {cs:List Value},OwnL (Own e w) fp cs xs→fp=[]
  | [],_,_,h=>h.1
  | _ :: _,_,_,⟨f1,f2,c1,c2,h1,h2,h3,h4⟩=>by rw[h1,JY hf h3,OwnL.fp0 hf h4]; rfl
def QtW (A:Amb)(s:St)(x:Operand)(q wd lo n:Nat):Prop:=∀gh a w,Rg A s gh a w→SubR (gh.h q) wd lo n (a.eval x)
end
end Go.Proofs.YtjaadeknhofhpaaGreat
namespace Go.Proofs.YtjaadeknhofhpaaGreat
open Go.RowKit
set_option maxRecDepth 100000
theorem QhB {α:Type _}:∀{l:List (Nat×α)} {i:Nat} {x:α},lk l i=some x→(i,x)∈l
  | (j,y) :: l,i,x,h=>by
    rw[UO] at h
    split at h
    · rename_i e; cases h; subst e; exact aA ..
    · exact aD _ (QhB h)
noncomputable def tshT:List (Nat×Bool×Nat):=[(0,false,1),(2,false,1),(3,false,1),(4,false,1),(5,false,1),(6,false,1),(8,true,4),(9,false,1),(10,false,1),(11,false,1),(12,false,1),(14,true,2),(15,false,1),(16,false,1),(17,false,1),(19,true,1),(20,false,1),(22,false,1),(23,false,1),(25,true,2),(26,false,1),(27,false,1),(29,true,5),(32,true,3),(33,false,1),(35,false,1),(37,false,1),(39,false,1),(40,false,1),(42,false,1),(46,false,1),(49,false,1),(50,false,1),(52,true,3),(55,true,2),(57,true,4),(58,false,1),(60,false,1),(61,false,1),(63,false,1),(67,false,1),(69,true,2),(70,false,1),(71,false,1),(73,true,5),(75,false,1),(79,false,1),(80,false,1),(82,false,1),(84,false,1),(90,true,2),(91,false,1),(93,false,1),(95,false,1),(96,false,1),(98,false,1),(103,false,1),(106,true,4),(107,false,1),(110,false,1),(113,false,1),(118,false,1),(119,false,1),(121,true,3),(132,true,7),(133,false,1),(135,false,1),(138,false,1),(140,false,1),(155,false,1),(159,false,1),(160,false,1),(162,false,1),(164,true,2),(165,false,1),(168,false,1),(174,false,1),(182,false,1),(194,false,1),(198,true,2),(199,false,1),(205,false,1),(211,false,1),(214,false,1),(218,false,1),(220,false,1),(225,true,2),(229,true,3),(232,true,3),(233,false,1),(239,true,2),(242,false,1),(253,false,1),(255,true,6),(261,false,1),(262,false,1),(263,false,1),(265,true,9),(268,true,2),(270,false,1),(283,false,1),(289,true,2),(303,true,2),(307,false,1),(309,false,1),(314,false,1),(315,false,1),(321,false,1),(327,false,1),(328,false,1),(335,false,1),(337,true,8),(345,false,1),(347,true,7),(350,false,1),(353,false,1),(355,false,1),(359,false,1),(360,false,1),(364,false,1),(366,false,1),(379,false,1),(381,false,1),(383,false,1),(396,false,1)]
noncomputable def fldT:List (Nat×Nat):=[(512,0),(513,1),(514,2),(515,3),(896,0),(897,1),(1216,0),(1600,0),(1601,1),(1856,0),(1857,2),(1858,3),(1859,4),(2048,0),(2049,1),(2050,2),(3328,0),(3329,1),(3330,2),(3520,0),(3521,1),(3648,0),(3649,2),(4416,0),(4417,1),(4672,0),(4673,2),(4674,3),(4675,4),(5760,0),(5761,1),(6784,0),(6785,1),(6786,2),(6787,3),(7744,0),(7745,1),(7746,2),(8448,0),(8449,4),(10496,0),(10497,1),(12672,0),(12673,1),(14400,0),(14401,1),(14656,0),(14657,1),(14658,2),(14848,0),(14849,1),(14850,2),(15296,0),(15297,1),(16320,0),(16321,2),(16322,3),(16323,4),(16324,5),(16960,0),(16961,3),(16962,4),(16963,7),(16964,8),(17152,0),(17153,1),(18496,0),(18497,1),(19392,0),(19393,1),(21568,0),(21569,3),(21570,4),(21571,5),(22208,0),(22209,5),(22210,6)]
noncomputable def sliT:List (Nat×Nat):=[(22,5),(23,198),(26,90),(27,55),(39,32),(49,9),(50,106),(60,57),(67,303),(70,225),(71,239),(79,95),(95,3),(135,132),(160,4),(162,229),(205,289),(233,232),(263,268)]
theorem QrG:(tshT.all fun p=>decide (tsh Tryz.prog p.1=some p.2))=true:=by kernel_rfl
theorem QrI:(fldT.all fun p=>decide (fld Tryz.prog (p.1 / 64) (p.1 % 64)=some p.2))=true:=by kernel_rfl
noncomputable def sliB (T E:Nat):Bool:=match Tryz.prog.underlying T with
  | some (.slice E')=>Nat.beq E' E
  | _=>false
theorem QrV:(sliT.all fun p=>sliB p.1 p.2)=true:=by kernel_rfl
theorem Qqf {T:TypeId}{b:Bool}{n:Nat}(h:lk tshT T=some (b,n)):tsh Tryz.prog T=some (b,n):=a8 (ae.1 QrG _ (QhB h))
theorem Qrf {T f o:Nat}(h:lk fldT (Nat.add (Nat.mul 64 T) f)=some o)(hf:Nat.blt f 64=true):fld Tryz.prog T f=some o:=by
  have h1:=a8 (ae.1 QrI _ (QhB h))
  have hf:=aC hf
  rwa [show Nat.add (Nat.mul 64 T) f=64*T+f from rfl,show (64*T+f) / 64=T by omega,show (64*T+f) % 64=f by omega] at h1
theorem QsH {T E:TypeId}(h:lk sliT T=some E):Tryz.prog.underlying T=some (.slice E):=by
  have h1:=ae.1 QrV _ (QhB h)
  unfold sliB at h1
  split at h1
  · rename_i h2; rw[h2,aZ h1]
  · cases h1
section
variable {A:Amb}{s s':St}{o:Oper}
theorem D_ (h:Does A Tryz.prog o s s':=by
    first
    | ((with_reducible apply Vi); exact Qa rfl; rfl; exact Qqf rfl; rfl; rfl)
    | ((with_reducible apply Xl); exact Qa rfl; exact Qrf rfl rfl; rfl; rfl)
    | ((with_reducible apply X4); rfl; rfl)
    | ((with_reducible apply JI); rfl; rfl)
    | ((with_reducible apply YI); rfl; rfl; rfl)
    | ((with_reducible apply US); exact Qa rfl; rfl; exact Qqf rfl; rfl; rfl)
    | ((with_reducible apply QaE); (first | exact Qv rfl | exact Xh | exact Evl.str rfl | exact Evl.val); rfl)
    | ((with_reducible apply VW); (first | exact Qv rfl | exact Xh | exact Evl.str rfl | exact Evl.val); rfl)
    | ((with_reducible apply JK); (first | exact Qa rfl | exact Qv rfl); (first | exact Qa rfl | exact Qv rfl); rfl)
    | ((with_reducible apply Qei); (first | exact Qa rfl | exact Qv rfl); (first | exact Qa rfl | exact Qv rfl); rfl)
    | ((with_reducible apply Qbq); (first | exact Qa rfl | exact Qv rfl); (first | exact Qa rfl | exact Qv rfl); rfl)
    | ((with_reducible apply QdB); (first | exact Qa rfl | exact Qv rfl); (first | exact Qa rfl | exact Qv rfl); rfl)
    | ((with_reducible apply Qnq); (first | exact Qa rfl | exact Qv rfl); (first | exact Qa rfl | exact Qv rfl); rfl)
    | ((with_reducible apply Qnw); (first | exact Qa rfl | exact Qv rfl); (first | exact Qa rfl | exact Qv rfl); rfl)
    | ((with_reducible apply Xb); (first | exact Qa rfl | exact Qv rfl); (first | exact Qa rfl | exact Qv rfl); rfl; omega)
    | ((with_reducible apply Vu); (first | exact Qa rfl | exact Qv rfl); (first | exact Qa rfl | exact Qv rfl); rfl; omega)
    | ((with_reducible apply WD); exact Qa rfl; rfl)
    | ((with_reducible apply K9); exact Qa rfl; (first | exact Qb rfl | exact Evl.ev Xh | exact Evl.ev (Qv rfl)); rfl)
    | ((with_reducible apply KR); exact Qa rfl; (first | exact Qb rfl | exact Evl.ev Xh | exact Evl.ev (Qv rfl)); rfl)
    | ((with_reducible apply Q3); exact Qa rfl; exact Qqf rfl; rfl; rfl)
    | ((with_reducible apply Ya); exact Qa rfl; exact Qqf rfl; rfl; rfl)
    | ((with_reducible apply Yp); exact Qa rfl; exact Qrf rfl rfl; rfl)
    | ((with_reducible apply ZI); exact Qa rfl; exact Qrf rfl rfl; rfl; rfl)
    | ((with_reducible apply Qga); exact Qa rfl; rfl; rfl)
    | ((with_reducible apply Wu); exact Qa rfl; rfl; rfl)
    | ((with_reducible apply Hh); exact Qa rfl; rfl; rfl; exact QsH rfl)
    | ((with_reducible apply WO); exact Qa rfl; rfl; exact QsH rfl)
    | ((with_reducible apply QbX); (first | exact Qa rfl | exact Evl.str rfl); (first | exact Qa rfl | exact Evl.str rfl); rfl)
    | ((with_reducible apply Qgq); (first | exact Qa rfl | exact Evl.str rfl); (first | exact Qa rfl | exact Evl.str rfl); rfl)
    | ((with_reducible apply Z7); exact Qa rfl; exact Qa rfl; rfl)
    | ((with_reducible apply YU); exact Qa rfl; exact Qa rfl; rfl)):Does A Tryz.prog o s s':=h
theorem QsP {P:Program}{c:Code}{Q:Exit→St→Prop}(h:AC A P c Q s):AC A P c Q s:=h
theorem w_ {G G':Prop}(k:G')(h:G'→G:=by
    first
    | ((with_reducible apply lm); rfl; rfl)
    | ((with_reducible apply lgn); rfl; rfl; rfl)
    | ((with_reducible apply lc); exact D_)
    | ((with_reducible apply lgy); rfl; rfl; exact D_)
    | (with_reducible exact QpI)
    | (with_reducible exact Qsr)
    | (with_reducible exact YY)
    | ((with_reducible apply QoG); exact Qa rfl)
    | ((with_reducible apply Qpo); exact Qa rfl)
    | (with_reducible exact QnO)
    | (with_reducible exact QoD)
    | (with_reducible exact Qfu)
    | (with_reducible exact AC.skip)
    | (with_reducible exact Ql1)
    | (with_reducible exact Q4)
    | exact QsP):G:=h k
end
end Go.Proofs.YtjaadeknhofhpaaGreat
