/- Abstract states: maps of one's own, read and written. No program is named here. -/
import Derived.Test.YtndabgcpnmeeoaaGreatPAk
import Derived.Maps.Keyed
import Derived.StringKeys
import Derived.Carry
import Derived.Laws.StructEq
import Derived.Laws.CopyRow
set_option linter.unusedSimpArgs false
set_option linter.unusedVariables false
set_option linter.unusedSectionVars false
namespace Go.Proofs.YtndabgcpnmeeoaaGreat
open Go.RowKit
theorem QrA {A:Amb}{P:Program}{s:St}{fn:Func}{i j l n:ResultVar}{c1 c2 c3 c4:Bool×List LV}(K:fn.results= #[i,j,l,n])(G:Rs A P s i c1)(H:Rs A P s j c2)(I:Rs A P s l c3)(J:Rs A P s n c4):Res A P fn s (.tup [c1,c2,c3,c4]):=fun e a w g=>by
 obtain ⟨h,o,C⟩:=G e a w g
 obtain ⟨f,r,D⟩:=H e a w g
 obtain ⟨c,u,E⟩:=I e a w g
 obtain ⟨b,B,F⟩:=J e a w g
 refine ⟨.tuple #[h,f,c,b], ?_,[h,f,c,b],rfl,h,[f,c,b],rfl,C,f,[c,b],rfl,D,c,[b],rfl,E,b,[],rfl,F,rfl⟩
 rw[Uw,K]; simp[Vl,o,r,u,B,dt]
theorem Qib {b w:Bool}(h:(!b)=w):b= !w:=by cases b <;> subst h <;> rfl
theorem QaJ {b w:Bool}(h:b=w):(!b)= !w:=by rw[h]
theorem Qf {A:Amb}{P:Program}{s:St}{Q:Exit→St→Prop}{ops:Array Oper}{o:Oper}{l:List Oper}{j d:Nat}{b:Bool}(F:o.guard=some (j,b))(E:(ops[j]?).bind (·.dst)=some d)(D:lk s.tm d=some (lf (.val undef)))
 (k:AL A P ops l Q (match o.dst with | some e=>s.put e (lf (.val undef)) | none=>s)) (hn:(match o.dst with | some e=>Nat.blt e A.n | none=>true)=true):AL A P ops (o :: l) Q s:=fun a w r=>by
 obtain ⟨i,h⟩:=r
 have G:yielded ops a.tmps j=none:=by
  obtain ⟨v,B,l,u,f⟩:=h.tm d _ D
  simp only[aC,and_true] at u
  subst u
  have f:v=undef:=f
  subst f
  simp[yielded,E,B,undef]
 refine wpList_step fun K C=> ?_
 rw[if_neg (by simp[Region.wanted,F,G])]
 refine C _ _ (k _ _ ?_)
 cases c:o.dst with
 | none=>exact ⟨i,h⟩
 | some e=>
  rw[c] at hn
  exact ⟨i,h.put (aD hn) (pv:=lf (.val undef)) ⟨_,rfl,rfl⟩⟩
theorem QtO {A:Amb}{P:Program}{s:St}{ops:Array Oper}{o:Oper}{j d c:Nat}{b:Bool}(E:o.guard=some (j,b))(D:(ops[j]?).bind (·.dst)=some d)(C:lk s.tm d=some (lf (.val undef)))(G:o.dst=some c)(F:Nat.blt c A.n=true):Acts A P ops o s (s.put c (lf (.val undef))):=fun a w K Q r B=>by
 obtain ⟨i,h⟩:=r
 have H:yielded ops a.tmps j=none:=by
  obtain ⟨v,u,l,f,e⟩:=h.tm d _ C
  simp only[aC,and_true] at f
  subst f
  have e:v=undef:=e
  subst e
  simp[yielded,D,u,undef]
 rw[if_neg (by simp[Region.wanted,E,H]),G]
 exact B _ _ ⟨i,h.put (aD F) (pv:=lf (.val undef)) ⟨_,rfl,rfl⟩⟩
theorem Qep {P:Program}{T E:TypeId}{w:World}{B:Option Addr}{n c:Nat}(d:Nat)(h:P.underlying T=some (.slice E)):(Op.equalIn (d+1) T (.slice B n c) (.slice none 0 0)).run P w= .ok B.isNone w:=by
 cases B <;> simp[Op.equalIn,run_underlying h]
theorem QqY {P:Program}{T E:TypeId}{w:World}{B:Option Addr}{n c:Nat}(h:P.underlying T=some (.slice E)):(binOp .eql T (.slice B n c) (.slice none 0 0)).run P w= .ok (.bool B.isNone) w:=by
 have a:=Qep (w:=w) (B:=B) (n:=n) (c:=c) 9999 h
 simp only[binOp]
 simp[Op.equal,Op.maxDepth,a]
theorem QjS {A:Amb}{P:Program}{s:St}{x y:Operand}{d:Nat}{T T' ty:TypeId}{pos:String}{af:Array Edge}{ops:Array Oper}{l:List Oper}{Q:Exit→St→Prop}{E E':TypeId}{e:Ty}{xs:List e.Den}(G:Evl A s x (.dat (.sl E e) xs))(H:Evl A s y (.val (.slice none 0 0)))
 (hT:P.underlying T=some (.slice E')) (hn:Nat.blt d A.n=true) (k:∀b:Bool,(b=true→xs=[])→AL A P ops l Q (s.put d (lf (dB b)))):AL A P ops (⟨some d, .binOp .eql T x y T',ty,pos,af,none⟩ :: l) Q s:=
 fun a w r=>wpList_plain rfl fun _ F=>by
  obtain ⟨f,j⟩:=r
  obtain ⟨B,c,u,I,J,C⟩:=Rd.rep (G f a w j)
  simp only[aC,and_true] at u
  have i:a.eval y= .slice none 0 0:=H f a w j
  have e:(execOp a.eval ⟨some d, .binOp .eql T x y T',ty,pos,af,none⟩).run P w= .ok (.value (.bool B.isNone)) w:=by
   simp only[execOp,u,i,eqGuard_at_slice]
   simp[av,QqY hT]
  unfold Oper.wp
  rw[e,Oper.upon_value]
  refine F _ _ (k B.isNone (fun h=> ?_) _ _ ⟨f,j.put (aD hn) (pv:=lf (dB B.isNone)) ⟨_,rfl,Z5⟩⟩)
  cases xs with
  | nil=>rfl
  | cons z K=>
   obtain ⟨b,o,D,_⟩:=C (by simp)
   rw[D] at h
   cases h
theorem QaM {A:Amb}{P:Program}{s:St}{x y:Operand}{d:Nat}{T ty:TypeId}{pos:String}{af:Array Edge}{g:Option (Nat×Bool)}(t:Nat){E:TypeId}{e:Ty}{n:Int}{z:Value}{a:Nat}(b:Evl A s x (dI n))(c:Evl A s y (dI n))(h:P.underlying T=some (.slice E))(hi:(P.info? E).map (fun i=>(i.zero,i.size,i.bytes))=some (some z,e.wd,a))
 (hz:z.cells.toList=e.zeros) (h0:0≤n) (hb:a*n.toNat≤281474976710656) (hm:n.toNat≤1073741824) (hn:Nat.blt d A.n=true) (hfr:Fresh s t) (hk0:A.k0≤t):Does A P ⟨some d, .makeSlice T x y,ty,pos,af,g⟩ s (s.mk_ d t [] E e (List.replicate n.toNat e.zero)):=by
 have f:n=(n.toNat:Int):=by omega
 rw[f] at b c
 exact XB t b c h hi hz hb hm hn hfr hk0
def Qn1 {α:Type}(f:α→α→Bool):List α→List α→Bool
 | [],[]=>true
 | x :: xs,y :: ys=>f x y&&Qn1 f xs ys
 | _,_=>false
def Ty.beq:(t:Ty)→t.Den→t.Den→Bool
 | .int,x,y=>decide ((x:Int)=y)
 | .bool,x,y=>(x:Bool)==y
 | .str,x,y=>decide ((x:ByteArray)=y)
 | .u8,x,y=>decide ((x:UInt8)=y)
 | .vl,x,y=>decide ((x:Hdr)=y)
 | .sl _ e,x,y=>Qn1 e.beq x y
 | .pr a b,x,y=>a.beq x.1 y.1&&b.beq x.2 y.2
theorem QkZ {α:Type}{f:α→α→Bool}(h:∀x y,f x y=true↔x=y):∀xs ys:List α,Qn1 f xs ys=true↔xs=ys
 | [],[]=>by simp[Qn1]
 | [],_ :: _=>by simp[Qn1]
 | _ :: _,[]=>by simp[Qn1]
 | x :: xs,y :: ys=>by simp[Qn1,h,QkZ h xs ys]
theorem Ty.beq_iff:∀(t:Ty) (x y:t.Den),t.beq x y=true↔x=y
 | .int,x,y=>by simp[Ty.beq]
 | .bool,x,y=>by simp[Ty.beq]
 | .str,x,y=>by simp[Ty.beq]
 | .u8,x,y=>by simp[Ty.beq]
 | .vl,x,y=>by simp[Ty.beq]
 | .sl _ e,x,y=>QkZ (Ty.beq_iff e) x y
 | .pr a b,x,y=>by
  obtain ⟨c,f⟩:=x
  obtain ⟨y1,y2⟩:=y
  simp[Ty.beq,Ty.beq_iff a,Ty.beq_iff b]
theorem Qkd (t:Ty)(x:t.Den):t.beq x x=true:=(t.beq_iff x x).2 rfl
def Ty.fcs:(t:Ty)→t.Den→List Value
 | .int,x=>[.int .i64 x]
 | .bool,x=>[.bool x]
 | .str,x=>[.string x]
 | .u8,x=>[.int .u8 (x:UInt8).toNat]
 | .vl,x=>[hdV x]
 | .sl _ _,_=>[]
 | .pr a b,x=>a.fcs x.1++b.fcs x.2
theorem Rep.fcs:∀{t:Ty} {w:World} {cs:List Value} {x:t.Den},Rep t w cs x→t.flat=true→cs=t.fcs x
 | .int,_,_,_,h,_=>h.1
 | .bool,_,_,_,h,_=>h
 | .str,_,_,_,h,_=>h.1
 | .u8,_,_,_,h,_=>h
 | .vl,_,_,_,h,_=>h
 | .sl _ _,_,_,_,_,c=>by cases c
 | .pr a b,w,_,_,⟨l,r,h1,h2,h3⟩,c=>by
  have c:(a.flat&&b.flat)=true:=c
  rw[aI] at c
  rw[h1,h2.fcs c.1,h3.fcs c.2]; rfl
theorem Rep.fcs_inj:∀{t:Ty} {w w':World} {cs:List Value} {x y:t.Den},Rep t w cs x→Rep t w' cs y→t.flat=true→x=y
 | .int,_,_,_,x,y,h,k,_=>by have e:=h.1; have c:=k.1; rw[e] at c; simpa using c
 | .bool,_,_,_,x,y,h,k,_=>by have e:_=_:=h; have c:_=_:=k; rw[e] at c; simpa using c
 | .str,_,_,_,x,y,h,k,_=>by have e:=h.1; have c:=k.1; rw[e] at c; simpa using c
 | .u8,_,_,_,x,y,h,k,_=>by
  have e:_=_:=h; have c:_=_:=k; rw[e] at c
  simp only[aC,Value.int.injEq,and_true,true_and] at c
  exact UInt8.toNat_inj.1 (by omega)
 | .vl,_,_,_,x,y,h,k,_=>by
  have e:_=_:=h; have c:_=_:=k; rw[e] at c
  exact Qo9 (by simpa using c)
 | .sl _ _,_,_,_,_,_,_,_,f=>by cases f
 | .pr a b,w,w',_,x,y,⟨l,r,e,c,h3⟩,⟨l',r',k1,k2,k3⟩,f=>by
  have f:(a.flat&&b.flat)=true:=f
  rw[aI] at f
  rw[e] at k1
  have i:l.length=l'.length:=by rw[c.len,k2.len]
  obtain ⟨rfl,rfl⟩:=List.append_inj k1 i
  exact Prod.ext (c.fcs_inj k2 f.1) (h3.fcs_inj k3 f.2)
def KV:Bool→(t:Ty)→Value→t.Den→Prop
 | true,t,v,x=>∃cs w,v= .agg cs.toArray∧Rep t w cs x
 | false,t,v,x=>∃w,Rep t w [v] x
theorem MV.kv {gh:Gh}{w:World}{b:Bool}{t:Ty}{v:Value}{x:t.Den}(h:MV gh w b t v x):KV b t v x:=by
 cases b with
 | true=>obtain ⟨a,c,e⟩:=h; exact ⟨a,w,c,e.rep⟩
 | false=>exact ⟨w,Rd.rep h⟩
theorem Qry {b:Bool}{t:Ty}{v j:Value}{x y:t.Den}(h:KV b t v x)(k:KV b t j y)(a:t.flat=true):v=j↔x=y:=by
 cases b with
 | true=>
  obtain ⟨l,w,rfl,c⟩:=h
  obtain ⟨i,n,rfl,f⟩:=k
  constructor
  ·intro e
   have e:l=i:=by simpa using e
   subst e
   exact c.fcs_inj f a
  ·rintro rfl
   rw[c.fcs a,f.fcs a]
 | false=>
  obtain ⟨w,c⟩:=h
  obtain ⟨n,f⟩:=k
  constructor
  ·rintro rfl
   exact c.fcs_inj f a
  ·rintro rfl
   have:=(c.fcs a).trans (f.fcs a).symm
   simpa using this
structure KeyL (P:Program) (kt:TypeId) (kb:Bool) (k:Ty):Prop where
  K:Maps.Keyed P kt
  flat:k.flat=true
  rd:∀v x,KV kb k v x→∃l,keyOf P kt v=some l
theorem KeyL.str {P:Program}{kt:TypeId}(h:P.underlying kt=some .string):KeyL P kt false .str:=
 ⟨Maps.string_keyed h,rfl,fun v x ⟨w,a,b⟩=>by
  simp only[aC,and_true] at a
  subst a
  exact ⟨_,WideMaps.keyOf_string_mk h b⟩⟩
theorem KeyL.int {P:Program}{kt:TypeId}(h:P.underlying kt=some (.int .i64)):KeyL P kt false .int:=
 ⟨Maps.int_keyed h,rfl,fun v x ⟨w,a,b⟩=>by
  simp only[aC,and_true] at a
  subst a
  exact ⟨_,Maps.keyOf_int_mk h (by simp[Lit.wf]; exact b)⟩⟩
def Yr (k:Ty){V:Type}:List (k.Den×V)→k.Den→Option V
 | [],_=>none
 | p :: m,x=>if k.beq p.1 x then some p.2 else Yr k m x
def WC (k:Ty){V:Type}:List (k.Den×V)→k.Den→V→List (k.Den×V)
 | [],x,v=>[(x,v)]
 | p :: m,x,v=>if k.beq p.1 x then (x,v) :: m else p :: WC k m x v
section
variable {k:Ty}{V:Type}{m:List (k.Den×V)}{x:k.Den}{v:V}
theorem Qh7 (h:∀p∈m,p.1≠x):Yr k m x=none:=by
 induction m with
 | nil=>rfl
 | cons p m c=>
  have a:k.beq p.1 x=false:=cq.2 fun e=>h p (az ..) ((k.beq_iff _ _).1 e)
  simp only[Yr,a]
  exact c fun q b=>h q (ay _ b)
theorem QqF (h:∀p∈m,p.1≠x):WC k m x v=m++[(x,v)]:=by
 induction m with
 | nil=>rfl
 | cons p m c=>
  have a:k.beq p.1 x=false:=cq.2 fun e=>h p (az ..) ((k.beq_iff _ _).1 e)
  simp only[WC,a,ci]
  rw[← c fun q b=>h q (ay _ b)]
  rfl
theorem Qpj (i:m.Pairwise (fun p q=>p.1≠q.1)){j:Nat}{p:k.Den×V}(a:m[j]? =some p)(b:p.1=x):Yr k m x=some p.2:=by
 induction m generalizing j with
 | nil=>simp at a
 | cons n m l=>
  obtain ⟨c,f⟩:=bH.1 i
  cases j with
  | zero=>
   simp only[bk,bi] at a
   subst a
   simp[Yr,(k.beq_iff _ _).2 b]
  | succ j=>
   simp only[bT] at a
   have h:k.beq n.1 x=false:=cq.2 fun e=>c p (ah a) (((k.beq_iff _ _).1 e).trans b.symm)
   simp only[Yr,h]
   exact l f a
theorem QuM (i:m.Pairwise (fun p q=>p.1≠q.1)){j:Nat}{p:k.Den×V}(a:m[j]? =some p)(b:p.1=x):WC k m x v=m.set j (x,v):=by
 induction m generalizing j with
 | nil=>simp at a
 | cons n m l=>
  obtain ⟨c,f⟩:=bH.1 i
  cases j with
  | zero=>
   simp only[bk,bi] at a
   subst a
   simp[WC,(k.beq_iff _ _).2 b]
  | succ j=>
   simp only[bT] at a
   have h:k.beq n.1 x=false:=cq.2 fun e=>c p (ah a) (((k.beq_iff _ _).1 e).trans b.symm)
   simp only[WC,h,cG]
   rw[← l f a]
   rfl
theorem QsT {q:k.Den×V}(h:q∈WC k m x v):q=(x,v)∨q∈m:=by
 induction m with
 | nil=>simpa [WC] using h
 | cons p m a=>
  unfold WC at h
  split at h
  ·rcases aK.1 h with h | h
   ·exact .inl h
   ·exact .inr (ay _ h)
  ·rcases aK.1 h with h | h
   ·exact .inr (by rw[h]; exact az ..)
   ·rcases a h with h | h
    ·exact .inl h
    ·exact .inr (ay _ h)
theorem Qpo (f:m.Pairwise (fun p q=>p.1≠q.1)):(WC k m x v).Pairwise (fun p q=>p.1≠q.1):=by
 induction m with
 | nil=>simp[WC]
 | cons p m i=>
  obtain ⟨b,c⟩:=bH.1 f
  unfold WC
  split
  ·rename_i h
   have h:=(k.beq_iff _ _).1 h
   exact bH.2 ⟨fun q a=>by rw[← h]; exact b q a,c⟩
  ·rename_i h
   refine bH.2 ⟨fun q a=> ?_,i c⟩
   rcases QsT a with rfl | a
   ·exact fun e=>h ((k.beq_iff _ _).2 e)
   ·exact b q a
theorem Qh6 (y:k.Den):Yr k (WC k m x v) y=if k.beq x y then some v else Yr k m y:=by
 induction m with
 | nil=>simp[WC,Yr]
 | cons p m c=>
  unfold WC
  split
  ·rename_i h
   have h:=(k.beq_iff _ _).1 h
   simp only[Yr]
   rw[h]
   split <;> rfl
  ·rename_i h
   simp only[Yr]
   rw[c]
   split
   ·rename_i a
    have a:=(k.beq_iff _ _).1 a
    rw[if_neg]
    intro b
    exact h ((k.beq_iff _ _).2 (a.trans ((k.beq_iff _ _).1 b).symm))
   ·rfl
end
section
variable {A:Amb}{P:Program}{s:St}{x y z:Operand}{d:Nat}{T T' ty:TypeId}{pos:String}{af:Array Edge}{g:Option (Nat×Bool)}
theorem MpL.len {gh:Gh}{w:World}{kb vb:Bool}{k v:Ty}{es:List MapEntry}{m:List (k.Den×v.Den)}(h:MpL gh w kb k vb v es m):es.length=m.length:=by
 induction es generalizing m with
 | nil=>rw[show m=[] from h]; rfl
 | cons e es b=>obtain ⟨_,_,c,rfl,_,_,a⟩:=h; simp[b a]
theorem MpL.at {gh:Gh}{w:World}{kb vb:Bool}{k v:Ty}{es:List MapEntry}{m:List (k.Den×v.Den)}(h:MpL gh w kb k vb v es m){j:Nat}{e:MapEntry}(c:es[j]? =some e):
 ∃p,m[j]? =some p∧MV gh w kb k e.key p.1∧MV gh w vb v e.val p.2:=by
 induction es generalizing m j with
 | nil=>simp at c
 | cons o es n=>
  obtain ⟨a,b,r,rfl,f,i,l⟩:=h
  cases j with
  | zero=>
   simp only[bk,bi] at c
   subst c
   exact ⟨(a,b),rfl,f,i⟩
  | succ j=>exact n l (by simpa using c)
theorem MpL.set {gh:Gh}{w:World}{kb vb:Bool}{k v:Ty}{es:List MapEntry}{m:List (k.Den×v.Den)}(h:MpL gh w kb k vb v es m){j:Nat}{e:MapEntry}{p:k.Den×v.Den}(f:MV gh w kb k e.key p.1)(i:MV gh w vb v e.val p.2):
 MpL gh w kb k vb v (es.set j e) (m.set j p):=by
 induction es generalizing m j with
 | nil=>rw[show m=[] from h]; exact rfl
 | cons u es l=>
  obtain ⟨a,b,r,rfl,n,o,c⟩:=h
  cases j with
  | zero=>exact ⟨p.1,p.2,r,rfl,f,i,c⟩
  | succ j=>exact ⟨a,b,_,rfl,n,o,l c⟩
theorem MpL.push {gh:Gh}{w:World}{kb vb:Bool}{k v:Ty}{es:List MapEntry}{m:List (k.Den×v.Den)}(h:MpL gh w kb k vb v es m){e:MapEntry}{p:k.Den×v.Den}(c:MV gh w kb k e.key p.1)(f:MV gh w vb v e.val p.2):
 MpL gh w kb k vb v (es++[e]) (m++[p]):=by
 induction es generalizing m with
 | nil=>rw[show m=[] from h]; exact ⟨p.1,p.2,[],rfl,c,f,rfl⟩
 | cons o es i=>obtain ⟨a,b,r,rfl,j,l,n⟩:=h; exact ⟨a,b,_,rfl,j,l,i n⟩
theorem KeyL.find {kt:TypeId}{kb vb:Bool}{k v:Ty}(b:KeyL P kt kb k){gh:Gh}{w:World}{es:List MapEntry}{m:List (k.Den×v.Den)}(h:MpL gh w kb k vb v es m){key:Value}{q:k.Den}(o:KV kb k key q):
 ((Instr.findKey kt key es).run P w= .ok none w∧∀p∈m,p.1≠q)∨∃(j:Nat) (e:MapEntry) (p:k.Den×v.Den),(Instr.findKey kt key es).run P w= .ok (some (j,e.val)) w∧es[j]? =some e∧m[j]? =some p∧p.1=q∧e.key=key∧MV gh w vb v e.val p.2:=by
 obtain ⟨l,D⟩:=b.rd _ _ o
 rcases b.K.find w D es fun e C=>by
  obtain ⟨j,i⟩:=aN.1 C
  obtain ⟨p,f,a,_⟩:=h.at i
  exact b.rd _ _ a.kv with ⟨f,a⟩ | ⟨j,e,f,a,u⟩
 ·refine .inl ⟨f,fun p E B=> ?_⟩
  obtain ⟨j,i⟩:=aN.1 E
  have c:j < es.length:=by rw[h.len]; exact (ai.1 i).1
  obtain ⟨G,n,r,_⟩:=h.at (ae c)
  rw[i] at n
  cases n
  exact a _ (cP c) ((Qry r.kv o b.flat).2 B)
 ·obtain ⟨p,n,r,F⟩:=h.at a
  exact .inr ⟨j,e,p,f,a,n,(Qry r.kv o b.flat).1 u,u,F⟩
theorem CmR.mv {al:Nat→Prop}{gh:Gh}{w:World}{b:Bool}{t:Ty}{v:Value}{q:t.Den}(h:CmR al gh w (b,leaves t q) v):MV gh w b t v q:=by
 cases b with
 | true=>obtain ⟨e,rfl,a⟩:=h; exact ⟨e,rfl,LVs.rd a⟩
 | false=>
  obtain ⟨l,c,a⟩:=h
  exact LVs.rd (al:=al) (gh:=gh) (w:=w) (show LVs al gh w (leaves t q) [v] by rw[c]; exact ⟨v,[],rfl,a,rfl⟩)
theorem MV.cm {al:Nat→Prop}{gh:Gh}{w:World}{b:Bool}{t:Ty}{v:Value}{q:t.Den}(h:MV gh w b t v q):CmR al gh w (b,leaves t q) v:=by
 cases b with
 | true=>obtain ⟨i,rfl,e⟩:=h; exact ⟨i,rfl,e.leaves⟩
 | false=>
  have a:LVs al gh w (leaves t q) [v]:=Rd.leaves h
  revert a
  generalize leaves t q=L
  intro a
  match L,a with
  | [],a=>cases a
  | [l],a=>
   obtain ⟨_,_,c,e,_⟩:=a
   cases c
   exact ⟨l,rfl,e⟩
  | l :: l' :: ls,a=>
   obtain ⟨_,_,c,_,f⟩:=a
   cases c
   obtain ⟨_,_,c,_⟩:=f
   cases c
theorem Born.nil:Born [] 0:=⟨by simp,by simp⟩
theorem Born.push {es:List MapEntry}{c:Nat}(h:Born es c)(k v:Value):Born (es++[⟨k,v,c⟩]) (c+1):=by
 obtain ⟨i,j⟩:=h
 refine ⟨fun x f=> ?_, ?_⟩
 ·rcases aP.1 f with f | f
  ·have:=i x f; omega
  ·rw[aS] at f; subst f; exact Nat.lt_succ_self _
 ·rw[bl,bu]
  refine ⟨j,by simp,fun a l b n e=> ?_⟩
  obtain ⟨x,f,rfl⟩:=bF.1 l
  simp only[br,dn,aS] at n
  have:=i x f; omega
theorem Born.set {es:List MapEntry}{a j:Nat}{e e':MapEntry}(h:Born es a)(f:es[j]? =some e)(u:e'.born=e.born):Born (es.set j e') a:=by
 have b:(es.set j e').map (·.born)=es.map (·.born):=by
  rw[List.map_set]
  apply bV
  intro i
  rw[bN,bf]
  by_cases c:j=i
  ·subst c
   have w:=(ai.1 f).1
   rw[f]; simp[w,u]
  ·simp[c]
 obtain ⟨n,o⟩:=h
 refine ⟨fun x B=> ?_,by rw[b]; exact o⟩
 have r:x.born∈es.map (·.born):=by rw[← b]; exact bF.2 ⟨x,B,rfl⟩
 obtain ⟨y,C,l⟩:=bF.1 r
 rw[← l]; exact n y C
theorem QbC (t:Nat){kt et:TypeId}{kb vb:Bool}{k v:Ty}(h:Nat.blt d A.n=true)(b:Fresh s t)(c:A.k0≤t):Does A P ⟨some d, .makeMap T none,ty,pos,af,g⟩ s (s.new d t (.ref t) (.mp kb k vb v [])):=
 fun a w K Q r f=>by
  obtain ⟨i,r⟩:=r
  have e:(execOp a.eval ⟨some d, .makeMap T none,ty,pos,af,g⟩).run P w= .ok (.value (.map (some w.heap.size))) (w.alloc (.map #[] 0)):=by
   simp only[execOp,Option.map_none,av,run_makeMap,aE]
   simp
  unfold Oper.wp
  rw[e,Oper.upon_value]
  refine f _ _ ⟨_,(r.grow t b c (.map #[] 0) (.map (some w.heap.size)) [w.heap.size] (.mp kb k vb v []) (by simp) (by simp) (by simp[Ent.tags]) ?_).put (aD h) (pv:=lf (.ref t)) ⟨_,rfl,fun _=>by simp⟩⟩
  exact ⟨w.heap.size, #[],0,by simp,by simp,heap_alloc_new w _,Born.nil,bZ,rfl⟩
theorem Qk1 {kt et:TypeId}{kb vb:Bool}{k v:Ty}(c:Bool)(a:KeyL P kt kb k)(D:P.underlying T=some (.map kt et)){r:Value}(G:zer P et=some r){gh:Gh}{w:World}(o:MV gh w vb v r v.zero)
 {b clock:Nat} {es:Array MapEntry} {m:List (k.Den×v.Den)} (hb:w.heap[b]? =some (.map es clock)) (hd:m.Pairwise (fun p q=>p.1≠q.1)) (h:MpL gh w kb k vb v es.toList m) {key:Value} {q:k.Den} (hk:KV kb k key q):
 ∃u,(Instr.lookup T (.map (some b)) key c).run P w= .ok (if c then .tuple #[u, .bool (Yr k m q).isSome] else u) w∧MV gh w vb v u ((Yr k m q).getD v.zero):=by
 obtain ⟨l,E⟩:=a.rd _ _ hk
 have n:=Uz (w:=w) G
 rcases a.find h hk with ⟨f,i⟩ | ⟨j,e,p,f,i,B,C,H,F⟩
 ·refine ⟨r, ?_,by rw[Qh7 i]; exact o⟩
  rw[Qh7 i]
  simp[Instr.lookup,run_underlying D,MapKept.run_getObj_map hb,a.K.check w _ E,f,n,Result.andThen]
 ·refine ⟨e.val, ?_,by rw[Qpj hd B C]; exact F⟩
  rw[Qpj hd B C]
  simp[Instr.lookup,run_underlying D,MapKept.run_getObj_map hb,a.K.check w _ E,f,Result.andThen]
def ZeroV (P:Program)(et:TypeId)(vb:Bool)(v:Ty):Prop:=∃zv,zer P et=some zv∧(if vb then zv= .agg v.zeros.toArray else v.zeros=[zv])
theorem ZeroV.mv {et:TypeId}{vb:Bool}{v:Ty}(h:ZeroV P et vb v)(gh:Gh)(w:World):∃a,zer P et=some a∧MV gh w vb v a v.zero:=by
 obtain ⟨a,c,b⟩:=h
 refine ⟨a,c, ?_⟩
 cases vb with
 | true=>exact ⟨v.zeros,b,(ZP v w).rd (by simp)⟩
 | false=>
  have b:v.zeros=[a]:=b
  show Rd gh.N v w [a] v.zero
  rw[← b]
  exact (ZP v w).rd (by simp)
theorem Qvg {kt et:TypeId}{kb vb:Bool}{k v:Ty}{q:Nat}{m:List (k.Den×v.Den)}{p:k.Den}{ls c:List LV}(i:KeyL P kt kb k)(E:P.underlying T=some (.map kt et))(G:ZeroV P et vb v)
 (hx:Evl A s x (.ref q)) (he:s.tab.ent q=some (.mp kb k vb v m)) (hy:Ev A s y (kb,c)) (hkl:c=leaves k p) (hl:leaves v ((Yr k m p).getD v.zero)=ls) (hn:Nat.blt d A.n=true):
 Does A P ⟨some d, .lookup T x y false,ty,pos,af,g⟩ s (s.put d (.cm vb ls)):=
 Qq rfl hn fun e a w r=>by
  subst hkl hl
  have F:a.eval x=e.h q:=hx e a w r ⟨_,he⟩
  obtain ⟨b,I,f,j,J,l,K,o,B⟩:=r.cx.en q _ he
  obtain ⟨L,H,z2⟩:=G.mv e w
  obtain ⟨u,C,D⟩:=Qk1 false i E H z2 l o B (hy e a w r).mv.kv
  refine ⟨u, ?_,D.cm⟩
  simp only[execOp,F,j,av,C]
  simp
theorem Qaz {kt et:TypeId}{kb vb:Bool}{k v:Ty}{q:Nat}{m:List (k.Den×v.Den)}{p:k.Den}{ls c:List LV}(i:KeyL P kt kb k)(E:P.underlying T=some (.map kt et))(G:ZeroV P et vb v)
 (hx:Evl A s x (.ref q)) (he:s.tab.ent q=some (.mp kb k vb v m)) (hy:Ev A s y (kb,c)) (hkl:c=leaves k p) (hl:leaves v ((Yr k m p).getD v.zero)=ls) (hn:Nat.blt d A.n=true):
 Does A P ⟨some d, .lookup T x y true,ty,pos,af,g⟩ s (s.put d (.tup [(vb,ls),(false,[dB (Yr k m p).isSome])])):=
 Qq rfl hn fun e a w r=>by
  subst hkl hl
  have F:a.eval x=e.h q:=hx e a w r ⟨_,he⟩
  obtain ⟨b,I,f,j,J,l,K,o,B⟩:=r.cx.en q _ he
  obtain ⟨L,H,z2⟩:=G.mv e w
  obtain ⟨u,C,D⟩:=Qk1 true i E H z2 l o B (hy e a w r).mv.kv
  refine ⟨.tuple #[u, .bool (Yr k m p).isSome], ?_,[u, .bool (Yr k m p).isSome],rfl,u,[.bool (Yr k m p).isSome],rfl,D.cm,_,[],rfl,⟨_,rfl,Z5⟩,rfl⟩
  simp only[execOp,F,j,av,C]
  simp
theorem Qiv {kt et:TypeId}{kb vb:Bool}{k v:Ty}(i:KeyL P kt kb k)(B:P.underlying T=some (.map kt et)){gh:Gh}{w:World}
 {b clock:Nat} {es:Array MapEntry} {m:List (k.Den×v.Den)} (hb:w.heap[b]? =some (.map es clock)) (hB:Born es.toList clock) (hd:m.Pairwise (fun p q=>p.1≠q.1)) (h:MpL gh w kb k vb v es.toList m) {c val:Value} {q:k.Den} {u:v.Den} (hk:MV gh w kb k c q) (hv:MV gh w vb v val u):
 ∃f a,(Instr.mapUpdate T (.map (some b)) c val).run P w= .ok () {w with heap:=w.heap.setIfInBounds b (.map f a)}∧MpL gh w kb k vb v f.toList (WC k m q u)∧Born f.toList a:=by
 obtain ⟨l,r⟩:=i.rd _ _ hk.kv
 rcases i.find h hk.kv with ⟨o,n⟩ | ⟨j,e,p,o,n,D,E,F,H⟩
 ·refine ⟨es.push ⟨c,val,clock⟩,clock+1, ?_, ?_⟩
  ·simp[Instr.mapUpdate,run_underlying B,MapKept.run_getObj_map hb,i.K.check w _ r,o,MapKept.run_setObj_map _ hb,Result.andThen]
  ·rw[QqF n,Array.toList_push]
   exact ⟨h.push hk hv,hB.push _ _⟩
 ·have G:es[j]? =some e:=by simpa using n
  refine ⟨es.modify j (fun C=>{C with key:=c,val:=val}),clock, ?_, ?_⟩
  ·simp[Instr.mapUpdate,run_underlying B,MapKept.run_getObj_map hb,i.K.check w _ r,o,G,F,i.K.stays w r,MapKept.run_setObj_map _ hb,Result.andThen]
  ·rw[QuM hd D E,Array.toList_modify,ChangeMaps.modify_eq_set _ _ _ _ n]
   exact ⟨h.set hk hv,hB.set n rfl⟩
theorem Rg.mapset {gh:Gh}{a:Act}{w:World}(r:Rg A s gh a w){kb vb:Bool}{k v:Ty}{q:Nat}{m o:List (k.Den×v.Den)}(C:s.tab.ent q=some (.mp kb k vb v m)){b j c:Nat}{es i:Array MapEntry}(D:gh.h q= .map (some b))(u:gh.f q=[b])
 (h3:w.heap[b]? =some (.map es j)) (hB:Born i.toList c) (h4:o.Pairwise (fun p q=>p.1≠q.1)) (h5:MpL gh w kb k vb v i.toList o):Rg A ⟨s.tm,(q,some (.mp kb k vb v o)) :: s.tab⟩ gh a {w with heap:=w.heap.setIfInBounds b (.map i c)}:=by
 have n:b < w.heap.size:=(bR.1 h3).1
 have B:∀g,g < w.heap.size→g∉gh.f q→({w with heap:=w.heap.setIfInBounds b (.map i c)}:World).heap[g]? =w.heap[g]? :=fun g _ l=>by
  rw[u] at l
  exact Array.getElem?_setIfInBounds_ne fun e=>l (by simp[e])
 refine r.mod C ⟨rfl,rfl,rfl,by simp⟩ B ⟨b,i,c,D,u,by simp[n],hB,h4,h5.mono fun g l=>⟨l,B g (r.cx.nl g l) fun E=>r.cx.no q ⟨_,C⟩ g E l⟩⟩
theorem J8 {kt et:TypeId}{kb vb:Bool}{k v:Ty}{q:Nat}{m:List (k.Den×v.Den)}{p:k.Den}{u:v.Den}{i j:List LV}(F:KeyL P kt kb k)(N:P.underlying T=some (.map kt et))
 (hx:Evl A s x (.ref q)) (he:s.tab.ent q=some (.mp kb k vb v m)) (hy:Ev A s y (kb,i)) (hkl:i=leaves k p) (hz:Ev A s z (vb,j)) (hvl:j=leaves v u):
 Does A P ⟨none, .mapUpdate T x y z,ty,pos,af,g⟩ s ⟨s.tm,(q,some (.mp kb k vb v (WC k m p u))) :: s.tab⟩:=fun a w K Q r M=>by
 subst hkl hvl
 obtain ⟨f,r⟩:=r
 have O:a.eval x=f.h q:=hx f a w r ⟨_,he⟩
 obtain ⟨b,R,l,B,G,C,L,D,H⟩:=r.cx.en q _ he
 obtain ⟨n,c,I,J,o⟩:=Qiv F N C L D H (hy f a w r).mv (hz f a w r).mv
 have e:(execOp a.eval ⟨none, .mapUpdate T x y z,ty,pos,af,g⟩).run P w= .ok .skip {w with heap:=w.heap.setIfInBounds b (.map n c)}:=by
  simp only[execOp,O,B,av,I]
  simp
 unfold Oper.wp
 rw[e,Oper.upon_skip]
 exact M _ _ ⟨f,(r.mapset he B G C o (Qpo D) J).puto⟩
theorem Qj2 {kt et:TypeId}{kb vb:Bool}{k v:Ty}{q:Nat}{m:List (k.Den×v.Den)}{p:k.Den}{u:v.Den}{i j:List LV}(F:KeyL P kt kb k)(N:P.underlying T=some (.map kt et))
 (hx:Evl A s x (.ref q)) (he:s.tab.ent q=some (.mp kb k vb v m)) (hy:Ev A s y (kb,i)) (hkl:i=leaves k p) (hz:Ev A s z (vb,j)) (hvl:j=leaves v u):
 Does A P ⟨none, .insert T x y z,ty,pos,af,g⟩ s ⟨s.tm,(q,some (.mp kb k vb v (WC k m p u))) :: s.tab⟩:=fun a w K Q r M=>by
 subst hkl hvl
 obtain ⟨f,r⟩:=r
 have O:a.eval x=f.h q:=hx f a w r ⟨_,he⟩
 obtain ⟨b,R,l,B,G,C,L,D,H⟩:=r.cx.en q _ he
 obtain ⟨n,c,I,J,o⟩:=Qiv F N C L D H (hy f a w r).mv (hz f a w r).mv
 have e:(execOp a.eval ⟨none, .insert T x y z,ty,pos,af,g⟩).run P w= .ok .skip {w with heap:=w.heap.setIfInBounds b (.map n c)}:=by
  simp only[execOp,O,B,av,I]
  simp
 unfold Oper.wp
 rw[e,Oper.upon_skip]
 exact M _ _ ⟨f,(r.mapset he B G C o (Qpo D) J).puto⟩
end
section
variable {P:Program}{T:TypeId}{m:Nat}
def EqT (P:Program)(m:Nat)(T:TypeId)(b:Bool)(t:Ty):Prop:=∀(d:Nat) (w:World) (v v':Value) (x x':t.Den),KV b t v x→KV b t v' x'→(Op.equalIn (d+m) T v v').run P w= .ok (t.beq x x') w
theorem QxE {b:Bool}{t:Ty}(j:Nat)(h:EqT P m T b t):EqT P (m+j) T b t:=fun d w v c x e k a=>by
 have:=h (d+j) w v c x e k a
 rwa [bW,Nat.add_comm j m] at this
theorem EqT.int (h:P.underlying T=some (.int .i64)):EqT P (m+1) T false .int:=fun d w v c x e ⟨_,a,_⟩ ⟨_,b,_⟩=>by
 simp only[aC,and_true] at a b
 rw[a,b,← bW,run_equalIn_int w (d+m) T _ _ _ _ h]
 rfl
theorem EqT.u8 (h:P.underlying T=some (.int .u8)):EqT P (m+1) T false .u8:=fun d w v c x e ⟨_,a⟩ ⟨_,b⟩=>by
 have a:[v]=[.int .u8 (x:UInt8).toNat]:=a
 have b:[c]=[.int .u8 (e:UInt8).toNat]:=b
 simp only[aC,and_true] at a b
 rw[a,b,← bW,run_equalIn_int w (d+m) T _ _ _ _ h,Qor]
 rfl
theorem EqT.bool (h:P.underlying T=some .bool):EqT P (m+1) T false .bool:=fun d w v c x e ⟨_,a⟩ ⟨_,b⟩=>by
 have a:[v]=[.bool x]:=a
 have b:[c]=[.bool e]:=b
 simp only[aC,and_true] at a b
 rw[a,b,← bW,run_equalIn_bool' w (d+m) T _ _ h]
 rfl
theorem EqT.str (h:P.underlying T=some .string):EqT P (m+1) T false .str:=fun d w v c x e ⟨_,a,_⟩ ⟨_,b,_⟩=>by
 simp only[aC,and_true] at a b
 rw[a,b,← bW,run_equalIn_string w (d+m) T _ _ h,QjC]
 rfl
def KAt (t:Ty)(xs:Array Value)(off:Nat)(x:t.Den):Prop:=∃w,Rep t w ((xs.toList.drop off).take t.wd) x
def EqFs (P:Program)(m:Nat)(fs:List Field)(off:Nat)(t:Ty):Prop:=∀(d:Nat) (w:World) (xs ys:Array Value) (x x':t.Den),KAt t xs off x→KAt t ys off x'→(Op.eqFields (d+m) xs ys fs).run P w= .ok (t.beq x x') w
theorem Qio {b:Bool}{t:Ty}{xs:Array Value}{off:Nat}{x:t.Den}{w:World}(c:tsh P T=some (b,t.wd))(j:b=false→t.wd=1)(h:KAt t xs off x):∃v,(part T xs off).run P w= .ok v w∧KV b t v x:=by
 obtain ⟨i,a⟩:=h
 have f:=a.len
 cases b with
 | true=>
  refine ⟨.agg (xs.extract off (off+t.wd)), ?_, ?_⟩
  ·simp only[part,av,Qal c,aE,if_true,Xw c]
   simp
  ·refine ⟨(xs.toList.drop off).take t.wd,i, ?_,a⟩
   congr 1
   apply Array.ext'
   simp[List.extract_eq_take_drop]
 | false=>
  have l:=j rfl
  rw[l] at a f
  match hd:(xs.toList.drop off).take 1,f with
  | [v],_=>
   rw[hd] at a
   refine ⟨v, ?_,i,a⟩
   have n:xs[off]? =some v:=by
    have e:((xs.toList.drop off).take 1)[0]? =some v:=by rw[hd]; rfl
    rw[bc,if_pos (by omega),co] at e
    simpa using e
   simp only[part,av,Qal c,aE]
   simp[n]
theorem QbU {f:Field}{a:List Field}{b:Bool}{t:Ty}{d:Nat}{w:World}{xs ys:Array Value}{x x':t.Den}(h:f.name≠ "_")(e:tsh P f.type=some (b,t.wd))(c:b=false→t.wd=1)(E:EqT P m f.type b t)
 (hx:KAt t xs f.offset x) (hy:KAt t ys f.offset x'):(Op.eqFields (d+m) xs ys (f :: a)).run P w=if t.beq x x' then (Op.eqFields (d+m) xs ys a).run P w else .ok false w:=by
 obtain ⟨v,i,j⟩:=Qio (w:=w) e c hx
 obtain ⟨r,l,n⟩:=Qio (w:=w) e c hy
 have o:=E d w v r x x' j n
 simp only[Op.eqFields,if_pos h,ne_eq,h,not_false_eq_true,if_true,av,i,l,o,aE]
 cases t.beq x x' <;> simp
theorem EqFs.one {f:Field}{b:Bool}{t:Ty}{off:Nat}(e:f.name≠ "_")(h:f.offset=off)(c:tsh P f.type=some (b,t.wd))(a:b=false→t.wd=1)(E:EqT P m f.type b t):EqFs P m [f] off t:=fun d w n o x l i j=>by
 subst h
 rw[QbU e c a E i j]
 cases t.beq x l <;> simp[Op.eqFields]
theorem EqFs.cons {f:Field}{n:List Field}{b:Bool}{t u:Ty}{off:Nat}(L:f.name≠ "_")(M:f.offset=off)(K:tsh P f.type=some (b,t.wd))(J:b=false→t.wd=1)(E:EqT P m f.type b t)(k:EqFs P m n (off+t.wd) u):EqFs P m (f :: n) off (.pr t u):=fun d w Q R x c N O=>by
 subst M
 have cut:∀{a:Array Value} {z:t.Den×u.Den},KAt (.pr t u) a f.offset z→KAt t a f.offset z.1∧KAt u a (f.offset+t.wd) z.2:=fun {a z} ⟨B,l,r,h,i,j⟩=>by
  have o:=i.len
  have S:=j.len
  have H:(a.toList.drop f.offset).take t.wd=l:=by
   have:=congrArg (List.take t.wd) h
   have e:(Ty.pr t u).wd=t.wd+u.wd:=rfl
   rw[e,List.take_take,cu (Nat.le_add_right _ _)] at this
   rw[this,← o,di]
  have I:(a.toList.drop (f.offset+t.wd)).take u.wd=r:=by
   have:=congrArg (List.drop t.wd) h
   have e:(Ty.pr t u).wd=t.wd+u.wd:=rfl
   rw[e,List.drop_take,dk,bq] at this
   rw[this,← o,List.drop_left]
  exact ⟨⟨B,by rw[H]; exact i⟩,⟨B,by rw[I]; exact j⟩⟩
 obtain ⟨C,D⟩:=cut N
 obtain ⟨F,G⟩:=cut O
 rw[QbU L K J E C F,k d w Q R x.2 c.2 D G]
 show _=Result.ok (t.beq x.1 c.1&&u.beq x.2 c.2) w
 cases t.beq x.1 c.1 <;> rfl
theorem EqT.struct {a:Array Field}{t:Ty}(f:P.underlying T=some (.struct a))(n:P.stoodInHeld T=false)(h:EqFs P m a.toList 0 t):EqT P (m+1) T true t:=fun d w v B x r ⟨u,o,j,b⟩ ⟨i,w2,l,c⟩=>by
 have e:P.fieldsOf T=a:=by simp[Program.fieldsOf,f]
 rw[j,l,← bW,run_equalIn_struct w (d+m) T _ _ (by rw[e]; exact f) n,e]
 refine h d w _ _ x r ⟨o, ?_⟩ ⟨w2, ?_⟩
 ·rw[List.drop_zero,bj (by rw[List.toList_toArray,b.len]; exact aJ _)]; simpa using b
 ·rw[List.drop_zero,bj (by rw[List.toList_toArray,c.len]; exact aJ _)]; simpa using c
section
variable {A:Amb}{s:St}{x y:Operand}{d:Nat}{T' ty:TypeId}{pos:String}{af:Array Edge}{g:Option (Nat×Bool)}{t:Ty}{p q:t.Den}{ls ls':List LV}
theorem HT (E:EqT P m T true t)(h:(P.eqGuardType P.depth T=false)∧m≤10000)(D:Ev A s x (true,ls))(F:Ev A s y (true,ls'))(B:ls=leaves t p)(c:ls'=leaves t q)(C:Nat.blt d A.n=true):
 Does A P ⟨some d, .binOp .eql T x y T',ty,pos,af,g⟩ s (s.put d (lf (dB (t.beq p q)))):=
 Qq rfl C fun e a w r=>by
  subst B c
  obtain ⟨i,j,l⟩:=D e a w r
  obtain ⟨b,o,u⟩:=F e a w r
  have f:=E (10000 - m) w _ _ p q ⟨i,w,rfl,(LVs.rd l).rep⟩ ⟨b,w,rfl,(LVs.rd u).rep⟩
  rw[Nat.sub_add_cancel h.2] at f
  refine ⟨.bool (t.beq p q), ?_,_,rfl,Z5⟩
  simp only[execOp,j,o]
  simp[av,run_eqGuard_agg w _ _ _ _ _ _ h.1,run_eql_struct,f]
theorem QcL (E:EqT P m T true t)(h:(P.eqGuardType P.depth T=false)∧m≤10000)(D:Ev A s x (true,ls))(F:Ev A s y (true,ls'))(B:ls=leaves t p)(c:ls'=leaves t q)(C:Nat.blt d A.n=true):
 Does A P ⟨some d, .binOp .neq T x y T',ty,pos,af,g⟩ s (s.put d (lf (dB (!(t.beq p q))))):=
 Qq rfl C fun e a w r=>by
  subst B c
  obtain ⟨i,j,l⟩:=D e a w r
  obtain ⟨b,o,u⟩:=F e a w r
  have f:=E (10000 - m) w _ _ p q ⟨i,w,rfl,(LVs.rd l).rep⟩ ⟨b,w,rfl,(LVs.rd u).rep⟩
  rw[Nat.sub_add_cancel h.2] at f
  refine ⟨.bool (!(t.beq p q)), ?_,_,rfl,Z5⟩
  simp only[execOp,j,o]
  simp[av,run_eqGuard_agg w _ _ _ _ _ _ h.1,run_neq_struct,f]
end
end
end Go.Proofs.YtndabgcpnmeeoaaGreat
namespace Go.Proofs.YtndabgcpnmeeoaaGreat
open Go.RowKit
section
variable {A:Amb}{P:Program}{s:St}{x y:Operand}{d:Nat}{T T' ty:TypeId}{pos:String}{af:Array Edge}{g:Option (Nat×Bool)}
variable {E:TypeId}{e:Ty}{xs:List e.Den}{q lo n:Nat}
theorem SubR.all {h:Value}{w:World}{fp:List Nat}{k:Nat}(j:Own (.sl E e) w fp [h] xs):SubR h k 0 xs.length h:=by
 rcases j with ⟨_,a,i⟩ | ⟨b,c,f,fps,_,a,_⟩
 ·subst i
  simp only[aC,and_true] at a
  exact ⟨none,0,0,a,by rw[a]; rfl⟩
 ·simp only[aC,and_true] at a
  refine ⟨some ⟨b,0,none⟩,xs.length,c,a, ?_⟩
  rw[a]
  congr 1
  split
  ·rfl
  ·simp[Addr.add_lit]
theorem SubR.rep {h v:Value}{w:World}{fp:List Nat}(b:Own (.sl E e) w fp [h] xs)(i:SubR h e.wd lo n v)(f:lo+n≤xs.length):Rep (.sl E e) w [v] ((xs.take (lo+n)).drop lo):=by
 obtain ⟨B,m,c,rfl,rfl⟩:=i
 have a:=b.rep
 obtain ⟨j,l,k,_⟩:=a
 have a:=b.rep
 simp only[aC,Value.slice.injEq,and_true] at k
 obtain ⟨rfl,rfl,rfl⟩:=k
 have:=a.part (lo:=lo) (hi:=lo+n) (by omega) f
 rwa [bq] at this
theorem Yh {lo hi:Option Operand}{l h:Option Int}{t:Bool}(F:Evl A s x (.ref q))(o:s.tab.ent q=some (.arr E e xs))(k:opI A s lo l)(j:opI A s hi h){E':TypeId}(z:P.underlying T=some (.slice E'))(u:tsh P E'=some (t,e.wd))(C:Nat.blt d A.n=true)
 (h0:0≤l.getD 0) (h1:l.getD 0≤h.getD xs.length) (h2:h.getD xs.length≤xs.length) {a b:Nat} (ha:a=(l.getD 0).toNat) (hb:b=(h.getD xs.length).toNat - (l.getD 0).toNat):Does A P ⟨some d, .slice T x lo hi none,ty,pos,af,g⟩ s (s.put d (lf (.sub q e.wd a b))):=
 Qq rfl C fun i m w r=>by
  subst ha hb
  have D:m.eval x=i.h q:=F i m w r ⟨_,o⟩
  have v:Own (.sl E e) w (i.f q) [i.h q] xs:=r.cx.en q _ o
  obtain ⟨B,c,p,G,H⟩:=v.rep.slv
  refine ⟨_, ?_,_,rfl,fun _=>⟨B,xs.length,c,p,rfl⟩⟩
  simp only[execOp,D,p,k.ev r,j.ev r,Option.map_none,Instr.sliceAt,Instr.slice,av,run_underlying z,aE,JS h0 h1 h2 G,Xw u]
  simp
theorem Ua (h:Evl A s x (.sub q e.wd lo n))(c:s.tab.ent q=some (.arr E e xs))(j:lo+n≤xs.length):Qff A s x (.sl E e) ((xs.take (lo+n)).drop lo):=fun b a w r=>by
 have i:Own (.sl E e) w (b.f q) [b.h q] xs:=r.cx.en q _ c
 exact (h b a w r ⟨_,c⟩).rep i j
def cpy {α:Type}(xs:List α)(lo n:Nat)(ys:List α):List α:=xs.take lo++ys.take (min ys.length n)++xs.drop (lo+min ys.length n)
theorem QiV {α:Type}{xs:List α}{lo n:Nat}{ys:List α}(h:lo+n≤xs.length):(cpy xs lo n ys).length=xs.length:=by
 simp[cpy]; omega
theorem QdV {α:Type}{l:List α}{len lo:Nat}{cs:List α}(h:lo+cs.length≤len)(b:len≤l.length):(l.take lo++cs++l.drop (lo+cs.length)).take len=(l.take len).take lo++cs++(l.take len).drop (lo+cs.length):=by
 have a:(l.take lo++cs).length=lo+cs.length:=by simp; omega
 rw[List.take_append,bj (by omega),a,List.take_take,cu (by omega),List.drop_take]
theorem OwnL.fp0 {w:World}(a:e.flat=true):∀{xs:List e.Den} {fp:List Nat} {cs:List Value},OwnL (Own e w) fp cs xs→fp=[]
 | [],_,_,h=>h.1
 | _ :: _,_,_,⟨f1,f2,c1,c2,h1,h2,h3,h4⟩=>by rw[h1,UO a h3,OwnL.fp0 a h4]; rfl
theorem OwnL.takeN {w:World}(i:e.wd=1)(b:e.flat=true):∀{xs:List e.Den} {fp:List Nat} {cs:List Value} (k:Nat),OwnL (Own e w) fp cs xs→OwnL (Own e w) [] (cs.take k) (xs.take k)
 | [],_,_,k,h=>by rw[h.2]; simp[OwnL]
 | x :: xs,_,_,0,_=>by simp[OwnL]
 | x :: xs,_,_,k+1,⟨f1,f2,c1,c2,h1,h2,h3,h4⟩=>by
  have f:=h3.len
  rw[i] at f
  have a:=UO b h3
  subst a
  match c1,f with
  | [c],_=>
   rw[h2]
   exact ⟨[],[],[c],c2.take k,rfl,rfl,h3,OwnL.takeN i b k h4⟩
theorem OwnL.dropN {w:World}(f:e.wd=1)(a:e.flat=true):∀{xs:List e.Den} {fp:List Nat} {cs:List Value} (k:Nat),OwnL (Own e w) fp cs xs→OwnL (Own e w) [] (cs.drop k) (xs.drop k)
 | [],_,_,k,h=>by rw[h.2]; simp[OwnL]
 | x :: xs,_,_,0,h=>by have:=h.fp0 a; subst this; exact h
 | x :: xs,_,_,k+1,⟨f1,f2,c1,c2,h1,h2,h3,h4⟩=>by
  have b:=h3.len
  rw[f] at b
  match c1,b with
  | [c],_=>
   rw[h2]
   exact OwnL.dropN f a k h4
theorem Qhm {w:World}{dT sT ty c:TypeId}{b o dLen dCap:Nat}{a:Addr}{sLen sCap:Nat}{cur:Array Value}{cs:List Value}(p:P.underlying dT=some (.slice c))(k:(P.info? c).map (·.size)=some 1)
 (hg:w.heap[b]? =some (.cells cur E (0,0))) (hn:cs.length=Nat.min sLen dLen) (hsrc:∀j v,cs[j]? =some v→w.cell? (a.add j)=some v) (hfit:o+cs.length≤cur.size) (h1:∀v∈cs,v.oneCell'=true):
 (Builtin.copy_ #[dT,sT] ty #[.slice (some ⟨b,o,none⟩) dLen dCap, .slice (some a) sLen sCap]).run P w= .ok (goInt cs.length) (WE w b o cs):=by
 have m:=run_loadCells_list (P:=P) w a cs hsrc
 have h:=Uy (P:=P) (b:=b) (E:=E) cs o 0 w cur hg (by omega) h1
 cases f:P.info? c with
 | none=>simp[f] at k
 | some i=>
  have l:i.size=1:=by simpa [f] using k
  simp[Builtin.copy_,run_underlying p,Builtin.lenOf,Builtin.firstCells,sizeOf,typeInfo,f,l,← hn,m,h]
def QrH (A:Amb)(s:St)(x:Operand)(q wd lo n:Nat):Prop:=∀gh a w,Rg A s gh a w→SubR (gh.h q) wd lo n (a.eval x)
theorem Qrs (h:Evl A s x (.sub q e.wd lo n))(c:s.tab.ent q=some (.arr E e xs)):QrH A s x q e.wd lo n:=fun b a w r=>h b a w r ⟨_,c⟩
theorem Qrr (h:Evl A s x (.ref q))(c:s.tab.ent q=some (.arr E e xs)):QrH A s x q e.wd 0 xs.length:=fun b a w r=>by
 have i:Own (.sl E e) w (b.f q) [b.h q] xs:=r.cx.en q _ c
 rw[show a.eval x=b.h q from h b a w r ⟨_,c⟩]
 exact SubR.all i
theorem Qe0 {J N p:TypeId}{z:Value}{F:Nat}{ys:List e.Den}(hx:QrH A s x q e.wd lo n)(he:s.tab.ent q=some (.arr E e xs))(hb:lo+n≤xs.length)(hy:Qff A s y (.sl E e) ys)(I:e.wd=1)(R:e.flat=true)
 (hu:P.underlying J=some (.slice p)) (hi:(P.info? p).map (fun i=>(i.zero,i.size,i.bytes))=some (some z,1,F)) (hn:Nat.blt d A.n=true):
 Does A P ⟨some d, .call ⟨.builtin .copy, #[x,y], #[J,N]⟩,ty,pos,af,g⟩ s ⟨(d,lf (dI (min ys.length n:Nat))) :: s.tm,(q,some (.arr E e (cpy xs lo n ys))) :: s.tab⟩:=fun a w K Q r hK=>by
 obtain ⟨L,r⟩:=r
 have hs:(P.info? p).map (·.size)=some 1:=by
  cases hq:P.info? p with
  | none=>rw[hq] at hi; simp at hi
  | some i=>rw[hq] at hi; simp at hi; simp[hi.2.1]
 have hO:Own (.sl E e) w (L.f q) [L.h q] xs:=r.cx.en q _ he
 have a0:=hO
 obtain ⟨B,m,c,q1,Z⟩:=hx L a w r
 have hr:=hy L a w r
 obtain ⟨A',c2,H,h3,h4⟩:=hr.slv
 obtain ⟨B0,c0,z1,z2,z3⟩:=hO.rep.slv
 have a7:(min ys.length n:Nat)≤9223372036854775807:=by unfold maxLen at z3; omega
 by_cases hz:min ys.length n=0
 ·have hc:cpy xs lo n ys=xs:=by simp[cpy,hz]
  have e0:(execOp a.eval ⟨some d, .call ⟨.builtin .copy, #[x,y], #[J,N]⟩,ty,pos,af,g⟩).run P w= .ok (.value (goInt ((min ys.length n:Nat):Int))) w:=by
   have V:=run_copy_none (P:=P) w J N ty p (if c=lo then B else B.map (·.add (lo*e.wd))) A' n (c - lo) ys.length c2 hu hs hz
   rw[hz]
   simp only[execOp,resolve,invoke,builtin,Z,H,av,aY,aE,dp,br,dn,V]
   rfl
  unfold Oper.wp
  rw[e0,Oper.upon_value]
  refine hK _ _ ⟨L,Rg.put (s:=⟨s.tm,(q,some (.arr E e (cpy xs lo n ys))) :: s.tab⟩) (r.mod he (Zk w) (fun _ _ _=>rfl) ?_) (aD hn) (pv:=lf (dI (min ys.length n:Nat))) ⟨_,rfl,Yb (n:=((min ys.length n:Nat):Int)) (by omega)⟩⟩
  rw[hc]
  exact a0
 ·rcases hO with ⟨_,_,h⟩ | ⟨b,a5,u,fps,p2,X,p4,p5,p6,p7,Y⟩
  ·subst h; simp at hb; omega
  have a2:=Y.fp0 R
  subst a2
  simp only[aC,and_true] at X
  rw[q1] at X
  simp only[Value.slice.injEq] at X
  obtain ⟨rfl,rfl,rfl⟩:=X
  rw[if_neg (by omega)] at Z
  simp only[dc,Addr.add_lit,I,cD,bX] at Z
  rw[H] at hr
  obtain ⟨_,S⟩:=hr.src (M:=0) R
  rcases S with ⟨_,h0⟩ | ⟨ad,k,rfl,⟨fp,n1,_,_⟩,n4⟩
  ·omega
  have a4:=n1.len
  rw[I,cD] at a4
  have n5:=n1.takeN I R (min ys.length n)
  have t:(k.take (min ys.length n)).length=min ys.length n:=by rw[ao]; omega
  have a6:u.size=c:=by rw[p7,I,cD]
  have V:=Qhm (P:=P) (w:=w) (dT:=J) (sT:=N) (ty:=ty) (o:=lo) (dCap:=c - lo) (sCap:=c2) (sLen:=ys.length) (dLen:=n) (a:=ad) (cs:=k.take (min ys.length n)) hu hs p4 t
   (fun j v W=>n4 j v (by rw[bc] at W; split at W; exact W; cases W)) (by rw[t]; omega) (OwnL.one (fp:=[]) n5)
  have e0:(execOp a.eval ⟨some d, .call ⟨.builtin .copy, #[x,y], #[J,N]⟩,ty,pos,af,g⟩).run P w= .ok (.value (goInt ((min ys.length n:Nat):Int))) (WE w b lo (k.take (min ys.length n))):=by
   rw[t] at V
   simp only[execOp,resolve,invoke,builtin,Z,H,av,aY,aE,dp,br,dn,V]
  unfold Oper.wp
  rw[e0,Oper.upon_value]
  obtain ⟨D,m1,m2,m3⟩:=Uv b E (0,0) (k.take (min ys.length n)) w lo u p4 (by rw[t]; omega)
  refine hK _ _ ⟨L,Rg.put (s:=⟨s.tm,(q,some (.arr E e (cpy xs lo n ys))) :: s.tab⟩) (r.mod he (K2 w b lo _) (fun g0 _ a3=>Y3 w b lo _ g0 fun h=>a3 (by rw[p2,h]; simp)) ?_) (aD hn) (pv:=lf (dI (min ys.length n:Nat))) ⟨_,rfl,Yb (n:=((min ys.length n:Nat):Int)) (by omega)⟩⟩
  have O:=QiV (ys:=ys) hb
  refine .inr ⟨b,c,D,[],p2,by rw[q1,O],m1,by omega,p6,by rw[m2]; exact p7, ?_⟩
  rw[I,cD] at Y ⊢
  rw[O]
  have G:D.toList.take xs.length=(u.toList.take xs.length).take lo++k.take (min ys.length n)++(u.toList.take xs.length).drop (lo+min ys.length n):=by
   have h9:=QdV (l:=u.toList) (len:=xs.length) (lo:=lo) (cs:=k.take (min ys.length n)) (by rw[t]; omega) (by simp; omega)
   rw[m3,h9,t]
  rw[G]
  have C:∀{U:List Value} {zs:List e.Den},OwnL (Own e w) [] U zs→OwnL (Own e (WE w b lo (k.take (min ys.length n)))) [] U zs:=fun h=>h.mono fun f c x a1 ho=>ho.keep fun g hg=>absurd (a1 g hg) (by simp)
  exact ((C (Y.takeN I R lo)).append (C n5)).append (C (Y.dropN I R (lo+min ys.length n)))
theorem QlQ (i:Nat)(hi:lk s.tm i=some (lf (.ref q)))(p:s.tab.ent q=some (.arr E e xs)):Wk A s ⟨(i,lf (.dat (.sl E e) xs)) :: s.tm,(q,none) :: s.tab⟩:=fun a w r=>by
 obtain ⟨m,r⟩:=r
 obtain ⟨v,H,l,z,I⟩:=r.tm i _ hi
 simp only[aC,and_true] at z
 subst z
 have J:v=m.h q:=I ⟨_,p⟩
 have B:Own (.sl E e) w (m.f q) [m.h q] xs:=r.cx.en q _ p
 have c:∀b,Tab.al ((q,none) :: s.tab) b→b≠q∧s.tab.al b:=fun b ⟨t,h⟩=>by
  rw[Qj] at h
  by_cases o:b=q
  ·rw[if_pos o] at h; cases h
  ·rw[if_neg o] at h; exact ⟨o,t,h⟩
 have O:=r.step (T:=(q,none) :: s.tab) (gh':=⟨m.h,m.f,fun g=>m.N g∨g∈m.f q⟩) (w':=w) ⟨fun b t h=> ?_,fun D F K L u=>r.cx.dj D F (c D K).2 (c F L).2 u,fun b h=>r.cx.nd b (c b h).2,fun b h g k j=> ?_,fun g j=> ?_⟩
  (fun b h=> .inl ⟨(c b h).2,rfl,fun _=>rfl⟩) (fun g k=>⟨.inl k,rfl⟩) (Zk w) (fun _ _ _=>rfl) (fun g j=> ?_) (fun b h g k=> .inr ⟨b,(c b h).2,k⟩)
 ·exact ⟨_,O.know H (pv:=lf (.dat (.sl E e) xs)) ⟨_,rfl,by rw[J]; exact B.rd fun g k=> .inr k⟩⟩
 ·rw[Qj] at h
  by_cases o:b=q
  ·rw[if_pos o] at h; cases h
  ·rw[if_neg o] at h
   exact (r.cx.en b t h).mono (fun M _ G=>⟨(c M G).2,rfl⟩) (fun g k=>⟨.inl k,rfl⟩) rfl rfl fun _ _=>rfl
 ·rcases j with j | j
  ·exact r.cx.no b (c b h).2 g k j
  ·exact r.cx.dj b q (c b h).2 ⟨_,p⟩ (c b h).1 g k j
 ·rcases j with j | j
  ·exact r.cx.nl g j
  ·exact Own.lt B g j
 ·rcases j with j | j
  ·exact .inl j
  ·exact .inr (.inr ⟨q,⟨_,p⟩,j,fun C=>r.xn g C (r.ox q ⟨_,p⟩ g j C)⟩)
end
end Go.Proofs.YtndabgcpnmeeoaaGreat
