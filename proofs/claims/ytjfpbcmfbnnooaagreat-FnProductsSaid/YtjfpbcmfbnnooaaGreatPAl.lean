import Derived.Test.YtjfpbcmfbnnooaaGreatPAk
import Derived.Maps.Keyed
import Derived.StringKeys
import Derived.Carry
import Derived.Laws.StructEq
set_option linter.all false
namespace Go.Proofs.YtjfpbcmfbnnooaaGreat
open Go.RowKit Tryz
def QsO {A:Amb}{P:Program}{s:St}{fn:Func}{i j l n:ResultVar}{c1 c2 c3 c4:Bool×List LV}(K:fn.results= #[i,j,l,n])(G:Rs A P s i c1)(H:Rs A P s j c2)(I:Rs A P s l c3)(J:Rs A P s n c4):Res A P fn s (.tup [c1,c2,c3,c4]):=fun e a w g=>by
 obtain ⟨h,o,C⟩:=G e a w g
 obtain ⟨f,r,D⟩:=H e a w g
 obtain ⟨c,u,E⟩:=I e a w g
 obtain ⟨b,B,F⟩:=J e a w g
 refine ⟨.tuple #[h,f,c,b],?_,[h,f,c,b],rfl,h,[f,c,b],rfl,C,f,[c,b],rfl,D,c,[b],rfl,E,b,[],rfl,F,rfl⟩
 rw[Ux,K];simp[Vn,o,r,u,B,dY]
def XV {b w:Bool}(h:(!b)=w):b= !w:=by cases b <;> subst h <;> rfl
def XW {b w:Bool}(h:b=w):(!b)= !w:=by rw[h]
def Qf {A:Amb}{P:Program}{s:St}{Q:Exit→St→Prop}{ops:Array Oper}{o:Oper}{l:List Oper}{j d:Nat}{b:Bool}(E:o.guard=some (j,b))(D:(ops[j]?).bind (·.dst)=some d)(hb:lk s.tm d=some (lf (.val undef)))
 (k:AL A P ops l Q (match o.dst with|some e=>s.put e (lf (.val undef))|none=>s)) (hn:(match o.dst with|some e=>Nat.blt e A.n|none=>true)=true):AL A P ops (o::l) Q s:=fun a w r=>by
 obtain ⟨i,h⟩:=r
 have F:yielded ops a.tmps j=none:=by
  obtain ⟨v,B,l,u,f⟩:=h.tm d _ hb
  simp only[aN,and_true] at u
  subst u
  have f:v=undef:=f
  subst f
  simp[yielded,D,B,undef]
 refine wpList_step fun K C=> ?_
 rw[if_neg (by simp[Region.wanted,E,F])]
 refine C _ _ (k _ _ ?_)
 cases c:o.dst with
 | none=>exact ⟨i,h⟩
 | some e=>
  rw[c] at hn
  exact ⟨i,h.put (aD hn) (pv:=lf (.val undef)) ⟨_,rfl,rfl⟩⟩
def Qwp {A:Amb}{P:Program}{s:St}{ops:Array Oper}{o:Oper}{j d c:Nat}{b:Bool}(D:o.guard=some (j,b))(C:(ops[j]?).bind (·.dst)=some d)(hb:lk s.tm d=some (lf (.val undef)))(F:o.dst=some c)(E:Nat.blt c A.n=true):Acts A P ops o s (s.put c (lf (.val undef))):=fun a w K Q r B=>by
 obtain ⟨i,h⟩:=r
 have G:yielded ops a.tmps j=none:=by
  obtain ⟨v,u,l,f,e⟩:=h.tm d _ hb
  simp only[aN,and_true] at f
  subst f
  have e:v=undef:=e
  subst e
  simp[yielded,C,u,undef]
 rw[if_neg (by simp[Region.wanted,D,G]),F]
 exact B _ _ ⟨i,h.put (aD E) (pv:=lf (.val undef)) ⟨_,rfl,rfl⟩⟩
def Qfe {A:Amb}{P:Program}{s:St}{x y:Operand}{d:Nat}{T ty:TypeId}{pos:String}{af:Array Edge}{g:Option (Nat×Bool)}(t:Nat){E:TypeId}{e:Ty}{n:Int}{z:Value}{a:Nat}(b:Evl A s x (dI n))(c:Evl A s y (dI n))(h:P.underlying T=some (.slice E))(hi:(P.info? E).map (fun i=>(i.zero,i.size,i.bytes))=some (some z,e.wd,a))
 (hz:z.cells.toList=e.zeros) (h0:0≤n) (hb:a*n.toNat≤281474976710656) (hm:n.toNat≤1073741824) (hn:Nat.blt d A.n=true) (hfr:Fresh s t) (hk0:A.k0≤t):Does A P ⟨some d,.makeSlice T x y,ty,pos,af,g⟩ s (s.mk_ d t [] E e (List.replicate n.toNat e.zero)):=by
 have f:n=(n.toNat:Int):=by omega
 rw[f] at b c
 exact WW t b c h hi hz hb hm hn hfr hk0
def QnP {α:Type}(f:α→α→Bool):List α→List α→Bool
 | [],[]=>true
 | x::xs,y::ys=>f x y&&QnP f xs ys
 | _,_=>false
def Ty.beq:(t:Ty)→t.Den→t.Den→Bool
 | .int,x,y=>decide ((x:Int)=y)
 | .bool,x,y=>(x:Bool)==y
 | .str,x,y=>decide ((x:BA)=y)
 | .u8,x,y=>decide ((x:UInt8)=y)
 | .vl,x,y=>decide ((x:Hdr)=y)
 | .sl _ e,x,y=>QnP e.beq x y
 | .pr a b,x,y=>a.beq x.1 y.1&&b.beq x.2 y.2
def QkX {α:Type}{f:α→α→Bool}(h:∀x y,f x y=true↔x=y):∀xs ys:List α,QnP f xs ys=true↔xs=ys
 | [],[]=>by simp[QnP]
 | [],_::_=>by simp[QnP]
 | _::_,[]=>by simp[QnP]
 | x::xs,y::ys=>by simp[QnP,h,QkX h xs ys]
def Ty.beq_iff:∀(t:Ty) (x y:t.Den),t.beq x y=true↔x=y
 | .int,x,y=>by simp[Ty.beq]
 | .bool,x,y=>by simp[Ty.beq]
 | .str,x,y=>by simp[Ty.beq]
 | .u8,x,y=>by simp[Ty.beq]
 | .vl,x,y=>by simp[Ty.beq]
 | .sl _ e,x,y=>QkX (Ty.beq_iff e) x y
 | .pr a b,x,y=>by
  obtain ⟨c,f⟩:=x
  obtain ⟨y1,y2⟩:=y
  simp[Ty.beq,Ty.beq_iff a,Ty.beq_iff b]
def Y1 (t:Ty)(x:t.Den):t.beq x x=true:=(t.beq_iff x x).2 rfl
def Ty.fcs:(t:Ty)→t.Den→List Value
 | .int,x=>[.int .i64 x]
 | .bool,x=>[.bool x]
 | .str,x=>[.string x]
 | .u8,x=>[.int .u8 (x:UInt8).toNat]
 | .vl,x=>[hdV x]
 | .sl _ _,_=>[]
 | .pr a b,x=>a.fcs x.1++b.fcs x.2
def Rep.fcs:∀{t:Ty} {w:World} {cs:List Value} {x:t.Den},Rep t w cs x→t.flat=true→cs=t.fcs x
 | .int,_,_,_,h,_=>h.1
 | .bool,_,_,_,h,_=>h
 | .str,_,_,_,h,_=>h.1
 | .u8,_,_,_,h,_=>h
 | .vl,_,_,_,h,_=>h
 | .sl _ _,_,_,_,_,c=>by cases c
 | .pr a b,w,_,_,⟨l,r,h1,h2,h3⟩,c=>by
  have c:(a.flat&&b.flat)=true:=c
  rw[aH] at c
  rw[h1,h2.fcs c.1,h3.fcs c.2];rfl
theorem Rep.fcs_inj:∀{t:Ty} {w w':World} {cs:List Value} {x y:t.Den},Rep t w cs x→Rep t w' cs y→t.flat=true→x=y
 | .int,_,_,_,x,y,h,k,_=>by have e:=h.1;have c:=k.1;rw[e] at c;simpa using c
 | .bool,_,_,_,x,y,h,k,_=>by have e:_=_:=h;have c:_=_:=k;rw[e] at c;simpa using c
 | .str,_,_,_,x,y,h,k,_=>by have e:=h.1;have c:=k.1;rw[e] at c;simpa using c
 | .u8,_,_,_,x,y,h,k,_=>by
  have e:_=_:=h;have c:_=_:=k;rw[e] at c
  grind [List.cons.injEq,Value.int.injEq,UInt8.toNat_inj]
 | .vl,_,_,_,x,y,h,k,_=>by
  have e:_=_:=h;have c:_=_:=k;rw[e] at c
  exact Qpi (by simpa using c)
 | .sl _ _,_,_,_,_,_,_,_,f=>by cases f
 | .pr a b,w,w',_,x,y,⟨l,r,e,c,h3⟩,⟨l',r',k1,k2,k3⟩,f=>by
  have f:(a.flat&&b.flat)=true:=f
  rw[aH] at f
  rw[e] at k1
  have i:l.length=l'.length:=by rw[c.len,k2.len]
  obtain ⟨rfl,rfl⟩:=List.append_inj k1 i
  exact Prod.ext (c.fcs_inj k2 f.1) (h3.fcs_inj k3 f.2)
def KV:Bool→(t:Ty)→Value→t.Den→Prop
 | true,t,v,x=>∃cs w,v= .agg cs.toArray∧Rep t w cs x
 | false,t,v,x=>∃w,Rep t w [v] x
def MV.kv {gh:Gh}{w:World}{b:Bool}{t:Ty}{v:Value}{x:t.Den}(h:MV gh w b t v x):KV b t v x:=by
 cases b with
 | true=>obtain ⟨a,c,e⟩:=h;exact ⟨a,w,c,e.rep⟩
 | false=>exact ⟨w,Rd.rep h⟩
def QiC {b:Bool}{t:Ty}{v j:Value}{x y:t.Den}(h:KV b t v x)(k:KV b t j y)(a:t.flat=true):v=j↔x=y:=by
 cases b with
 | true=>
  obtain ⟨l,w,rfl,c⟩:=h
  obtain ⟨i,n,rfl,f⟩:=k
  constructor
  ·intro e
   have e:l=i:=by simpa using e
   subst e
   exact c.fcs_inj f a
  ·rintro rfl
   rw[c.fcs a,f.fcs a]
 | false=>
  obtain ⟨w,c⟩:=h
  obtain ⟨n,f⟩:=k
  constructor
  ·rintro rfl
   exact c.fcs_inj f a
  ·rintro rfl
   have:=(c.fcs a).trans (f.fcs a).symm
   simpa using this
structure KeyL (P:Program) (kt:TypeId) (kb:Bool) (k:Ty):Prop where
  K:Maps.Keyed P kt
  flat:k.flat=true
  rd:∀v x,KV kb k v x→∃l,keyOf P kt v=some l
def KeyL.str {P:Program}{kt:TypeId}(h:P.underlying kt=some .string):KeyL P kt false .str:=
 ⟨Maps.string_keyed h,rfl,fun v x ⟨w,a,b⟩=>by
  simp only[aN,and_true] at a
  subst a
  exact ⟨_,WideMaps.keyOf_string_mk h b⟩⟩
def KeyL.int {P:Program}{kt:TypeId}(h:P.underlying kt=some (.int .i64)):KeyL P kt false .int:=
 ⟨Maps.int_keyed h,rfl,fun v x ⟨w,a,b⟩=>by
  simp only[aN,and_true] at a
  subst a
  exact ⟨_,Maps.keyOf_int_mk h (by simp[Lit.wf];exact b)⟩⟩
def YN (k:Ty){V:Type}:List (k.Den×V)→k.Den→Option V
 | [],_=>none
 | p::m,x=>if k.beq p.1 x then some p.2 else YN k m x
def Wb (k:Ty){V:Type}:List (k.Den×V)→k.Den→V→List (k.Den×V)
 | [],x,v=>[(x,v)]
 | p::m,x,v=>if k.beq p.1 x then (x,v)::m else p::Wb k m x v
section
variable {k:Ty}{V:Type}{m:List (k.Den×V)}{x:k.Den}{v:V}
theorem Qam (h:∀p∈m,p.1≠x):YN k m x=none:=by
 induction m with
 | nil=>rfl
 | cons p m c=>
  have a:k.beq p.1 x=false:=bT.2 fun e=>h p (aA ..) ((k.beq_iff _ _).1 e)
  simp only[YN,a]
  exact c fun q b=>h q (az _ b)
def QrK (h:∀p∈m,p.1≠x):Wb k m x v=m++[(x,v)]:=by
 induction m with
 | nil=>rfl
 | cons p m c=>
  have a:k.beq p.1 x=false:=bT.2 fun e=>h p (aA ..) ((k.beq_iff _ _).1 e)
  simp only[Wb,a,cI]
  rw[← c fun q b=>h q (az _ b)]
  rfl
theorem Jt (i:m.Pairwise (fun p q=>p.1≠q.1)){j:Nat}{p:k.Den×V}(a:m[j]? =some p)(b:p.1=x):YN k m x=some p.2:=by
 induction m generalizing j with
 | nil=>simp at a
 | cons n m l=>
  obtain ⟨c,f⟩:=bK.1 i
  cases j with
  | zero=>
   simp only[bQ,br] at a
   subst a
   simp[YN,(k.beq_iff _ _).2 b]
  | succ j=>
   simp only[cB] at a
   have h:k.beq n.1 x=false:=bT.2 fun e=>c p (ah a) (((k.beq_iff _ _).1 e).trans b.symm)
   simp only[YN,h]
   exact l f a
def Qx2 (i:m.Pairwise (fun p q=>p.1≠q.1)){j:Nat}{p:k.Den×V}(a:m[j]? =some p)(b:p.1=x):Wb k m x v=m.set j (x,v):=by
 induction m generalizing j with
 | nil=>simp at a
 | cons n m l=>
  obtain ⟨c,f⟩:=bK.1 i
  cases j with
  | zero=>
   simp only[bQ,br] at a
   subst a
   simp[Wb,(k.beq_iff _ _).2 b]
  | succ j=>
   simp only[cB] at a
   have h:k.beq n.1 x=false:=bT.2 fun e=>c p (ah a) (((k.beq_iff _ _).1 e).trans b.symm)
   simp only[Wb,h,du]
   rw[← l f a]
   rfl
theorem Qk6 {q:k.Den×V}(h:q∈Wb k m x v):q=(x,v)∨q∈m:=by
 induction m with
 | nil=>simpa [Wb] using h
 | cons p m a=>
  grind [Wb,List.mem_cons_of_mem,List.mem_cons_self]
theorem Qcr (f:m.Pairwise (fun p q=>p.1≠q.1)):(Wb k m x v).Pairwise (fun p q=>p.1≠q.1):=by
 induction m with
 | nil=>simp[Wb]
 | cons p m i=>
  obtain ⟨b,c⟩:=bK.1 f
  unfold Wb
  split
  ·rename_i h
   have h:=(k.beq_iff _ _).1 h
   grind [List.pairwise_cons]
  ·rename_i h
   refine bK.2 ⟨fun q a=> ?_,i c⟩
   rcases Qk6 a with rfl|a
   ·exact fun e=>h ((k.beq_iff _ _).2 e)
   ·exact b q a
def KN (y:k.Den):YN k (Wb k m x v) y=if k.beq x y then some v else YN k m y:=by
 induction m with
 | nil=>simp[Wb,YN]
 | cons p m c=>
  unfold Wb
  split
  ·rename_i h
   have h:=(k.beq_iff _ _).1 h
   simp only[YN]
   rw[h]
   split <;> rfl
  ·rename_i h
   simp only[YN]
   rw[c]
   split
   ·rename_i a
    have a:=(k.beq_iff _ _).1 a
    rw[if_neg]
    intro b
    exact h ((k.beq_iff _ _).2 (a.trans ((k.beq_iff _ _).1 b).symm))
   ·rfl
end
section
variable {A:Amb}{P:Program}{s:St}{x y z:Operand}{d:Nat}{T T' ty:TypeId}{pos:String}{af:Array Edge}{g:Option (Nat×Bool)}
def MpL.len {gh:Gh}{w:World}{kb vb:Bool}{k v:Ty}{es:List MapEntry}{m:List (k.Den×v.Den)}(h:MpL gh w kb k vb v es m):es.length=m.length:=by
 induction es generalizing m with
 | nil=>rw[show m=[] from h];rfl
 | cons e es b=>obtain ⟨_,_,c,rfl,_,_,a⟩:=h;simp[b a]
theorem MpL.at {gh:Gh}{w:World}{kb vb:Bool}{k v:Ty}{es:List MapEntry}{m:List (k.Den×v.Den)}(h:MpL gh w kb k vb v es m){j:Nat}{e:MapEntry}(c:es[j]? =some e):
 ∃p,m[j]? =some p∧MV gh w kb k e.key p.1∧MV gh w vb v e.val p.2:=by
 induction es generalizing m j with
 | nil=>simp at c
 | cons l es i=>
  obtain ⟨a,b,r,rfl,n,o,f⟩:=h
  cases j with
  | zero=>
   simp_all
  | succ j=>exact i f (by simpa using c)
def MpL.set {gh:Gh}{w:World}{kb vb:Bool}{k v:Ty}{es:List MapEntry}{m:List (k.Den×v.Den)}(h:MpL gh w kb k vb v es m){j:Nat}{e:MapEntry}{p:k.Den×v.Den}(f:MV gh w kb k e.key p.1)(i:MV gh w vb v e.val p.2):
 MpL gh w kb k vb v (es.set j e) (m.set j p):=by
 induction es generalizing m j with
 | nil=>rw[show m=[] from h];exact rfl
 | cons u es l=>
  obtain ⟨a,b,r,rfl,n,o,c⟩:=h
  cases j with
  | zero=>exact ⟨p.1,p.2,r,rfl,f,i,c⟩
  | succ j=>exact ⟨a,b,_,rfl,n,o,l c⟩
def MpL.push {gh:Gh}{w:World}{kb vb:Bool}{k v:Ty}{es:List MapEntry}{m:List (k.Den×v.Den)}(h:MpL gh w kb k vb v es m){e:MapEntry}{p:k.Den×v.Den}(c:MV gh w kb k e.key p.1)(f:MV gh w vb v e.val p.2):
 MpL gh w kb k vb v (es++[e]) (m++[p]):=by
 induction es generalizing m with
 | nil=>rw[show m=[] from h];exact ⟨p.1,p.2,[],rfl,c,f,rfl⟩
 | cons o es i=>obtain ⟨a,b,r,rfl,j,l,n⟩:=h;exact ⟨a,b,_,rfl,j,l,i n⟩
def KeyL.find {kt:TypeId}{kb vb:Bool}{k v:Ty}(b:KeyL P kt kb k){gh:Gh}{w:World}{es:List MapEntry}{m:List (k.Den×v.Den)}(h:MpL gh w kb k vb v es m){key:Value}{q:k.Den}(o:KV kb k key q):
 ((Instr.findKey kt key es).run P w= .ok none w∧∀p∈m,p.1≠q)∨∃(j:Nat) (e:MapEntry) (p:k.Den×v.Den),(Instr.findKey kt key es).run P w= .ok (some (j,e.val)) w∧es[j]? =some e∧m[j]? =some p∧p.1=q∧e.key=key∧MV gh w vb v e.val p.2:=by
 obtain ⟨l,D⟩:=b.rd _ _ o
 rcases b.K.find w D es fun e C=>by
  obtain ⟨j,i⟩:=aG.1 C
  obtain ⟨p,f,a,_⟩:=h.at i
  exact b.rd _ _ a.kv with ⟨f,a⟩|⟨j,e,f,a,u⟩
 ·refine .inl ⟨f,fun p E B=> ?_⟩
  obtain ⟨j,i⟩:=aG.1 E
  have c:j<es.length:=by rw[h.len];exact (ae.1 i).1
  obtain ⟨G,n,r,_⟩:=h.at (ak c)
  rw[i] at n
  cases n
  exact a _ (cZ c) ((QiC r.kv o b.flat).2 B)
 ·obtain ⟨p,n,r,F⟩:=h.at a
  exact .inr ⟨j,e,p,f,a,n,(QiC r.kv o b.flat).1 u,u,F⟩
def CmR.mv {al:Nat→Prop}{gh:Gh}{w:World}{b:Bool}{t:Ty}{v:Value}{q:t.Den}(h:CmR al gh w (b,leaves t q) v):MV gh w b t v q:=by
 cases b with
 | true=>obtain ⟨e,rfl,a⟩:=h;exact ⟨e,rfl,LVs.rd a⟩
 | false=>
  obtain ⟨l,c,a⟩:=h
  exact LVs.rd (al:=al) (gh:=gh) (w:=w) (show LVs al gh w (leaves t q) [v] by rw[c];exact ⟨v,[],rfl,a,rfl⟩)
def MV.cm {al:Nat→Prop}{gh:Gh}{w:World}{b:Bool}{t:Ty}{v:Value}{q:t.Den}(h:MV gh w b t v q):CmR al gh w (b,leaves t q) v:=by
 cases b with
 | true=>obtain ⟨i,rfl,e⟩:=h;exact ⟨i,rfl,e.leaves⟩
 | false=>
  have a:LVs al gh w (leaves t q) [v]:=Rd.leaves h
  revert a
  generalize leaves t q=L
  intro a
  match L,a with
  | [],a=>cases a
  | [l],a=>
   obtain ⟨_,_,c,e,_⟩:=a
   cases c
   exact ⟨l,rfl,e⟩
  | l::l'::ls,a=>
   obtain ⟨_,_,c,_,f⟩:=a
   cases c
   obtain ⟨_,_,c,_⟩:=f
   cases c
def Born.nil:Born [] 0:=⟨by simp,by simp⟩
theorem Born.push {es:List MapEntry}{a:Nat}(h:Born es a)(k v:Value):Born (es++[⟨k,v,a⟩]) (a+1):=by
 obtain ⟨b,c⟩:=h
 refine ⟨fun x e=> ?_,?_⟩
 ·grind
 ·grind
theorem Born.set {es:List MapEntry}{a j:Nat}{e e':MapEntry}(h:Born es a)(w:es[j]? =some e)(hb:e'.born=e.born):Born (es.set j e') a:=by
 have b:(es.set j e').map (·.born)=es.map (·.born):=by
  rw[List.map_set]
  apply bL
  intro i
  rw[bp,bl]
  by_cases c:j=i
  ·grind
  ·simp[c]
 obtain ⟨l,n⟩:=h
 refine ⟨fun x r=> ?_,by rw[b];exact n⟩
 have o:x.born∈es.map (·.born):=by rw[← b];exact aW.2 ⟨x,r,rfl⟩
 obtain ⟨y,u,f⟩:=aW.1 o
 rw[← f];exact l y u
def QiB (t:Nat){kt et:TypeId}{kb vb:Bool}{k v:Ty}(h:Nat.blt d A.n=true)(b:Fresh s t)(c:A.k0≤t):Does A P ⟨some d,.makeMap T none,ty,pos,af,g⟩ s (s.new d t (.ref t) (.mp kb k vb v [])):=
 fun a w K Q r f=>by
  obtain ⟨i,r⟩:=r
  have e:(execOp a.eval ⟨some d,.makeMap T none,ty,pos,af,g⟩).run P w= .ok (.value (.map (some w.heap.size))) (w.alloc (.map #[] 0)):=by
   simp only[execOp,dR,aw,run_makeMap,aF]
   simp
  unfold Oper.wp
  rw[e,Oper.upon_value]
  refine f _ _ ⟨_,(r.grow t b c (.map #[] 0) (.map (some w.heap.size)) [w.heap.size] (.mp kb k vb v []) (by simp) (by simp) (by simp[Ent.tags]) ?_).put (aD h) (pv:=lf (.ref t)) ⟨_,rfl,fun _=>by simp⟩⟩
  exact ⟨w.heap.size,#[],0,by simp,by simp,heap_alloc_new w _,Born.nil,co,rfl⟩
def Qk1 {kt et:TypeId}{kb vb:Bool}{k v:Ty}(c:Bool)(a:KeyL P kt kb k)(D:P.underlying T=some (.map kt et)){r:Value}(G:zer P et=some r){gh:Gh}{w:World}(o:MV gh w vb v r v.zero)
 {b clock:Nat} {es:Array MapEntry} {m:List (k.Den×v.Den)} (hb:w.heap[b]? =some (.map es clock)) (hd:m.Pairwise (fun p q=>p.1≠q.1)) (h:MpL gh w kb k vb v es.toList m) {key:Value} {q:k.Den} (hk:KV kb k key q):
 ∃u,(Instr.lookup T (.map (some b)) key c).run P w= .ok (if c then .tuple #[u,.bool (YN k m q).isSome] else u) w∧MV gh w vb v u ((YN k m q).getD v.zero):=by
 obtain ⟨l,E⟩:=a.rd _ _ hk
 have n:=Wc (w:=w) G
 rcases a.find h hk with ⟨f,i⟩|⟨j,e,p,f,i,B,C,H,F⟩
 ·refine ⟨r,?_,by rw[Qam i];exact o⟩
  rw[Qam i]
  simp[Instr.lookup,run_underlying D,MapKept.run_getObj_map hb,a.K.check w _ E,f,n,Result.andThen]
 ·refine ⟨e.val,?_,by rw[Jt hd B C];exact F⟩
  rw[Jt hd B C]
  simp[Instr.lookup,run_underlying D,MapKept.run_getObj_map hb,a.K.check w _ E,f,Result.andThen]
def ZeroV (P:Program)(et:TypeId)(vb:Bool)(v:Ty):Prop:=∃zv,zer P et=some zv∧(if vb then zv= .agg v.zeros.toArray else v.zeros=[zv])
def ZeroV.mv {et:TypeId}{vb:Bool}{v:Ty}(h:ZeroV P et vb v)(gh:Gh)(w:World):∃a,zer P et=some a∧MV gh w vb v a v.zero:=by
 obtain ⟨a,c,b⟩:=h
 refine ⟨a,c,?_⟩
 cases vb with
 | true=>exact ⟨v.zeros,b,(Z8 v w).rd (by simp)⟩
 | false=>
  have b:v.zeros=[a]:=b
  show Rd gh.N v w [a] v.zero
  rw[← b]
  exact (Z8 v w).rd (by simp)
def Qy6 {kt et:TypeId}{kb vb:Bool}{k v:Ty}{q:Nat}{m:List (k.Den×v.Den)}{p:k.Den}{ls c:List LV}(i:KeyL P kt kb k)(E:P.underlying T=some (.map kt et))(G:ZeroV P et vb v)
 (hx:Evl A s x (.ref q)) (he:s.tab.ent q=some (.mp kb k vb v m)) (hy:Ev A s y (kb,c)) (hkl:c=leaves k p) (hl:leaves v ((YN k m p).getD v.zero)=ls) (hn:Nat.blt d A.n=true):
 Does A P ⟨some d,.lookup T x y false,ty,pos,af,g⟩ s (s.put d (.cm vb ls)):=
 Qk rfl hn fun e a w r=>by
  subst hkl hl
  have F:a.eval x=e.h q:=hx e a w r ⟨_,he⟩
  obtain ⟨b,I,f,j,J,l,K,o,B⟩:=r.cx.en q _ he
  obtain ⟨L,H,z2⟩:=G.mv e w
  obtain ⟨u,C,D⟩:=Qk1 false i E H z2 l o B (hy e a w r).mv.kv
  refine ⟨u,?_,D.cm⟩
  simp only[execOp,F,j,aw,C]
  simp
def Qhh {kt et:TypeId}{kb vb:Bool}{k v:Ty}{q:Nat}{m:List (k.Den×v.Den)}{p:k.Den}{ls c:List LV}(i:KeyL P kt kb k)(E:P.underlying T=some (.map kt et))(G:ZeroV P et vb v)
 (hx:Evl A s x (.ref q)) (he:s.tab.ent q=some (.mp kb k vb v m)) (hy:Ev A s y (kb,c)) (hkl:c=leaves k p) (hl:leaves v ((YN k m p).getD v.zero)=ls) (hn:Nat.blt d A.n=true):
 Does A P ⟨some d,.lookup T x y true,ty,pos,af,g⟩ s (s.put d (.tup [(vb,ls),(false,[dB (YN k m p).isSome])])):=
 Qk rfl hn fun e a w r=>by
  subst hkl hl
  have F:a.eval x=e.h q:=hx e a w r ⟨_,he⟩
  obtain ⟨b,I,f,j,J,l,K,o,B⟩:=r.cx.en q _ he
  obtain ⟨L,H,z2⟩:=G.mv e w
  obtain ⟨u,C,D⟩:=Qk1 true i E H z2 l o B (hy e a w r).mv.kv
  refine ⟨.tuple #[u,.bool (YN k m p).isSome],?_,[u,.bool (YN k m p).isSome],rfl,u,[.bool (YN k m p).isSome],rfl,D.cm,_,[],rfl,⟨_,rfl,ZY⟩,rfl⟩
  simp only[execOp,F,j,aw,C]
  simp
def Qiw {kt et:TypeId}{kb vb:Bool}{k v:Ty}(i:KeyL P kt kb k)(B:P.underlying T=some (.map kt et)){gh:Gh}{w:World}
 {b clock:Nat} {es:Array MapEntry} {m:List (k.Den×v.Den)} (hb:w.heap[b]? =some (.map es clock)) (hB:Born es.toList clock) (hd:m.Pairwise (fun p q=>p.1≠q.1)) (h:MpL gh w kb k vb v es.toList m) {c val:Value} {q:k.Den} {u:v.Den} (hk:MV gh w kb k c q) (hv:MV gh w vb v val u):
 ∃f a,(Instr.mapUpdate T (.map (some b)) c val).run P w= .ok () {w with heap:=w.heap.setIfInBounds b (.map f a)}∧MpL gh w kb k vb v f.toList (Wb k m q u)∧Born f.toList a:=by
 obtain ⟨l,r⟩:=i.rd _ _ hk.kv
 rcases i.find h hk.kv with ⟨o,n⟩|⟨j,e,p,o,n,D,E,F,H⟩
 ·refine ⟨es.push ⟨c,val,clock⟩,clock+1,?_,?_⟩
  ·simp[Instr.mapUpdate,run_underlying B,MapKept.run_getObj_map hb,i.K.check w _ r,o,MapKept.run_setObj_map _ hb,Result.andThen]
  ·rw[QrK n,Array.toList_push]
   exact ⟨h.push hk hv,hB.push _ _⟩
 ·have G:es[j]? =some e:=by simpa using n
  refine ⟨es.modify j (fun C=>{C with key:=c,val:=val}),clock,?_,?_⟩
  ·simp[Instr.mapUpdate,run_underlying B,MapKept.run_getObj_map hb,i.K.check w _ r,o,G,F,i.K.stays w r,MapKept.run_setObj_map _ hb,Result.andThen]
  ·rw[Qx2 hd D E,Array.toList_modify,ChangeMaps.modify_eq_set _ _ _ _ n]
   exact ⟨h.set hk hv,hB.set n rfl⟩
theorem Rg.mapset {gh:Gh}{a:Act}{w:World}(r:Rg A s gh a w){kb vb:Bool}{k v:Ty}{q:Nat}{m n:List (k.Den×v.Den)}(u:s.tab.ent q=some (.mp kb k vb v m)){b i c:Nat}{es e:Array MapEntry}(B:gh.h q= .map (some b))(C:gh.f q=[b])
 (h3:w.heap[b]? =some (.map es i)) (hB:Born e.toList c) (h4:n.Pairwise (fun p q=>p.1≠q.1)) (h5:MpL gh w kb k vb v e.toList n):Rg A ⟨s.tm,(q,some (.mp kb k vb v n))::s.tab⟩ gh a {w with heap:=w.heap.setIfInBounds b (.map e c)}:=by
 have l:b<w.heap.size:=(cp.1 h3).1
 have o:∀g,g<w.heap.size→g∉gh.f q→({w with heap:=w.heap.setIfInBounds b (.map e c)}:World).heap[g]? =w.heap[g]? :=fun g _ j=>by
  grind
 refine r.mod u ⟨rfl,rfl,rfl,by simp⟩ o ⟨b,e,c,B,C,by simp[l],hB,h4,h5.mono fun g j=>⟨j,o g (r.cx.nl g j) fun D=>r.cx.no q ⟨_,u⟩ g D j⟩⟩
def Qff {kt et:TypeId}{kb vb:Bool}{k v:Ty}{q:Nat}{m:List (k.Den×v.Den)}{p:k.Den}{u:v.Den}{i j:List LV}(F:KeyL P kt kb k)(N:P.underlying T=some (.map kt et))
 (hx:Evl A s x (.ref q)) (he:s.tab.ent q=some (.mp kb k vb v m)) (hy:Ev A s y (kb,i)) (hkl:i=leaves k p) (hz:Ev A s z (vb,j)) (hvl:j=leaves v u):
 Does A P ⟨none,.mapUpdate T x y z,ty,pos,af,g⟩ s ⟨s.tm,(q,some (.mp kb k vb v (Wb k m p u)))::s.tab⟩:=fun a w K Q r M=>by
 subst hkl hvl
 obtain ⟨f,r⟩:=r
 have O:a.eval x=f.h q:=hx f a w r ⟨_,he⟩
 obtain ⟨b,R,l,B,G,C,L,D,H⟩:=r.cx.en q _ he
 obtain ⟨n,c,I,J,o⟩:=Qiw F N C L D H (hy f a w r).mv (hz f a w r).mv
 have e:(execOp a.eval ⟨none,.mapUpdate T x y z,ty,pos,af,g⟩).run P w= .ok .skip {w with heap:=w.heap.setIfInBounds b (.map n c)}:=by
  simp only[execOp,O,B,aw,I]
  simp
 unfold Oper.wp
 rw[e,Oper.upon_skip]
 exact M _ _ ⟨f,(r.mapset he B G C o (Qcr D) J).puto⟩
def Qke {kt et:TypeId}{kb vb:Bool}{k v:Ty}{q:Nat}{m:List (k.Den×v.Den)}{p:k.Den}{u:v.Den}{i j:List LV}(F:KeyL P kt kb k)(N:P.underlying T=some (.map kt et))
 (hx:Evl A s x (.ref q)) (he:s.tab.ent q=some (.mp kb k vb v m)) (hy:Ev A s y (kb,i)) (hkl:i=leaves k p) (hz:Ev A s z (vb,j)) (hvl:j=leaves v u):
 Does A P ⟨none,.insert T x y z,ty,pos,af,g⟩ s ⟨s.tm,(q,some (.mp kb k vb v (Wb k m p u)))::s.tab⟩:=fun a w K Q r M=>by
 subst hkl hvl
 obtain ⟨f,r⟩:=r
 have O:a.eval x=f.h q:=hx f a w r ⟨_,he⟩
 obtain ⟨b,R,l,B,G,C,L,D,H⟩:=r.cx.en q _ he
 obtain ⟨n,c,I,J,o⟩:=Qiw F N C L D H (hy f a w r).mv (hz f a w r).mv
 have e:(execOp a.eval ⟨none,.insert T x y z,ty,pos,af,g⟩).run P w= .ok .skip {w with heap:=w.heap.setIfInBounds b (.map n c)}:=by
  simp only[execOp,O,B,aw,I]
  simp
 unfold Oper.wp
 rw[e,Oper.upon_skip]
 exact M _ _ ⟨f,(r.mapset he B G C o (Qcr D) J).puto⟩
end
section
variable {P:Program}{T:TypeId}{m:Nat}
def EqT (P:Program)(m:Nat)(T:TypeId)(b:Bool)(t:Ty):Prop:=∀(d:Nat) (w:World) (v v':Value) (x x':t.Den),KV b t v x→KV b t v' x'→(Op.equalIn (d+m) T v v').run P w= .ok (t.beq x x') w
def QFh {b:Bool}{t:Ty}(j:Nat)(h:EqT P m T b t):EqT P (m+j) T b t:=fun d w v c x e k a=>by
 have:=h (d+j) w v c x e k a
 rwa [bX,Nat.add_comm j m] at this
def EqT.int (h:P.underlying T=some (.int .i64)):EqT P (m+1) T false .int:=fun d w v c x e ⟨_,a,_⟩ ⟨_,b,_⟩=>by
 simp only[aN,and_true] at a b
 rw[a,b,← bX,run_equalIn_int w (d+m) T _ _ _ _ h]
 rfl
def EqT.u8 (h:P.underlying T=some (.int .u8)):EqT P (m+1) T false .u8:=fun d w v c x e ⟨_,a⟩ ⟨_,b⟩=>by
 have a:[v]=[.int .u8 (x:UInt8).toNat]:=a
 have b:[c]=[.int .u8 (e:UInt8).toNat]:=b
 simp only[aN,and_true] at a b
 rw[a,b,← bX,run_equalIn_int w (d+m) T _ _ _ _ h,Qol]
 rfl
def EqT.bool (h:P.underlying T=some .bool):EqT P (m+1) T false .bool:=fun d w v c x e ⟨_,a⟩ ⟨_,b⟩=>by
 have a:[v]=[.bool x]:=a
 have b:[c]=[.bool e]:=b
 simp only[aN,and_true] at a b
 rw[a,b,← bX,run_equalIn_bool' w (d+m) T _ _ h]
 rfl
def EqT.str (h:P.underlying T=some .string):EqT P (m+1) T false .str:=fun d w v c x e ⟨_,a,_⟩ ⟨_,b,_⟩=>by
 simp only[aN,and_true] at a b
 rw[a,b,← bX,run_equalIn_string w (d+m) T _ _ h,QcF]
 rfl
def KAt (t:Ty)(xs:Array Value)(off:Nat)(x:t.Den):Prop:=∃w,Rep t w ((xs.toList.drop off).take t.wd) x
def EqFs (P:Program)(m:Nat)(fs:List Field)(off:Nat)(t:Ty):Prop:=∀(d:Nat) (w:World) (xs ys:Array Value) (x x':t.Den),KAt t xs off x→KAt t ys off x'→(Op.eqFields (d+m) xs ys fs).run P w= .ok (t.beq x x') w
theorem Qin {b:Bool}{t:Ty}{xs:Array Value}{off:Nat}{x:t.Den}{w:World}(c:tsh P T=some (b,t.wd))(i:b=false→t.wd=1)(h:KAt t xs off x):∃v,(part T xs off).run P w= .ok v w∧KV b t v x:=by
 obtain ⟨f,a⟩:=h
 have e:=a.len
 cases b with
 | true=>
  refine ⟨.agg (xs.extract off (off+t.wd)),?_,?_⟩
  ·simp only[part,aw,Qaq c,aF,if_true,YD c]
   simp
  ·refine ⟨(xs.toList.drop off).take t.wd,f,?_,a⟩
   congr 1
   apply Array.ext'
   simp[List.extract_eq_take_drop]
 | false=>
  have j:=i rfl
  rw[j] at a e
  match hd:(xs.toList.drop off).take 1,e with
  | [v],_=>
   rw[hd] at a
   refine ⟨v,?_,f,a⟩
   have l:xs[off]? =some v:=by
    have n:((xs.toList.drop off).take 1)[0]? =some v:=by rw[hd];rfl
    grind
   simp only[part,aw,Qaq c,aF]
   simp[l]
def Qcb {f:Field}{a:List Field}{b:Bool}{t:Ty}{d:Nat}{w:World}{xs ys:Array Value}{x x':t.Den}(h:f.name≠ "_")(e:tsh P f.type=some (b,t.wd))(c:b=false→t.wd=1)(E:EqT P m f.type b t)
 (hx:KAt t xs f.offset x) (hy:KAt t ys f.offset x'):(Op.eqFields (d+m) xs ys (f::a)).run P w=if t.beq x x' then (Op.eqFields (d+m) xs ys a).run P w else .ok false w:=by
 obtain ⟨v,i,j⟩:=Qin (w:=w) e c hx
 obtain ⟨r,l,n⟩:=Qin (w:=w) e c hy
 have o:=E d w v r x x' j n
 simp only[Op.eqFields,if_pos h,ne_eq,h,not_false_eq_true,if_true,aw,i,l,o,aF]
 cases t.beq x x' <;> simp
def EqFs.one {f:Field}{b:Bool}{t:Ty}{off:Nat}(e:f.name≠ "_")(h:f.offset=off)(c:tsh P f.type=some (b,t.wd))(a:b=false→t.wd=1)(E:EqT P m f.type b t):EqFs P m [f] off t:=fun d w n o x l i j=>by
 subst h
 rw[Qcb e c a E i j]
 cases t.beq x l <;> simp[Op.eqFields]
theorem EqFs.cons {f:Field}{i:List Field}{b:Bool}{t u:Ty}{off:Nat}(J:f.name≠ "_")(K:f.offset=off)(I:tsh P f.type=some (b,t.wd))(H:b=false→t.wd=1)(E:EqT P m f.type b t)(k:EqFs P m i (off+t.wd) u):EqFs P m (f :: i) off (.pr t u):=fun d w N O x c L M=>by
 subst K
 have cut:∀{a:Array Value} {z:t.Den×u.Den},KAt (.pr t u) a f.offset z→KAt t a f.offset z.1∧KAt u a (f.offset+t.wd) z.2:=fun {a z} ⟨j,l,r,D,e,h⟩=>by
  have Q:=e.len
  have R:=h.len
  have F:(a.toList.drop f.offset).take t.wd=l:=by
   have:=congrArg (List.take t.wd) D
   grind
  have G:(a.toList.drop (f.offset+t.wd)).take u.wd=r:=by
   grind [List.drop,List.drop_take,List.drop_drop,Nat.add_sub_cancel_left,List.drop_left]
  exact ⟨⟨j,by rw[F];exact e⟩,⟨j,by rw[G];exact h⟩⟩
 obtain ⟨n,o⟩:=cut L
 obtain ⟨B,C⟩:=cut M
 rw[Qcb J I H E n B,k d w N O x.2 c.2 o C]
 show _=Result.ok (t.beq x.1 c.1&&u.beq x.2 c.2) w
 cases t.beq x.1 c.1 <;> rfl
def EqT.struct {a:Array Field}{t:Ty}(f:P.underlying T=some (.struct a))(n:P.stoodInHeld T=false)(h:EqFs P m a.toList 0 t):EqT P (m+1) T true t:=fun d w v B x r ⟨u,o,j,b⟩ ⟨i,w2,l,c⟩=>by
 have e:P.fieldsOf T=a:=by simp[Program.fieldsOf,f]
 rw[j,l,← bX,run_equalIn_struct w (d+m) T _ _ (by rw[e];exact f) n,e]
 refine h d w _ _ x r ⟨o,?_⟩ ⟨w2,?_⟩
 ·rw[dH,aJ (by rw[List.toList_toArray,b.len];exact aP _)];simpa using b
 ·rw[dH,aJ (by rw[List.toList_toArray,c.len];exact aP _)];simpa using c
section
variable {A:Amb}{s:St}{x y:Operand}{d:Nat}{T' ty:TypeId}{pos:String}{af:Array Edge}{g:Option (Nat×Bool)}{t:Ty}{p q:t.Den}{ls ls':List LV}
def H9 (E:EqT P m T true t)(h:(P.eqGuardType P.depth T=false)∧m≤10000)(D:Ev A s x (true,ls))(F:Ev A s y (true,ls'))(B:ls=leaves t p)(c:ls'=leaves t q)(C:Nat.blt d A.n=true):
 Does A P ⟨some d,.binOp .eql T x y T',ty,pos,af,g⟩ s (s.put d (lf (dB (t.beq p q)))):=
 Qk rfl C fun e a w r=>by
  subst B c
  obtain ⟨i,j,l⟩:=D e a w r
  obtain ⟨b,o,u⟩:=F e a w r
  have f:=E (10000 - m) w _ _ p q ⟨i,w,rfl,(LVs.rd l).rep⟩ ⟨b,w,rfl,(LVs.rd u).rep⟩
  rw[Nat.sub_add_cancel h.2] at f
  refine ⟨.bool (t.beq p q),?_,_,rfl,ZY⟩
  simp only[execOp,j,o]
  simp[aw,run_eqGuard_agg w _ _ _ _ _ _ h.1,run_eql_struct,f]
def WX (E:EqT P m T true t)(h:(P.eqGuardType P.depth T=false)∧m≤10000)(D:Ev A s x (true,ls))(F:Ev A s y (true,ls'))(B:ls=leaves t p)(c:ls'=leaves t q)(C:Nat.blt d A.n=true):
 Does A P ⟨some d,.binOp .neq T x y T',ty,pos,af,g⟩ s (s.put d (lf (dB (!(t.beq p q))))):=
 Qk rfl C fun e a w r=>by
  subst B c
  obtain ⟨i,j,l⟩:=D e a w r
  obtain ⟨b,o,u⟩:=F e a w r
  have f:=E (10000 - m) w _ _ p q ⟨i,w,rfl,(LVs.rd l).rep⟩ ⟨b,w,rfl,(LVs.rd u).rep⟩
  rw[Nat.sub_add_cancel h.2] at f
  refine ⟨.bool (!(t.beq p q)),?_,_,rfl,ZY⟩
  simp only[execOp,j,o]
  simp[aw,run_eqGuard_agg w _ _ _ _ _ _ h.1,run_neq_struct,f]
end
end
end Go.Proofs.YtjfpbcmfbnnooaaGreat
