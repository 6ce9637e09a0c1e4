/- Abstract states: maps of one's own, read and written. No program is named here. -/
import Derived.Test.YtfkmmpfdncopdaaGreatNAk
import Derived.Maps.Keyed
import Derived.StringKeys
import Derived.Carry
import Derived.Laws.StructEq
set_option linter.unusedSimpArgs false
set_option linter.unusedVariables false
set_option linter.unusedSectionVars false
namespace Go.Proofs.YtfkmmpfdncopdaaGreat
open Go.RowKit
theorem Qlz {A:Amb}{P:Program}{s:St}{fn:Func}{r1 r2 r3 r4:ResultVar}{c1 c2 c3 c4:Bool×List LV}(hr:fn.results= #[r1,r2,r3,r4])(h1:Rs A P s r1 c1)(h2:Rs A P s r2 c2)(h3:Rs A P s r3 c3)(h4:Rs A P s r4 c4):Res A P fn s (.tup [c1,c2,c3,c4]):=fun gh a w g=>by
  obtain ⟨v1,a1,b1⟩:=h1 gh a w g
  obtain ⟨v2,a2,b2⟩:=h2 gh a w g
  obtain ⟨v3,a3,b3⟩:=h3 gh a w g
  obtain ⟨v4,a4,b4⟩:=h4 gh a w g
  refine ⟨.tuple #[v1,v2,v3,v4], ?_,[v1,v2,v3,v4],rfl,v1,[v2,v3,v4],rfl,b1,v2,[v3,v4],rfl,b2,v3,[v4],rfl,b3,v4,[],rfl,b4,rfl⟩
  rw[Wy,hr]; simp[XP,a1,a2,a3,a4,di]
theorem Qbc {b w:Bool}(h:(!b)=w):b= !w:=by cases b <;> subst h <;> rfl
theorem Jw {b w:Bool}(h:b=w):(!b)= !w:=by rw[h]
theorem Qf {A:Amb}{P:Program}{s:St}{Q:Exit→St→Prop}{ops:Array Oper}{o:Oper}{l:List Oper}{j d:Nat}{b:Bool}(hg:o.guard=some (j,b))(hd:(ops[j]?).bind (·.dst)=some d)(hb:lk s.tm d=some (lf (.val undef)))
    (k:AL A P ops l Q (match o.dst with | some d'=>s.put d' (lf (.val undef)) | none=>s)) (hn:(match o.dst with | some d'=>Nat.blt d' A.n | none=>true)=true):AL A P ops (o :: l) Q s:=fun a w r=>by
  obtain ⟨gh,r'⟩:=r
  have hy:yielded ops a.tmps j=none:=by
    obtain ⟨v,h1,l,h2,h3⟩:=r'.tm d _ hb
    simp only[aI,and_true] at h2
    subst h2
    have h3:v=undef:=h3
    subst h3
    simp[yielded,hd,h1,undef]
  refine wpList_step fun K hK=> ?_
  rw[if_neg (by simp[Region.wanted,hg,hy])]
  refine hK _ _ (k _ _ ?_)
  cases hdst:o.dst with
  | none=>exact ⟨gh,r'⟩
  | some d'=>
    rw[hdst] at hn
    exact ⟨gh,r'.put (aG hn) (pv:=lf (.val undef)) ⟨_,rfl,rfl⟩⟩
theorem QoS {A:Amb}{P:Program}{s:St}{ops:Array Oper}{o:Oper}{j d d':Nat}{b:Bool}(hg:o.guard=some (j,b))(hd:(ops[j]?).bind (·.dst)=some d)(hb:lk s.tm d=some (lf (.val undef)))(ho:o.dst=some d')(hn:Nat.blt d' A.n=true):Acts A P ops o s (s.put d' (lf (.val undef))):=fun a w K Q r hK=>by
  obtain ⟨gh,r'⟩:=r
  have hy:yielded ops a.tmps j=none:=by
    obtain ⟨v,h1,l,h2,h3⟩:=r'.tm d _ hb
    simp only[aI,and_true] at h2
    subst h2
    have h3:v=undef:=h3
    subst h3
    simp[yielded,hd,h1,undef]
  rw[if_neg (by simp[Region.wanted,hg,hy]),ho]
  exact hK _ _ ⟨gh,r'.put (aG hn) (pv:=lf (.val undef)) ⟨_,rfl,rfl⟩⟩
theorem Qax {P:Program}{T E:TypeId}{w:World}{B:Option Addr}{n c:Nat}(d:Nat)(h:P.underlying T=some (.slice E)):(Op.equalIn (d+1) T (.slice B n c) (.slice none 0 0)).run P w= .ok B.isNone w:=by
  cases B <;> simp[Op.equalIn,run_underlying h]
theorem QkO {P:Program}{T E:TypeId}{w:World}{B:Option Addr}{n c:Nat}(h:P.underlying T=some (.slice E)):(binOp .eql T (.slice B n c) (.slice none 0 0)).run P w= .ok (.bool B.isNone) w:=by
  have h1:=Qax (w:=w) (B:=B) (n:=n) (c:=c) 9999 h
  simp only[binOp]
  simp[Op.equal,Op.maxDepth,h1]
theorem QmC {A:Amb}{P:Program}{s:St}{x y:Operand}{d:Nat}{T T' ty:TypeId}{pos:String}{af:Array Edge}{ops:Array Oper}{l:List Oper}{Q:Exit→St→Prop}{E E':TypeId}{e:Ty}{xs:List e.Den}(hx:Evl A s x (.dat (.sl E e) xs))(hy:Evl A s y (.val (.slice none 0 0)))
    (hT:P.underlying T=some (.slice E')) (hn:Nat.blt d A.n=true) (k:∀b:Bool,(b=true→xs=[])→AL A P ops l Q (s.put d (lf (dB b)))):AL A P ops (⟨some d, .binOp .eql T x y T',ty,pos,af,none⟩ :: l) Q s:=
  fun a w r=>wpList_plain rfl fun _ hK=>by
    obtain ⟨gh,r'⟩:=r
    obtain ⟨B,c,hv,h1,h2,h3⟩:=Rd.rep (hx gh a w r')
    simp only[aI,and_true] at hv
    have hy':a.eval y= .slice none 0 0:=hy gh a w r'
    have e:(execOp a.eval ⟨some d, .binOp .eql T x y T',ty,pos,af,none⟩).run P w= .ok (.value (.bool B.isNone)) w:=by
      simp only[execOp,hv,hy',eqGuard_at_slice]
      simp[aw,QkO hT]
    unfold Oper.wp
    rw[e,Oper.upon_value]
    refine hK _ _ (k B.isNone (fun h=> ?_) _ _ ⟨gh,r'.put (aG hn) (pv:=lf (dB B.isNone)) ⟨_,rfl,ZC⟩⟩)
    cases xs with
    | nil=>rfl
    | cons z zs=>
      obtain ⟨b,o,h4,_⟩:=h3 (by simp)
      rw[h4] at h
      cases h
theorem Qcy {A:Amb}{P:Program}{s:St}{x y:Operand}{d:Nat}{T ty:TypeId}{pos:String}{af:Array Edge}{g:Option (Nat×Bool)}(t:Nat){E:TypeId}{e:Ty}{n:Int}{z:Value}{bytes:Nat}(hx:Evl A s x (dI n))(hy:Evl A s y (dI n))(hT:P.underlying T=some (.slice E))(hi:(P.info? E).map (fun i=>(i.zero,i.size,i.bytes))=some (some z,e.wd,bytes))
    (hz:z.cells.toList=e.zeros) (h0:0≤n) (hb:bytes*n.toNat≤281474976710656) (hm:n.toNat≤1073741824) (hn:Nat.blt d A.n=true) (hfr:Fresh s t) (hk0:A.k0≤t):Does A P ⟨some d, .makeSlice T x y,ty,pos,af,g⟩ s (s.mk_ d t [] E e (List.replicate n.toNat e.zero)):=by
  have e0:n=(n.toNat:Int):=by omega
  rw[e0] at hx hy
  exact U2 t hx hy hT hi hz hb hm hn hfr hk0
def Qhq {α:Type}(f:α→α→Bool):List α→List α→Bool
  | [],[]=>true
  | x :: xs,y :: ys=>f x y&&Qhq f xs ys
  | _,_=>false
def Ty.beq:(t:Ty)→t.Den→t.Den→Bool
  | .int,x,y=>decide ((x:Int)=y)
  | .bool,x,y=>(x:Bool)==y
  | .str,x,y=>decide ((x:ByteArray)=y)
  | .u8,x,y=>decide ((x:UInt8)=y)
  | .vl,x,y=>decide ((x:Hdr)=y)
  | .sl _ e,x,y=>Qhq e.beq x y
  | .pr a b,x,y=>a.beq x.1 y.1&&b.beq x.2 y.2
theorem Qfs {α:Type}{f:α→α→Bool}(h:∀x y,f x y=true↔x=y):∀xs ys:List α,Qhq f xs ys=true↔xs=ys
  | [],[]=>by simp[Qhq]
  | [],_ :: _=>by simp[Qhq]
  | _ :: _,[]=>by simp[Qhq]
  | x :: xs,y :: ys=>by simp[Qhq,h,Qfs h xs ys]
theorem Ty.beq_iff:∀(t:Ty) (x y:t.Den),t.beq x y=true↔x=y
  | .int,x,y=>by simp[Ty.beq]
  | .bool,x,y=>by simp[Ty.beq]
  | .str,x,y=>by simp[Ty.beq]
  | .u8,x,y=>by simp[Ty.beq]
  | .vl,x,y=>by simp[Ty.beq]
  | .sl _ e,x,y=>Qfs (Ty.beq_iff e) x y
  | .pr a b,x,y=>by
    obtain ⟨x1,x2⟩:=x
    obtain ⟨y1,y2⟩:=y
    simp[Ty.beq,Ty.beq_iff a,Ty.beq_iff b]
def Ty.fcs:(t:Ty)→t.Den→List Value
  | .int,x=>[.int .i64 x]
  | .bool,x=>[.bool x]
  | .str,x=>[.string x]
  | .u8,x=>[.int .u8 (x:UInt8).toNat]
  | .vl,x=>[hdV x]
  | .sl _ _,_=>[]
  | .pr a b,x=>a.fcs x.1++b.fcs x.2
theorem Rep.fcs:∀{t:Ty} {w:World} {cs:List Value} {x:t.Den},Rep t w cs x→t.flat=true→cs=t.fcs x
  | .int,_,_,_,h,_=>h.1
  | .bool,_,_,_,h,_=>h
  | .str,_,_,_,h,_=>h.1
  | .u8,_,_,_,h,_=>h
  | .vl,_,_,_,h,_=>h
  | .sl _ _,_,_,_,_,hf=>by cases hf
  | .pr a b,w,_,_,⟨l,r,h1,h2,h3⟩,hf=>by
    have hf:(a.flat&&b.flat)=true:=hf
    rw[aL] at hf
    rw[h1,h2.fcs hf.1,h3.fcs hf.2]; rfl
theorem Rep.fcs_inj:∀{t:Ty} {w w':World} {cs:List Value} {x y:t.Den},Rep t w cs x→Rep t w' cs y→t.flat=true→x=y
  | .int,_,_,_,x,y,h,k,_=>by have h1:=h.1; have h2:=k.1; rw[h1] at h2; simpa using h2
  | .bool,_,_,_,x,y,h,k,_=>by have h1:_=_:=h; have h2:_=_:=k; rw[h1] at h2; simpa using h2
  | .str,_,_,_,x,y,h,k,_=>by have h1:=h.1; have h2:=k.1; rw[h1] at h2; simpa using h2
  | .u8,_,_,_,x,y,h,k,_=>by
    have h1:_=_:=h; have h2:_=_:=k; rw[h1] at h2
    simp only[aI,Value.int.injEq,and_true,true_and] at h2
    exact UInt8.toNat_inj.1 (by omega)
  | .vl,_,_,_,x,y,h,k,_=>by
    have h1:_=_:=h; have h2:_=_:=k; rw[h1] at h2
    exact Qjg (by simpa using h2)
  | .sl _ _,_,_,_,_,_,_,_,hf=>by cases hf
  | .pr a b,w,w',_,x,y,⟨l,r,h1,h2,h3⟩,⟨l',r',k1,k2,k3⟩,hf=>by
    have hf:(a.flat&&b.flat)=true:=hf
    rw[aL] at hf
    rw[h1] at k1
    have hl:l.length=l'.length:=by rw[h2.len,k2.len]
    obtain ⟨rfl,rfl⟩:=List.append_inj k1 hl
    exact Prod.ext (h2.fcs_inj k2 hf.1) (h3.fcs_inj k3 hf.2)
def KV:Bool→(t:Ty)→Value→t.Den→Prop
  | true,t,v,x=>∃cs w,v= .agg cs.toArray∧Rep t w cs x
  | false,t,v,x=>∃w,Rep t w [v] x
theorem MV.kv {gh:Gh}{w:World}{b:Bool}{t:Ty}{v:Value}{x:t.Den}(h:MV gh w b t v x):KV b t v x:=by
  cases b with
  | true=>obtain ⟨cs,h1,h2⟩:=h; exact ⟨cs,w,h1,h2.rep⟩
  | false=>exact ⟨w,Rd.rep h⟩
theorem QeN {b:Bool}{t:Ty}{v v':Value}{x y:t.Den}(h:KV b t v x)(k:KV b t v' y)(hf:t.flat=true):v=v'↔x=y:=by
  cases b with
  | true=>
    obtain ⟨cs,w,rfl,h2⟩:=h
    obtain ⟨cs',w',rfl,k2⟩:=k
    constructor
    · intro e
      have e:cs=cs':=by simpa using e
      subst e
      exact h2.fcs_inj k2 hf
    · rintro rfl
      rw[h2.fcs hf,k2.fcs hf]
  | false=>
    obtain ⟨w,h2⟩:=h
    obtain ⟨w',k2⟩:=k
    constructor
    · rintro rfl
      exact h2.fcs_inj k2 hf
    · rintro rfl
      have:=(h2.fcs hf).trans (k2.fcs hf).symm
      simpa using this
structure KeyL (P:Program) (kt:TypeId) (kb:Bool) (k:Ty):Prop where
  K:Maps.Keyed P kt
  flat:k.flat=true
  rd:∀v x,KV kb k v x→∃l,keyOf P kt v=some l
theorem KeyL.str {P:Program}{kt:TypeId}(h:P.underlying kt=some .string):KeyL P kt false .str:=
  ⟨Maps.string_keyed h,rfl,fun v x ⟨w,h1,h2⟩=>by
    simp only[aI,and_true] at h1
    subst h1
    exact ⟨_,WideMaps.keyOf_string_mk h h2⟩⟩
theorem KeyL.int {P:Program}{kt:TypeId}(h:P.underlying kt=some (.int .i64)):KeyL P kt false .int:=
  ⟨Maps.int_keyed h,rfl,fun v x ⟨w,h1,h2⟩=>by
    simp only[aI,and_true] at h1
    subst h1
    exact ⟨_,Maps.keyOf_int_mk h (by simp[Lit.wf]; exact h2)⟩⟩
def X3 (k:Ty){V:Type}:List (k.Den×V)→k.Den→Option V
  | [],_=>none
  | p :: m,x=>if k.beq p.1 x then some p.2 else X3 k m x
def Ui (k:Ty){V:Type}:List (k.Den×V)→k.Den→V→List (k.Den×V)
  | [],x,v=>[(x,v)]
  | p :: m,x,v=>if k.beq p.1 x then (x,v) :: m else p :: Ui k m x v
section
variable {k:Ty}{V:Type}{m:List (k.Den×V)}{x:k.Den}{v:V}
theorem U5 (h:∀p∈m,p.1≠x):X3 k m x=none:=by
  induction m with
  | nil=>rfl
  | cons p m ih=>
    have h1:k.beq p.1 x=false:=cr.2 fun e=>h p (az ..) ((k.beq_iff _ _).1 e)
    simp only[X3,h1]
    exact ih fun q hq=>h q (ax _ hq)
theorem V9 (hd:m.Pairwise (fun p q=>p.1≠q.1)){j:Nat}{p:k.Den×V}(hj:m[j]? =some p)(he:p.1=x):X3 k m x=some p.2:=by
  induction m generalizing j with
  | nil=>simp at hj
  | cons p0 m ih=>
    obtain ⟨h1,h2⟩:=bi.1 hd
    cases j with
    | zero=>
      simp only[bO,bk] at hj
      subst hj
      simp[X3,(k.beq_iff _ _).2 he]
    | succ j=>
      simp only[List.getElem?_cons_succ] at hj
      have h3:k.beq p0.1 x=false:=cr.2 fun e=>h1 p (ap hj) (((k.beq_iff _ _).1 e).trans he.symm)
      simp only[X3,h3]
      exact ih h2 hj
theorem Qgl {q:k.Den×V}(h:q∈Ui k m x v):q=(x,v)∨q∈m:=by
  induction m with
  | nil=>simpa [Ui] using h
  | cons p m ih=>
    unfold Ui at h
    split at h
    · rcases aE.1 h with h | h
      · exact .inl h
      · exact .inr (ax _ h)
    · rcases aE.1 h with h | h
      · exact .inr (by rw[h]; exact az ..)
      · rcases ih h with h | h
        · exact .inl h
        · exact .inr (ax _ h)
theorem QeH (hd:m.Pairwise (fun p q=>p.1≠q.1)):(Ui k m x v).Pairwise (fun p q=>p.1≠q.1):=by
  induction m with
  | nil=>simp[Ui]
  | cons p m ih=>
    obtain ⟨h1,h2⟩:=bi.1 hd
    unfold Ui
    split
    · rename_i h
      have h:=(k.beq_iff _ _).1 h
      exact bi.2 ⟨fun q hq=>by rw[← h]; exact h1 q hq,h2⟩
    · rename_i h
      refine bi.2 ⟨fun q hq=> ?_,ih h2⟩
      rcases Qgl hq with rfl | hq
      · exact fun e=>h ((k.beq_iff _ _).2 e)
      · exact h1 q hq
theorem Vi (y:k.Den):X3 k (Ui k m x v) y=if k.beq x y then some v else X3 k m y:=by
  induction m with
  | nil=>simp[Ui,X3]
  | cons p m ih=>
    unfold Ui
    split
    · rename_i h
      have h:=(k.beq_iff _ _).1 h
      simp only[X3]
      rw[h]
      split <;> rfl
    · rename_i h
      simp only[X3]
      rw[ih]
      split
      · rename_i h2
        have h2:=(k.beq_iff _ _).1 h2
        rw[if_neg]
        intro h3
        exact h ((k.beq_iff _ _).2 (h2.trans ((k.beq_iff _ _).1 h3).symm))
      · rfl
end
section
variable {A:Amb}{P:Program}{s:St}{x y z:Operand}{d:Nat}{T T' ty:TypeId}{pos:String}{af:Array Edge}{g:Option (Nat×Bool)}
theorem MpL.len {gh:Gh}{w:World}{kb vb:Bool}{k v:Ty}{es:List MapEntry}{m:List (k.Den×v.Den)}(h:MpL gh w kb k vb v es m):es.length=m.length:=by
  induction es generalizing m with
  | nil=>rw[show m=[] from h]; rfl
  | cons e es ih=>obtain ⟨_,_,m',rfl,_,_,h3⟩:=h; simp[ih h3]
theorem MpL.at {gh:Gh}{w:World}{kb vb:Bool}{k v:Ty}{es:List MapEntry}{m:List (k.Den×v.Den)}(h:MpL gh w kb k vb v es m){j:Nat}{e:MapEntry}(hj:es[j]? =some e):
    ∃p,m[j]? =some p∧MV gh w kb k e.key p.1∧MV gh w vb v e.val p.2:=by
  induction es generalizing m j with
  | nil=>simp at hj
  | cons e0 es ih=>
    obtain ⟨a,b,m',rfl,h1,h2,h3⟩:=h
    cases j with
    | zero=>
      simp only[bO,bk] at hj
      subst hj
      exact ⟨(a,b),rfl,h1,h2⟩
    | succ j=>exact ih h3 (by simpa using hj)
theorem MpL.set {gh:Gh}{w:World}{kb vb:Bool}{k v:Ty}{es:List MapEntry}{m:List (k.Den×v.Den)}(h:MpL gh w kb k vb v es m){j:Nat}{e:MapEntry}{p:k.Den×v.Den}(h1:MV gh w kb k e.key p.1)(h2:MV gh w vb v e.val p.2):
    MpL gh w kb k vb v (es.set j e) (m.set j p):=by
  induction es generalizing m j with
  | nil=>rw[show m=[] from h]; exact rfl
  | cons e0 es ih=>
    obtain ⟨a,b,m',rfl,k1,k2,k3⟩:=h
    cases j with
    | zero=>exact ⟨p.1,p.2,m',rfl,h1,h2,k3⟩
    | succ j=>exact ⟨a,b,_,rfl,k1,k2,ih k3⟩
theorem MpL.push {gh:Gh}{w:World}{kb vb:Bool}{k v:Ty}{es:List MapEntry}{m:List (k.Den×v.Den)}(h:MpL gh w kb k vb v es m){e:MapEntry}{p:k.Den×v.Den}(h1:MV gh w kb k e.key p.1)(h2:MV gh w vb v e.val p.2):
    MpL gh w kb k vb v (es++[e]) (m++[p]):=by
  induction es generalizing m with
  | nil=>rw[show m=[] from h]; exact ⟨p.1,p.2,[],rfl,h1,h2,rfl⟩
  | cons e0 es ih=>obtain ⟨a,b,m',rfl,k1,k2,k3⟩:=h; exact ⟨a,b,_,rfl,k1,k2,ih k3⟩
theorem KeyL.find {kt:TypeId}{kb vb:Bool}{k v:Ty}(KL:KeyL P kt kb k){gh:Gh}{w:World}{es:List MapEntry}{m:List (k.Den×v.Den)}(h:MpL gh w kb k vb v es m){key:Value}{q:k.Den}(hk:KV kb k key q):
    ((Instr.findKey kt key es).run P w= .ok none w∧∀p∈m,p.1≠q)∨∃(j:Nat) (e:MapEntry) (p:k.Den×v.Den),(Instr.findKey kt key es).run P w= .ok (some (j,e.val)) w∧es[j]? =some e∧m[j]? =some p∧p.1=q∧e.key=key∧MV gh w vb v e.val p.2:=by
  obtain ⟨l,hl⟩:=KL.rd _ _ hk
  rcases KL.K.find w hl es fun e he=>by
      obtain ⟨j,hj⟩:=aM.1 he
      obtain ⟨p,h1,h2,_⟩:=h.at hj
      exact KL.rd _ _ h2.kv with ⟨h1,h2⟩ | ⟨j,e,h1,h2,h3⟩
  · refine .inl ⟨h1, fun p hp e1 => ?_⟩
    obtain ⟨j,hj⟩:=aM.1 hp
    have hlt:j < es.length:=by rw[h.len]; exact (ah.1 hj).1
    obtain ⟨p',k1,k2,_⟩:=h.at (aa hlt)
    rw[hj] at k1
    cases k1
    exact h2 _ (cI hlt) ((QeN k2.kv hk KL.flat).2 e1)
  · obtain ⟨p, k1, k2, k3⟩ := h.at h2
    exact .inr ⟨j,e,p,h1,h2,k1,(QeN k2.kv hk KL.flat).1 h3,h3,k3⟩
theorem CmR.mv {al:Nat→Prop}{gh:Gh}{w:World}{b:Bool}{t:Ty}{v:Value}{q:t.Den}(h:CmR al gh w (b,leaves t q) v):MV gh w b t v q:=by
  cases b with
  | true=>obtain ⟨vs,rfl,h1⟩:=h; exact ⟨vs,rfl,LVs.rd h1⟩
  | false=>
    obtain ⟨l,hl,h1⟩:=h
    exact LVs.rd (al:=al) (gh:=gh) (w:=w) (show LVs al gh w (leaves t q) [v] by rw[hl]; exact ⟨v,[],rfl,h1,rfl⟩)
theorem MV.cm {al:Nat→Prop}{gh:Gh}{w:World}{b:Bool}{t:Ty}{v:Value}{q:t.Den}(h:MV gh w b t v q):CmR al gh w (b,leaves t q) v:=by
  cases b with
  | true=>obtain ⟨vs,rfl,h1⟩:=h; exact ⟨vs,rfl,h1.leaves⟩
  | false=>
    have h2:LVs al gh w (leaves t q) [v]:=Rd.leaves h
    revert h2
    generalize leaves t q=L
    intro h2
    match L,h2 with
    | [],h2=>cases h2
    | [l],h2=>
      obtain ⟨_,_,h0,h1,_⟩:=h2
      cases h0
      exact ⟨l,rfl,h1⟩
    | l :: l' :: ls,h2=>
      obtain ⟨_,_,h0,_,h3⟩:=h2
      cases h0
      obtain ⟨_,_,h0,_⟩:=h3
      cases h0
theorem Born.nil:Born [] 0:=⟨by simp,by simp⟩
theorem Born.push {es:List MapEntry}{clock:Nat}(h:Born es clock)(k v:Value):Born (es++[⟨k,v,clock⟩]) (clock+1):=by
  obtain ⟨h1,h2⟩:=h
  refine ⟨fun x hx=> ?_, ?_⟩
  · rcases aK.1 hx with hx | hx
    · have:=h1 x hx; omega
    · rw[aC] at hx; subst hx; exact Nat.lt_succ_self _
  · rw [ce, b9]
    refine ⟨h2,by simp,fun a ha b hb e=> ?_⟩
    obtain ⟨x,hx,rfl⟩:=ba.1 ha
    simp only[bg,d9,aC] at hb
    have:=h1 x hx; omega
theorem Born.set {es:List MapEntry}{clock j:Nat}{e e':MapEntry}(h:Born es clock)(hj:es[j]? =some e)(hb:e'.born=e.born):Born (es.set j e') clock:=by
  have e1:(es.set j e').map (·.born)=es.map (·.born):=by
    rw[List.map_set]
    apply bA
    intro i
    rw[bz,bq]
    by_cases e2:j=i
    · subst e2
      have hl:=(ah.1 hj).1
      rw[hj]; simp[hl,hb]
    · simp[e2]
  obtain ⟨h1,h2⟩:=h
  refine ⟨fun x hx=> ?_,by rw[e1]; exact h2⟩
  have h3:x.born∈es.map (·.born):=by rw[← e1]; exact ba.2 ⟨x,hx,rfl⟩
  obtain ⟨y,hy,e3⟩:=ba.1 h3
  rw[← e3]; exact h1 y hy
theorem QmM {kt et:TypeId}{kb vb:Bool}{k v:Ty}(c:Bool)(KL:KeyL P kt kb k)(hT:P.underlying T=some (.map kt et)){zv:Value}(hz:zer P et=some zv){gh:Gh}{w:World}(hzv:MV gh w vb v zv v.zero)
    {b clock:Nat} {es:Array MapEntry} {m:List (k.Den×v.Den)} (hb:w.heap[b]? =some (.map es clock)) (hd:m.Pairwise (fun p q=>p.1≠q.1)) (h:MpL gh w kb k vb v es.toList m) {key:Value} {q:k.Den} (hk:KV kb k key q):
    ∃u,(Instr.lookup T (.map (some b)) key c).run P w= .ok (if c then .tuple #[u, .bool (X3 k m q).isSome] else u) w∧MV gh w vb v u ((X3 k m q).getD v.zero):=by
  obtain ⟨l,hl⟩:=KL.rd _ _ hk
  have hz':=XT (w:=w) hz
  rcases KL.find h hk with ⟨h1,h2⟩ | ⟨j,e,p,h1,h2,h3,h4,h5,h6⟩
  · refine ⟨zv, ?_, by rw [U5 h2]; exact hzv⟩
    rw[U5 h2]
    simp[Instr.lookup,run_underlying hT,MapKept.run_getObj_map hb,KL.K.check w _ hl,h1,hz',Result.andThen]
  · refine ⟨e.val, ?_, by rw [V9 hd h3 h4]; exact h6⟩
    rw[V9 hd h3 h4]
    simp[Instr.lookup,run_underlying hT,MapKept.run_getObj_map hb,KL.K.check w _ hl,h1,Result.andThen]
def ZeroV (P:Program)(et:TypeId)(vb:Bool)(v:Ty):Prop:=∃zv,zer P et=some zv∧(if vb then zv= .agg v.zeros.toArray else v.zeros=[zv])
theorem ZeroV.mv {et:TypeId}{vb:Bool}{v:Ty}(h:ZeroV P et vb v)(gh:Gh)(w:World):∃zv,zer P et=some zv∧MV gh w vb v zv v.zero:=by
  obtain ⟨zv,h1,h2⟩:=h
  refine ⟨zv,h1, ?_⟩
  cases vb with
  | true=>exact ⟨v.zeros,h2,(ZB v w).rd (by simp)⟩
  | false=>
    have h2:v.zeros=[zv]:=h2
    show Rd gh.N v w [zv] v.zero
    rw[← h2]
    exact (ZB v w).rd (by simp)
theorem Qpg {kt et:TypeId}{kb vb:Bool}{k v:Ty}{q:Nat}{m:List (k.Den×v.Den)}{p:k.Den}{ls kls:List LV}(KL:KeyL P kt kb k)(hT:P.underlying T=some (.map kt et))(hz:ZeroV P et vb v)
    (hx:Evl A s x (.ref q)) (he:s.tab.ent q=some (.mp kb k vb v m)) (hy:Ev A s y (kb,kls)) (hkl:kls=leaves k p) (hl:leaves v ((X3 k m p).getD v.zero)=ls) (hn:Nat.blt d A.n=true):
    Does A P ⟨some d, .lookup T x y false,ty,pos,af,g⟩ s (s.put d (.cm vb ls)):=
  Qg rfl hn fun gh a w r=>by
    subst hkl hl
    have hv:a.eval x=gh.h q:=hx gh a w r ⟨_,he⟩
    obtain ⟨b,es,clock,h1,h2,h3,hB,h4,h5⟩:=r.cx.en q _ he
    obtain ⟨zv,z1,z2⟩:=hz.mv gh w
    obtain ⟨u,h6,h7⟩:=QmM false KL hT z1 z2 h3 h4 h5 (hy gh a w r).mv.kv
    refine ⟨u, ?_,h7.cm⟩
    simp only[execOp,hv,h1,aw,h6]
    simp
end
section
variable {P:Program}{T:TypeId}{m:Nat}
def EqT (P:Program)(m:Nat)(T:TypeId)(b:Bool)(t:Ty):Prop:=∀(d:Nat) (w:World) (v v':Value) (x x':t.Den),KV b t v x→KV b t v' x'→(Op.equalIn (d+m) T v v').run P w= .ok (t.beq x x') w
theorem Qte {b:Bool}{t:Ty}(j:Nat)(h:EqT P m T b t):EqT P (m+j) T b t:=fun d w v v' x x' k k'=>by
  have:=h (d+j) w v v' x x' k k'
  rwa [bK,Nat.add_comm j m] at this
theorem EqT.int (h:P.underlying T=some (.int .i64)):EqT P (m+1) T false .int:=fun d w v v' x x' ⟨_,h1,_⟩ ⟨_,h2,_⟩=>by
  simp only[aI,and_true] at h1 h2
  rw[h1,h2,← bK,run_equalIn_int w (d+m) T _ _ _ _ h]
  rfl
theorem EqT.u8 (h:P.underlying T=some (.int .u8)):EqT P (m+1) T false .u8:=fun d w v v' x x' ⟨_,h1⟩ ⟨_,h2⟩=>by
  have h1:[v]=[.int .u8 (x:UInt8).toNat]:=h1
  have h2:[v']=[.int .u8 (x':UInt8).toNat]:=h2
  simp only[aI,and_true] at h1 h2
  rw[h1,h2,← bK,run_equalIn_int w (d+m) T _ _ _ _ h,QgE]
  rfl
theorem EqT.bool (h:P.underlying T=some .bool):EqT P (m+1) T false .bool:=fun d w v v' x x' ⟨_,h1⟩ ⟨_,h2⟩=>by
  have h1:[v]=[.bool x]:=h1
  have h2:[v']=[.bool x']:=h2
  simp only[aI,and_true] at h1 h2
  rw[h1,h2,← bK,run_equalIn_bool' w (d+m) T _ _ h]
  rfl
theorem EqT.str (h:P.underlying T=some .string):EqT P (m+1) T false .str:=fun d w v v' x x' ⟨_,h1,_⟩ ⟨_,h2,_⟩=>by
  simp only[aI,and_true] at h1 h2
  rw[h1,h2,← bK,run_equalIn_string w (d+m) T _ _ h,U1]
  rfl
def KAt (t:Ty)(xs:Array Value)(off:Nat)(x:t.Den):Prop:=∃w,Rep t w ((xs.toList.drop off).take t.wd) x
def EqFs (P:Program)(m:Nat)(fs:List Field)(off:Nat)(t:Ty):Prop:=∀(d:Nat) (w:World) (xs ys:Array Value) (x x':t.Den),KAt t xs off x→KAt t ys off x'→(Op.eqFields (d+m) xs ys fs).run P w= .ok (t.beq x x') w
theorem Qdd {b:Bool}{t:Ty}{xs:Array Value}{off:Nat}{x:t.Den}{w:World}(hT:tsh P T=some (b,t.wd))(h1:b=false→t.wd=1)(h:KAt t xs off x):∃v,(part T xs off).run P w= .ok v w∧KV b t v x:=by
  obtain ⟨w0,hR⟩:=h
  have hl:=hR.len
  cases b with
  | true=>
    refine ⟨.agg (xs.extract off (off+t.wd)), ?_, ?_⟩
    · simp only [part, aw, Kf hT, aH, if_true, Yu hT]
      simp
    · refine ⟨(xs.toList.drop off).take t.wd, w0, ?_, hR⟩
      congr 1
      apply Array.ext'
      simp[List.extract_eq_take_drop]
  | false=>
    have hw:=h1 rfl
    rw[hw] at hR hl
    match hd:(xs.toList.drop off).take 1,hl with
    | [v],_=>
      rw[hd] at hR
      refine ⟨v, ?_,w0,hR⟩
      have hx:xs[off]? =some v:=by
        have h2:((xs.toList.drop off).take 1)[0]? =some v:=by rw[hd]; rfl
        rw[be,if_pos (by omega),cC] at h2
        simpa using h2
      simp only[part,aw,Kf hT,aH]
      simp[hx]
theorem Ji {f:Field}{fs:List Field}{b:Bool}{t:Ty}{d:Nat}{w:World}{xs ys:Array Value}{x x':t.Den}(hn:f.name≠ "_")(hT:tsh P f.type=some (b,t.wd))(h1:b=false→t.wd=1)(E:EqT P m f.type b t)
    (hx:KAt t xs f.offset x) (hy:KAt t ys f.offset x'):(Op.eqFields (d+m) xs ys (f :: fs)).run P w=if t.beq x x' then (Op.eqFields (d+m) xs ys fs).run P w else .ok false w:=by
  obtain ⟨v,h2,h3⟩:=Qdd (w:=w) hT h1 hx
  obtain ⟨v',h4,h5⟩:=Qdd (w:=w) hT h1 hy
  have h6:=E d w v v' x x' h3 h5
  simp only[Op.eqFields,if_pos hn,ne_eq,hn,not_false_eq_true,if_true,aw,h2,h4,h6,aH]
  cases t.beq x x' <;> simp
theorem EqFs.one {f:Field}{b:Bool}{t:Ty}{off:Nat}(hn:f.name≠ "_")(ho:f.offset=off)(hT:tsh P f.type=some (b,t.wd))(h1:b=false→t.wd=1)(E:EqT P m f.type b t):EqFs P m [f] off t:=fun d w xs ys x x' hx hy=>by
  subst ho
  rw[Ji hn hT h1 E hx hy]
  cases t.beq x x' <;> simp[Op.eqFields]
theorem EqFs.cons {f:Field}{fs:List Field}{b:Bool}{t u:Ty}{off:Nat}(hn:f.name≠ "_")(ho:f.offset=off)(hT:tsh P f.type=some (b,t.wd))(h1:b=false→t.wd=1)(E:EqT P m f.type b t)(k:EqFs P m fs (off+t.wd) u):EqFs P m (f :: fs) off (.pr t u):=fun d w xs ys x x' hx hy=>by
  subst ho
  have cut:∀{zs:Array Value} {z:t.Den×u.Den},KAt (.pr t u) zs f.offset z→KAt t zs f.offset z.1∧KAt u zs (f.offset+t.wd) z.2:=fun {zs z} ⟨w0,l,r,e1,e2,e3⟩=>by
    have hl:=e2.len
    have hr:=e3.len
    have e4:(zs.toList.drop f.offset).take t.wd=l:=by
      have:=congrArg (List.take t.wd) e1
      have e6:(Ty.pr t u).wd=t.wd+u.wd:=rfl
      rw[e6,List.take_take,cu (Nat.le_add_right _ _)] at this
      rw[this,← hl,d6]
    have e5:(zs.toList.drop (f.offset+t.wd)).take u.wd=r:=by
      have:=congrArg (List.drop t.wd) e1
      have e6:(Ty.pr t u).wd=t.wd+u.wd:=rfl
      rw[e6,List.drop_take,d7,bo] at this
      rw[this,← hl,List.drop_left]
    exact ⟨⟨w0,by rw[e4]; exact e2⟩,⟨w0,by rw[e5]; exact e3⟩⟩
  obtain ⟨a1,a2⟩:=cut hx
  obtain ⟨b1,b2⟩:=cut hy
  rw[Ji hn hT h1 E a1 b1,k d w xs ys x.2 x'.2 a2 b2]
  show _=Result.ok (t.beq x.1 x'.1&&u.beq x.2 x'.2) w
  cases t.beq x.1 x'.1 <;> rfl
theorem EqT.struct {fs:Array Field}{t:Ty}(ht:P.underlying T=some (.struct fs))(hp:P.stoodInHeld T=false)(h:EqFs P m fs.toList 0 t):EqT P (m+1) T true t:=fun d w v v' x x' ⟨cs,w1,h1,h2⟩ ⟨cs',w2,h3,h4⟩=>by
  have e:P.fieldsOf T=fs:=by simp[Program.fieldsOf,ht]
  rw[h1,h3,← bK,run_equalIn_struct w (d+m) T _ _ (by rw[e]; exact ht) hp,e]
  refine h d w _ _ x x' ⟨w1, ?_⟩ ⟨w2, ?_⟩
  · rw[dp,aU (by rw[List.toList_toArray,h2.len]; exact aO _)]; simpa using h2
  · rw[dp,aU (by rw[List.toList_toArray,h4.len]; exact aO _)]; simpa using h4
section
variable {A:Amb}{s:St}{x y:Operand}{d:Nat}{T' ty:TypeId}{pos:String}{af:Array Edge}{g:Option (Nat×Bool)}{t:Ty}{p q:t.Den}{ls ls':List LV}
theorem QkF (E:EqT P m T true t)(hm:(P.eqGuardType P.depth T=false)∧m≤10000)(hx:Ev A s x (true,ls))(hy:Ev A s y (true,ls'))(hl:ls=leaves t p)(hl':ls'=leaves t q)(hn:Nat.blt d A.n=true):
    Does A P ⟨some d, .binOp .eql T x y T',ty,pos,af,g⟩ s (s.put d (lf (dB (t.beq p q)))):=
  Qg rfl hn fun gh a w r=>by
    subst hl hl'
    obtain ⟨cs,h1,h2⟩:=hx gh a w r
    obtain ⟨cs',h3,h4⟩:=hy gh a w r
    have h5:=E (10000 - m) w _ _ p q ⟨cs,w,rfl,(LVs.rd h2).rep⟩ ⟨cs',w,rfl,(LVs.rd h4).rep⟩
    rw[Nat.sub_add_cancel hm.2] at h5
    refine ⟨.bool (t.beq p q), ?_,_,rfl,ZC⟩
    simp only[execOp,h1,h3]
    simp[aw,run_eqGuard_agg w _ _ _ _ _ _ hm.1,run_eql_struct,h5]
end
end
end Go.Proofs.YtfkmmpfdncopdaaGreat
