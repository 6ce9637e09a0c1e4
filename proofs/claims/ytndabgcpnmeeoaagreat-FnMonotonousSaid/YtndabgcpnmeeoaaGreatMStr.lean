/- How Go's data of this program lie in memory: a small universe of types, and what it means that cells read as a datum. No program is named here. -/
import Derived.WalkKit
import Derived.ChangeArms
import Derived.DataReads
import Derived.Deep.Draws
import Derived.WalkSpells
import Derived.WalkLawsBesides
import Derived.Deep.LoopGhost
import Derived.Deep.QuietTactic
import Derived.BigQuiet
import Derived.Test.YtndabgcpnmeeoaaGreatProg
import Derived.StillTailTactics
set_option linter.unusedSimpArgs false
set_option linter.unusedVariables false
set_option linter.unusedSectionVars false
namespace Go.Proofs.YtndabgcpnmeeoaaGreat
section
open Go
set_option linter.defProp false
def aa:=@of_decide_eq_false
def ab:=@of_decide_eq_true
def ae:=@List.mem_of_getElem?
def ah:=@List.getElem?_eq_some_iff
def ai:=@List.length_append
def aj:=@List.getElem?_eq_getElem
def ak:=@Option.getD_some
def ao:=@Option.getD_none
def ap:=@List.length_take
def au:=@List.length_cons
def av:=@List.all_eq_true
def aw:=@List.mem_cons_of_mem
def ax:=@List.mem_cons_self
def ay:=@List.length_set
def az:=@Go.Sem.run_bind
def aA:=@ByteArray.size_append
def aB:=@decide_eq_false
def aC:=@List.mem_cons
def aD:=@List.mem_singleton
def aE:=@decide_eq_true
def aF:=@Nat.le_of_ble_eq_true
def aG:=@List.length_replicate
def aH:=@List.cons.injEq
def aI:=@Result.andThen_ok
def aJ:=@List.length_map
def aK:=@Nat.le_refl
def aL:=@List.mem_iff_getElem?
def aM:=@List.mem_append
def aN:=@List.foldl_cons
def aO:=@List.length_nil
def aP:=@Nat.zero_le
def aQ:=@Bool.and_eq_true
def aR:=@List.take_of_length_le
def aS:=@List.mem_append_left
def aT:=@decide_eq_true_eq
def aU:=@List.append_assoc
def aV:=@List.mem_append_right
def aW:=@Nat.not_lt_zero
def aX:=@Nat.lt_of_lt_of_le
def aY:=@List.getElem?_set_self
def aZ:=@ByteArray.size_extract
def ba:=@List.mem_map
def bc:=@Nat.eq_of_beq_eq_true
def bd:=@Go.Sem.run_pure
def be:=@List.map_cons
def bf:=@List.eq_nil_of_length_eq_zero
def bg:=@List.getElem?_map
def bh:=@List.getElem?_set_ne
def bi:=@List.nodup_append
def bj:=@Option.isSome_iff_exists
def bk:=@List.pairwise_cons
def bl:=@List.mem_filter
def bm:=@List.getElem?_take
def bn:=@Option.some.injEq
def bo:=@List.getElem?_append_left
def bp:=@ByteArray.toList_eq
def bq:=@List.foldl_append
def br:=@List.getElem?_append_right
def bt:=@List.map_append
def bu:=@Nat.le_trans
def bw:=@Nat.add_sub_cancel_left
def bz:=@List.filter_append
def bA:=@List.nodup_cons
def bB:=@List.getElem?_set
def bC:=@List.any_eq_true
def bD:=@List.mem_range
def bE:=@List.append_nil
def bF:=@List.all_cons
def bG:=@List.length_drop
def bH:=@List.getElem?_eq_none
def bI:=@List.set_cons_succ
def bJ:=@List.nodup_nil
def bK:=@List.ext_getElem?
def bL:=@List.take_append_drop
def bM:=@List.length_filter_le
def bN:=@List.getElem?_cons_zero
def bO:=@Bool.false_eq_true
def bP:=@Nat.add_mul
def bQ:=@List.take_succ_eq_append_getElem
def bR:=@List.drop_eq_nil_of_le
def bS:=@Bool.not_eq_true'
def bT:=@Array.getD_eq_getD_getElem?
def bU:=@List.foldl_nil
def bV:=@Array.getElem?_eq_some_iff
def bW:=@Nat.add_assoc
def bX:=@decide_eq_decide
def bY:=@List.range_succ
def cc:=@Int.ediv_nonneg
def cd:=@Bool.or_eq_true
def ce:=@List.Pairwise.nil
def ci:=@Int.pow_nonneg
def cj:=@Option.map_eq_some_iff
def ck:=@Nat.zero_add
def co:=@Bool.eq_iff_iff
def cp:=@List.filter_cons
def cq:=@List.getElem?_replicate
def cr:=@List.any_eq_false
def cv:=@Nat.mul_le_mul_right
def cw:=@List.mem_or_eq_of_mem_set
def cy:=@Classical.byContradiction
def cA:=@List.not_mem_nil
def cB:=@List.all_nil
def cC:=@List.findIdx?_eq_some_iff_getElem
def cD:=@List.filter_cons_of_neg
def cE:=@Int.natCast_nonneg
def cF:=@Nat.add_le_add_left
def cG:=@Nat.min_eq_left
def cH:=@List.mem_flatMap
def cI:=@List.pairwise_singleton
def cJ:=@List.getElem?_cons_succ
def cK:=@Int.le_refl
def cM:=@List.getElem_mem
def cN:=@List.cons_append
def cO:=@Nat.ble_eq_true_of_le
def cP:=@List.getElem?_drop
def cQ:=@Nat.mul_le_mul
def cR:=@List.getElem?_eq_none_iff
def cU:=@List.getElem?_modify
def cV:=@List.nil_append
def cW:=@List.eq_of_mem_replicate
def cX:=@Bool.eq_false_iff
def cY:=@Nat.lt_or_ge
def cZ:=@decide_eq_false_iff_not
def da:=@Nat.mul_one
def db:=@List.flatMap_append
def dc:=@List.filter_eq_self
def dd:=@List.filter_cons_of_pos
def de:=@Int.toNat_of_nonneg
def dh:=@List.take_left
def di:=@Option.some.inj
def dk:=@Nat.one_mul
def dl:=@List.set_set
def dn:=@List.length_singleton
def dp:=@Nat.le_succ_of_le
def dq:=@List.filter_congr
def dr:=@Int.toNat_natCast
def dt:=@Bool.and_true
def du:=@World.cell?_of_block
def dx:=@Bool.or_eq_false_iff
def dy:=@Array.toList_map
def dC:=@getElem?_pos
def dD:=@Nat.add_zero
def dE:=@decide_eq_true_iff
def dF:=@Option.map_some
def dH:=@List.pairwise_map
def dJ:=@List.drop_drop
def dL:=@Sem.run_bind
def dM:=@Nat.beq_refl
def dN:=@List.map_nil
def dQ:=@List.map_map
def dR:=@Nat.mod_eq_of_lt
def dU:=@List.take_length
def dX:=@List.map_toArray
def dY:=@Bool.not_true
def ea:=@eq_self
end
set_option maxHeartbeats 4000000
set_option maxRecDepth 100000
open Go.RowKit
abbrev Hdr:=Option (Nat×Nat×Nat×Nat)
def hdV:Hdr→Value
 | none=> .slice none 0 0
 | some (g,o,n,c)=> .slice (some ⟨g,o,none⟩) n c
theorem QrC (x:Hdr):(hdV x).oneCell'=true:=by
 match x with
 | none=>simp[hdV,Value.oneCell']
 | some (g,o,n,c)=>simp[hdV,Value.oneCell']
theorem QmL {x y:Hdr}(h:hdV x=hdV y):x=y:=by
 match x,y with
 | none,none=>rfl
 | none,some (g,o,n,c)=>simp[hdV] at h
 | some (g,o,n,c),none=>simp[hdV] at h
 | some (g,o,n,c),some (g',o',n',c')=>
  simp[hdV] at h
  obtain ⟨⟨rfl,rfl⟩,rfl,rfl⟩:=h
  rfl
inductive Ty where
  | int | bool | str | u8 | vl
  | sl (E:TypeId) (e:Ty)
  | pr (a b:Ty)
@[reducible] def Ty.Den:Ty→Type
 | .int=>Int
 | .bool=>Bool
 | .str=>ByteArray
 | .u8=>UInt8
 | .vl=>Hdr
 | .sl _ e=>List e.Den
 | .pr a b=>a.Den×b.Den
@[reducible] def Ty.wd:Ty→Nat
 | .pr a b=>a.wd+b.wd
 | .int=>1
 | .bool=>1
 | .str=>1
 | .u8=>1
 | .vl=>1
 | .sl _ _=>1
theorem W8:∀t:Ty,0 < t.wd
 | .int=>Nat.one_pos
 | .bool=>Nat.one_pos
 | .str=>Nat.one_pos
 | .u8=>Nat.one_pos
 | .vl=>Nat.one_pos
 | .sl _ _=>Nat.one_pos
 | .pr a _=>Nat.add_pos_left (W8 a) _
def Rep:(t:Ty)→World→List Value→t.Den→Prop
 | .int,_,cs,x=>cs=[.int .i64 x]∧ -9223372036854775808≤x∧x≤9223372036854775807
 | .bool,_,cs,x=>cs=[.bool x]
 | .str,_,cs,x=>cs=[.string x]∧x.size≤maxLen
 | .u8,_,cs,x=>cs=[.int .u8 x.toNat]
 | .vl,_,cs,x=>cs=[hdV x]
 | .sl _ e,w,cs,xs=>∃A c,cs=[.slice A xs.length c]∧xs.length≤c∧c≤maxLen∧
  (0 < xs.length→∃b o,A=some ⟨b,o,none⟩∧∀i x,xs[i]? =some x→∃ds,Rep e w ds x∧∀j u,ds[j]? =some u→w.cell? ⟨b,o+i*e.wd+j,none⟩=some u)
 | .pr a b,w,cs,x=>∃l r,cs=l++r∧Rep a w l x.1∧Rep b w r x.2
def Kp (w w':World):Prop:=∀a v,w.cell? a=some v→w'.cell? a=some v
theorem QxC (w:World):Kp w w:=fun _ _ h=>h
theorem Kp.trans {a b c:World}(h:Kp a b)(k:Kp b c):Kp a c:=fun p v q=>k p v (h p v q)
theorem QdX {w w':World}(h:Below w.heap.size w w'):Kp w w':=fun a v e=>by
 rw[h.cell (World.block_lt_of_cell? w a e)]; exact e
theorem Kp.alloc (w:World)(o:Obj):Kp w (w.alloc o):=QdX ((Below.refl _ _).alloc (aK _) o)
theorem Rep.len:∀{t:Ty} {w:World} {cs:List Value} {x:t.Den},Rep t w cs x→cs.length=t.wd
 | .int,_,_,_,h=>by rw[h.1]; rfl
 | .bool,_,_,_,h=>by have h:_=_:=h; rw[h]; rfl
 | .str,_,_,_,h=>by rw[h.1]; rfl
 | .u8,_,_,_,h=>by have h:_=_:=h; rw[h]; rfl
 | .vl,_,_,_,h=>by have h:_=_:=h; rw[h]; rfl
 | .sl _ _,_,_,_,⟨_,_,h,_⟩=>by rw[h]; rfl
 | .pr _ _,_,_,_,⟨_,_,h,h1,h2⟩=>by rw[h,ai,Rep.len h1,Rep.len h2]
theorem Rep.kp:∀{t:Ty} {w w':World} {cs:List Value} {x:t.Den},Rep t w cs x→Kp w w'→Rep t w' cs x
 | .int,_,_,_,_,h,_=>h
 | .bool,_,_,_,_,h,_=>h
 | .str,_,_,_,_,h,_=>h
 | .u8,_,_,_,_,h,_=>h
 | .vl,_,_,_,_,h,_=>h
 | .sl _ _,_,_,_,_,⟨A,c,h,h1,h2,h3⟩,k=>⟨A,c,h,h1,h2,fun m=>by
  obtain ⟨b,o,e,d⟩:=h3 m
  refine ⟨b,o,e,fun i x p=> ?_⟩
  obtain ⟨a,f,g⟩:=d i x p
  exact ⟨a,Rep.kp f k,fun j u n=>k _ _ (g j u n)⟩⟩
 | .pr _ _,_,_,_,_,⟨l,r,h,h1,h2⟩,k=>⟨l,r,h,Rep.kp h1 k,Rep.kp h2 k⟩
theorem Qvk {t:Ty}{w w':World}{cs:List Value}{x:t.Den}(h:Rep t w cs x)(hb:Below w.heap.size w w'):Rep t w' cs x:=h.kp (QdX hb)
theorem Rep.alloc {t:Ty}{w:World}{cs:List Value}{x:t.Den}(h:Rep t w cs x)(o:Obj):Rep t (w.alloc o) cs x:=h.kp (Kp.alloc w o)
theorem Rep.drew {t:Ty}{w:World}{cs:List Value}{x:t.Den}(h:Rep t w cs x):Rep t w.drew cs x:=h.kp fun _ _ e=>e
theorem Rep.drewN {t:Ty}{w:World}{cs:List Value}{x:t.Den}(h:Rep t w cs x)(n:Nat):Rep t (w.drewN n) cs x:=h.kp fun _ _ e=>e
theorem Rep.slv {E:TypeId}{e:Ty}{w:World}{v:Value}{xs:List e.Den}(h:Rep (.sl E e) w [v] xs):∃A c,v= .slice A xs.length c∧xs.length≤c∧c≤maxLen:=by
 obtain ⟨A,c,h,a,b,_⟩:=h
 exact ⟨A,c,by simpa using h,a,b⟩
theorem Rep.at_ {E:TypeId}{e:Ty}{w:World}{A:Option Addr}{n c:Nat}{xs:List e.Den}(h:Rep (.sl E e) w [.slice A n c] xs){i:Nat}{x:e.Den}(d:xs[i]? =some x):
 ∃b o a,A=some ⟨b,o,none⟩∧Rep e w a x∧∀j u,a[j]? =some u→w.cell? ⟨b,o+i*e.wd+j,none⟩=some u:=by
 obtain ⟨p,q,h,r,s,g⟩:=h
 simp only[aH,Value.slice.injEq,and_true] at h
 obtain ⟨rfl,rfl,rfl⟩:=h
 have t:i < xs.length:=(ah.1 d).1
 obtain ⟨b,o,f,k⟩:=g (by omega)
 obtain ⟨a,l,m⟩:=k i x d
 exact ⟨b,o,a,f,l,m⟩
theorem Rep.cut {E:TypeId}{e:Ty}{w:World}{A:Option Addr}{n c:Nat}{xs:List e.Den}(h:Rep (.sl E e) w [.slice A n c] xs){m:Nat}(t:m≤n)(c':Nat)(s:m≤c')(d:c'≤maxLen):
 Rep (.sl E e) w [.slice A m c'] (xs.take m):=by
 obtain ⟨p,f,h,q,r,j⟩:=h
 simp only[aH,Value.slice.injEq,and_true] at h
 obtain ⟨rfl,rfl,rfl⟩:=h
 have l:(xs.take m).length=m:=by simp; omega
 refine ⟨A,c',by rw[l],by omega,d,fun u=> ?_⟩
 obtain ⟨b,o,g,k⟩:=j (by omega)
 refine ⟨b,o,g,fun i x a=>k i x ?_⟩
 rw[bm] at a
 split at a
 ·exact a
 ·cases a
theorem Rep.int_ {w:World}{v:Value}{x:Int}(h:Rep .int w [v] x):v= .int .i64 x∧ -9223372036854775808≤x∧x≤9223372036854775807:=⟨by simpa using h.1,h.2⟩
theorem Rep.bool_ {w:World}{v:Value}{x:Bool}(h:Rep .bool w [v] x):v= .bool x:=by have h:_=_:=h; simpa using h
theorem Rep.str_ {w:World}{v:Value}{x:ByteArray}(h:Rep .str w [v] x):v= .string x∧x.size≤maxLen:=⟨by simpa using h.1,h.2⟩
theorem Rep.pr1 {a b:Ty}{w:World}{v:Value}{cs:List Value}{x:a.Den×b.Den}(h:Rep (.pr a b) w (v :: cs) x)(e:a.wd=1):Rep a w [v] x.1∧Rep b w cs x.2:=by
 obtain ⟨l,r,h,c,d⟩:=h
 match l,c.len.trans e with
 | [u],_=>
  simp only[cN,cV,aH] at h
  obtain ⟨rfl,rfl⟩:=h
  exact ⟨c,d⟩
theorem Qk5 {α:Type}{n:Nat}{p:Nat→α→Prop}(h:∀i,i < n→∃d,p i d):∃xs:List α,xs.length=n∧∀i x,xs[i]? =some x→p i x:=by
 induction n with
 | zero=>exact ⟨[],rfl,by simp⟩
 | succ n g=>
  obtain ⟨xs,b,c⟩:=g (fun i f=>h i (by omega))
  obtain ⟨d,e⟩:=h n (by omega)
  refine ⟨xs++[d],by simp[b],fun i x a=> ?_⟩
  rw[List.getElem?_append] at a
  split at a
  ·exact c i x a
  ·have:i=n:=by
    have:=(ah.1 a).1
    simp at this
    omega
   subst this
   simp[b] at a
   subst a
   exact e
def Trd (P:Program)(T:TypeId)(t:Ty):Prop:=
 P.cellsOf T=t.wd∧∀{H:Type} (enc:TypeId×Value→H) (w:World) (base:Nat) (spare:Nat→Bool) (held:Bool) (fuel:Nat) (cs:List Value) (x:DataW H×List MemPlace),
  DataW.trod enc P w base spare held fuel T cs=some x→∃d,Rep t w cs d
section
variable {P:Program}{T:TypeId}
theorem Trd.int (h:P.underlying T=some (.int .i64))(g:P.cellsOf T=1):Trd P T .int:=⟨g,fun f w c b e d j x i=>by
 obtain ⟨n,rfl,_,a⟩:=DataW.trod_int h i
 refine ⟨n,rfl, ?_⟩
 simp[Lit.wf] at a
 exact ⟨a.1,a.2⟩⟩
theorem Trd.bool (h:P.underlying T=some .bool)(g:P.cellsOf T=1):Trd P T .bool:=⟨g,fun f w c a e d j x i=>by
 obtain ⟨b,rfl,_⟩:=DataW.trod_bool h i
 exact ⟨b,rfl⟩⟩
theorem Trd.str (h:P.underlying T=some .string)(f:P.cellsOf T=1):Trd P T .str:=⟨f,fun e w b a d c j x i=>by
 obtain ⟨s,rfl,_,g⟩:=DataW.trod_string h i
 exact ⟨s,rfl,g⟩⟩
theorem Trd.sl {E:TypeId}{e:Ty}(h:P.underlying T=some (.slice E))(S:P.cellsOf T=1)(K:Trd P E e):Trd P T (.sl E e):=⟨S,fun N w G F L J cs x A=>by
 rcases DataW.trod_slice h A with ⟨rfl,_⟩ | ⟨a,D,v,g,M,n,_,rfl,_,_,X,Y,V,W,_,_⟩
 ·exact ⟨[],none,0,rfl,aK _,aP _,fun h=>absurd h (by simp)⟩
 ·have q:∀i,i < D→∃d:e.Den,∃c,Rep e w c d∧∀j u,c[j]? =some u→w.cell? (a.add (i*e.wd+j))=some u:=by
   intro i z
   have l:=W i z
   have m:i < g.length:=by omega
   rw[aj m] at l
   obtain ⟨c,O,Q⟩:=Option.bind_eq_some_iff.1 l
   obtain ⟨d,U⟩:=K.2 _ _ _ _ _ _ _ _ Q
   refine ⟨d,c,U,fun j u s=> ?_⟩
   obtain ⟨_,h5,R⟩:=World.cells?_some O
   have hj:j < c.length:=(ah.1 s).1
   have:=R j (by omega)
   rw[s,K.1] at this
   rw[← this]
   congr 1
   unfold Addr.add
   by_cases H:i*e.wd=0 <;> by_cases I:j=0 <;> simp[H,I,bW]
  obtain ⟨t,B,f⟩:=Qk5 (p:=fun i x=>∃c,Rep e w c x∧∀j u,c[j]? =some u→w.cell? (a.add (i*e.wd+j))=some u) q
  subst B
  refine ⟨t,some a,v,rfl,X,Y,fun Z=> ?_⟩
  have C:t[0]? =some t[0]:=aj Z
  have k:a.spot=none∨∀c:List Value,Rep e w c t[0]→c.length=0:=by
   obtain ⟨c,l,m⟩:=f 0 _ C
   cases c with
   | nil=>right; intro c y; rw[y.len,← l.len]; rfl
   | cons u us=>
    left
    have:=m 0 u rfl
    simpa [Addr.add] using World.cell?_spot this
  rcases k with r | r
  ·obtain ⟨b,o,sp⟩:=a
   have r:sp=none:=r
   subst r
   refine ⟨b,o,rfl,fun i x A=> ?_⟩
   obtain ⟨c,l,m⟩:=f i x A
   refine ⟨c,l,fun j u s=> ?_⟩
   rw[← m j u s]
   congr 1
   unfold Addr.add
   split
   ·rename_i e0
    have H:i*e.wd=0:=by omega
    have I:j=0:=by omega
    rw[show o+i*e.wd+j=o by omega]
   ·simp[bW]
  ·exact absurd (r _ (f 0 _ C).choose_spec.1) (by rw[(f 0 _ C).choose_spec.1.len]; exact Nat.ne_of_gt (W8 e))⟩
def TF (P:Program)(fs:Array Field)(i k:Nat)(t:Ty):Prop:=
 ∀{H:Type} (enc:TypeId×Value→H) (w:World) (base:Nat) (spare:Nat→Bool) (held:Bool) (n:Nat) (cs:List Value),cs.length=k+t.wd→
  (∀j f,i≤j→fs[j]? =some f→∃y,DataW.trod enc P w base spare held n f.type ((cs.drop f.offset).take (P.cellsOf f.type))=some y)→∃d,Rep t w (cs.drop k) d
theorem Qxr {c:Array Field}{i k:Nat}{t:Ty}(f:Field)(l:c[i]? =some f)(m:f.offset=k)(e:Trd P f.type t):TF P c i k t:=
 fun j w b a d n o p h=>by
  obtain ⟨y,g⟩:=h i f (aK _) l
  rw[m,e.1,aR (by simp; omega)] at g
  exact e.2 _ _ _ _ _ _ _ _ g
theorem TF.cons {m:Array Field}{i k:Nat}{a b:Ty}(f:Field)(x:m[i]? =some f)(A:f.offset=k)(q:Trd P f.type a)(hb:TF P m (i+1) (k+a.wd) b):TF P m i k (.pr a b):=
 fun l w e c g n s z h=>by
  obtain ⟨y,r⟩:=h i f (aK _) x
  rw[A,q.1] at r
  obtain ⟨d,v⟩:=q.2 _ _ _ _ _ _ _ _ r
  obtain ⟨t,o⟩:=hb l w e c g n s (by rw[z]; simp[Ty.wd,bW]) (fun j u B p=>h j u (by omega) p)
  refine ⟨(d,t),_,_, ?_,v,o⟩
  rw[← dJ,bL]
theorem Trd.st {t:Ty}{e:Array Field}(h:P.underlying T=some (.struct e))(i:P.cellsOf T=t.wd)(o:TF P e 0 0 t):Trd P T t:=⟨i,fun d w b a c g l x r=>by
 obtain ⟨u,n,_,_,q,s,p⟩:=DataW.trod_struct h r
 have:=o d w b a c n l (by rw[q,i,ck]) (fun j f _ k=>by
  have m:=p j f k
  have:j < e.size:=(bV.1 k).1
  rw[m,aj (by omega)]
  exact ⟨_,rfl⟩)
 simpa using this⟩
end
@[reducible] def QuE:Ty:= .pr (.pr (.sl 9 .str) (.sl 301 (.pr .int (.pr .int .int)))) (.pr (.sl 301 (.pr .int (.pr .int .int))) (.pr .int (.pr .int .bool)))
@[reducible] def Qnt:Ty:= .pr (.pr .int (.sl 275 (.pr (.sl 3 .int) (.sl 3 .int)))) (.pr (.sl 77 (.pr .str .int)) (.pr (.sl 75 (.pr .int .bool)) .str))
@[reducible] def Xn:Ty:= .pr (.sl 77 (.pr .str .int)) (.pr (.sl 9 .str) (.sl 154 (.pr .int (.pr .int (.pr .bool .int)))))
@[reducible] def QvC:Ty:= .pr (.sl 9 .str) (.sl 301 (.pr .int (.pr .int .int)))
@[reducible] def Qp1:Ty:= .pr .int (.sl 275 (.pr (.sl 3 .int) (.sl 3 .int)))
@[reducible] def Qv:Ty:= .sl 154 (.pr .int (.pr .int (.pr .bool .int)))
@[reducible] def V6:Ty:= .sl 139 (.pr .int (.pr .bool (.sl 9 .str)))
@[reducible] def XM:Ty:= .sl 275 (.pr (.sl 3 .int) (.sl 3 .int))
@[reducible] def YE:Ty:= .pr .int (.pr .int (.pr .bool .int))
@[reducible] def QiJ:Ty:= .sl 301 (.pr .int (.pr .int .int))
@[reducible] def Ym:Ty:= .pr .int (.pr .bool (.sl 9 .str))
@[reducible] def Zr:Ty:= .pr (.sl 3 .int) (.sl 3 .int)
@[reducible] def Z6:Ty:= .pr .int (.pr .int .int)
@[reducible] def Y9:Ty:= .sl 75 (.pr .int .bool)
@[reducible] def Ql:Ty:= .sl 77 (.pr .str .int)
@[reducible] def Z7:Ty:= .sl 123 (.sl 3 .int)
@[reducible] def Zk:Ty:= .pr .int .bool
@[reducible] def Zw:Ty:= .pr .str .int
@[reducible] def QbB:Ty:= .pr .int .int
@[reducible] def Qfg:Ty:= .sl 4 .bool
@[reducible] def Qj:Ty:= .sl 9 .str
@[reducible] def Qi:Ty:= .sl 3 .int
@[reducible] def QN:Ty:= .sl 5 .u8
abbrev ZX:=(List (ByteArray×Int))×List ByteArray×(List (Int×Int×Bool×Int))
abbrev QhE:=List (Int×Bool×List ByteArray)
abbrev QjW:=(Int×(List (List Int×List Int)))×(List (ByteArray×Int))×(List (Int×Bool))×ByteArray
abbrev Qnw:=Int×(List (List Int×List Int))
abbrev Qm9:=List (ByteArray×Int)
abbrev QnF:=Int×Int×Bool×Int
abbrev Qq1:=List (Int×Int×Bool×Int)
end Go.Proofs.YtndabgcpnmeeoaaGreat
namespace Go.Proofs.YtndabgcpnmeeoaaGreat
set_option maxHeartbeats 4000000
set_option maxRecDepth 100000
open Go.RowKit
def Nw (w w':World):Prop:=Below w.heap.size w w'
theorem Q6 (w:World):Nw w w:=Below.refl _ _
theorem Nw.trans {a b c:World}(h:Nw a b)(k:Nw b c):Nw a c:=Below.trans h (Below.mono k (Below.size h))
theorem Nw.alloc {a w:World}(h:Nw a w)(o:Obj):Nw a (w.alloc o):=Below.alloc h (Below.size h) o
theorem Nw.drew {a w:World}(h:Nw a w):Nw a w.drew:=Below.drew h
theorem Nw.drewN {a w:World}(h:Nw a w)(n:Nat):Nw a (w.drewN n):=h.trans ⟨rfl,rfl,rfl,aK _,fun _ _=>rfl⟩
theorem Nw.setCell {a w:World}(h:Nw a w){p:Addr}(f:a.heap.size≤p.block)(u:Value):Nw a (w.setCell p u):=Below.setCell h f u
theorem ZE {a b c:World}(k:Nw b c)(h:Nw a b):Nw a c:=h.trans k
theorem Ze {a w:World}{p:Addr}{u:Value}(f:a.heap.size≤p.block)(h:Nw a w):Nw a (w.setCell p u):=h.setCell f u
theorem Nw.size {a w:World}(h:Nw a w):a.heap.size≤w.heap.size:=Below.size h
theorem Nw.kp {a w:World}(h:Nw a w):Kp a w:=QdX h
theorem Qwd {a w:World}(h:Nw a w):Below a.heap.size a w:=h
theorem Rep.nw {t:Ty}{w w':World}{cs:List Value}{x:t.Den}(h:Rep t w cs x)(hb:Nw w w'):Rep t w' cs x:=h.kp hb.kp
theorem Nw.cells {W f:World}(hb:Nw W f):(∀b o,b < W.heap.size→f.cell? ⟨b,o,none⟩=W.cell? ⟨b,o,none⟩)∧(∀b o,b < W.heap.size→f.frozen? ⟨b,o,none⟩=W.frozen? ⟨b,o,none⟩):=
 ⟨fun b o h=>Below.cell hb (p:=⟨b,o,none⟩) h,fun b o h=>Below.frozen hb (p:=⟨b,o,none⟩) h⟩
theorem Qc {P:Program}{f:FuncId}{fn:Func}{c:Code}(i:P.funcs[f]? =some fn)(g:(fn.name== "runtime.NumGoroutine")=false)(hb:fn.body=some c)(args:Array Value)(w:World):
 (callFunc f args).run P w= .ok (.enter f args) w:=by
 have h:fn.name≠ "runtime.NumGoroutine" :=by simpa using g
 simp[callFunc,i,h,hb]
def Qg (P:Program)(F:FuncId):Prop:=∀(a_:Array Value) (W:World),(callFunc F a_).run P W= .ok (.enter F a_) W
theorem hid {p:Prop}(h:p):Hid p:=h
def RetB (p:Prop)(w:World)(e:Ending)(w':World):Prop:=∃b:Bool,e= .returned (.bool b)∧(b=true↔p)∧Nw w w'
theorem RetB.yes {p:Prop}{w w':World}(h:p)(f:Nw w w'):RetB p w (.returned (.bool true)) w':=⟨true,rfl,by simp[h],f⟩
theorem RetB.no {p:Prop}{w w':World}(h:¬p)(f:Nw w w'):RetB p w (.returned (.bool false)) w':=⟨false,rfl,by simp[h],f⟩
theorem RetB.not {p:Prop}(h:false=true↔p):¬p:=fun f=>absurd (h.2 f) (by simp)
theorem RetB.of {p:Prop}{w w':World}{b:Bool}(h:b=true↔p)(f:Nw w w'):RetB p w (.returned (.bool b)) w':=⟨b,rfl,h,f⟩
def IsIdx {α:Type}(p:α→Prop)(xs:List α)(r:Int):Prop:=(r= -1∧∀x∈xs,¬p x)∨(∃k:Nat,r=k∧k < xs.length∧(∀x,xs[k]? =some x→p x)∧∀j x,j < k→xs[j]? =some x→¬p x)
def QtT {α:Type}(p:α→Prop)(xs:List α)(w:World)(e:Ending)(w':World):Prop:=∃r:Int,e= .returned (.int .i64 r)∧IsIdx p xs r∧Nw w w'
theorem IsIdx.range {α:Type}{p:α→Prop}{xs:List α}{r:Int}(h:IsIdx p xs r)(f:xs.length≤9223372036854775807): -1≤r∧r≤9223372036854775807:=by
 rcases h with ⟨rfl,_⟩ | ⟨k,rfl,h,_⟩ <;> omega
theorem IsIdx.any {α:Type}{p:α→Prop}{xs:List α}{r:Int}(h:IsIdx p xs r):0≤r↔∃x∈xs,p x:=by
 rcases h with ⟨rfl,h⟩ | ⟨k,rfl,f,h,_⟩
 ·constructor
  ·intro j; omega
  ·rintro ⟨x,i,g⟩; exact absurd g (h x i)
 ·exact ⟨fun _=>⟨xs[k],cM f,h _ (aj f)⟩,fun _=>by omega⟩
section
variable {E:TypeId}{e:Ty}{w:World}{A:Option Addr}{n c:Nat}{xs:List e.Den}
theorem Rep.at1 (h:Rep (.sl E e) w [.slice A n c] xs)(g:e.wd=1){i:Nat}{x:e.Den}(l:xs[i]? =some x):
 ∃b o v,A=some ⟨b,o,none⟩∧Rep e w [v] x∧w.cell? ⟨b,o+i,none⟩=some v:=by
 obtain ⟨b,o,j,rfl,f,k⟩:=h.at_ l
 match j,f.len.trans g with
 | [v],_=>exact ⟨b,o,v,rfl,f,by have:=k 0 v rfl; rwa [g,da] at this⟩
theorem Rep.at2 (h:Rep (.sl E e) w [.slice A n c] xs)(j:e.wd=2){i:Nat}{x:e.Den}(p:xs[i]? =some x):
 ∃b o f g,A=some ⟨b,o,none⟩∧Rep e w [f,g] x∧w.cell? ⟨b,o+i*2,none⟩=some f∧w.cell? ⟨b,o+i*2+1,none⟩=some g:=by
 obtain ⟨b,o,m,rfl,k,l⟩:=h.at_ p
 match m,k.len.trans j with
 | [f,g],_=>exact ⟨b,o,f,g,rfl,k,by have:=l 0 f rfl; rwa [j] at this,by have:=l 1 g rfl; rwa [j] at this⟩
end
theorem Rep.pr2 {a b:Ty}{w:World}{v u:Value}{cs:List Value}{x:a.Den×b.Den}(h:Rep (.pr a b) w (v :: u :: cs) x)(i:a.wd=2):Rep a w [v,u] x.1∧Rep b w cs x.2:=by
 obtain ⟨l,r,h,f,g⟩:=h
 match l,f.len.trans i with
 | [y,z],_=>
  simp only[cN,cV,aH] at h
  obtain ⟨rfl,rfl,rfl⟩:=h
  exact ⟨f,g⟩
section
variable {a b c d:Ty}{w:World}{u0 u1 u2 u3:Value}
theorem Rep.open2 {x:(Ty.pr a b).Den}(h:Rep (.pr a b) w [u0,u1] x)(f:a.wd=1):Rep a w [u0] x.1∧Rep b w [u1] x.2:=h.pr1 f
theorem Rep.open3 {x:(Ty.pr a (.pr b c)).Den}(h:Rep (.pr a (.pr b c)) w [u0,u1,u2] x)(i:a.wd=1)(hb:b.wd=1):Rep a w [u0] x.1∧Rep b w [u1] x.2.1∧Rep c w [u2] x.2.2:=by
 obtain ⟨f,g⟩:=h.pr1 i
 exact ⟨f,g.pr1 hb⟩
end
def Ty.tot:(t:Ty)→t.Den→Nat
 | .int,_=>0
 | .bool,_=>0
 | .str,s=>s.size
 | .u8,_=>0
 | .vl,_=>0
 | .sl _ e,xs=>xs.length+(xs.map e.tot).sum
 | .pr a b,x=>a.tot x.1+b.tot x.2
def cut (left:Int)(t:Nat):Int:=if left < t then -1 else left - t
end Go.Proofs.YtndabgcpnmeeoaaGreat
namespace Go.Proofs.YtndabgcpnmeeoaaGreat
set_option maxHeartbeats 4000000
set_option maxRecDepth 100000
abbrev Qz:Type:=ByteArray×Int
abbrev Xb:Ty:= .pr .str .int
abbrev Qs6:Ty:= .pr .str .int
abbrev Qv8:Type:=Int×Bool
abbrev Qyb:Ty:= .pr .int .bool
abbrev Qv3:Type:=ByteArray×Int×(List Qv8)×(List ByteArray)
abbrev QvD:Ty:= .pr .str (.pr .int (.pr (.sl 365 Qyb) (.sl 9 .str)))
abbrev QwF:Type:=(List Qz)×(List Qv3)
abbrev QvL:Ty:= .pr (.sl 77 Xb) (.sl 363 QvD)
abbrev Q7:Type:=(List Int)×(List Int)
abbrev Zs:Ty:= .pr (.sl 3 .int) (.sl 3 .int)
abbrev Qhr:Ty:= .pr (.sl 3 .int) (.sl 3 .int)
abbrev Xy:Type:=Int×(List Q7)
abbrev Qbr:Ty:= .pr .int (.sl 275 Zs)
abbrev QxH:Ty:= .pr .int (.sl 424 Qhr)
abbrev Z3:Type:=Int×Bool
abbrev Qbk:Ty:= .pr .int .bool
abbrev Qt2:Ty:= .pr .int .bool
abbrev ZK:Type:=Xy×(List Qz)×(List Z3)×ByteArray
abbrev QbO:Ty:= .pr Qbr (.pr (.sl 77 Xb) (.pr (.sl 75 Qbk) .str))
abbrev QyV:Ty:= .pr QxH (.pr (.sl 311 Qs6) (.pr (.sl 323 Qt2) .str))
abbrev YX:Type:=Int×Int×Bool
abbrev Qvj:Ty:= .pr .int (.pr .int .bool)
abbrev Qx6:Type:=Int×Int×Bool×Int
abbrev QxY:Ty:= .pr .int (.pr .int (.pr .bool .int))
abbrev QtE:Type:=(List Qz)×(List ByteArray)×(List Qx6)
abbrev Qtx:Ty:= .pr (.sl 77 Xb) (.pr (.sl 9 .str) (.sl 154 QxY))
abbrev Qwi:Type:=Int×Int×Int
abbrev Qwb:Ty:= .pr .int (.pr .int .int)
abbrev Qj7:Type:=(List ByteArray)×(List Qwi)
abbrev Qkw:Ty:= .pr (.sl 9 .str) (.sl 301 Qwb)
end Go.Proofs.YtndabgcpnmeeoaaGreat
namespace Go.Proofs.YtndabgcpnmeeoaaGreat
set_option maxHeartbeats 4000000
set_option maxRecDepth 100000
open Go.RowKit
def OwnL {α:Type}(O:List Nat→List Value→α→Prop):List Nat→List Value→List α→Prop
 | fp,cs,[]=>fp=[]∧cs=[]
 | fp,cs,x :: xs=>∃f1 f2 c1 c2,fp=f1++f2∧cs=c1++c2∧O f1 c1 x∧OwnL O f2 c2 xs
def Own:(t:Ty)→World→List Nat→List Value→t.Den→Prop
 | .int,_,fp,cs,x=>fp=[]∧cs=[.int .i64 x]∧ -9223372036854775808≤x∧x≤9223372036854775807
 | .bool,_,fp,cs,x=>fp=[]∧cs=[.bool x]
 | .str,_,fp,cs,x=>fp=[]∧cs=[.string x]∧x.size≤maxLen
 | .u8,_,fp,cs,x=>fp=[]∧cs=[.int .u8 x.toNat]
 | .vl,_,fp,cs,x=>fp=[]∧cs=[hdV x]
 | .sl E e,w,fp,cs,xs=>(fp=[]∧cs=[.slice none 0 0]∧xs=[])∨
  ∃g cap cur fps,fp=g :: fps∧cs=[.slice (some ⟨g,0,none⟩) xs.length cap]∧w.heap[g]? =some (.cells cur E (0,0))∧xs.length≤cap∧cap≤maxLen∧cur.size=cap*e.wd∧
   OwnL (Own e w) fps (cur.toList.take (xs.length*e.wd)) xs
 | .pr a b,w,fp,cs,x=>∃f1 f2 l r,fp=f1++f2∧cs=l++r∧Own a w f1 l x.1∧Own b w f2 r x.2
theorem OwnL.mono {α:Type}{O b:List Nat→List Value→α→Prop}:∀{xs:List α} {fp:List Nat} {cs:List Value},OwnL O fp cs xs→
 (∀f c x,(∀g∈f,g∈fp)→O f c x→b f c x)→OwnL b fp cs xs
 | [],_,_,h,_=>h
 | _ :: _,_,_,⟨f1,f2,c1,c2,h1,h2,h3,h4⟩,k=>⟨f1,f2,c1,c2,h1,h2,k _ _ _ (fun g a=>by rw[h1]; exact aS _ a) h3,
  OwnL.mono h4 fun f c x d i=>k f c x (fun g a=>by rw[h1]; exact aV _ (d g a)) i⟩
theorem OwnL.append {α:Type}{O:List Nat→List Value→α→Prop}:∀{xs ys:List α} {f1 f:List Nat} {c1 c2:List Value},OwnL O f1 c1 xs→OwnL O f c2 ys→OwnL O (f1++f) (c1++c2) (xs++ys)
 | [],_,_,_,_,_,⟨h1,h2⟩,k=>by rw[h1,h2]; exact k
 | _ :: _,_,_,_,_,_,⟨a,b,c,d,h1,h2,h3,h4⟩,k=>⟨a,b++_,c,d++_,by rw[h1,aU],by rw[h2,aU],h3,OwnL.append h4 k⟩
theorem QhS {α:Type}{O:List Nat→List Value→α→Prop}{f:List Nat}{c:List Value}{x:α}(h:O f c x):OwnL O f c [x]:=
 ⟨f,[],c,[],by simp,by simp,h,rfl,rfl⟩
theorem Own.len:∀{t:Ty} {w:World} {fp:List Nat} {cs:List Value} {x:t.Den},Own t w fp cs x→cs.length=t.wd
 | .int,_,_,_,_,h=>by rw[h.2.1]; rfl
 | .bool,_,_,_,_,h=>by rw[h.2]; rfl
 | .str,_,_,_,_,h=>by rw[h.2.1]; rfl
 | .u8,_,_,_,_,h=>by rw[h.2]; rfl
 | .vl,_,_,_,_,h=>by rw[h.2]; rfl
 | .sl _ _,_,_,_,_,h=>by rcases h with ⟨_,h,_⟩ | ⟨_,_,_,_,_,h,_⟩ <;> rw[h] <;> rfl
 | .pr _ _,_,_,_,_,⟨_,_,_,_,_,h,h1,h2⟩=>by rw[h,ai,Own.len h1,Own.len h2]
theorem OwnL.len {e:Ty}{w:World}:∀{xs:List e.Den} {fp:List Nat} {cs:List Value},OwnL (Own e w) fp cs xs→cs.length=xs.length*e.wd
 | [],_,_,h=>by rw[h.2]; simp
 | _ :: xs,_,_,⟨_,_,_,_,_,h2,h3,h4⟩=>by rw[h2,ai,h3.len,h4.len,au,bP,dk,Nat.add_comm]
theorem Own.keep:∀{t:Ty} {w w':World} {fp:List Nat} {cs:List Value} {x:t.Den},Own t w fp cs x→(∀g∈fp,w'.heap[g]? =w.heap[g]?)→Own t w' fp cs x
 | .int,_,_,_,_,_,h,_=>h
 | .bool,_,_,_,_,_,h,_=>h
 | .str,_,_,_,_,_,h,_=>h
 | .u8,_,_,_,_,_,h,_=>h
 | .vl,_,_,_,_,_,h,_=>h
 | .sl _ _,_,_,_,_,_,h,k=>by
  rcases h with h | ⟨g,b,d,fps,rfl,i,j,m,o,p,q⟩
  ·exact .inl h
  ·exact .inr ⟨g,b,d,fps,rfl,i,(k g (ax ..)).trans j,m,o,p,OwnL.mono q fun f c x s u=>Own.keep u fun g a=>k g (aw _ (s g a))⟩
 | .pr _ _,_,_,_,_,_,⟨f1,f2,l,r,h,i,j,m⟩,k=>⟨f1,f2,l,r,h,i,Own.keep j fun g a=>k g (by rw[h]; exact aS _ a),Own.keep m fun g a=>k g (by rw[h]; exact aV _ a)⟩
theorem Own.lt:∀{t:Ty} {w:World} {fp:List Nat} {cs:List Value} {x:t.Den},Own t w fp cs x→∀g∈fp,g < w.heap.size
 | .int,_,_,_,_,h=>by rw[h.1]; simp
 | .bool,_,_,_,_,h=>by rw[h.1]; simp
 | .str,_,_,_,_,h=>by rw[h.1]; simp
 | .u8,_,_,_,_,h=>by rw[h.1]; simp
 | .vl,_,_,_,_,h=>by rw[h.1]; simp
 | .sl e E,w,_,_,_,h=>by
  rcases h with h | ⟨g,u,v,fps,rfl,s,j,o,z,A,m⟩
  ·rw[h.1]; simp
  ·intro y f
   rcases aC.1 f with rfl | f
   ·rcases cY y w.heap.size with q | p
    ·exact q
    ·rw[Array.getElem?_eq_none p] at j; cases j
   ·clear s o A
    generalize List.take _ _=cs at m
    revert m f
    clear j z
    rename_i xs
    induction xs generalizing fps cs with
    | nil=>intro f m; rw[m.1] at f; cases f
    | cons x xs F=>
     rintro f ⟨a,b,c,d,rfl,rfl,C,D⟩
     rcases aM.1 f with f | f
     ·exact Own.lt C _ f
     ·exact F b (aw _ f) d f D
 | .pr _ _,_,_,_,_,⟨f1,f2,l,r,h,s,j,o⟩=>by
  intro g i
  rw[h] at i
  rcases aM.1 i with i | i
  ·exact Own.lt j _ i
  ·exact Own.lt o _ i
theorem OwnL.get {e:Ty}{w:World}:∀{xs:List e.Den} {fp:List Nat} {cs:List Value},OwnL (Own e w) fp cs xs→∀i x,xs[i]? =some x→∃f h,Own e w f h x∧(∀g∈f,g∈fp)∧∀j u,h[j]? =some u→cs[i*e.wd+j]? =some u
 | [],_,_,_,i,x,hx=>by simp at hx
 | y :: xs,_,_,⟨a,b,c,d,h1,h2,h3,h4⟩,i,x,hx=>by
  cases i with
  | zero=>
   simp at hx
   subst hx
   refine ⟨a,c,h3,fun g m=>by rw[h1]; exact aS _ m,fun j u l=> ?_⟩
   rw[h2,Nat.zero_mul,ck,bo (ah.1 l).1]
   exact l
  | succ i=>
   obtain ⟨f,h,o,p,q⟩:=OwnL.get h4 i x (by simpa using hx)
   refine ⟨f,h,o,fun g m=>by rw[h1]; exact aV _ (p g m),fun j u l=> ?_⟩
   rw[h2,br (by rw[h3.len,bP]; omega),← q j u l,h3.len,bP]
   congr 1
   omega
theorem Own.rep:∀{t:Ty} {w:World} {fp:List Nat} {cs:List Value} {x:t.Den},Own t w fp cs x→Rep t w cs x
 | .int,_,_,_,_,h=>h.2
 | .bool,_,_,_,_,h=>h.2
 | .str,_,_,_,_,h=>h.2
 | .u8,_,_,_,_,h=>h.2
 | .vl,_,_,_,_,h=>h.2
 | .sl _ e,w,_,_,xs,h=>by
  rcases h with ⟨_,h,q⟩ | ⟨g,b,o,fps,rfl,c,d,m,s,D,v⟩
  ·subst q
   exact ⟨none,0,h,aK _,aP _,fun h=>absurd h (by simp)⟩
  ·refine ⟨_,b,c,m,s,fun _=>⟨g,0,rfl,fun i x C=> ?_⟩⟩
   obtain ⟨f,p,y,_,z⟩:=v.get i x C
   refine ⟨p,Own.rep y,fun j u A=> ?_⟩
   have a:=z j u A
   rw[bm] at a
   split at a
   ·simp only[World.cell?,d]
    simpa using a
   ·cases a
 | .pr _ _,_,_,_,_,⟨f1,f2,l,r,h,c,d,m⟩=>⟨l,r,c,Own.rep d,Own.rep m⟩
theorem Rep.one:∀{t:Ty} {w:World} {cs:List Value} {x:t.Den},Rep t w cs x→∀v∈cs,v.oneCell'=true
 | .int,_,_,_,h=>by rw[h.1]; simp[Value.oneCell']
 | .bool,_,_,_,h=>by have h:_=_:=h; rw[h]; simp[Value.oneCell']
 | .str,_,_,_,h=>by rw[h.1]; simp[Value.oneCell']
 | .u8,_,_,_,h=>by have h:_=_:=h; rw[h]; simp[Value.oneCell']
 | .vl,_,_,_,h=>by have h:_=_:=h; rw[h]; simpa using QrC _
 | .sl _ _,_,_,_,⟨_,_,h,_⟩=>by rw[h]; simp[Value.oneCell']
 | .pr _ _,_,_,_,⟨_,_,h,h1,h2⟩=>by
  intro v a
  rw[h] at a
  rcases aM.1 a with a | a
  ·exact Rep.one h1 v a
  ·exact Rep.one h2 v a
theorem QeJ {P:Program}(w:World)(a:Addr)(v:Value)(m:Mode)(h:v.oneCell'=true):(store a v m).run P w=stored P w a v m:=run_store P w a v m h
attribute [go_sem] QeJ
def Frs (t:Ty)(B U:Nat)(w:World)(cs:List Value)(x:t.Den):Prop:=∃fp,Own t w fp cs x∧fp.Nodup∧∀g∈fp,B≤g∧g < U
def FrsL (e:Ty)(B U:Nat)(w:World)(cs:List Value)(xs:List e.Den):Prop:=∃fp,OwnL (Own e w) fp cs xs∧fp.Nodup∧∀g∈fp,B≤g∧g < U
theorem Frs.rep {t:Ty}{B U:Nat}{w:World}{cs:List Value}{x:t.Den}(h:Frs t B U w cs x):Rep t w cs x:=h.choose_spec.1.rep
theorem Frs.mono {t:Ty}{B U a b:Nat}{w:World}{cs:List Value}{x:t.Den}(h:Frs t B U w cs x)(l:a≤B)(m:U≤b):Frs t a b w cs x:=by
 obtain ⟨c,d,f,i⟩:=h
 exact ⟨c,d,f,fun g j=>by have:=i g j; omega⟩
theorem Frs.keep {t:Ty}{B U:Nat}{w w':World}{cs:List Value}{x:t.Den}(h:Frs t B U w cs x)(i:∀g,B≤g→g < U→w'.heap[g]? =w.heap[g]?):Frs t B U w' cs x:=by
 obtain ⟨c,d,f,a⟩:=h
 exact ⟨c,d.keep fun g b=>i g (a g b).1 (a g b).2,f,a⟩
theorem FrsL.keep {e:Ty}{B U:Nat}{w w':World}{cs:List Value}{xs:List e.Den}(h:FrsL e B U w cs xs)(m:∀g,B≤g→g < U→w'.heap[g]? =w.heap[g]?):FrsL e B U w' cs xs:=by
 obtain ⟨i,j,l,a⟩:=h
 exact ⟨i,j.mono fun f c x b o=>o.keep fun g d=>m g (a g (b g d)).1 (a g (b g d)).2,l,a⟩
theorem U7 {l r:List Nat}{M:Nat}(c:l.Nodup)(d:r.Nodup)(i:∀g∈l,g < M)(j:∀g∈r,M≤g):(l++r).Nodup:=
 bi.2 ⟨c,d,fun a f b h e=>by have:=i a f; have:=j b h; omega⟩
theorem Frs.join {a b:Ty}{B M U:Nat}{w:World}{l r:List Value}{x:a.Den}{y:b.Den}(h:Frs a B M w l x)(k:Frs b M U w r y)(s:B≤M)(t:M≤U):Frs (.pr a b) B U w (l++r) (x,y):=by
 obtain ⟨d,m,o,i⟩:=h
 obtain ⟨f,p,q,j⟩:=k
 refine ⟨d++f,⟨d,f,l,r,rfl,rfl,m,p⟩,U7 o q (fun g c=>(i g c).2) (fun g c=>(j g c).1),fun g c=> ?_⟩
 rcases aM.1 c with c | c
 ·have:=i g c; omega
 ·have:=j g c; omega
theorem Frs.int {B U:Nat}{w:World}{x:Int}(h: -9223372036854775808≤x∧x≤9223372036854775807):Frs .int B U w [.int .i64 x] x:=⟨[],⟨rfl,rfl,h⟩,bJ,by simp⟩
theorem Frs.bool {B U:Nat}{w:World}{x:Bool}:Frs .bool B U w [.bool x] x:=⟨[],⟨rfl,rfl⟩,bJ,by simp⟩
theorem Frs.str {B U:Nat}{w:World}{x:ByteArray}(h:x.size≤maxLen):Frs .str B U w [.string x] x:=⟨[],⟨rfl,rfl,h⟩,bJ,by simp⟩
theorem Frs.nil {E:TypeId}{e:Ty}{B U:Nat}{w:World}:Frs (.sl E e) B U w [.slice none 0 0] []:=⟨[], .inl ⟨rfl,rfl,rfl⟩,bJ,by simp⟩
structure Fill (e:Ty) (E:TypeId) (w0:World) (g n k:Nat) (w:World) (xs:List e.Den):Prop where
  nw:Nw w0 w
  base:w0.heap.size≤g
  lt:g < w.heap.size
  row:∃cur,w.heap[g]? =some (.cells cur E (0,0))∧cur.size=n*e.wd∧FrsL e (g+1) w.heap.size w (cur.toList.take (k*e.wd)) (xs.take k)
def XL (w:World)(g off:Nat):List Value→World
 | []=>w
 | v :: vs=>XL (w.setCell ⟨g,off,none⟩ v) g (off+1) vs
theorem Qe3 (w:World)(g off:Nat)(vs:List Value):(XL w g off vs).heap.size=w.heap.size:=by
 induction vs generalizing w off with
 | nil=>rfl
 | cons v vs a=>simp[XL,a]
theorem YD (w:World)(g off:Nat)(vs:List Value)(k:Nat)(h:k≠g):(XL w g off vs).heap[k]? =w.heap[k]? :=by
 induction vs generalizing w off with
 | nil=>rfl
 | cons v vs a=>
  rw[XL,a]
  exact Below.heap_setCell w ⟨g,off,none⟩ v k h
theorem WF (g:Nat)(E:TypeId)(b:Nat×Nat)(vs:List Value):∀(w:World) (off:Nat) (cur:Array Value),w.heap[g]? =some (.cells cur E b)→off+vs.length≤cur.size→
 ∃a,(XL w g off vs).heap[g]? =some (.cells a E b)∧a.size=cur.size∧a.toList=cur.toList.take off++vs++cur.toList.drop (off+vs.length):=by
 induction vs with
 | nil=>intro w off cur h _; exact ⟨cur,h,rfl,by simp⟩
 | cons v vs m=>
  intro w off cur h l
  simp only[au] at l
  have d:(w.setCell ⟨g,off,none⟩ v).heap[g]? =some (.cells (cur.setIfInBounds off v) E b):=by simp[World.setCell,Array.getElem?_modify,h]
  obtain ⟨a,f,i,j⟩:=m (w.setCell ⟨g,off,none⟩ v) (off+1) (cur.setIfInBounds off v) d (by simp; omega)
  refine ⟨a,f,by simpa using i, ?_⟩
  rw[j]
  have c:off < cur.toList.length:=by simp; omega
  simp only[Array.toList_setIfInBounds,au]
  rw[List.drop_set_of_lt (by omega)]
  have:(cur.toList.set off v).take (off+1)=cur.toList.take off++[v]:=by
   rw[bQ (by simpa using c),List.take_set_of_le (aK _)]
   simp
  rw[this]
  simp[bW,Nat.add_comm 1 vs.length]
theorem Qrm {w0 w:World}(h:Nw w0 w){g:Nat}(a:w0.heap.size≤g)(off:Nat)(vs:List Value):Nw w0 (XL w g off vs):=by
 induction vs generalizing w off with
 | nil=>exact h
 | cons v vs b=>exact b (h.setCell (p:=⟨g,off,none⟩) a v) _
section
variable {e:Ty}{E:TypeId}{w0 w w1:World}{g n k:Nat}{xs:List e.Den}
theorem Fill.start (w0:World)(E:TypeId)(cur:Array Value)(n:Nat)(a:cur.size=n*e.wd)(xs:List e.Den):Fill e E w0 w0.heap.size n 0 (w0.alloc (.cells cur E)) xs:=
 ⟨(Q6 _).alloc _,aK _,by simp,cur,heap_alloc_new w0 _,a,[],by simpa using ⟨rfl,rfl⟩,bJ,by simp⟩
theorem Fill.cell (h:Fill e E w0 g n k w xs)(l:Nw w w1)(i:k < n){j:Nat}(m:j < e.wd):∃u,w1.cell? ⟨g,k*e.wd+j,none⟩=some u∧w1.frozen? ⟨g,k*e.wd+j,none⟩=false:=by
 obtain ⟨a,c,d,_⟩:=h.row
 have b:w1.heap[g]? =some (.cells a E (0,0)):=(Below.block l g h.lt).trans c
 have f:k*e.wd+j < a.size:=by
  rw[d]
  calc k*e.wd+j < k*e.wd+e.wd:=by omega
   _=(k+1)*e.wd:=by rw[bP,dk]
   _≤n*e.wd:=cv _ i
 exact ⟨a[k*e.wd+j],by simp[World.cell?,b,f],by simp[World.frozen?,b]⟩
theorem Fill.step (h:Fill e E w0 g n k w xs)(m:Nw w w1)(N:k < n){x:e.Den}(Q:xs[k]? =some x){cs:List Value}(v:Frs e w.heap.size w1.heap.size w1 cs x):Fill e E w0 g n (k+1) (XL w1 g (k*e.wd) cs) xs:=by
 obtain ⟨b,I,u,J⟩:=h.row
 have K:w1.heap[g]? =some (.cells b E (0,0)):=(Below.block m g h.lt).trans I
 have i:cs.length=e.wd:=by obtain ⟨_,p,_⟩:=v; exact p.len
 have j:k*e.wd+cs.length≤b.size:=by
  rw[u,i]
  calc k*e.wd+e.wd=(k+1)*e.wd:=by rw[bP,dk]
   _≤n*e.wd:=cv _ N
 obtain ⟨c,p,L,M⟩:=WF g E (0,0) cs w1 (k*e.wd) b K j
 have P:=m.size
 have O:=h.lt
 refine ⟨Qrm (h.nw.trans m) h.base _ _,h.base,by rw[Qe3]; omega,c,p,L.trans u, ?_⟩
 have o:FrsL e (g+1) w.heap.size (XL w1 g (k*e.wd) cs) (b.toList.take (k*e.wd)) (xs.take k):=J.keep fun f a d=>by
  rw[YD _ _ _ _ _ (by omega)]
  exact Below.block m f d
 have q:Frs e w.heap.size w1.heap.size (XL w1 g (k*e.wd) cs) cs x:=v.keep fun f a d=>YD _ _ _ _ _ (by omega)
 obtain ⟨G,y,z,s⟩:=o
 obtain ⟨H,A,C,t⟩:=q
 rw[Qe3]
 refine ⟨G++H, ?_,U7 z C (fun g r=>(s g r).2) (fun g r=>(t g r).1),fun f a=> ?_⟩
 ·have D:xs.take (k+1)=xs.take k++[x]:=by
   have l:=(ah.1 Q)
   rw[bQ l.1,l.2]
  have F:c.toList.take ((k+1)*e.wd)=b.toList.take (k*e.wd)++cs:=by
   have l:(b.toList.take (k*e.wd)++cs).length=(k+1)*e.wd:=by
    rw[ai,ap,i,bP,dk,cG (by simp; omega)]
   rw[M,← l,dh]
  rw[D,F]
  exact y.append (QhS A)
 ·rcases aM.1 a with a | a
  ·have:=s f a; omega
  ·have:=t f a; omega
theorem Qvl (h:Fill e E w0 g n n w xs)(q:xs.length=n)(p:n≤maxLen):Frs (.sl E e) g w.heap.size w [.slice (some ⟨g,0,none⟩) n n] xs:=by
 obtain ⟨b,j,l,c,d,m,f⟩:=h.row
 subst q
 rw[dU] at d
 refine ⟨g :: c, .inr ⟨g,xs.length,b,c,rfl,rfl,j,aK _,p,l,d⟩,bA.2 ⟨fun o=>by have:=f g o; omega,m⟩,fun i a=> ?_⟩
 rcases aC.1 a with rfl | a
 ·exact ⟨aK _,h.lt⟩
 ·have:=f i a; omega
end
section
variable {e:Ty}{E:TypeId}{w0 w w1:World}{g n k:Nat}{xs:List e.Den}
theorem Qtl (h:Fill e E w0 g n k w xs)(b:Nw w w1)(a:k < n)(q:e.wd=3):∃c d f,w1.cell? ⟨g,k*3,none⟩=some c∧w1.frozen? ⟨g,k*3,none⟩=false∧
 w1.cell? ⟨g,k*3+1,none⟩=some d∧w1.frozen? ⟨g,k*3+1,none⟩=false∧w1.cell? ⟨g,k*3+2,none⟩=some f∧w1.frozen? ⟨g,k*3+2,none⟩=false:=by
 obtain ⟨c,i,b0⟩:=h.cell b a (j:=0) (by omega)
 obtain ⟨d,l,o⟩:=h.cell b a (j:=1) (by omega)
 obtain ⟨f,m,p⟩:=h.cell b a (j:=2) (by omega)
 rw[q] at i b0 l o m p
 exact ⟨c,d,f,i,b0,l,o,m,p⟩
end
def Kb (B U:Nat)(w w':World):Prop:=∀g,B≤g→g < U→w'.heap[g]? =w.heap[g]?
section
variable {B U:Nat}{w w' w'':World}
theorem Qxt:Kb B U w w:=fun _ _ _=>rfl
theorem Kb.trans (h:Kb B U w w')(k:Kb B U w' w''):Kb B U w w'':=fun g a b=>(k g a b).trans (h g a b)
theorem Kb.setCell (h:Kb B U w w'){p:Addr}(c:p.block < B∨U≤p.block)(u:Value):Kb B U w (w'.setCell p u):=fun g a b=>(Below.heap_setCell w' p u g (by omega)).trans (h g a b)
theorem Kb.alloc (h:Kb B U w w')(c:U≤w'.heap.size)(o:Obj):Kb B U w (w'.alloc o):=fun g a b=>(Below.heap_alloc w' o g (by omega)).trans (h g a b)
theorem Kb.drew (h:Kb B U w w'):Kb B U w w'.drew:=h
theorem Kb.drewN (h:Kb B U w w')(n:Nat):Kb B U w (w'.drewN n):=h
theorem Kb.nw (h:Kb B U w w')(c:Nw w' w'')(d:U≤w'.heap.size):Kb B U w w'':=fun g a b=>(Below.block c g (by omega)).trans (h g a b)
theorem Qtn {p:Addr}{u:Value}(a:p.block < B∨U≤p.block)(h:Kb B U w w'):Kb B U w (w'.setCell p u):=h.setCell a u
end
theorem QxI {t:Ty}{B U:Nat}{w w':World}{cs:List Value}{x:t.Den}(h:Frs t B U w cs x)(a:Kb B U w w'):Frs t B U w' cs x:=h.keep a
def QyJ (E:TypeId)(e:Ty)(w:World)(xs:List e.Den)(n:Ending)(w':World):Prop:=∃A c,n= .returned (.slice A xs.length c)∧Frs (.sl E e) w.heap.size w'.heap.size w' [.slice A xs.length c] xs∧Nw w w'
def Qy0 (t:Ty)(w:World)(x:t.Den)(e:Ending)(w':World):Prop:=∃u0,e= .returned u0∧Frs t w.heap.size w'.heap.size w' [u0] x∧Nw w w'
def QyP (t:Ty)(w:World)(x:t.Den)(e:Ending)(w':World):Prop:=∃u0 u1,e= .returned (.agg #[u0,u1])∧Frs t w.heap.size w'.heap.size w' [u0,u1] x∧Nw w w'
def Qy2 (t:Ty)(w:World)(x:t.Den)(e:Ending)(w':World):Prop:=∃u0 u1 u2,e= .returned (.agg #[u0,u1,u2])∧Frs t w.heap.size w'.heap.size w' [u0,u1,u2] x∧Nw w w'
def QyT (t:Ty)(w:World)(x:t.Den)(e:Ending)(w':World):Prop:=∃u0 u1 u2 u3,e= .returned (.agg #[u0,u1,u2,u3])∧Frs t w.heap.size w'.heap.size w' [u0,u1,u2,u3] x∧Nw w w'
def QyL (t:Ty)(w:World)(x:t.Den)(e:Ending)(w':World):Prop:=∃u0 u1 u2 u3 u4,e= .returned (.agg #[u0,u1,u2,u3,u4])∧Frs t w.heap.size w'.heap.size w' [u0,u1,u2,u3,u4] x∧Nw w w'
theorem QkP {P:Program}(t E:TypeId)(z:Value)(b a:Nat)(m:P.underlying t=some (.slice E))(c:(P.info? E).map (fun i=>(i.zero,i.size,i.bytes))=some (some z,b,a))
 (n:Nat) (hbytes:a*n≤281474976710656) (h63:n≤9223372036854775807) (w:World):
 (Instr.makeSlice t (.int .i64 (n:Int)) (.int .i64 (n:Int))).run P w= .ok (.slice (some ⟨w.heap.size,0,none⟩) n n) (w.alloc (.cells (madeCells z.cells (n*b)) E)):=by
 obtain ⟨i,j,f⟩:=cj.1 c
 simp only[Prod.mk.injEq] at f
 obtain ⟨o,l,h⟩:=f
 have:=run_make (P:=P) w t E i z m j o .i64 .i64 n n (by omega) (cK _) (by rw[h]; have d:=Int.ofNat_le.2 hbytes; rw[Int.natCast_mul] at d; exact d) (by omega)
 simpa [l] using this
end Go.Proofs.YtndabgcpnmeeoaaGreat
namespace Go.Proofs.YtndabgcpnmeeoaaGreat
set_option maxHeartbeats 4000000
set_option maxRecDepth 100000
open Go.RowKit
def CutTo (l:Int)(t:Nat)(l':Int):Prop:=(l < t∧l'= -1)∨(t≤l∧l'=l - t)
theorem CutTo.le {l a:Int}{t:Nat}(h:CutTo l t a)(h0:0≤l)(b:l≤1048576): -1≤a∧a≤1048576:=by unfold CutTo at h; omega
def SzPost (w:World)(l:Int)(t:Nat)(e:Ending)(w':World):Prop:=∃l',e= .returned (.int .i64 l')∧CutTo l t l'∧Nw w w'
end Go.Proofs.YtndabgcpnmeeoaaGreat
namespace Go.Proofs.YtndabgcpnmeeoaaGreat
set_option maxHeartbeats 4000000
set_option maxRecDepth 100000
open Go.RowKit
def Qxs (w:World)(e:Ending)(w':World):Prop:=e= .returned (.bool true)∧Nw w w'
end Go.Proofs.YtndabgcpnmeeoaaGreat
namespace Go.Proofs.YtndabgcpnmeeoaaGreat
set_option maxHeartbeats 4000000
set_option maxRecDepth 100000
open Go.RowKit
theorem JC (p:Qz→Prop)(xs:List (Qz))(v:Value)(F:Nat)(caps:Array Value)(w:World)(hr:Rep (.sl 77 Xb) w [v] xs)(hcf:Qg Tryz.prog F)
 (hF:∀(i:Nat) (x:Qz) (W:World) (v0 v1:Value),xs[i]? =some x→Nw w W→Rep Xb W [v0,v1] x→Calls Tryz.prog F (#[.agg #[v0,v1]]++caps) W (RetB (p x) W)):
 Calls Tryz.prog 438 #[v, .func (.func F) #[] caps] w (QtT p xs w):=by
 obtain ⟨A,c,rfl,hl,hc⟩:=hr.slv
 have hm:xs.length≤9223372036854775807:=by unfold maxLen at hc; omega
 have HF:=hid hF
 clear hF
 go_enter Tryz.func438,Tryz.ntmps438
 go_wp2
 go_loopw [8] (fun i wr=>∃k:Nat,k≤xs.length∧i= .int .i64 k∧(∀j x,j < k→xs[j]? =some x→¬p x)∧Nw w wr) (fun i _=>xs.length - (intOf i).toNat)
 case atStart=>exact ⟨0,aP _,rfl,fun j x h=>absurd h (by omega),Q6 _⟩
 case round=>
  obtain ⟨k,hk,rfl,hno,hq⟩:=hrel
  have HN:=hid hno
  clear hno
  by_cases hlt:k < xs.length
  ·obtain ⟨b,o,v0,v1,rfl,hx,c0,c1⟩:=(hr.nw hq).at2 rfl (aj hlt)
   have hcf:=hcf
   unfold Qg at hcf
   have hcall:=HF.out k _ wr v0 v1 (aj hlt) hq hx
   have HC:=hid hcall
   clear hcall
   go_wp2_with fail
   refine Calls.mono HC.out ?_
   rintro e w1 ⟨bb,rfl,hb,hq1⟩
   cases bb with
   | true=>
    have HP:=hid (hb.1 rfl)
    clear hb
    go_wp2
    go_ret
    exact ⟨_,rfl, .inr ⟨k,rfl,hlt,fun y hy=>by rw[aj hlt] at hy; cases hy; exact HP.out,HN.out⟩,hq.trans hq1⟩
   | false=>
    have HP:=hid (fun hp=>absurd (hb.2 hp) (by simp):¬p xs[k])
    clear hb
    go_wp2
    go_roundw
    case rel=>exact ⟨k+1,by omega,by go_num,fun j y hj hy=>by
     by_cases e1:j=k
     ·subst e1
      rw[aj hlt] at hy
      cases hy
      exact HP.out
     ·exact HN.out j y (by omega) hy,hq.trans hq1⟩
    case measure=>simp[intOf]; omega
  ·go_wp2
   go_ret
   refine ⟨_,rfl, .inl ⟨rfl,fun x hx=> ?_⟩,hq⟩
   obtain ⟨j,hj,hjx⟩:=List.mem_iff_getElem.1 hx
   exact HN.out j x (by omega) (by rw[aj hj,hjx])
theorem UG (p:Qz→Prop)(xs:List (Qz))(v:Value)(F:Nat)(caps:Array Value)(w:World)(g:Rep (.sl 77 Xb) w [v] xs)(b:Qg Tryz.prog F)
 (hF:∀(i:Nat) (x:Qz) (W:World) (h j:Value),xs[i]? =some x→Nw w W→Rep Xb W [h,j] x→Calls Tryz.prog F (#[.agg #[h,j]]++caps) W (RetB (p x) W)):
 Calls Tryz.prog 313 #[v, .func (.func F) #[] caps] w (RetB (∃x∈xs,p x) w):=by
 have a:=JC p xs v F caps w g b hF
 obtain ⟨A,c,rfl,q,m⟩:=g.slv
 have n:xs.length≤9223372036854775807:=by unfold maxLen at m; omega
 have k:=hid a
 clear a hF
 go_enter Tryz.func313,Tryz.ntmps313
 go_wp2_with fail
 refine Calls.mono k.out ?_
 rintro e s ⟨r,rfl,d,f⟩
 have o:=d.range n
 have l:=hid d
 clear d
 go_wp2
 go_ret
 exact RetB.of (by rw[← l.out.any]; simp) f
end Go.Proofs.YtndabgcpnmeeoaaGreat
namespace Go.Proofs.YtndabgcpnmeeoaaGreat
set_option maxHeartbeats 4000000
set_option maxRecDepth 100000
open Go.RowKit
theorem QpM {s t:ByteArray}(h:(s.toList==t.toList)=true):s=t:=by
 have h:s.toList=t.toList:=by simpa using h
 rw[bp,bp] at h
 cases s; cases t
 exact congrArg _ (Array.toList_inj.1 h)
theorem Quc {s t:ByteArray}(h:(s.toList==t.toList)=false):s≠t:=by
 rintro rfl
 simp at h
theorem Qpt {s t:ByteArray}(h:s=t):(s.toList==t.toList)=true:=by subst h; simp
theorem Qq4 {s t:ByteArray}(h:s≠t):(s.toList==t.toList)=false:=by
 cases e:(s.toList==t.toList) with
 | false=>rfl
 | true=>exact absurd (QpM e) h
def Ys (k c:Nat):Prop:=(97≤c∧c≤122)∨(k≠0∧48≤c∧c≤57)
def Qdt (s:ByteArray):Prop:=(∀k (h:k < s.size),Ys k s[k].toNat)∧1≤s.size∧s.size≤6
def Qqt (c:Nat):Prop:=c=48∨c=49∨c=45
def Qn4 (s:ByteArray):Prop:=∀k (h:k < s.size),Qqt s[k].toNat
theorem J6 (n lo hi:Int)(w:World):Calls Tryz.prog 107 #[.int .i64 n, .int .i64 lo, .int .i64 hi] w (RetB (lo≤n∧n≤hi) w):=by
 by_cases a:lo≤n
 ·by_cases b:n≤hi
  all_goals
   go_enter Tryz.func107,Tryz.ntmps107
   go_wp2
   go_ret
   exact RetB.of (by simp; omega) (Q6 _)
 ·go_enter Tryz.func107,Tryz.ntmps107
  go_wp2
  go_ret
  exact RetB.of (by simp; omega) (Q6 _)
theorem Ud (n lo hi:Int)(w:World):Calls Tryz.prog 215 #[.int .i64 n, .int .i64 lo, .int .i64 hi] w (RetB (lo≤n∧n≤hi) w):=by
 by_cases a:lo≤n
 ·by_cases b:n≤hi
  all_goals
   go_enter Tryz.func215,Tryz.ntmps215
   go_wp2
   go_ret
   exact RetB.of (by simp; omega) (Q6 _)
 ·go_enter Tryz.func215,Tryz.ntmps215
  go_wp2
  go_ret
  exact RetB.of (by simp; omega) (Q6 _)
theorem QeY {s:ByteArray}{k:Nat}(h:k < s.size)(a:¬Ys k s[k].toNat):¬Qdt s:=fun b=>a (b.1 k h)
theorem JV {s:ByteArray}{k:Nat}(h:k < s.size)(d:∀j (h:j < s.size),j < k→Ys j s[j].toNat)(a:Ys k s[k].toNat):∀j (h:j < s.size),j < k+1→Ys j s[j].toNat:=by
 intro j b c
 by_cases e:j=k
 ·subst e; exact a
 ·exact d j b (by omega)
theorem Qk7 (s:ByteArray)(w:World)(hs:s.size≤maxLen):Calls Tryz.prog 349 #[.string s] w (RetB (Qdt s) w):=by
  have hm:s.size≤9223372036854775807:=hs
  go_enter Tryz.func349,Tryz.ntmps349
  go_wp2
  go_loop [3] (fun i=>∃k:Nat,k≤s.size∧i= .int .i64 k∧∀j (h:j < s.size),j < k→Ys j s[j].toNat) (fun i=>s.size - (intOf i).toNat)
  case atStart=>exact ⟨0,aP _,rfl,fun j h h'=>absurd h' (by omega)⟩
  case round=>
    obtain ⟨k,hk,rfl,hyes⟩:=hrel
    have HY:=hid hyes
    clear hyes
    by_cases hlt:k < s.size
    · rcases (by omega : s[k].toNat < 48 ∨ (48 ≤ s[k].toNat ∧ s[k].toNat ≤ 57) ∨ (58 ≤ s[k].toNat ∧ s[k].toNat ≤ 96) ∨ (97 ≤ s[k].toNat ∧ s[k].toNat ≤ 122) ∨ 123 ≤ s[k].toNat) with h1 | ⟨h1, h2⟩ | ⟨h1, h2⟩ | ⟨h1, h2⟩ | h1
      all_goals first | have d0:decide ((97:Int)≤(s[k].toNat:Int))=true:=aE (by omega) | have d0:decide ((97:Int)≤(s[k].toNat:Int))=false:=aB (by omega)
      all_goals first | have d1:decide ((s[k].toNat:Int)≤122)=true:=aE (by omega) | have d1:decide ((s[k].toNat:Int)≤122)=false:=aB (by omega)
      all_goals first | have d2:decide ((48:Int)≤(s[k].toNat:Int))=true:=aE (by omega) | have d2:decide ((48:Int)≤(s[k].toNat:Int))=false:=aB (by omega)
      all_goals first | have d3:decide ((s[k].toNat:Int)≤57)=true:=aE (by omega) | have d3:decide ((s[k].toNat:Int)≤57)=false:=aB (by omega)
      all_goals first | have d4:decide ((s[k].toNat:Int) < 48)=true:=aE (by omega) | have d4:decide ((s[k].toNat:Int) < 48)=false:=aB (by omega)
      all_goals first | have d5:decide ((57:Int) < (s[k].toNat:Int))=true:=aE (by omega) | have d5:decide ((57:Int) < (s[k].toNat:Int))=false:=aB (by omega)
      all_goals rcases Nat.eq_zero_or_pos k with rfl | hk0
      all_goals try have hk1:((k:Int)==0)=false:=by simp; omega
      all_goals go_wp2
      all_goals first
        | (go_ret
           exact RetB.no (QeY hlt (by unfold Ys; omega)) (Q6 _))
        | (go_round
           case rel=>exact ⟨_+1,by omega,by go_num,JV hlt HY.out (by unfold Ys; omega)⟩
           case measure=>simp[intOf]; omega)
    · have : k = s.size := by omega
      subst this
      go_wp2_with (go_at_call 215; refine (Ud _ _ _ _).mono ?_; rintro e w1 ⟨b,rfl,hb,hq1⟩)
      go_ret
      refine RetB.of (hb.trans ⟨fun h=>⟨fun j hj=>HY.out j hj hj,by omega,by omega⟩,fun h=>by have:=h.2; omega⟩) hq1
theorem QiX (s:ByteArray)(w:World)(hs:s.size≤maxLen):Calls Tryz.prog 312 #[.string s] w (RetB (Qdt s) w):=by
  have hm:s.size≤9223372036854775807:=hs
  go_enter Tryz.func312,Tryz.ntmps312
  go_wp2
  go_loopw [3] (fun i wr=>∃k:Nat,k≤s.size∧i= .int .i64 k∧(∀j (h:j < s.size),j < k→Ys j s[j].toNat)∧Nw w wr) (fun i _=>s.size - (intOf i).toNat)
  case atStart=>exact ⟨0,aP _,rfl,fun j h h'=>absurd h' (by omega),Q6 _⟩
  case round=>
    obtain ⟨k,hk,rfl,hyes,hq⟩:=hrel
    have HY:=hid hyes
    clear hyes
    by_cases hlt:k < s.size
    · have hi0 : (0 : Int) ≤ k := by omega
      have hi1:(k:Int) < s.size:=by omega
      rcases (by omega:s[k].toNat < 48∨(48≤s[k].toNat∧s[k].toNat≤57)∨(58≤s[k].toNat∧s[k].toNat≤96)∨(97≤s[k].toNat∧s[k].toNat≤122)∨123≤s[k].toNat) with h1 | ⟨h1,h2⟩ | ⟨h1,h2⟩ | ⟨h1,h2⟩ | h1
      all_goals first | have d0:decide ((97:Int)≤(s[k].toNat:Int))=true:=aE (by omega) | have d0:decide ((97:Int)≤(s[k].toNat:Int))=false:=aB (by omega)
      all_goals first | have d1:decide ((s[k].toNat:Int)≤122)=true:=aE (by omega) | have d1:decide ((s[k].toNat:Int)≤122)=false:=aB (by omega)
      all_goals first | have d2:decide ((48:Int)≤(s[k].toNat:Int))=true:=aE (by omega) | have d2:decide ((48:Int)≤(s[k].toNat:Int))=false:=aB (by omega)
      all_goals first | have d3:decide ((s[k].toNat:Int)≤57)=true:=aE (by omega) | have d3:decide ((s[k].toNat:Int)≤57)=false:=aB (by omega)
      all_goals first | have d4:decide ((s[k].toNat:Int) < 48)=true:=aE (by omega) | have d4:decide ((s[k].toNat:Int) < 48)=false:=aB (by omega)
      all_goals first | have d5:decide ((57:Int) < (s[k].toNat:Int))=true:=aE (by omega) | have d5:decide ((57:Int) < (s[k].toNat:Int))=false:=aB (by omega)
      all_goals rcases Nat.eq_zero_or_pos k with rfl | hk0
      all_goals try have hk1:((k:Int)==0)=false:=by simp; omega
      all_goals go_wp2_with fail
      all_goals go_quiet (fail)
      all_goals go_wp2
      all_goals first
        | (go_ret
           exact RetB.no (QeY hlt (by unfold Ys; omega)) (hq.drewN _))
        | (go_roundw
           case rel=>exact ⟨_+1,by omega,by go_num,JV hlt HY.out (by unfold Ys; omega),hq.drewN _⟩
           case measure=>simp[intOf]; omega)
    · have : k = s.size := by omega
      subst this
      go_wp2_with (go_at_call 107; refine (J6 _ _ _ _).mono ?_; rintro e w1 ⟨b,rfl,hb,hq1⟩)
      go_ret
      refine RetB.of (hb.trans ⟨fun h=>⟨fun j hj=>HY.out j hj hj,by omega,by omega⟩,fun h=>by have:=h.2; omega⟩) (hq.trans hq1)
theorem QcK {a b:Int}(h:a≠b):(a != b)=true:=by simpa using h
theorem Qfi {a b:Int}(h:a=b):(a != b)=false:=by simpa using h
theorem QcS {a b:Int}(h:a=b):(a==b)=true:=by simpa using h
theorem Jh {a b:Int}(h:a≠b):(a==b)=false:=by simpa using h
end Go.Proofs.YtndabgcpnmeeoaaGreat
