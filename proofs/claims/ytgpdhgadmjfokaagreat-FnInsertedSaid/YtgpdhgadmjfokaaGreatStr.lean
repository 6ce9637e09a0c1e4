/- How Go's data of this program lie in memory: a small universe of types, and what it means that cells read as a datum. No program is named here. -/
import Derived.WalkKit
import Derived.ChangeArms
import Derived.DataReads
import Derived.Deep.Draws
import Derived.WalkSpells
import Derived.WalkLawsBesides
import Derived.Deep.LoopGhost
import Derived.Deep.QuietTactic
import Derived.BigQuiet
import Derived.Test.YtgpdhgadmjfokaaGreatProg
import Derived.StillTailTactics
set_option linter.unusedSimpArgs false
set_option linter.unusedVariables false
set_option linter.unusedSectionVars false
namespace Go.Proofs.YtgpdhgadmjfokaaGreat
section
open Go
set_option linter.defProp false
def aa:=@of_decide_eq_false
def ab:=@of_decide_eq_true
def ae:=@List.getElem?_eq_some_iff
def ah:=@List.length_append
def ai:=@List.mem_of_getElem?
def aj:=@List.getElem?_eq_getElem
def ak:=@Option.getD_some
def ao:=@Option.getD_none
def ap:=@List.length_cons
def aq:=@List.all_eq_true
def au:=@List.length_take
def av:=@List.mem_cons_of_mem
def aw:=@Go.Sem.run_bind
def ax:=@List.mem_cons_self
def ay:=@List.length_set
def az:=@List.mem_singleton
def aA:=@List.mem_append
def aB:=@List.mem_cons
def aC:=@Nat.le_of_ble_eq_true
def aD:=@List.length_nil
def aE:=@List.length_map
def aF:=@List.cons.injEq
def aG:=@Result.andThen_ok
def aH:=@List.mem_append_left
def aI:=@decide_eq_false
def aJ:=@List.mem_iff_getElem?
def aK:=@List.length_replicate
def aL:=@Bool.and_eq_true
def aM:=@Nat.le_refl
def aN:=@List.mem_append_right
def aO:=@List.append_assoc
def aP:=@Nat.zero_le
def aQ:=@ByteArray.size_append
def aR:=@List.mem_map
def aS:=@ByteArray.size_extract
def aT:=@decide_eq_true
def aU:=@List.nodup_append
def aV:=@decide_eq_true_eq
def aW:=@List.getElem?_map
def aX:=@List.getElem?_set_self
def aY:=@Nat.eq_of_beq_eq_true
def aZ:=@List.map_cons
def ba:=@List.foldl_cons
def bc:=@List.getElem?_append_left
def bd:=@Go.Sem.run_pure
def be:=@List.getElem?_append_right
def bf:=@Option.isSome_iff_exists
def bg:=@Nat.le_trans
def bh:=@List.getElem?_set_ne
def bi:=@List.nodup_cons
def bj:=@List.all_cons
def bk:=@Nat.not_lt_zero
def bl:=@List.pairwise_cons
def bm:=@List.getElem?_take
def bn:=@Nat.lt_of_lt_of_le
def bo:=@Option.some.injEq
def bp:=@List.append_nil
def bq:=@List.take_of_length_le
def br:=@Nat.add_sub_cancel_left
def bt:=@ByteArray.toList_eq
def bu:=@List.getElem?_eq_none
def bw:=@List.length_drop
def bz:=@List.all_nil
def bA:=@Array.getElem?_eq_some_iff
def bB:=@List.map_append
def bC:=@List.nodup_nil
def bD:=@List.drop_eq_nil_of_le
def bE:=@List.foldl_append
def bF:=@List.ext_getElem?
def bG:=@List.filter_append
def bH:=@Nat.add_mul
def bI:=@List.getElem?_set
def bJ:=@Array.getElem?_setIfInBounds_ne
def bK:=@Array.getD_eq_getD_getElem?
def bL:=@Nat.zero_add
def bM:=@Nat.add_assoc
def bN:=@List.getElem?_cons_zero
def bO:=@List.eq_nil_of_length_eq_zero
def bP:=@List.Pairwise.nil
def bQ:=@List.take_succ_eq_append_getElem
def bR:=@List.take_append_drop
def bS:=@List.nil_append
def bT:=@decide_eq_false_iff_not
def bU:=@Bool.eq_false_iff
def bV:=@Bool.false_eq_true
def bW:=@Bool.or_eq_true
def bX:=@List.cons_append
def bY:=@List.any_eq_true
def cc:=@Bool.not_eq_true'
def cd:=@List.findIdx?_eq_some_iff_getElem
def ce:=@Bool.eq_iff_iff
def ci:=@Nat.mul_le_mul_right
def cj:=@List.mem_or_eq_of_mem_set
def ck:=@Classical.byContradiction
def co:=@List.pairwise_singleton
def cp:=@List.getElem?_replicate
def cq:=@List.foldl_nil
def cr:=@List.pairwise_map
def cu:=@Int.toNat_natCast
def cv:=@Nat.mul_one
def cw:=@Nat.min_eq_left
def cA:=@List.mem_filter
def cB:=@Option.map_eq_some_iff
def cC:=@Nat.ble_eq_true_of_le
def cD:=@List.set_cons_succ
def cE:=@List.getElem?_drop
def cF:=@List.getElem?_modify
def cG:=@Option.some.inj
def cH:=@List.eq_of_mem_replicate
def cI:=@List.any_eq_false
def cJ:=@List.getElem_mem
def cK:=@Nat.one_mul
def cM:=@Nat.lt_or_ge
def cN:=@List.range_succ
def cO:=@List.length_filter_le
def cP:=@Nat.le_succ_of_le
def cQ:=@Bool.and_true
def cR:=@Bool.or_eq_false_iff
def cU:=@List.mem_range
def cV:=@decide_eq_decide
def cW:=@Nat.mod_eq_of_lt
def cX:=@List.filter_cons
def cY:=@Array.toList_map
def cZ:=@List.filter_eq_self
def da:=@Int.toNat_of_nonneg
def db:=@Option.map_some
def dc:=@List.take_zero
def dd:=@List.take_left
def de:=@List.drop_drop
def dh:=@List.Perm.refl
def di:=@getElem?_pos
def dk:=@Nat.beq_refl
def dl:=@List.set_set
def dn:=@List.map_nil
def dp:=@List.map_map
def dq:=@List.not_mem_nil
def dr:=@List.map_toArray
def dt:=@Option.map_none
def du:=@Int.le_refl
def dx:=@Sem.run_bind
def dy:=@Prod.ext
def dD:=@Nat.sub_self
def dE:=@Nat.add_zero
def dF:=@Nat.mul_le_mul
end
set_option maxHeartbeats 4000000
set_option maxRecDepth 100000
open Go.RowKit
abbrev Hdr:=Option (Nat×Nat×Nat×Nat)
def hdV:Hdr→Value
 | none=> .slice none 0 0
 | some (g,o,n,c)=> .slice (some ⟨g,o,none⟩) n c
theorem QqE (x:Hdr):(hdV x).oneCell'=true:=by
 match x with
 | none=>simp[hdV,Value.oneCell']
 | some (g,o,n,c)=>simp[hdV,Value.oneCell']
theorem Qkt {x y:Hdr}(h:hdV x=hdV y):x=y:=by
 match x,y with
 | none,none=>rfl
 | none,some (g,o,n,c)=>simp[hdV] at h
 | some (g,o,n,c),none=>simp[hdV] at h
 | some (g,o,n,c),some (g',o',n',c')=>
  simp[hdV] at h
  obtain ⟨⟨rfl,rfl⟩,rfl,rfl⟩:=h
  rfl
inductive Ty where
  | int | bool | str | u8 | vl
  | sl (E:TypeId) (e:Ty)
  | pr (a b:Ty)
@[reducible] def Ty.Den:Ty→Type
 | .int=>Int
 | .bool=>Bool
 | .str=>ByteArray
 | .u8=>UInt8
 | .vl=>Hdr
 | .sl _ e=>List e.Den
 | .pr a b=>a.Den×b.Den
@[reducible] def Ty.wd:Ty→Nat
 | .pr a b=>a.wd+b.wd
 | .int=>1
 | .bool=>1
 | .str=>1
 | .u8=>1
 | .vl=>1
 | .sl _ _=>1
theorem WK:∀t:Ty,0 < t.wd
 | .int=>Nat.one_pos
 | .bool=>Nat.one_pos
 | .str=>Nat.one_pos
 | .u8=>Nat.one_pos
 | .vl=>Nat.one_pos
 | .sl _ _=>Nat.one_pos
 | .pr a _=>Nat.add_pos_left (WK a) _
def Rep:(t:Ty)→World→List Value→t.Den→Prop
 | .int,_,cs,x=>cs=[.int .i64 x]∧ -9223372036854775808≤x∧x≤9223372036854775807
 | .bool,_,cs,x=>cs=[.bool x]
 | .str,_,cs,x=>cs=[.string x]∧x.size≤maxLen
 | .u8,_,cs,x=>cs=[.int .u8 x.toNat]
 | .vl,_,cs,x=>cs=[hdV x]
 | .sl _ e,w,cs,xs=>∃A c,cs=[.slice A xs.length c]∧xs.length≤c∧c≤maxLen∧
  (0 < xs.length→∃b o,A=some ⟨b,o,none⟩∧∀i x,xs[i]? =some x→∃ds,Rep e w ds x∧∀j u,ds[j]? =some u→w.cell? ⟨b,o+i*e.wd+j,none⟩=some u)
 | .pr a b,w,cs,x=>∃l r,cs=l++r∧Rep a w l x.1∧Rep b w r x.2
def Kp (w w':World):Prop:=∀a v,w.cell? a=some v→w'.cell? a=some v
theorem Qvb (w:World):Kp w w:=fun _ _ h=>h
theorem Kp.trans {a b c:World}(h:Kp a b)(k:Kp b c):Kp a c:=fun p v q=>k p v (h p v q)
theorem QbR {w w':World}(h:Below w.heap.size w w'):Kp w w':=fun a v e=>by
 rw[h.cell (World.block_lt_of_cell? w a e)]; exact e
theorem Kp.alloc (w:World)(o:Obj):Kp w (w.alloc o):=QbR ((Below.refl _ _).alloc (aM _) o)
theorem Rep.len:∀{t:Ty} {w:World} {cs:List Value} {x:t.Den},Rep t w cs x→cs.length=t.wd
 | .int,_,_,_,h=>by rw[h.1]; rfl
 | .bool,_,_,_,h=>by have h:_=_:=h; rw[h]; rfl
 | .str,_,_,_,h=>by rw[h.1]; rfl
 | .u8,_,_,_,h=>by have h:_=_:=h; rw[h]; rfl
 | .vl,_,_,_,h=>by have h:_=_:=h; rw[h]; rfl
 | .sl _ _,_,_,_,⟨_,_,h,_⟩=>by rw[h]; rfl
 | .pr _ _,_,_,_,⟨_,_,h,h1,h2⟩=>by rw[h,ah,Rep.len h1,Rep.len h2]
theorem Rep.kp:∀{t:Ty} {w w':World} {cs:List Value} {x:t.Den},Rep t w cs x→Kp w w'→Rep t w' cs x
 | .int,_,_,_,_,h,_=>h
 | .bool,_,_,_,_,h,_=>h
 | .str,_,_,_,_,h,_=>h
 | .u8,_,_,_,_,h,_=>h
 | .vl,_,_,_,_,h,_=>h
 | .sl _ _,_,_,_,_,⟨A,c,h,h1,h2,h3⟩,k=>⟨A,c,h,h1,h2,fun m=>by
  obtain ⟨b,o,e,d⟩:=h3 m
  refine ⟨b,o,e,fun i x p=> ?_⟩
  obtain ⟨a,f,g⟩:=d i x p
  exact ⟨a,Rep.kp f k,fun j u n=>k _ _ (g j u n)⟩⟩
 | .pr _ _,_,_,_,_,⟨l,r,h,h1,h2⟩,k=>⟨l,r,h,Rep.kp h1 k,Rep.kp h2 k⟩
theorem Qtv {t:Ty}{w w':World}{cs:List Value}{x:t.Den}(h:Rep t w cs x)(hb:Below w.heap.size w w'):Rep t w' cs x:=h.kp (QbR hb)
theorem Rep.alloc {t:Ty}{w:World}{cs:List Value}{x:t.Den}(h:Rep t w cs x)(o:Obj):Rep t (w.alloc o) cs x:=h.kp (Kp.alloc w o)
theorem Rep.drew {t:Ty}{w:World}{cs:List Value}{x:t.Den}(h:Rep t w cs x):Rep t w.drew cs x:=h.kp fun _ _ e=>e
theorem Rep.drewN {t:Ty}{w:World}{cs:List Value}{x:t.Den}(h:Rep t w cs x)(n:Nat):Rep t (w.drewN n) cs x:=h.kp fun _ _ e=>e
theorem Rep.slv {E:TypeId}{e:Ty}{w:World}{v:Value}{xs:List e.Den}(h:Rep (.sl E e) w [v] xs):∃A c,v= .slice A xs.length c∧xs.length≤c∧c≤maxLen:=by
 obtain ⟨A,c,h,a,b,_⟩:=h
 exact ⟨A,c,by simpa using h,a,b⟩
theorem Rep.at_ {E:TypeId}{e:Ty}{w:World}{A:Option Addr}{n c:Nat}{xs:List e.Den}(h:Rep (.sl E e) w [.slice A n c] xs){i:Nat}{x:e.Den}(d:xs[i]? =some x):
 ∃b o a,A=some ⟨b,o,none⟩∧Rep e w a x∧∀j u,a[j]? =some u→w.cell? ⟨b,o+i*e.wd+j,none⟩=some u:=by
 obtain ⟨p,q,h,r,s,g⟩:=h
 simp only[aF,Value.slice.injEq,and_true] at h
 obtain ⟨rfl,rfl,rfl⟩:=h
 have t:i < xs.length:=(ae.1 d).1
 obtain ⟨b,o,f,k⟩:=g (by omega)
 obtain ⟨a,l,m⟩:=k i x d
 exact ⟨b,o,a,f,l,m⟩
theorem Rep.cut {E:TypeId}{e:Ty}{w:World}{A:Option Addr}{n c:Nat}{xs:List e.Den}(h:Rep (.sl E e) w [.slice A n c] xs){m:Nat}(u:m≤n)(a:Nat)(t:m≤a)(f:a≤maxLen):
 Rep (.sl E e) w [.slice A m a] (xs.take m):=by
 obtain ⟨q,g,h,r,s,k⟩:=h
 simp only[aF,Value.slice.injEq,and_true] at h
 obtain ⟨rfl,rfl,rfl⟩:=h
 have p:(xs.take m).length=m:=by simp; omega
 refine ⟨A,a,by rw[p],by omega,f,fun v=> ?_⟩
 obtain ⟨b,o,j,l⟩:=k (by omega)
 refine ⟨b,o,j,fun i x d=>l i x ?_⟩
 rw[bm] at d
 split at d
 ·exact d
 ·cases d
theorem Rep.int_ {w:World}{v:Value}{x:Int}(h:Rep .int w [v] x):v= .int .i64 x∧ -9223372036854775808≤x∧x≤9223372036854775807:=⟨by simpa using h.1,h.2⟩
theorem Rep.bool_ {w:World}{v:Value}{x:Bool}(h:Rep .bool w [v] x):v= .bool x:=by have h:_=_:=h; simpa using h
theorem Rep.str_ {w:World}{v:Value}{x:ByteArray}(h:Rep .str w [v] x):v= .string x∧x.size≤maxLen:=⟨by simpa using h.1,h.2⟩
theorem Rep.pr1 {a b:Ty}{w:World}{v:Value}{cs:List Value}{x:a.Den×b.Den}(h:Rep (.pr a b) w (v :: cs) x)(e:a.wd=1):Rep a w [v] x.1∧Rep b w cs x.2:=by
 obtain ⟨l,r,h,c,d⟩:=h
 match l,c.len.trans e with
 | [u],_=>
  simp only[bX,bS,aF] at h
  obtain ⟨rfl,rfl⟩:=h
  exact ⟨c,d⟩
theorem Qjn {α:Type}{n:Nat}{p:Nat→α→Prop}(h:∀i,i < n→∃d,p i d):∃xs:List α,xs.length=n∧∀i x,xs[i]? =some x→p i x:=by
 induction n with
 | zero=>exact ⟨[],rfl,by simp⟩
 | succ n g=>
  obtain ⟨xs,b,c⟩:=g (fun i f=>h i (by omega))
  obtain ⟨d,e⟩:=h n (by omega)
  refine ⟨xs++[d],by simp[b],fun i x a=> ?_⟩
  rw[List.getElem?_append] at a
  split at a
  ·exact c i x a
  ·have:i=n:=by
    have:=(ae.1 a).1
    simp at this
    omega
   subst this
   simp[b] at a
   subst a
   exact e
def Trd (P:Program)(T:TypeId)(t:Ty):Prop:=
 P.cellsOf T=t.wd∧∀{H:Type} (enc:TypeId×Value→H) (w:World) (base:Nat) (spare:Nat→Bool) (held:Bool) (fuel:Nat) (cs:List Value) (x:DataW H×List MemPlace),
  DataW.trod enc P w base spare held fuel T cs=some x→∃d,Rep t w cs d
section
variable {P:Program}{T:TypeId}
theorem Trd.int (h:P.underlying T=some (.int .i64))(g:P.cellsOf T=1):Trd P T .int:=⟨g,fun f w c b e d j x i=>by
 obtain ⟨n,rfl,_,a⟩:=DataW.trod_int h i
 refine ⟨n,rfl, ?_⟩
 simp[Lit.wf] at a
 exact ⟨a.1,a.2⟩⟩
theorem Trd.bool (h:P.underlying T=some .bool)(g:P.cellsOf T=1):Trd P T .bool:=⟨g,fun f w c a e d j x i=>by
 obtain ⟨b,rfl,_⟩:=DataW.trod_bool h i
 exact ⟨b,rfl⟩⟩
theorem Trd.str (h:P.underlying T=some .string)(f:P.cellsOf T=1):Trd P T .str:=⟨f,fun e w b a d c j x i=>by
 obtain ⟨s,rfl,_,g⟩:=DataW.trod_string h i
 exact ⟨s,rfl,g⟩⟩
theorem Trd.sl {E:TypeId}{e:Ty}(h:P.underlying T=some (.slice E))(S:P.cellsOf T=1)(K:Trd P E e):Trd P T (.sl E e):=⟨S,fun N w G F L J cs x A=>by
 rcases DataW.trod_slice h A with ⟨rfl,_⟩ | ⟨a,D,v,g,M,n,_,rfl,_,_,X,Y,V,W,_,_⟩
 ·exact ⟨[],none,0,rfl,aM _,aP _,fun h=>absurd h (by simp)⟩
 ·have q:∀i,i < D→∃d:e.Den,∃c,Rep e w c d∧∀j u,c[j]? =some u→w.cell? (a.add (i*e.wd+j))=some u:=by
   intro i z
   have l:=W i z
   have m:i < g.length:=by omega
   rw[aj m] at l
   obtain ⟨c,O,Q⟩:=Option.bind_eq_some_iff.1 l
   obtain ⟨d,U⟩:=K.2 _ _ _ _ _ _ _ _ Q
   refine ⟨d,c,U,fun j u s=> ?_⟩
   obtain ⟨_,h5,R⟩:=World.cells?_some O
   have hj:j < c.length:=(ae.1 s).1
   have:=R j (by omega)
   rw[s,K.1] at this
   rw[← this]
   congr 1
   unfold Addr.add
   by_cases H:i*e.wd=0 <;> by_cases I:j=0 <;> simp[H,I,bM]
  obtain ⟨t,B,f⟩:=Qjn (p:=fun i x=>∃c,Rep e w c x∧∀j u,c[j]? =some u→w.cell? (a.add (i*e.wd+j))=some u) q
  subst B
  refine ⟨t,some a,v,rfl,X,Y,fun Z=> ?_⟩
  have C:t[0]? =some t[0]:=aj Z
  have k:a.spot=none∨∀c:List Value,Rep e w c t[0]→c.length=0:=by
   obtain ⟨c,l,m⟩:=f 0 _ C
   cases c with
   | nil=>right; intro c y; rw[y.len,← l.len]; rfl
   | cons u us=>
    left
    have:=m 0 u rfl
    simpa [Addr.add] using World.cell?_spot this
  rcases k with r | r
  ·obtain ⟨b,o,sp⟩:=a
   have r:sp=none:=r
   subst r
   refine ⟨b,o,rfl,fun i x A=> ?_⟩
   obtain ⟨c,l,m⟩:=f i x A
   refine ⟨c,l,fun j u s=> ?_⟩
   rw[← m j u s]
   congr 1
   unfold Addr.add
   split
   ·rename_i e0
    have H:i*e.wd=0:=by omega
    have I:j=0:=by omega
    rw[show o+i*e.wd+j=o by omega]
   ·simp[bM]
  ·exact absurd (r _ (f 0 _ C).choose_spec.1) (by rw[(f 0 _ C).choose_spec.1.len]; exact Nat.ne_of_gt (WK e))⟩
def TF (P:Program)(fs:Array Field)(i k:Nat)(t:Ty):Prop:=
 ∀{H:Type} (enc:TypeId×Value→H) (w:World) (base:Nat) (spare:Nat→Bool) (held:Bool) (n:Nat) (cs:List Value),cs.length=k+t.wd→
  (∀j f,i≤j→fs[j]? =some f→∃y,DataW.trod enc P w base spare held n f.type ((cs.drop f.offset).take (P.cellsOf f.type))=some y)→∃d,Rep t w (cs.drop k) d
theorem Qu5 {c:Array Field}{i k:Nat}{t:Ty}(f:Field)(l:c[i]? =some f)(m:f.offset=k)(e:Trd P f.type t):TF P c i k t:=
 fun j w b a d n o p h=>by
  obtain ⟨y,g⟩:=h i f (aM _) l
  rw[m,e.1,bq (by simp; omega)] at g
  exact e.2 _ _ _ _ _ _ _ _ g
theorem TF.cons {m:Array Field}{i k:Nat}{a b:Ty}(f:Field)(x:m[i]? =some f)(A:f.offset=k)(q:Trd P f.type a)(hb:TF P m (i+1) (k+a.wd) b):TF P m i k (.pr a b):=
 fun l w e c g n s z h=>by
  obtain ⟨y,r⟩:=h i f (aM _) x
  rw[A,q.1] at r
  obtain ⟨d,v⟩:=q.2 _ _ _ _ _ _ _ _ r
  obtain ⟨t,o⟩:=hb l w e c g n s (by rw[z]; simp[Ty.wd,bM]) (fun j u B p=>h j u (by omega) p)
  refine ⟨(d,t),_,_, ?_,v,o⟩
  rw[← de,bR]
theorem Trd.st {t:Ty}{e:Array Field}(h:P.underlying T=some (.struct e))(i:P.cellsOf T=t.wd)(o:TF P e 0 0 t):Trd P T t:=⟨i,fun d w b a c g l x r=>by
 obtain ⟨u,n,_,_,q,s,p⟩:=DataW.trod_struct h r
 have:=o d w b a c n l (by rw[q,i,bL]) (fun j f _ k=>by
  have m:=p j f k
  have:j < e.size:=(bA.1 k).1
  rw[m,aj (by omega)]
  exact ⟨_,rfl⟩)
 simpa using this⟩
end
@[reducible] def QrA:Ty:= .pr (.pr (.sl 9 .str) (.sl 263 (.pr .int (.pr .int .int)))) (.pr (.sl 263 (.pr .int (.pr .int .int))) (.pr .int (.pr .int .bool)))
@[reducible] def Qlp:Ty:= .pr (.pr .int (.sl 245 (.pr (.sl 3 .int) (.sl 3 .int)))) (.pr (.sl 44 (.pr .str .int)) (.pr (.sl 86 (.pr .int .bool)) .str))
@[reducible] def Wm:Ty:= .pr (.sl 44 (.pr .str .int)) (.pr (.sl 9 .str) (.sl 46 (.pr .int (.pr .int (.pr .bool .int)))))
@[reducible] def QtR:Ty:= .pr (.sl 9 .str) (.sl 263 (.pr .int (.pr .int .int)))
@[reducible] def QnL:Ty:= .pr .int (.sl 245 (.pr (.sl 3 .int) (.sl 3 .int)))
@[reducible] def Qw:Ty:= .sl 46 (.pr .int (.pr .int (.pr .bool .int)))
@[reducible] def Xr:Ty:= .sl 245 (.pr (.sl 3 .int) (.sl 3 .int))
@[reducible] def QG:Ty:= .pr .int (.pr .int (.pr .bool .int))
@[reducible] def Qg9:Ty:= .sl 263 (.pr .int (.pr .int .int))
@[reducible] def Z4:Ty:= .pr (.sl 3 .int) (.sl 3 .int)
@[reducible] def Xt:Ty:= .pr .int (.pr .int .int)
@[reducible] def YI:Ty:= .sl 86 (.pr .int .bool)
@[reducible] def Qj:Ty:= .sl 44 (.pr .str .int)
@[reducible] def Qv:Ty:= .pr .int .bool
@[reducible] def Qz:Ty:= .pr .str .int
@[reducible] def Qm:Ty:= .sl 9 .str
@[reducible] def QO:Ty:= .sl 3 .int
@[reducible] def QP:Ty:= .sl 5 .u8
abbrev Z9:=(List (ByteArray×Int))×List ByteArray×(List (Int×Int×Bool×Int))
abbrev QdA:=Int×Bool
abbrev QeQ:=Int×Int×Bool×Int
abbrev QhK:=(Int×(List (List Int×List Int)))×(List (ByteArray×Int))×(List (Int×Bool))×ByteArray
abbrev QiO:=List (ByteArray×Int)
abbrev Qlf:=Int×(List (List Int×List Int))
abbrev Qml:=List (Int×Int×Bool×Int)
end Go.Proofs.YtgpdhgadmjfokaaGreat
namespace Go.Proofs.YtgpdhgadmjfokaaGreat
set_option maxHeartbeats 4000000
set_option maxRecDepth 100000
open Go.RowKit
def Nw (w w':World):Prop:=Below w.heap.size w w'
theorem QS (w:World):Nw w w:=Below.refl _ _
theorem Nw.trans {a b c:World}(h:Nw a b)(k:Nw b c):Nw a c:=Below.trans h (Below.mono k (Below.size h))
theorem Nw.alloc {a w:World}(h:Nw a w)(o:Obj):Nw a (w.alloc o):=Below.alloc h (Below.size h) o
theorem Nw.drew {a w:World}(h:Nw a w):Nw a w.drew:=Below.drew h
theorem Nw.drewN {a w:World}(h:Nw a w)(n:Nat):Nw a (w.drewN n):=h.trans ⟨rfl,rfl,rfl,aM _,fun _ _=>rfl⟩
theorem Nw.setCell {a w:World}(h:Nw a w){p:Addr}(f:a.heap.size≤p.block)(u:Value):Nw a (w.setCell p u):=Below.setCell h f u
theorem Zh {a b c:World}(k:Nw b c)(h:Nw a b):Nw a c:=h.trans k
theorem Q1 {a w:World}{p:Addr}{u:Value}(f:a.heap.size≤p.block)(h:Nw a w):Nw a (w.setCell p u):=h.setCell f u
theorem Nw.size {a w:World}(h:Nw a w):a.heap.size≤w.heap.size:=Below.size h
theorem Nw.kp {a w:World}(h:Nw a w):Kp a w:=QbR h
theorem QuD {a w:World}(h:Nw a w):Below a.heap.size a w:=h
theorem Rep.nw {t:Ty}{w w':World}{cs:List Value}{x:t.Den}(h:Rep t w cs x)(hb:Nw w w'):Rep t w' cs x:=h.kp hb.kp
theorem Nw.cells {W f:World}(hb:Nw W f):(∀b o,b < W.heap.size→f.cell? ⟨b,o,none⟩=W.cell? ⟨b,o,none⟩)∧(∀b o,b < W.heap.size→f.frozen? ⟨b,o,none⟩=W.frozen? ⟨b,o,none⟩):=
 ⟨fun b o h=>Below.cell hb (p:=⟨b,o,none⟩) h,fun b o h=>Below.frozen hb (p:=⟨b,o,none⟩) h⟩
theorem Qb {P:Program}{f:FuncId}{fn:Func}{c:Code}(i:P.funcs[f]? =some fn)(g:(fn.name== "runtime.NumGoroutine")=false)(hb:fn.body=some c)(args:Array Value)(w:World):
 (callFunc f args).run P w= .ok (.enter f args) w:=by
 have h:fn.name≠ "runtime.NumGoroutine" :=by simpa using g
 simp[callFunc,i,h,hb]
def Qg (P:Program)(F:FuncId):Prop:=∀(a_:Array Value) (W:World),(callFunc F a_).run P W= .ok (.enter F a_) W
theorem hid {p:Prop}(h:p):Hid p:=h
def RetB (p:Prop)(w:World)(e:Ending)(w':World):Prop:=∃b:Bool,e= .returned (.bool b)∧(b=true↔p)∧Nw w w'
theorem RetB.yes {p:Prop}{w w':World}(h:p)(f:Nw w w'):RetB p w (.returned (.bool true)) w':=⟨true,rfl,by simp[h],f⟩
theorem RetB.no {p:Prop}{w w':World}(h:¬p)(f:Nw w w'):RetB p w (.returned (.bool false)) w':=⟨false,rfl,by simp[h],f⟩
theorem RetB.not {p:Prop}(h:false=true↔p):¬p:=fun f=>absurd (h.2 f) (by simp)
theorem RetB.of {p:Prop}{w w':World}{b:Bool}(h:b=true↔p)(f:Nw w w'):RetB p w (.returned (.bool b)) w':=⟨b,rfl,h,f⟩
def IsIdx {α:Type}(p:α→Prop)(xs:List α)(r:Int):Prop:=(r= -1∧∀x∈xs,¬p x)∨(∃k:Nat,r=k∧k < xs.length∧(∀x,xs[k]? =some x→p x)∧∀j x,j < k→xs[j]? =some x→¬p x)
def Qtn {α:Type}(p:α→Prop)(xs:List α)(w:World)(e:Ending)(w':World):Prop:=∃r:Int,e= .returned (.int .i64 r)∧IsIdx p xs r∧Nw w w'
theorem IsIdx.range {α:Type}{p:α→Prop}{xs:List α}{r:Int}(h:IsIdx p xs r)(f:xs.length≤9223372036854775807): -1≤r∧r≤9223372036854775807:=by
 rcases h with ⟨rfl,_⟩ | ⟨k,rfl,h,_⟩ <;> omega
theorem IsIdx.any {α:Type}{p:α→Prop}{xs:List α}{r:Int}(h:IsIdx p xs r):0≤r↔∃x∈xs,p x:=by
 rcases h with ⟨rfl,h⟩ | ⟨k,rfl,f,h,_⟩
 ·constructor
  ·intro j; omega
  ·rintro ⟨x,i,g⟩; exact absurd g (h x i)
 ·exact ⟨fun _=>⟨xs[k],cJ f,h _ (aj f)⟩,fun _=>by omega⟩
section
variable {E:TypeId}{e:Ty}{w:World}{A:Option Addr}{n c:Nat}{xs:List e.Den}
theorem Rep.at1 (h:Rep (.sl E e) w [.slice A n c] xs)(g:e.wd=1){i:Nat}{x:e.Den}(l:xs[i]? =some x):
 ∃b o v,A=some ⟨b,o,none⟩∧Rep e w [v] x∧w.cell? ⟨b,o+i,none⟩=some v:=by
 obtain ⟨b,o,j,rfl,f,k⟩:=h.at_ l
 match j,f.len.trans g with
 | [v],_=>exact ⟨b,o,v,rfl,f,by have:=k 0 v rfl; rwa [g,cv] at this⟩
theorem Rep.at2 (h:Rep (.sl E e) w [.slice A n c] xs)(j:e.wd=2){i:Nat}{x:e.Den}(p:xs[i]? =some x):
 ∃b o f g,A=some ⟨b,o,none⟩∧Rep e w [f,g] x∧w.cell? ⟨b,o+i*2,none⟩=some f∧w.cell? ⟨b,o+i*2+1,none⟩=some g:=by
 obtain ⟨b,o,m,rfl,k,l⟩:=h.at_ p
 match m,k.len.trans j with
 | [f,g],_=>exact ⟨b,o,f,g,rfl,k,by have:=l 0 f rfl; rwa [j] at this,by have:=l 1 g rfl; rwa [j] at this⟩
end
theorem Rep.pr2 {a b:Ty}{w:World}{v u:Value}{cs:List Value}{x:a.Den×b.Den}(h:Rep (.pr a b) w (v :: u :: cs) x)(i:a.wd=2):Rep a w [v,u] x.1∧Rep b w cs x.2:=by
 obtain ⟨l,r,h,f,g⟩:=h
 match l,f.len.trans i with
 | [y,z],_=>
  simp only[bX,bS,aF] at h
  obtain ⟨rfl,rfl,rfl⟩:=h
  exact ⟨f,g⟩
section
variable {a b c d:Ty}{w:World}{u0 u1 u2 u3:Value}
theorem Rep.open2 {x:(Ty.pr a b).Den}(h:Rep (.pr a b) w [u0,u1] x)(f:a.wd=1):Rep a w [u0] x.1∧Rep b w [u1] x.2:=h.pr1 f
theorem Rep.open3 {x:(Ty.pr a (.pr b c)).Den}(h:Rep (.pr a (.pr b c)) w [u0,u1,u2] x)(i:a.wd=1)(hb:b.wd=1):Rep a w [u0] x.1∧Rep b w [u1] x.2.1∧Rep c w [u2] x.2.2:=by
 obtain ⟨f,g⟩:=h.pr1 i
 exact ⟨f,g.pr1 hb⟩
end
def Ty.tot:(t:Ty)→t.Den→Nat
 | .int,_=>0
 | .bool,_=>0
 | .str,s=>s.size
 | .u8,_=>0
 | .vl,_=>0
 | .sl _ e,xs=>xs.length+(xs.map e.tot).sum
 | .pr a b,x=>a.tot x.1+b.tot x.2
def cut (left:Int)(t:Nat):Int:=if left < t then -1 else left - t
end Go.Proofs.YtgpdhgadmjfokaaGreat
namespace Go.Proofs.YtgpdhgadmjfokaaGreat
set_option maxHeartbeats 4000000
set_option maxRecDepth 100000
abbrev QB:Type:=ByteArray×Int
abbrev Y2:Ty:= .pr .str .int
abbrev QR:Type:=(List Int)×(List Int)
abbrev Zb:Ty:= .pr (.sl 3 .int) (.sl 3 .int)
abbrev YU:Type:=Int×(List QR)
abbrev H6:Ty:= .pr .int (.sl 245 Zb)
abbrev QZ:Type:=Int×Bool
abbrev Qas:Ty:= .pr .int .bool
abbrev QV:Type:=YU×(List QB)×(List QZ)×ByteArray
abbrev Qbc:Ty:= .pr H6 (.pr (.sl 44 Y2) (.pr (.sl 86 Qas) .str))
abbrev QF:Type:=Int×Int×Bool
abbrev Qtr:Ty:= .pr .int (.pr .int .bool)
abbrev Qta:Type:=Int×Int×Bool×Int
abbrev Qvc:Ty:= .pr .int (.pr .int (.pr .bool .int))
abbrev Qrq:Type:=(List QB)×(List ByteArray)×(List Qta)
abbrev Qrf:Ty:= .pr (.sl 44 Y2) (.pr (.sl 9 .str) (.sl 46 Qvc))
abbrev QuN:Type:=Int×Int×Int
abbrev QuL:Ty:= .pr .int (.pr .int .int)
abbrev Qi2:Type:=(List ByteArray)×(List QuN)
abbrev Qim:Ty:= .pr (.sl 9 .str) (.sl 263 QuL)
end Go.Proofs.YtgpdhgadmjfokaaGreat
namespace Go.Proofs.YtgpdhgadmjfokaaGreat
set_option maxHeartbeats 4000000
set_option maxRecDepth 100000
open Go.RowKit
def OwnL {α:Type}(O:List Nat→List Value→α→Prop):List Nat→List Value→List α→Prop
 | fp,cs,[]=>fp=[]∧cs=[]
 | fp,cs,x :: xs=>∃f1 f2 c1 c2,fp=f1++f2∧cs=c1++c2∧O f1 c1 x∧OwnL O f2 c2 xs
def Own:(t:Ty)→World→List Nat→List Value→t.Den→Prop
 | .int,_,fp,cs,x=>fp=[]∧cs=[.int .i64 x]∧ -9223372036854775808≤x∧x≤9223372036854775807
 | .bool,_,fp,cs,x=>fp=[]∧cs=[.bool x]
 | .str,_,fp,cs,x=>fp=[]∧cs=[.string x]∧x.size≤maxLen
 | .u8,_,fp,cs,x=>fp=[]∧cs=[.int .u8 x.toNat]
 | .vl,_,fp,cs,x=>fp=[]∧cs=[hdV x]
 | .sl E e,w,fp,cs,xs=>(fp=[]∧cs=[.slice none 0 0]∧xs=[])∨
  ∃g cap cur fps,fp=g :: fps∧cs=[.slice (some ⟨g,0,none⟩) xs.length cap]∧w.heap[g]? =some (.cells cur E (0,0))∧xs.length≤cap∧cap≤maxLen∧cur.size=cap*e.wd∧
   OwnL (Own e w) fps (cur.toList.take (xs.length*e.wd)) xs
 | .pr a b,w,fp,cs,x=>∃f1 f2 l r,fp=f1++f2∧cs=l++r∧Own a w f1 l x.1∧Own b w f2 r x.2
theorem OwnL.mono {α:Type}{O b:List Nat→List Value→α→Prop}:∀{xs:List α} {fp:List Nat} {cs:List Value},OwnL O fp cs xs→
 (∀f c x,(∀g∈f,g∈fp)→O f c x→b f c x)→OwnL b fp cs xs
 | [],_,_,h,_=>h
 | _ :: _,_,_,⟨f1,f2,c1,c2,h1,h2,h3,h4⟩,k=>⟨f1,f2,c1,c2,h1,h2,k _ _ _ (fun g a=>by rw[h1]; exact aH _ a) h3,
  OwnL.mono h4 fun f c x d i=>k f c x (fun g a=>by rw[h1]; exact aN _ (d g a)) i⟩
theorem OwnL.append {α:Type}{O:List Nat→List Value→α→Prop}:∀{xs ys:List α} {f1 f:List Nat} {c1 c2:List Value},OwnL O f1 c1 xs→OwnL O f c2 ys→OwnL O (f1++f) (c1++c2) (xs++ys)
 | [],_,_,_,_,_,⟨h1,h2⟩,k=>by rw[h1,h2]; exact k
 | _ :: _,_,_,_,_,_,⟨a,b,c,d,h1,h2,h3,h4⟩,k=>⟨a,b++_,c,d++_,by rw[h1,aO],by rw[h2,aO],h3,OwnL.append h4 k⟩
theorem QgN {α:Type}{O:List Nat→List Value→α→Prop}{f:List Nat}{c:List Value}{x:α}(h:O f c x):OwnL O f c [x]:=
 ⟨f,[],c,[],by simp,by simp,h,rfl,rfl⟩
theorem Own.len:∀{t:Ty} {w:World} {fp:List Nat} {cs:List Value} {x:t.Den},Own t w fp cs x→cs.length=t.wd
 | .int,_,_,_,_,h=>by rw[h.2.1]; rfl
 | .bool,_,_,_,_,h=>by rw[h.2]; rfl
 | .str,_,_,_,_,h=>by rw[h.2.1]; rfl
 | .u8,_,_,_,_,h=>by rw[h.2]; rfl
 | .vl,_,_,_,_,h=>by rw[h.2]; rfl
 | .sl _ _,_,_,_,_,h=>by rcases h with ⟨_,h,_⟩ | ⟨_,_,_,_,_,h,_⟩ <;> rw[h] <;> rfl
 | .pr _ _,_,_,_,_,⟨_,_,_,_,_,h,h1,h2⟩=>by rw[h,ah,Own.len h1,Own.len h2]
theorem OwnL.len {e:Ty}{w:World}:∀{xs:List e.Den} {fp:List Nat} {cs:List Value},OwnL (Own e w) fp cs xs→cs.length=xs.length*e.wd
 | [],_,_,h=>by rw[h.2]; simp
 | _ :: xs,_,_,⟨_,_,_,_,_,h2,h3,h4⟩=>by rw[h2,ah,h3.len,h4.len,ap,bH,cK,Nat.add_comm]
theorem Own.keep:∀{t:Ty} {w w':World} {fp:List Nat} {cs:List Value} {x:t.Den},Own t w fp cs x→(∀g∈fp,w'.heap[g]? =w.heap[g]?)→Own t w' fp cs x
 | .int,_,_,_,_,_,h,_=>h
 | .bool,_,_,_,_,_,h,_=>h
 | .str,_,_,_,_,_,h,_=>h
 | .u8,_,_,_,_,_,h,_=>h
 | .vl,_,_,_,_,_,h,_=>h
 | .sl _ _,_,_,_,_,_,h,k=>by
  rcases h with h | ⟨g,b,d,fps,rfl,i,j,m,o,p,q⟩
  ·exact .inl h
  ·exact .inr ⟨g,b,d,fps,rfl,i,(k g (ax ..)).trans j,m,o,p,OwnL.mono q fun f c x s u=>Own.keep u fun g a=>k g (av _ (s g a))⟩
 | .pr _ _,_,_,_,_,_,⟨f1,f2,l,r,h,i,j,m⟩,k=>⟨f1,f2,l,r,h,i,Own.keep j fun g a=>k g (by rw[h]; exact aH _ a),Own.keep m fun g a=>k g (by rw[h]; exact aN _ a)⟩
theorem Own.lt:∀{t:Ty} {w:World} {fp:List Nat} {cs:List Value} {x:t.Den},Own t w fp cs x→∀g∈fp,g < w.heap.size
 | .int,_,_,_,_,h=>by rw[h.1]; simp
 | .bool,_,_,_,_,h=>by rw[h.1]; simp
 | .str,_,_,_,_,h=>by rw[h.1]; simp
 | .u8,_,_,_,_,h=>by rw[h.1]; simp
 | .vl,_,_,_,_,h=>by rw[h.1]; simp
 | .sl e E,w,_,_,_,h=>by
  rcases h with h | ⟨g,u,v,fps,rfl,s,j,o,z,A,m⟩
  ·rw[h.1]; simp
  ·intro y f
   rcases aB.1 f with rfl | f
   ·rcases cM y w.heap.size with q | p
    ·exact q
    ·rw[Array.getElem?_eq_none p] at j; cases j
   ·clear s o A
    generalize List.take _ _=cs at m
    revert m f
    clear j z
    rename_i xs
    induction xs generalizing fps cs with
    | nil=>intro f m; rw[m.1] at f; cases f
    | cons x xs F=>
     rintro f ⟨a,b,c,d,rfl,rfl,C,D⟩
     rcases aA.1 f with f | f
     ·exact Own.lt C _ f
     ·exact F b (av _ f) d f D
 | .pr _ _,_,_,_,_,⟨f1,f2,l,r,h,s,j,o⟩=>by
  intro g i
  rw[h] at i
  rcases aA.1 i with i | i
  ·exact Own.lt j _ i
  ·exact Own.lt o _ i
theorem OwnL.get {e:Ty}{w:World}:∀{xs:List e.Den} {fp:List Nat} {cs:List Value},OwnL (Own e w) fp cs xs→∀i x,xs[i]? =some x→∃f h,Own e w f h x∧(∀g∈f,g∈fp)∧∀j u,h[j]? =some u→cs[i*e.wd+j]? =some u
 | [],_,_,_,i,x,hx=>by simp at hx
 | y :: xs,_,_,⟨a,b,c,d,h1,h2,h3,h4⟩,i,x,hx=>by
  cases i with
  | zero=>
   simp at hx
   subst hx
   refine ⟨a,c,h3,fun g m=>by rw[h1]; exact aH _ m,fun j u l=> ?_⟩
   rw[h2,Nat.zero_mul,bL,bc (ae.1 l).1]
   exact l
  | succ i=>
   obtain ⟨f,h,o,p,q⟩:=OwnL.get h4 i x (by simpa using hx)
   refine ⟨f,h,o,fun g m=>by rw[h1]; exact aN _ (p g m),fun j u l=> ?_⟩
   rw[h2,be (by rw[h3.len,bH]; omega),← q j u l,h3.len,bH]
   congr 1
   omega
theorem Own.rep:∀{t:Ty} {w:World} {fp:List Nat} {cs:List Value} {x:t.Den},Own t w fp cs x→Rep t w cs x
 | .int,_,_,_,_,h=>h.2
 | .bool,_,_,_,_,h=>h.2
 | .str,_,_,_,_,h=>h.2
 | .u8,_,_,_,_,h=>h.2
 | .vl,_,_,_,_,h=>h.2
 | .sl _ e,w,_,_,xs,h=>by
  rcases h with ⟨_,h,q⟩ | ⟨g,b,o,fps,rfl,c,d,m,s,D,v⟩
  ·subst q
   exact ⟨none,0,h,aM _,aP _,fun h=>absurd h (by simp)⟩
  ·refine ⟨_,b,c,m,s,fun _=>⟨g,0,rfl,fun i x C=> ?_⟩⟩
   obtain ⟨f,p,y,_,z⟩:=v.get i x C
   refine ⟨p,Own.rep y,fun j u A=> ?_⟩
   have a:=z j u A
   rw[bm] at a
   split at a
   ·simp only[World.cell?,d]
    simpa using a
   ·cases a
 | .pr _ _,_,_,_,_,⟨f1,f2,l,r,h,c,d,m⟩=>⟨l,r,c,Own.rep d,Own.rep m⟩
theorem Rep.one:∀{t:Ty} {w:World} {cs:List Value} {x:t.Den},Rep t w cs x→∀v∈cs,v.oneCell'=true
 | .int,_,_,_,h=>by rw[h.1]; simp[Value.oneCell']
 | .bool,_,_,_,h=>by have h:_=_:=h; rw[h]; simp[Value.oneCell']
 | .str,_,_,_,h=>by rw[h.1]; simp[Value.oneCell']
 | .u8,_,_,_,h=>by have h:_=_:=h; rw[h]; simp[Value.oneCell']
 | .vl,_,_,_,h=>by have h:_=_:=h; rw[h]; simpa using QqE _
 | .sl _ _,_,_,_,⟨_,_,h,_⟩=>by rw[h]; simp[Value.oneCell']
 | .pr _ _,_,_,_,⟨_,_,h,h1,h2⟩=>by
  intro v a
  rw[h] at a
  rcases aA.1 a with a | a
  ·exact Rep.one h1 v a
  ·exact Rep.one h2 v a
theorem QdE {P:Program}(w:World)(a:Addr)(v:Value)(m:Mode)(h:v.oneCell'=true):(store a v m).run P w=stored P w a v m:=run_store P w a v m h
attribute [go_sem] QdE
def Frs (t:Ty)(B U:Nat)(w:World)(cs:List Value)(x:t.Den):Prop:=∃fp,Own t w fp cs x∧fp.Nodup∧∀g∈fp,B≤g∧g < U
def FrsL (e:Ty)(B U:Nat)(w:World)(cs:List Value)(xs:List e.Den):Prop:=∃fp,OwnL (Own e w) fp cs xs∧fp.Nodup∧∀g∈fp,B≤g∧g < U
theorem Frs.rep {t:Ty}{B U:Nat}{w:World}{cs:List Value}{x:t.Den}(h:Frs t B U w cs x):Rep t w cs x:=h.choose_spec.1.rep
theorem Frs.mono {t:Ty}{B U a b:Nat}{w:World}{cs:List Value}{x:t.Den}(h:Frs t B U w cs x)(l:a≤B)(m:U≤b):Frs t a b w cs x:=by
 obtain ⟨c,d,f,i⟩:=h
 exact ⟨c,d,f,fun g j=>by have:=i g j; omega⟩
theorem Frs.keep {t:Ty}{B U:Nat}{w w':World}{cs:List Value}{x:t.Den}(h:Frs t B U w cs x)(i:∀g,B≤g→g < U→w'.heap[g]? =w.heap[g]?):Frs t B U w' cs x:=by
 obtain ⟨c,d,f,a⟩:=h
 exact ⟨c,d.keep fun g b=>i g (a g b).1 (a g b).2,f,a⟩
theorem FrsL.keep {e:Ty}{B U:Nat}{w w':World}{cs:List Value}{xs:List e.Den}(h:FrsL e B U w cs xs)(m:∀g,B≤g→g < U→w'.heap[g]? =w.heap[g]?):FrsL e B U w' cs xs:=by
 obtain ⟨i,j,l,a⟩:=h
 exact ⟨i,j.mono fun f c x b o=>o.keep fun g d=>m g (a g (b g d)).1 (a g (b g d)).2,l,a⟩
theorem US {l r:List Nat}{M:Nat}(c:l.Nodup)(d:r.Nodup)(i:∀g∈l,g < M)(j:∀g∈r,M≤g):(l++r).Nodup:=
 aU.2 ⟨c,d,fun a f b h e=>by have:=i a f; have:=j b h; omega⟩
theorem Frs.join {a b:Ty}{B M U:Nat}{w:World}{l r:List Value}{x:a.Den}{y:b.Den}(h:Frs a B M w l x)(k:Frs b M U w r y)(s:B≤M)(t:M≤U):Frs (.pr a b) B U w (l++r) (x,y):=by
 obtain ⟨d,m,o,i⟩:=h
 obtain ⟨f,p,q,j⟩:=k
 refine ⟨d++f,⟨d,f,l,r,rfl,rfl,m,p⟩,US o q (fun g c=>(i g c).2) (fun g c=>(j g c).1),fun g c=> ?_⟩
 rcases aA.1 c with c | c
 ·have:=i g c; omega
 ·have:=j g c; omega
theorem Frs.int {B U:Nat}{w:World}{x:Int}(h: -9223372036854775808≤x∧x≤9223372036854775807):Frs .int B U w [.int .i64 x] x:=⟨[],⟨rfl,rfl,h⟩,bC,by simp⟩
theorem Frs.bool {B U:Nat}{w:World}{x:Bool}:Frs .bool B U w [.bool x] x:=⟨[],⟨rfl,rfl⟩,bC,by simp⟩
theorem Frs.str {B U:Nat}{w:World}{x:ByteArray}(h:x.size≤maxLen):Frs .str B U w [.string x] x:=⟨[],⟨rfl,rfl,h⟩,bC,by simp⟩
theorem Frs.nil {E:TypeId}{e:Ty}{B U:Nat}{w:World}:Frs (.sl E e) B U w [.slice none 0 0] []:=⟨[], .inl ⟨rfl,rfl,rfl⟩,bC,by simp⟩
structure Fill (e:Ty) (E:TypeId) (w0:World) (g n k:Nat) (w:World) (xs:List e.Den):Prop where
  nw:Nw w0 w
  base:w0.heap.size≤g
  lt:g < w.heap.size
  row:∃cur,w.heap[g]? =some (.cells cur E (0,0))∧cur.size=n*e.wd∧FrsL e (g+1) w.heap.size w (cur.toList.take (k*e.wd)) (xs.take k)
def XV (w:World)(g off:Nat):List Value→World
 | []=>w
 | v :: vs=>XV (w.setCell ⟨g,off,none⟩ v) g (off+1) vs
theorem Qd9 (w:World)(g off:Nat)(vs:List Value):(XV w g off vs).heap.size=w.heap.size:=by
 induction vs generalizing w off with
 | nil=>rfl
 | cons v vs a=>simp[XV,a]
theorem Yv (w:World)(g off:Nat)(vs:List Value)(k:Nat)(h:k≠g):(XV w g off vs).heap[k]? =w.heap[k]? :=by
 induction vs generalizing w off with
 | nil=>rfl
 | cons v vs a=>
  rw[XV,a]
  exact Below.heap_setCell w ⟨g,off,none⟩ v k h
theorem WQ (g:Nat)(E:TypeId)(b:Nat×Nat)(vs:List Value):∀(w:World) (off:Nat) (cur:Array Value),w.heap[g]? =some (.cells cur E b)→off+vs.length≤cur.size→
 ∃a,(XV w g off vs).heap[g]? =some (.cells a E b)∧a.size=cur.size∧a.toList=cur.toList.take off++vs++cur.toList.drop (off+vs.length):=by
 induction vs with
 | nil=>intro w off cur h _; exact ⟨cur,h,rfl,by simp⟩
 | cons v vs m=>
  intro w off cur h l
  simp only[ap] at l
  have d:(w.setCell ⟨g,off,none⟩ v).heap[g]? =some (.cells (cur.setIfInBounds off v) E b):=by simp[World.setCell,Array.getElem?_modify,h]
  obtain ⟨a,f,i,j⟩:=m (w.setCell ⟨g,off,none⟩ v) (off+1) (cur.setIfInBounds off v) d (by simp; omega)
  refine ⟨a,f,by simpa using i, ?_⟩
  rw[j]
  have c:off < cur.toList.length:=by simp; omega
  simp only[Array.toList_setIfInBounds,ap]
  rw[List.drop_set_of_lt (by omega)]
  have:(cur.toList.set off v).take (off+1)=cur.toList.take off++[v]:=by
   rw[bQ (by simpa using c),List.take_set_of_le (aM _)]
   simp
  rw[this]
  simp[bM,Nat.add_comm 1 vs.length]
theorem Qqq {w0 w:World}(h:Nw w0 w){g:Nat}(a:w0.heap.size≤g)(off:Nat)(vs:List Value):Nw w0 (XV w g off vs):=by
 induction vs generalizing w off with
 | nil=>exact h
 | cons v vs b=>exact b (h.setCell (p:=⟨g,off,none⟩) a v) _
section
variable {e:Ty}{E:TypeId}{w0 w w1:World}{g n k:Nat}{xs:List e.Den}
theorem Fill.start (w0:World)(E:TypeId)(cur:Array Value)(n:Nat)(a:cur.size=n*e.wd)(xs:List e.Den):Fill e E w0 w0.heap.size n 0 (w0.alloc (.cells cur E)) xs:=
 ⟨(QS _).alloc _,aM _,by simp,cur,heap_alloc_new w0 _,a,[],by simpa using ⟨rfl,rfl⟩,bC,by simp⟩
theorem Fill.cell (h:Fill e E w0 g n k w xs)(l:Nw w w1)(i:k < n){j:Nat}(m:j < e.wd):∃u,w1.cell? ⟨g,k*e.wd+j,none⟩=some u∧w1.frozen? ⟨g,k*e.wd+j,none⟩=false:=by
 obtain ⟨a,c,d,_⟩:=h.row
 have b:w1.heap[g]? =some (.cells a E (0,0)):=(Below.block l g h.lt).trans c
 have f:k*e.wd+j < a.size:=by
  rw[d]
  calc k*e.wd+j < k*e.wd+e.wd:=by omega
   _=(k+1)*e.wd:=by rw[bH,cK]
   _≤n*e.wd:=ci _ i
 exact ⟨a[k*e.wd+j],by simp[World.cell?,b,f],by simp[World.frozen?,b]⟩
theorem Fill.step (h:Fill e E w0 g n k w xs)(m:Nw w w1)(N:k < n){x:e.Den}(Q:xs[k]? =some x){cs:List Value}(v:Frs e w.heap.size w1.heap.size w1 cs x):Fill e E w0 g n (k+1) (XV w1 g (k*e.wd) cs) xs:=by
 obtain ⟨b,I,u,J⟩:=h.row
 have K:w1.heap[g]? =some (.cells b E (0,0)):=(Below.block m g h.lt).trans I
 have i:cs.length=e.wd:=by obtain ⟨_,p,_⟩:=v; exact p.len
 have j:k*e.wd+cs.length≤b.size:=by
  rw[u,i]
  calc k*e.wd+e.wd=(k+1)*e.wd:=by rw[bH,cK]
   _≤n*e.wd:=ci _ N
 obtain ⟨c,p,L,M⟩:=WQ g E (0,0) cs w1 (k*e.wd) b K j
 have P:=m.size
 have O:=h.lt
 refine ⟨Qqq (h.nw.trans m) h.base _ _,h.base,by rw[Qd9]; omega,c,p,L.trans u, ?_⟩
 have o:FrsL e (g+1) w.heap.size (XV w1 g (k*e.wd) cs) (b.toList.take (k*e.wd)) (xs.take k):=J.keep fun f a d=>by
  rw[Yv _ _ _ _ _ (by omega)]
  exact Below.block m f d
 have q:Frs e w.heap.size w1.heap.size (XV w1 g (k*e.wd) cs) cs x:=v.keep fun f a d=>Yv _ _ _ _ _ (by omega)
 obtain ⟨G,y,z,s⟩:=o
 obtain ⟨H,A,C,t⟩:=q
 rw[Qd9]
 refine ⟨G++H, ?_,US z C (fun g r=>(s g r).2) (fun g r=>(t g r).1),fun f a=> ?_⟩
 ·have D:xs.take (k+1)=xs.take k++[x]:=by
   have l:=(ae.1 Q)
   rw[bQ l.1,l.2]
  have F:c.toList.take ((k+1)*e.wd)=b.toList.take (k*e.wd)++cs:=by
   have l:(b.toList.take (k*e.wd)++cs).length=(k+1)*e.wd:=by
    rw[ah,au,i,bH,cK,cw (by simp; omega)]
   rw[M,← l,dd]
  rw[D,F]
  exact y.append (QgN A)
 ·rcases aA.1 a with a | a
  ·have:=s f a; omega
  ·have:=t f a; omega
theorem Qtw (h:Fill e E w0 g n n w xs)(q:xs.length=n)(p:n≤maxLen):Frs (.sl E e) g w.heap.size w [.slice (some ⟨g,0,none⟩) n n] xs:=by
 obtain ⟨b,j,l,c,d,m,f⟩:=h.row
 subst q
 rw[List.take_length] at d
 refine ⟨g :: c, .inr ⟨g,xs.length,b,c,rfl,rfl,j,aM _,p,l,d⟩,bi.2 ⟨fun o=>by have:=f g o; omega,m⟩,fun i a=> ?_⟩
 rcases aB.1 a with rfl | a
 ·exact ⟨aM _,h.lt⟩
 ·have:=f i a; omega
end
section
variable {e:Ty}{E:TypeId}{w0 w w1:World}{g n k:Nat}{xs:List e.Den}
end
def Kb (B U:Nat)(w w':World):Prop:=∀g,B≤g→g < U→w'.heap[g]? =w.heap[g]?
section
variable {B U:Nat}{w w' w'':World}
theorem Qu7:Kb B U w w:=fun _ _ _=>rfl
theorem Kb.trans (h:Kb B U w w')(k:Kb B U w' w''):Kb B U w w'':=fun g a b=>(k g a b).trans (h g a b)
theorem Kb.setCell (h:Kb B U w w'){p:Addr}(c:p.block < B∨U≤p.block)(u:Value):Kb B U w (w'.setCell p u):=fun g a b=>(Below.heap_setCell w' p u g (by omega)).trans (h g a b)
theorem Kb.alloc (h:Kb B U w w')(c:U≤w'.heap.size)(o:Obj):Kb B U w (w'.alloc o):=fun g a b=>(Below.heap_alloc w' o g (by omega)).trans (h g a b)
theorem Kb.drew (h:Kb B U w w'):Kb B U w w'.drew:=h
theorem Kb.drewN (h:Kb B U w w')(n:Nat):Kb B U w (w'.drewN n):=h
theorem Kb.nw (h:Kb B U w w')(c:Nw w' w'')(d:U≤w'.heap.size):Kb B U w w'':=fun g a b=>(Below.block c g (by omega)).trans (h g a b)
theorem Qrk {p:Addr}{u:Value}(a:p.block < B∨U≤p.block)(h:Kb B U w w'):Kb B U w (w'.setCell p u):=h.setCell a u
end
theorem Qvv {t:Ty}{B U:Nat}{w w':World}{cs:List Value}{x:t.Den}(h:Frs t B U w cs x)(a:Kb B U w w'):Frs t B U w' cs x:=h.keep a
def Qwn (E:TypeId)(e:Ty)(w:World)(xs:List e.Den)(n:Ending)(w':World):Prop:=∃A c,n= .returned (.slice A xs.length c)∧Frs (.sl E e) w.heap.size w'.heap.size w' [.slice A xs.length c] xs∧Nw w w'
def Qwl (t:Ty)(w:World)(x:t.Den)(e:Ending)(w':World):Prop:=∃u0,e= .returned u0∧Frs t w.heap.size w'.heap.size w' [u0] x∧Nw w w'
def Qwm (t:Ty)(w:World)(x:t.Den)(e:Ending)(w':World):Prop:=∃u0 u1,e= .returned (.agg #[u0,u1])∧Frs t w.heap.size w'.heap.size w' [u0,u1] x∧Nw w w'
def Qwa (t:Ty)(w:World)(x:t.Den)(e:Ending)(w':World):Prop:=∃u0 u1 u2,e= .returned (.agg #[u0,u1,u2])∧Frs t w.heap.size w'.heap.size w' [u0,u1,u2] x∧Nw w w'
def Qwo (t:Ty)(w:World)(x:t.Den)(e:Ending)(w':World):Prop:=∃u0 u1 u2 u3,e= .returned (.agg #[u0,u1,u2,u3])∧Frs t w.heap.size w'.heap.size w' [u0,u1,u2,u3] x∧Nw w w'
def Qwf (t:Ty)(w:World)(x:t.Den)(e:Ending)(w':World):Prop:=∃u0 u1 u2 u3 u4,e= .returned (.agg #[u0,u1,u2,u3,u4])∧Frs t w.heap.size w'.heap.size w' [u0,u1,u2,u3,u4] x∧Nw w w'
theorem Qjm {P:Program}(t E:TypeId)(z:Value)(b a:Nat)(m:P.underlying t=some (.slice E))(c:(P.info? E).map (fun i=>(i.zero,i.size,i.bytes))=some (some z,b,a))
 (n:Nat) (hbytes:a*n≤281474976710656) (h63:n≤9223372036854775807) (w:World):
 (Instr.makeSlice t (.int .i64 (n:Int)) (.int .i64 (n:Int))).run P w= .ok (.slice (some ⟨w.heap.size,0,none⟩) n n) (w.alloc (.cells (madeCells z.cells (n*b)) E)):=by
 obtain ⟨i,j,f⟩:=cB.1 c
 simp only[Prod.mk.injEq] at f
 obtain ⟨o,l,h⟩:=f
 have:=run_make (P:=P) w t E i z m j o .i64 .i64 n n (by omega) (du _) (by rw[h]; have d:=Int.ofNat_le.2 hbytes; rw[Int.natCast_mul] at d; exact d) (by omega)
 simpa [l] using this
end Go.Proofs.YtgpdhgadmjfokaaGreat
namespace Go.Proofs.YtgpdhgadmjfokaaGreat
set_option maxHeartbeats 4000000
set_option maxRecDepth 100000
open Go.RowKit
def CutTo (l:Int)(t:Nat)(l':Int):Prop:=(l < t∧l'= -1)∨(t≤l∧l'=l - t)
theorem CutTo.le {l a:Int}{t:Nat}(h:CutTo l t a)(h0:0≤l)(b:l≤1048576): -1≤a∧a≤1048576:=by unfold CutTo at h; omega
def SzPost (w:World)(l:Int)(t:Nat)(e:Ending)(w':World):Prop:=∃l',e= .returned (.int .i64 l')∧CutTo l t l'∧Nw w w'
end Go.Proofs.YtgpdhgadmjfokaaGreat
namespace Go.Proofs.YtgpdhgadmjfokaaGreat
set_option maxHeartbeats 4000000
set_option maxRecDepth 100000
open Go.RowKit
def Qu6 (w:World)(e:Ending)(w':World):Prop:=e= .returned (.bool true)∧Nw w w'
end Go.Proofs.YtgpdhgadmjfokaaGreat
namespace Go.Proofs.YtgpdhgadmjfokaaGreat
set_option maxHeartbeats 4000000
set_option maxRecDepth 100000
open Go.RowKit
theorem Jd (p:QB→Prop)(xs:List (QB))(v:Value)(F:Nat)(caps:Array Value)(w:World)(hr:Rep (.sl 44 Y2) w [v] xs)(hcf:Qg Tryz.prog F)
 (hF:∀(i:Nat) (x:QB) (W:World) (v0 v1:Value),xs[i]? =some x→Nw w W→Rep Y2 W [v0,v1] x→Calls Tryz.prog F (#[.agg #[v0,v1]]++caps) W (RetB (p x) W)):
 Calls Tryz.prog 307 #[v, .func (.func F) #[] caps] w (Qtn p xs w):=by
 obtain ⟨A,c,rfl,hl,hc⟩:=hr.slv
 have hm:xs.length≤9223372036854775807:=by unfold maxLen at hc; omega
 have HF:=hid hF
 clear hF
 go_enter Tryz.func307,Tryz.ntmps307
 go_wp2
 go_loopw [8] (fun i wr=>∃k:Nat,k≤xs.length∧i= .int .i64 k∧(∀j x,j < k→xs[j]? =some x→¬p x)∧Nw w wr) (fun i _=>xs.length - (intOf i).toNat)
 case atStart=>exact ⟨0,aP _,rfl,fun j x h=>absurd h (by omega),QS _⟩
 case round=>
  obtain ⟨k,hk,rfl,hno,hq⟩:=hrel
  have HN:=hid hno
  clear hno
  by_cases hlt:k < xs.length
  ·obtain ⟨b,o,v0,v1,rfl,hx,c0,c1⟩:=(hr.nw hq).at2 rfl (aj hlt)
   have hcf:=hcf
   unfold Qg at hcf
   have hcall:=HF.out k _ wr v0 v1 (aj hlt) hq hx
   have HC:=hid hcall
   clear hcall
   go_wp2_with fail
   refine Calls.mono HC.out ?_
   rintro e w1 ⟨bb,rfl,hb,hq1⟩
   cases bb with
   | true=>
    have HP:=hid (hb.1 rfl)
    clear hb
    go_wp2
    go_ret
    exact ⟨_,rfl, .inr ⟨k,rfl,hlt,fun y hy=>by rw[aj hlt] at hy; cases hy; exact HP.out,HN.out⟩,hq.trans hq1⟩
   | false=>
    have HP:=hid (fun hp=>absurd (hb.2 hp) (by simp):¬p xs[k])
    clear hb
    go_wp2
    go_roundw
    case rel=>exact ⟨k+1,by omega,by go_num,fun j y hj hy=>by
     by_cases e1:j=k
     ·subst e1
      rw[aj hlt] at hy
      cases hy
      exact HP.out
     ·exact HN.out j y (by omega) hy,hq.trans hq1⟩
    case measure=>simp[intOf]; omega
  ·go_wp2
   go_ret
   refine ⟨_,rfl, .inl ⟨rfl,fun x hx=> ?_⟩,hq⟩
   obtain ⟨j,hj,hjx⟩:=List.mem_iff_getElem.1 hx
   exact HN.out j x (by omega) (by rw[aj hj,hjx])
theorem UG (p:QB→Prop)(xs:List (QB))(v:Value)(F:Nat)(caps:Array Value)(w:World)(g:Rep (.sl 44 Y2) w [v] xs)(b:Qg Tryz.prog F)
 (hF:∀(i:Nat) (x:QB) (W:World) (h j:Value),xs[i]? =some x→Nw w W→Rep Y2 W [h,j] x→Calls Tryz.prog F (#[.agg #[h,j]]++caps) W (RetB (p x) W)):
 Calls Tryz.prog 317 #[v, .func (.func F) #[] caps] w (RetB (∃x∈xs,p x) w):=by
 have a:=Jd p xs v F caps w g b hF
 obtain ⟨A,c,rfl,q,m⟩:=g.slv
 have n:xs.length≤9223372036854775807:=by unfold maxLen at m; omega
 have k:=hid a
 clear a hF
 go_enter Tryz.func317,Tryz.ntmps317
 go_wp2_with fail
 refine Calls.mono k.out ?_
 rintro e s ⟨r,rfl,d,f⟩
 have o:=d.range n
 have l:=hid d
 clear d
 go_wp2
 go_ret
 exact RetB.of (by rw[← l.out.any]; simp) f
end Go.Proofs.YtgpdhgadmjfokaaGreat
namespace Go.Proofs.YtgpdhgadmjfokaaGreat
set_option maxHeartbeats 4000000
set_option maxRecDepth 100000
open Go.RowKit
theorem Qm2 {s t:ByteArray}(h:(s.toList==t.toList)=true):s=t:=by
 have h:s.toList=t.toList:=by simpa using h
 rw[bt,bt] at h
 cases s; cases t
 exact congrArg _ (Array.toList_inj.1 h)
theorem QsU {s t:ByteArray}(h:(s.toList==t.toList)=false):s≠t:=by
 rintro rfl
 simp at h
theorem QoJ {s t:ByteArray}(h:s=t):(s.toList==t.toList)=true:=by subst h; simp
theorem QmW {s t:ByteArray}(h:s≠t):(s.toList==t.toList)=false:=by
 cases e:(s.toList==t.toList) with
 | false=>rfl
 | true=>exact absurd (Qm2 e) h
def Z1 (k c:Nat):Prop:=(97≤c∧c≤122)∨(k≠0∧48≤c∧c≤57)
def ZF (s:ByteArray):Prop:=(∀k (h:k < s.size),Z1 k s[k].toNat)∧1≤s.size∧s.size≤6
def QmY (c:Nat):Prop:=c=48∨c=49∨c=45
def Qle (s:ByteArray):Prop:=∀k (h:k < s.size),QmY s[k].toNat
theorem Jx (n lo hi:Int)(w:World):Calls Tryz.prog 107 #[.int .i64 n, .int .i64 lo, .int .i64 hi] w (RetB (lo≤n∧n≤hi) w):=by
 by_cases a:lo≤n
 ·by_cases b:n≤hi
  all_goals
   go_enter Tryz.func107,Tryz.ntmps107
   go_wp2
   go_ret
   exact RetB.of (by simp; omega) (QS _)
 ·go_enter Tryz.func107,Tryz.ntmps107
  go_wp2
  go_ret
  exact RetB.of (by simp; omega) (QS _)
theorem VR (n lo hi:Int)(w:World):Calls Tryz.prog 163 #[.int .i64 n, .int .i64 lo, .int .i64 hi] w (RetB (lo≤n∧n≤hi) w):=by
 by_cases a:lo≤n
 ·by_cases b:n≤hi
  all_goals
   go_enter Tryz.func163,Tryz.ntmps163
   go_wp2
   go_ret
   exact RetB.of (by simp; omega) (QS _)
 ·go_enter Tryz.func163,Tryz.ntmps163
  go_wp2
  go_ret
  exact RetB.of (by simp; omega) (QS _)
theorem QdS {s:ByteArray}{k:Nat}(h:k < s.size)(a:¬Z1 k s[k].toNat):¬ZF s:=fun b=>a (b.1 k h)
theorem Jn {s:ByteArray}{k:Nat}(h:k < s.size)(d:∀j (h:j < s.size),j < k→Z1 j s[j].toNat)(a:Z1 k s[k].toNat):∀j (h:j < s.size),j < k+1→Z1 j s[j].toNat:=by
 intro j b c
 by_cases e:j=k
 ·subst e; exact a
 ·exact d j b (by omega)
theorem QcU (s:ByteArray)(w:World)(hs:s.size≤maxLen):Calls Tryz.prog 198 #[.string s] w (RetB (ZF s) w):=by
  have hm:s.size≤9223372036854775807:=hs
  go_enter Tryz.func198,Tryz.ntmps198
  go_wp2
  go_loop [3] (fun i=>∃k:Nat,k≤s.size∧i= .int .i64 k∧∀j (h:j < s.size),j < k→Z1 j s[j].toNat) (fun i=>s.size - (intOf i).toNat)
  case atStart=>exact ⟨0,aP _,rfl,fun j h h'=>absurd h' (by omega)⟩
  case round=>
    obtain ⟨k,hk,rfl,hyes⟩:=hrel
    have HY:=hid hyes
    clear hyes
    by_cases hlt:k < s.size
    · rcases (by omega : s[k].toNat < 48 ∨ (48 ≤ s[k].toNat ∧ s[k].toNat ≤ 57) ∨ (58 ≤ s[k].toNat ∧ s[k].toNat ≤ 96) ∨ (97 ≤ s[k].toNat ∧ s[k].toNat ≤ 122) ∨ 123 ≤ s[k].toNat) with h1 | ⟨h1, h2⟩ | ⟨h1, h2⟩ | ⟨h1, h2⟩ | h1
      all_goals first | have d0:decide ((97:Int)≤(s[k].toNat:Int))=true:=aT (by omega) | have d0:decide ((97:Int)≤(s[k].toNat:Int))=false:=aI (by omega)
      all_goals first | have d1:decide ((s[k].toNat:Int)≤122)=true:=aT (by omega) | have d1:decide ((s[k].toNat:Int)≤122)=false:=aI (by omega)
      all_goals first | have d2:decide ((48:Int)≤(s[k].toNat:Int))=true:=aT (by omega) | have d2:decide ((48:Int)≤(s[k].toNat:Int))=false:=aI (by omega)
      all_goals first | have d3:decide ((s[k].toNat:Int)≤57)=true:=aT (by omega) | have d3:decide ((s[k].toNat:Int)≤57)=false:=aI (by omega)
      all_goals first | have d4:decide ((s[k].toNat:Int) < 48)=true:=aT (by omega) | have d4:decide ((s[k].toNat:Int) < 48)=false:=aI (by omega)
      all_goals first | have d5:decide ((57:Int) < (s[k].toNat:Int))=true:=aT (by omega) | have d5:decide ((57:Int) < (s[k].toNat:Int))=false:=aI (by omega)
      all_goals rcases Nat.eq_zero_or_pos k with rfl | hk0
      all_goals try have hk1:((k:Int)==0)=false:=by simp; omega
      all_goals go_wp2
      all_goals first
        | (go_ret
           exact RetB.no (QdS hlt (by unfold Z1; omega)) (QS _))
        | (go_round
           case rel=>exact ⟨_+1,by omega,by go_num,Jn hlt HY.out (by unfold Z1; omega)⟩
           case measure=>simp[intOf]; omega)
    · have : k = s.size := by omega
      subst this
      go_wp2_with (go_at_call 163; refine (VR _ _ _ _).mono ?_; rintro e w1 ⟨b,rfl,hb,hq1⟩)
      go_ret
      refine RetB.of (hb.trans ⟨fun h=>⟨fun j hj=>HY.out j hj hj,by omega,by omega⟩,fun h=>by have:=h.2; omega⟩) hq1
theorem QcR (s:ByteArray)(w:World)(hs:s.size≤maxLen):Calls Tryz.prog 193 #[.string s] w (RetB (ZF s) w):=by
  have hm:s.size≤9223372036854775807:=hs
  go_enter Tryz.func193,Tryz.ntmps193
  go_wp2
  go_loopw [3] (fun i wr=>∃k:Nat,k≤s.size∧i= .int .i64 k∧(∀j (h:j < s.size),j < k→Z1 j s[j].toNat)∧Nw w wr) (fun i _=>s.size - (intOf i).toNat)
  case atStart=>exact ⟨0,aP _,rfl,fun j h h'=>absurd h' (by omega),QS _⟩
  case round=>
    obtain ⟨k,hk,rfl,hyes,hq⟩:=hrel
    have HY:=hid hyes
    clear hyes
    by_cases hlt:k < s.size
    · have hi0 : (0 : Int) ≤ k := by omega
      have hi1:(k:Int) < s.size:=by omega
      rcases (by omega:s[k].toNat < 48∨(48≤s[k].toNat∧s[k].toNat≤57)∨(58≤s[k].toNat∧s[k].toNat≤96)∨(97≤s[k].toNat∧s[k].toNat≤122)∨123≤s[k].toNat) with h1 | ⟨h1,h2⟩ | ⟨h1,h2⟩ | ⟨h1,h2⟩ | h1
      all_goals first | have d0:decide ((97:Int)≤(s[k].toNat:Int))=true:=aT (by omega) | have d0:decide ((97:Int)≤(s[k].toNat:Int))=false:=aI (by omega)
      all_goals first | have d1:decide ((s[k].toNat:Int)≤122)=true:=aT (by omega) | have d1:decide ((s[k].toNat:Int)≤122)=false:=aI (by omega)
      all_goals first | have d2:decide ((48:Int)≤(s[k].toNat:Int))=true:=aT (by omega) | have d2:decide ((48:Int)≤(s[k].toNat:Int))=false:=aI (by omega)
      all_goals first | have d3:decide ((s[k].toNat:Int)≤57)=true:=aT (by omega) | have d3:decide ((s[k].toNat:Int)≤57)=false:=aI (by omega)
      all_goals first | have d4:decide ((s[k].toNat:Int) < 48)=true:=aT (by omega) | have d4:decide ((s[k].toNat:Int) < 48)=false:=aI (by omega)
      all_goals first | have d5:decide ((57:Int) < (s[k].toNat:Int))=true:=aT (by omega) | have d5:decide ((57:Int) < (s[k].toNat:Int))=false:=aI (by omega)
      all_goals rcases Nat.eq_zero_or_pos k with rfl | hk0
      all_goals try have hk1:((k:Int)==0)=false:=by simp; omega
      all_goals go_wp2_with fail
      all_goals go_quiet (fail)
      all_goals go_wp2
      all_goals first
        | (go_ret
           exact RetB.no (QdS hlt (by unfold Z1; omega)) (hq.drewN _))
        | (go_roundw
           case rel=>exact ⟨_+1,by omega,by go_num,Jn hlt HY.out (by unfold Z1; omega),hq.drewN _⟩
           case measure=>simp[intOf]; omega)
    · have : k = s.size := by omega
      subst this
      go_wp2_with (go_at_call 107; refine (Jx _ _ _ _).mono ?_; rintro e w1 ⟨b,rfl,hb,hq1⟩)
      go_ret
      refine RetB.of (hb.trans ⟨fun h=>⟨fun j hj=>HY.out j hj hj,by omega,by omega⟩,fun h=>by have:=h.2; omega⟩) (hq.trans hq1)
theorem Qdk {a b:Int}(h:a≠b):(a != b)=true:=by simpa using h
theorem QdH {a b:Int}(h:a=b):(a != b)=false:=by simpa using h
theorem Qde {a b:Int}(h:a=b):(a==b)=true:=by simpa using h
theorem KL {a b:Int}(h:a≠b):(a==b)=false:=by simpa using h
end Go.Proofs.YtgpdhgadmjfokaaGreat
