/- How Go's data of this program lie in memory: a small universe of types, and what it means that cells read as a datum. No program is named here. -/
import Derived.WalkKit
import Derived.ChangeArms
import Derived.DataReads
import Derived.Deep.Draws
import Derived.WalkSpells
import Derived.WalkLawsBesides
import Derived.Deep.LoopGhost
import Derived.Deep.QuietTactic
import Derived.BigQuiet
import Derived.Test.YtjfpbcmfbnnooaaGreatProg
import Derived.StillTailTactics
set_option linter.unusedSimpArgs false
set_option linter.unusedVariables false
set_option linter.unusedSectionVars false
namespace Go.Proofs.YtjfpbcmfbnnooaaGreat
section
open Go
set_option linter.defProp false
def aa:=@of_decide_eq_false
def ab:=@of_decide_eq_true
def ae:=@List.mem_of_getElem?
def ah:=@List.length_append
def ai:=@List.getElem?_eq_some_iff
def aj:=@Option.getD_some
def ak:=@Option.getD_none
def ao:=@List.getElem?_eq_getElem
def ap:=@List.length_take
def au:=@List.all_eq_true
def av:=@List.length_cons
def aw:=@Go.Sem.run_bind
def ax:=@ByteArray.size_append
def ay:=@decide_eq_false
def az:=@List.length_replicate
def aA:=@List.mem_cons_of_mem
def aB:=@List.mem_cons_self
def aC:=@List.length_nil
def aD:=@List.length_set
def aE:=@Nat.le_of_ble_eq_true
def aF:=@List.mem_singleton
def aG:=@Result.andThen_ok
def aH:=@List.length_map
def aI:=@List.cons.injEq
def aJ:=@List.mem_cons
def aK:=@List.mem_iff_getElem?
def aL:=@Nat.zero_le
def aM:=@Bool.and_eq_true
def aN:=@decide_eq_true
def aO:=@Nat.le_refl
def aP:=@List.take_of_length_le
def aQ:=@List.mem_append
def aR:=@List.append_assoc
def aS:=@List.mem_append_left
def aT:=@ByteArray.size_extract
def aU:=@decide_eq_true_eq
def aV:=@Nat.not_lt_zero
def aW:=@List.mem_append_right
def aX:=@List.length_drop
def aY:=@Go.Sem.run_pure
def aZ:=@Nat.eq_of_beq_eq_true
def ba:=@Nat.lt_of_lt_of_le
def bc:=@List.getElem?_take
def bd:=@List.mem_map
def be:=@List.getElem?_set_ne
def bf:=@List.map_cons
def bg:=@Option.isSome_iff_exists
def bh:=@Nat.le_trans
def bi:=@List.eq_nil_of_length_eq_zero
def bj:=@List.nodup_append
def bk:=@List.getElem?_set_self
def bl:=@List.getElem?_append_right
def bm:=@ByteArray.toList_eq
def bn:=@List.getElem?_map
def bo:=@List.getElem?_append_left
def bp:=@Option.some.injEq
def bq:=@List.nodup_cons
def br:=@List.append_nil
def bt:=@List.all_cons
def bu:=@List.any_eq_true
def bw:=@Nat.zero_add
def bz:=@Nat.add_sub_cancel_left
def bA:=@List.pairwise_cons
def bB:=@List.map_append
def bC:=@List.foldl_cons
def bD:=@List.getElem?_eq_none
def bE:=@List.filter_append
def bF:=@decide_eq_decide
def bG:=@List.nodup_nil
def bH:=@List.mem_range
def bI:=@List.drop_eq_getElem_cons
def bJ:=@List.getElem?_set
def bK:=@Nat.add_mul
def bL:=@List.take_append_drop
def bM:=@List.ext_getElem?
def bN:=@List.not_mem_nil
def bO:=@List.range_succ
def bP:=@List.mem_filter
def bQ:=@List.take_succ_eq_append_getElem
def bR:=@List.drop_eq_nil_of_le
def bS:=@Nat.add_assoc
def bT:=@Bool.not_eq_true'
def bU:=@Array.getD_eq_getD_getElem?
def bV:=@Int.natCast_nonneg
def bW:=@List.all_nil
def bX:=@Array.getElem?_eq_some_iff
def bY:=@Int.pow_nonneg
def cc:=@Nat.mul_le_mul_right
def cd:=@Bool.false_eq_true
def ce:=@Int.ediv_nonneg
def ci:=@Bool.or_eq_true
def cj:=@Bool.eq_iff_iff
def ck:=@List.mem_or_eq_of_mem_set
def cp:=@List.mem_flatMap
def cq:=@List.length_filter_le
def cr:=@List.any_eq_false
def cv:=@List.getElem?_replicate
def cw:=@List.getElem?_cons_zero
def cy:=@List.findIdx?_eq_some_iff_getElem
def cA:=@Option.map_eq_some_iff
def cB:=@List.flatMap_append
def cC:=@List.Pairwise.nil
def cD:=@Bool.eq_false_iff
def cE:=@Nat.mul_le_mul
def cF:=@Nat.min_eq_left
def cG:=@List.filter_eq_self
def cH:=@List.getElem_mem
def cI:=@Nat.ble_eq_true_of_le
def cJ:=@Nat.one_mul
def cK:=@World.cell?_of_block
def cM:=@List.getElem?_modify
def cN:=@Option.some.inj
def cO:=@Option.map_some
def cP:=@List.foldl_append
def cQ:=@List.eq_of_mem_replicate
def cR:=@Nat.add_le_add_left
def cU:=@List.pairwise_singleton
def cV:=@Int.toNat_of_nonneg
def cW:=@Bool.and_true
def cX:=@List.cons_append
def cY:=@Array.toList_map
def cZ:=@List.getElem?_drop
def da:=@Nat.lt_or_ge
def db:=@List.nil_append
def dc:=@List.length_singleton
def dd:=@Nat.le_succ_of_le
def de:=@Bool.or_eq_false_iff
def dh:=@Nat.mul_one
def di:=@Int.le_refl
def dk:=@getElem?_pos
def dl:=@Nat.beq_refl
def dn:=@Nat.add_zero
def dp:=@Int.toNat_natCast
def dq:=@List.take_left
def dr:=@List.drop_drop
def dt:=@List.set_set
def du:=@List.map_map
def dx:=@Nat.mod_eq_of_lt
def dy:=@List.take_length
def dC:=@List.map_toArray
def dD:=@Option.map_none
def dE:=@Sem.run_bind
def dF:=@Nat.add_comm
def dH:=@List.map_nil
def dJ:=@eq_self
def dL:=@List.drop_zero
end
set_option maxHeartbeats 4000000
set_option maxRecDepth 100000
open Go.RowKit
abbrev Hdr:=Option (Nat×Nat×Nat×Nat)
def hdV:Hdr→Value
 | none=> .slice none 0 0
 | some (g,o,n,c)=> .slice (some ⟨g,o,none⟩) n c
theorem Qu1 (x:Hdr):(hdV x).oneCell'=true:=by
 match x with
 | none=>simp[hdV,Value.oneCell']
 | some (g,o,n,c)=>simp[hdV,Value.oneCell']
theorem QnL {x y:Hdr}(h:hdV x=hdV y):x=y:=by
 match x,y with
 | none,none=>rfl
 | none,some (g,o,n,c)=>simp[hdV] at h
 | some (g,o,n,c),none=>simp[hdV] at h
 | some (g,o,n,c),some (g',o',n',c')=>
  simp[hdV] at h
  obtain ⟨⟨rfl,rfl⟩,rfl,rfl⟩:=h
  rfl
inductive Ty where
  | int|bool|str|u8|vl
  | sl (E:TypeId) (e:Ty)
  | pr (a b:Ty)
@[reducible] def Ty.Den:Ty→Type
 | .int=>Int
 | .bool=>Bool
 | .str=>ByteArray
 | .u8=>UInt8
 | .vl=>Hdr
 | .sl _ e=>List e.Den
 | .pr a b=>a.Den×b.Den
@[reducible] def Ty.wd:Ty→Nat
 | .pr a b=>a.wd+b.wd
 | .int=>1
 | .bool=>1
 | .str=>1
 | .u8=>1
 | .vl=>1
 | .sl _ _=>1
theorem Xw:∀t:Ty,0<t.wd
 | .int=>Nat.one_pos
 | .bool=>Nat.one_pos
 | .str=>Nat.one_pos
 | .u8=>Nat.one_pos
 | .vl=>Nat.one_pos
 | .sl _ _=>Nat.one_pos
 | .pr a _=>Nat.add_pos_left (Xw a) _
def Rep:(t:Ty)→World→List Value→t.Den→Prop
 | .int,_,cs,x=>cs=[.int .i64 x]∧ -9223372036854775808≤x∧x≤9223372036854775807
 | .bool,_,cs,x=>cs=[.bool x]
 | .str,_,cs,x=>cs=[.string x]∧x.size≤maxLen
 | .u8,_,cs,x=>cs=[.int .u8 x.toNat]
 | .vl,_,cs,x=>cs=[hdV x]
 | .sl _ e,w,cs,xs=>∃A c,cs=[.slice A xs.length c]∧xs.length≤c∧c≤maxLen∧
  (0<xs.length→∃b o,A=some ⟨b,o,none⟩∧∀i x,xs[i]? =some x→∃ds,Rep e w ds x∧∀j u,ds[j]? =some u→w.cell? ⟨b,o+i*e.wd+j,none⟩=some u)
 | .pr a b,w,cs,x=>∃l r,cs=l++r∧Rep a w l x.1∧Rep b w r x.2
def Kp (w w':World):Prop:=∀a v,w.cell? a=some v→w'.cell? a=some v
theorem QAu (w:World):Kp w w:=fun _ _ h=>h
theorem Kp.trans {a b c:World}(h:Kp a b)(k:Kp b c):Kp a c:=fun p v q=>k p v (h p v q)
theorem Qen {w w':World}(h:Below w.heap.size w w'):Kp w w':=fun a v e=>by
 rw[h.cell (World.block_lt_of_cell? w a e)];exact e
theorem Kp.alloc (w:World)(o:Obj):Kp w (w.alloc o):=Qen ((Below.refl _ _).alloc (aO _) o)
theorem Rep.len:∀{t:Ty} {w:World} {cs:List Value} {x:t.Den},Rep t w cs x→cs.length=t.wd
 | .int,_,_,_,h=>by rw[h.1];rfl
 | .bool,_,_,_,h=>by have h:_=_:=h;rw[h];rfl
 | .str,_,_,_,h=>by rw[h.1];rfl
 | .u8,_,_,_,h=>by have h:_=_:=h;rw[h];rfl
 | .vl,_,_,_,h=>by have h:_=_:=h;rw[h];rfl
 | .sl _ _,_,_,_,⟨_,_,h,_⟩=>by rw[h];rfl
 | .pr _ _,_,_,_,⟨_,_,h,h1,h2⟩=>by rw[h,ah,Rep.len h1,Rep.len h2]
theorem Rep.kp:∀{t:Ty} {w w':World} {cs:List Value} {x:t.Den},Rep t w cs x→Kp w w'→Rep t w' cs x
 | .int,_,_,_,_,h,_=>h
 | .bool,_,_,_,_,h,_=>h
 | .str,_,_,_,_,h,_=>h
 | .u8,_,_,_,_,h,_=>h
 | .vl,_,_,_,_,h,_=>h
 | .sl _ _,_,_,_,_,⟨A,c,h,h1,h2,h3⟩,k=>⟨A,c,h,h1,h2,fun m=>by
  obtain ⟨b,o,e,d⟩:=h3 m
  refine ⟨b,o,e,fun i x p=> ?_⟩
  obtain ⟨a,f,g⟩:=d i x p
  exact ⟨a,Rep.kp f k,fun j u n=>k _ _ (g j u n)⟩⟩
 | .pr _ _,_,_,_,_,⟨l,r,h,h1,h2⟩,k=>⟨l,r,h,Rep.kp h1 k,Rep.kp h2 k⟩
theorem Qx7 {t:Ty}{w w':World}{cs:List Value}{x:t.Den}(h:Rep t w cs x)(hb:Below w.heap.size w w'):Rep t w' cs x:=h.kp (Qen hb)
theorem Rep.alloc {t:Ty}{w:World}{cs:List Value}{x:t.Den}(h:Rep t w cs x)(o:Obj):Rep t (w.alloc o) cs x:=h.kp (Kp.alloc w o)
theorem Rep.drew {t:Ty}{w:World}{cs:List Value}{x:t.Den}(h:Rep t w cs x):Rep t w.drew cs x:=h.kp fun _ _ e=>e
theorem Rep.drewN {t:Ty}{w:World}{cs:List Value}{x:t.Den}(h:Rep t w cs x)(n:Nat):Rep t (w.drewN n) cs x:=h.kp fun _ _ e=>e
theorem Rep.slv {E:TypeId}{e:Ty}{w:World}{v:Value}{xs:List e.Den}(h:Rep (.sl E e) w [v] xs):∃A c,v= .slice A xs.length c∧xs.length≤c∧c≤maxLen:=by
 obtain ⟨A,c,h,a,b,_⟩:=h
 exact ⟨A,c,by simpa using h,a,b⟩
theorem Rep.at_ {E:TypeId}{e:Ty}{w:World}{A:Option Addr}{n c:Nat}{xs:List e.Den}(h:Rep (.sl E e) w [.slice A n c] xs){i:Nat}{x:e.Den}(d:xs[i]? =some x):
 ∃b o a,A=some ⟨b,o,none⟩∧Rep e w a x∧∀j u,a[j]? =some u→w.cell? ⟨b,o+i*e.wd+j,none⟩=some u:=by
 obtain ⟨p,q,h,r,s,g⟩:=h
 simp only[aI,Value.slice.injEq,and_true] at h
 obtain ⟨rfl,rfl,rfl⟩:=h
 have t:i<xs.length:=(ai.1 d).1
 obtain ⟨b,o,f,k⟩:=g (by omega)
 obtain ⟨a,l,m⟩:=k i x d
 exact ⟨b,o,a,f,l,m⟩
theorem Rep.cut {E:TypeId}{e:Ty}{w:World}{A:Option Addr}{n c:Nat}{xs:List e.Den}(h:Rep (.sl E e) w [.slice A n c] xs){m:Nat}(u:m≤n)(a:Nat)(t:m≤a)(f:a≤maxLen):
 Rep (.sl E e) w [.slice A m a] (xs.take m):=by
 obtain ⟨q,g,h,r,s,k⟩:=h
 simp only[aI,Value.slice.injEq,and_true] at h
 obtain ⟨rfl,rfl,rfl⟩:=h
 have p:(xs.take m).length=m:=by simp;omega
 refine ⟨A,a,by rw[p],by omega,f,fun v=> ?_⟩
 obtain ⟨b,o,j,l⟩:=k (by omega)
 refine ⟨b,o,j,fun i x d=>l i x ?_⟩
 rw[bc] at d
 split at d
 ·exact d
 ·cases d
theorem Rep.int_ {w:World}{v:Value}{x:Int}(h:Rep .int w [v] x):v= .int .i64 x∧ -9223372036854775808≤x∧x≤9223372036854775807:=⟨by simpa using h.1,h.2⟩
theorem Rep.bool_ {w:World}{v:Value}{x:Bool}(h:Rep .bool w [v] x):v= .bool x:=by have h:_=_:=h;simpa using h
theorem Rep.str_ {w:World}{v:Value}{x:ByteArray}(h:Rep .str w [v] x):v= .string x∧x.size≤maxLen:=⟨by simpa using h.1,h.2⟩
theorem Rep.pr1 {a b:Ty}{w:World}{v:Value}{cs:List Value}{x:a.Den×b.Den}(h:Rep (.pr a b) w (v::cs) x)(e:a.wd=1):Rep a w [v] x.1∧Rep b w cs x.2:=by
 obtain ⟨l,r,h,c,d⟩:=h
 match l,c.len.trans e with
 | [u],_=>
  simp only[cX,db,aI] at h
  obtain ⟨rfl,rfl⟩:=h
  exact ⟨c,d⟩
theorem QmI {α:Type}{n:Nat}{p:Nat→α→Prop}(h:∀i,i<n→∃d,p i d):∃xs:List α,xs.length=n∧∀i x,xs[i]? =some x→p i x:=by
 induction n with
 | zero=>exact ⟨[],rfl,by simp⟩
 | succ n g=>
  obtain ⟨xs,b,c⟩:=g (fun i f=>h i (by omega))
  obtain ⟨d,e⟩:=h n (by omega)
  refine ⟨xs++[d],by simp[b],fun i x a=> ?_⟩
  rw[List.getElem?_append] at a
  split at a
  ·exact c i x a
  ·have:i=n:=by
    have:=(ai.1 a).1
    simp at this
    omega
   subst this
   simp[b] at a
   subst a
   exact e
def Trd (P:Program)(T:TypeId)(t:Ty):Prop:=
 P.cellsOf T=t.wd∧∀{H:Type} (enc:TypeId×Value→H) (w:World) (base:Nat) (spare:Nat→Bool) (held:Bool) (fuel:Nat) (cs:List Value) (x:DataW H×List MemPlace),
  DataW.trod enc P w base spare held fuel T cs=some x→∃d,Rep t w cs d
section
variable {P:Program}{T:TypeId}
theorem Trd.int (h:P.underlying T=some (.int .i64))(g:P.cellsOf T=1):Trd P T .int:=⟨g,fun f w c b e d j x i=>by
 obtain ⟨n,rfl,_,a⟩:=DataW.trod_int h i
 refine ⟨n,rfl,?_⟩
 simp[Lit.wf] at a
 exact ⟨a.1,a.2⟩⟩
theorem Trd.bool (h:P.underlying T=some .bool)(g:P.cellsOf T=1):Trd P T .bool:=⟨g,fun f w c a e d j x i=>by
 obtain ⟨b,rfl,_⟩:=DataW.trod_bool h i
 exact ⟨b,rfl⟩⟩
theorem Trd.str (h:P.underlying T=some .string)(f:P.cellsOf T=1):Trd P T .str:=⟨f,fun e w b a d c j x i=>by
 obtain ⟨s,rfl,_,g⟩:=DataW.trod_string h i
 exact ⟨s,rfl,g⟩⟩
theorem Trd.sl {E:TypeId}{e:Ty}(h:P.underlying T=some (.slice E))(S:P.cellsOf T=1)(K:Trd P E e):Trd P T (.sl E e):=⟨S,fun N w G F L J cs x A=>by
 rcases DataW.trod_slice h A with ⟨rfl,_⟩|⟨a,D,v,g,M,n,_,rfl,_,_,X,Y,V,W,_,_⟩
 ·exact ⟨[],none,0,rfl,aO _,aL _,fun h=>absurd h (by simp)⟩
 ·have q:∀i,i<D→∃d:e.Den,∃c,Rep e w c d∧∀j u,c[j]? =some u→w.cell? (a.add (i*e.wd+j))=some u:=by
   intro i z
   have l:=W i z
   have m:i<g.length:=by omega
   rw[ao m] at l
   obtain ⟨c,O,Q⟩:=Option.bind_eq_some_iff.1 l
   obtain ⟨d,U⟩:=K.2 _ _ _ _ _ _ _ _ Q
   refine ⟨d,c,U,fun j u s=> ?_⟩
   obtain ⟨_,h5,R⟩:=World.cells?_some O
   have hj:j<c.length:=(ai.1 s).1
   have:=R j (by omega)
   rw[s,K.1] at this
   rw[← this]
   congr 1
   unfold Addr.add
   by_cases H:i*e.wd=0 <;> by_cases I:j=0 <;> simp[H,I,bS]
  obtain ⟨t,B,f⟩:=QmI (p:=fun i x=>∃c,Rep e w c x∧∀j u,c[j]? =some u→w.cell? (a.add (i*e.wd+j))=some u) q
  subst B
  refine ⟨t,some a,v,rfl,X,Y,fun Z=> ?_⟩
  have C:t[0]? =some t[0]:=ao Z
  have k:a.spot=none∨∀c:List Value,Rep e w c t[0]→c.length=0:=by
   obtain ⟨c,l,m⟩:=f 0 _ C
   cases c with
   | nil=>right;intro c y;rw[y.len,← l.len];rfl
   | cons u us=>
    left
    have:=m 0 u rfl
    simpa [Addr.add] using World.cell?_spot this
  rcases k with r|r
  ·obtain ⟨b,o,sp⟩:=a
   have r:sp=none:=r
   subst r
   refine ⟨b,o,rfl,fun i x A=> ?_⟩
   obtain ⟨c,l,m⟩:=f i x A
   refine ⟨c,l,fun j u s=> ?_⟩
   rw[← m j u s]
   congr 1
   unfold Addr.add
   split
   ·rename_i e0
    have H:i*e.wd=0:=by omega
    have I:j=0:=by omega
    rw[show o+i*e.wd+j=o by omega]
   ·simp[bS]
  ·exact absurd (r _ (f 0 _ C).choose_spec.1) (by rw[(f 0 _ C).choose_spec.1.len];exact Nat.ne_of_gt (Xw e))⟩
def TF (P:Program)(fs:Array Field)(i k:Nat)(t:Ty):Prop:=
 ∀{H:Type} (enc:TypeId×Value→H) (w:World) (base:Nat) (spare:Nat→Bool) (held:Bool) (n:Nat) (cs:List Value),cs.length=k+t.wd→
  (∀j f,i≤j→fs[j]? =some f→∃y,DataW.trod enc P w base spare held n f.type ((cs.drop f.offset).take (P.cellsOf f.type))=some y)→∃d,Rep t w (cs.drop k) d
theorem QAx {c:Array Field}{i k:Nat}{t:Ty}(f:Field)(l:c[i]? =some f)(m:f.offset=k)(e:Trd P f.type t):TF P c i k t:=
 fun j w b a d n o p h=>by
  obtain ⟨y,g⟩:=h i f (aO _) l
  rw[m,e.1,aP (by simp;omega)] at g
  exact e.2 _ _ _ _ _ _ _ _ g
theorem TF.cons {m:Array Field}{i k:Nat}{a b:Ty}(f:Field)(x:m[i]? =some f)(A:f.offset=k)(q:Trd P f.type a)(hb:TF P m (i+1) (k+a.wd) b):TF P m i k (.pr a b):=
 fun l w e c g n s z h=>by
  obtain ⟨y,r⟩:=h i f (aO _) x
  rw[A,q.1] at r
  obtain ⟨d,v⟩:=q.2 _ _ _ _ _ _ _ _ r
  obtain ⟨t,o⟩:=hb l w e c g n s (by rw[z];simp[Ty.wd,bS]) (fun j u B p=>h j u (by omega) p)
  refine ⟨(d,t),_,_,?_,v,o⟩
  rw[← dr,bL]
theorem Trd.st {t:Ty}{e:Array Field}(h:P.underlying T=some (.struct e))(i:P.cellsOf T=t.wd)(o:TF P e 0 0 t):Trd P T t:=⟨i,fun d w b a c g l x r=>by
 obtain ⟨u,n,_,_,q,s,p⟩:=DataW.trod_struct h r
 have:=o d w b a c n l (by rw[q,i,bw]) (fun j f _ k=>by
  have m:=p j f k
  have:j<e.size:=(bX.1 k).1
  rw[m,ao (by omega)]
  exact ⟨_,rfl⟩)
 simpa using this⟩
end
@[reducible] def Qx4:Ty:= .pr (.pr (.sl 9 .str) (.sl 229 (.pr .int (.pr .int .int)))) (.pr (.sl 229 (.pr .int (.pr .int .int))) (.pr .int (.pr .int .bool)))
@[reducible] def Qkz:Ty:= .pr (.pr .int (.sl 290 (.pr (.sl 3 .int) (.sl 3 .int)))) (.pr (.sl 103 (.pr .str .int)) (.pr (.sl 183 (.pr .int .bool)) .str))
@[reducible] def Hd:Ty:= .pr (.sl 103 (.pr .str .int)) (.pr (.sl 9 .str) (.sl 139 (.pr .int (.pr .int (.pr .bool .int)))))
@[reducible] def Vw:Ty:= .pr (.sl 103 (.pr .str .int)) (.sl 90 (.pr .int (.pr .int (.pr (.sl 9 .str) (.sl 9 .str)))))
@[reducible] def YU:Ty:= .sl 90 (.pr .int (.pr .int (.pr (.sl 9 .str) (.sl 9 .str))))
@[reducible] def QAe:Ty:= .pr (.sl 9 .str) (.sl 229 (.pr .int (.pr .int .int)))
@[reducible] def ZT:Ty:= .pr .int (.pr .int (.pr (.sl 9 .str) (.sl 9 .str)))
@[reducible] def Qtw:Ty:= .pr .int (.sl 290 (.pr (.sl 3 .int) (.sl 3 .int)))
@[reducible] def QA:Ty:= .sl 139 (.pr .int (.pr .int (.pr .bool .int)))
@[reducible] def XZ:Ty:= .sl 290 (.pr (.sl 3 .int) (.sl 3 .int))
@[reducible] def Yq:Ty:= .pr .int (.pr .int (.pr .bool .int))
@[reducible] def Qc1:Ty:= .sl 229 (.pr .int (.pr .int .int))
@[reducible] def Zu:Ty:= .pr (.sl 3 .int) (.sl 3 .int)
@[reducible] def X9:Ty:= .pr (.sl 9 .str) (.sl 9 .str)
@[reducible] def XQ:Ty:= .sl 183 (.pr .int .bool)
@[reducible] def Z5:Ty:= .pr .int (.pr .int .int)
@[reducible] def Ql:Ty:= .sl 103 (.pr .str .int)
@[reducible] def Ji:Ty:= .sl 62 (.sl 3 .int)
@[reducible] def ZY:Ty:= .pr .int .bool
@[reducible] def QI:Ty:= .pr .str .int
@[reducible] def Qb:Ty:= .sl 9 .str
@[reducible] def Qs:Ty:= .sl 3 .int
@[reducible] def QS:Ty:= .sl 5 .u8
abbrev ZM:=(List (ByteArray×Int))×List ByteArray×(List (Int×Int×Bool×Int))
abbrev Qgr:=List (ByteArray×Int)
abbrev Qgs:=(List (ByteArray×Int))×(List (Int×Int×List ByteArray×List ByteArray))
abbrev Qk1:=(Int×(List (List Int×List Int)))×(List (ByteArray×Int))×(List (Int×Bool))×ByteArray
abbrev Qo5:=Int×(List (List Int×List Int))
abbrev QrD:=List (Int×Int×Bool×Int)
abbrev QuF:=Int×Int×Bool×Int
abbrev QuG:=Int×Int×List ByteArray×List ByteArray
abbrev QyS:=List (Int×Int×List ByteArray×List ByteArray)
end Go.Proofs.YtjfpbcmfbnnooaaGreat
namespace Go.Proofs.YtjfpbcmfbnnooaaGreat
set_option maxHeartbeats 4000000
set_option maxRecDepth 100000
open Go.RowKit
def Nw (w w':World):Prop:=Below w.heap.size w w'
theorem QX (w:World):Nw w w:=Below.refl _ _
theorem Nw.trans {a b c:World}(h:Nw a b)(k:Nw b c):Nw a c:=Below.trans h (Below.mono k (Below.size h))
theorem Nw.alloc {a w:World}(h:Nw a w)(o:Obj):Nw a (w.alloc o):=Below.alloc h (Below.size h) o
theorem Nw.drew {a w:World}(h:Nw a w):Nw a w.drew:=Below.drew h
theorem Nw.drewN {a w:World}(h:Nw a w)(n:Nat):Nw a (w.drewN n):=h.trans ⟨rfl,rfl,rfl,aO _,fun _ _=>rfl⟩
theorem Nw.setCell {a w:World}(h:Nw a w){p:Addr}(f:a.heap.size≤p.block)(u:Value):Nw a (w.setCell p u):=Below.setCell h f u
theorem ZC {a b c:World}(k:Nw b c)(h:Nw a b):Nw a c:=h.trans k
theorem Zc {a w:World}{p:Addr}{u:Value}(f:a.heap.size≤p.block)(h:Nw a w):Nw a (w.setCell p u):=h.setCell f u
theorem Nw.size {a w:World}(h:Nw a w):a.heap.size≤w.heap.size:=Below.size h
theorem Nw.kp {a w:World}(h:Nw a w):Kp a w:=Qen h
theorem Qyi {a w:World}(h:Nw a w):Below a.heap.size a w:=h
theorem Rep.nw {t:Ty}{w w':World}{cs:List Value}{x:t.Den}(h:Rep t w cs x)(hb:Nw w w'):Rep t w' cs x:=h.kp hb.kp
theorem Nw.cells {W f:World}(hb:Nw W f):(∀b o,b<W.heap.size→f.cell? ⟨b,o,none⟩=W.cell? ⟨b,o,none⟩)∧(∀b o,b<W.heap.size→f.frozen? ⟨b,o,none⟩=W.frozen? ⟨b,o,none⟩):=
 ⟨fun b o h=>Below.cell hb (p:=⟨b,o,none⟩) h,fun b o h=>Below.frozen hb (p:=⟨b,o,none⟩) h⟩
theorem Qc {P:Program}{f:FuncId}{fn:Func}{c:Code}(i:P.funcs[f]? =some fn)(g:(fn.name== "runtime.NumGoroutine")=false)(hb:fn.body=some c)(args:Array Value)(w:World):
 (callFunc f args).run P w= .ok (.enter f args) w:=by
 have h:fn.name≠ "runtime.NumGoroutine" :=by simpa using g
 simp[callFunc,i,h,hb]
def Qf (P:Program)(F:FuncId):Prop:=∀(a_:Array Value) (W:World),(callFunc F a_).run P W= .ok (.enter F a_) W
theorem hid {p:Prop}(h:p):Hid p:=h
def RetB (p:Prop)(w:World)(e:Ending)(w':World):Prop:=∃b:Bool,e= .returned (.bool b)∧(b=true↔p)∧Nw w w'
theorem RetB.yes {p:Prop}{w w':World}(h:p)(f:Nw w w'):RetB p w (.returned (.bool true)) w':=⟨true,rfl,by simp[h],f⟩
theorem RetB.no {p:Prop}{w w':World}(h:¬p)(f:Nw w w'):RetB p w (.returned (.bool false)) w':=⟨false,rfl,by simp[h],f⟩
theorem RetB.not {p:Prop}(h:false=true↔p):¬p:=fun f=>absurd (h.2 f) (by simp)
theorem RetB.of {p:Prop}{w w':World}{b:Bool}(h:b=true↔p)(f:Nw w w'):RetB p w (.returned (.bool b)) w':=⟨b,rfl,h,f⟩
def IsIdx {α:Type}(p:α→Prop)(xs:List α)(r:Int):Prop:=(r= -1∧∀x∈xs,¬p x)∨(∃k:Nat,r=k∧k<xs.length∧(∀x,xs[k]? =some x→p x)∧∀j x,j<k→xs[j]? =some x→¬p x)
def Qwv {α:Type}(p:α→Prop)(xs:List α)(w:World)(e:Ending)(w':World):Prop:=∃r:Int,e= .returned (.int .i64 r)∧IsIdx p xs r∧Nw w w'
theorem IsIdx.range {α:Type}{p:α→Prop}{xs:List α}{r:Int}(h:IsIdx p xs r)(f:xs.length≤9223372036854775807): -1≤r∧r≤9223372036854775807:=by
 rcases h with ⟨rfl,_⟩|⟨k,rfl,h,_⟩ <;> omega
theorem IsIdx.any {α:Type}{p:α→Prop}{xs:List α}{r:Int}(h:IsIdx p xs r):0≤r↔∃x∈xs,p x:=by
 rcases h with ⟨rfl,h⟩|⟨k,rfl,f,h,_⟩
 ·constructor
  ·intro j;omega
  ·rintro ⟨x,i,g⟩;exact absurd g (h x i)
 ·exact ⟨fun _=>⟨xs[k],cH f,h _ (ao f)⟩,fun _=>by omega⟩
section
variable {E:TypeId}{e:Ty}{w:World}{A:Option Addr}{n c:Nat}{xs:List e.Den}
theorem Rep.at1 (h:Rep (.sl E e) w [.slice A n c] xs)(g:e.wd=1){i:Nat}{x:e.Den}(l:xs[i]? =some x):
 ∃b o v,A=some ⟨b,o,none⟩∧Rep e w [v] x∧w.cell? ⟨b,o+i,none⟩=some v:=by
 obtain ⟨b,o,j,rfl,f,k⟩:=h.at_ l
 match j,f.len.trans g with
 | [v],_=>exact ⟨b,o,v,rfl,f,by have:=k 0 v rfl;rwa [g,dh] at this⟩
theorem Rep.at2 (h:Rep (.sl E e) w [.slice A n c] xs)(j:e.wd=2){i:Nat}{x:e.Den}(p:xs[i]? =some x):
 ∃b o f g,A=some ⟨b,o,none⟩∧Rep e w [f,g] x∧w.cell? ⟨b,o+i*2,none⟩=some f∧w.cell? ⟨b,o+i*2+1,none⟩=some g:=by
 obtain ⟨b,o,m,rfl,k,l⟩:=h.at_ p
 match m,k.len.trans j with
 | [f,g],_=>exact ⟨b,o,f,g,rfl,k,by have:=l 0 f rfl;rwa [j] at this,by have:=l 1 g rfl;rwa [j] at this⟩
end
theorem Rep.pr2 {a b:Ty}{w:World}{v u:Value}{cs:List Value}{x:a.Den×b.Den}(h:Rep (.pr a b) w (v::u::cs) x)(i:a.wd=2):Rep a w [v,u] x.1∧Rep b w cs x.2:=by
 obtain ⟨l,r,h,f,g⟩:=h
 match l,f.len.trans i with
 | [y,z],_=>
  simp only[cX,db,aI] at h
  obtain ⟨rfl,rfl,rfl⟩:=h
  exact ⟨f,g⟩
section
variable {a b c d:Ty}{w:World}{u0 u1 u2 u3:Value}
theorem Rep.open2 {x:(Ty.pr a b).Den}(h:Rep (.pr a b) w [u0,u1] x)(f:a.wd=1):Rep a w [u0] x.1∧Rep b w [u1] x.2:=h.pr1 f
theorem Rep.open3 {x:(Ty.pr a (.pr b c)).Den}(h:Rep (.pr a (.pr b c)) w [u0,u1,u2] x)(i:a.wd=1)(hb:b.wd=1):Rep a w [u0] x.1∧Rep b w [u1] x.2.1∧Rep c w [u2] x.2.2:=by
 obtain ⟨f,g⟩:=h.pr1 i
 exact ⟨f,g.pr1 hb⟩
end
def Ty.tot:(t:Ty)→t.Den→Nat
 | .int,_=>0
 | .bool,_=>0
 | .str,s=>s.size
 | .u8,_=>0
 | .vl,_=>0
 | .sl _ e,xs=>xs.length+(xs.map e.tot).sum
 | .pr a b,x=>a.tot x.1+b.tot x.2
def cut (left:Int)(t:Nat):Int:=if left<t then -1 else left - t
end Go.Proofs.YtjfpbcmfbnnooaaGreat
namespace Go.Proofs.YtjfpbcmfbnnooaaGreat
set_option maxHeartbeats 4000000
set_option maxRecDepth 100000
abbrev Qy:Type:=ByteArray×Int
abbrev Y6:Ty:= .pr .str .int
abbrev Qye:Type:=Int×Bool
abbrev QBy:Ty:= .pr .int .bool
abbrev Qyf:Type:=ByteArray×Int×(List Qye)×(List ByteArray)
abbrev QAa:Ty:= .pr .str (.pr .int (.pr (.sl 207 QBy) (.sl 9 .str)))
abbrev Qyd:Type:=(List Qy)×(List Qyf)
abbrev Qz9:Ty:= .pr (.sl 103 Y6) (.sl 147 QAa)
abbrev Q0:Type:=(List Int)×(List Int)
abbrev Zt:Ty:= .pr (.sl 3 .int) (.sl 3 .int)
abbrev XG:Type:=Int×(List Q0)
abbrev QcG:Ty:= .pr .int (.sl 290 Zt)
abbrev ZZ:Type:=Int×Bool
abbrev QiT:Ty:= .pr .int .bool
abbrev ZG:Type:=XG×(List Qy)×(List ZZ)×ByteArray
abbrev Qdu:Ty:= .pr QcG (.pr (.sl 103 Y6) (.pr (.sl 183 QiT) .str))
abbrev YZ:Type:=Int×Int×Bool
abbrev QAC:Type:=Int×Int×Bool×Int
abbrev QBx:Ty:= .pr .int (.pr .int (.pr .bool .int))
abbrev QvV:Type:=(List Qy)×(List ByteArray)×(List QAC)
abbrev Qwr:Ty:= .pr (.sl 103 Y6) (.pr (.sl 9 .str) (.sl 139 QBx))
abbrev Qyc:Type:=Int×Int×Int
abbrev Qz8:Ty:= .pr .int (.pr .int .int)
abbrev QkD:Type:=(List ByteArray)×(List Qyc)
abbrev Qm1:Ty:= .pr (.sl 9 .str) (.sl 229 Qz8)
end Go.Proofs.YtjfpbcmfbnnooaaGreat
namespace Go.Proofs.YtjfpbcmfbnnooaaGreat
set_option maxHeartbeats 4000000
set_option maxRecDepth 100000
open Go.RowKit
def OwnL {α:Type}(O:List Nat→List Value→α→Prop):List Nat→List Value→List α→Prop
 | fp,cs,[]=>fp=[]∧cs=[]
 | fp,cs,x::xs=>∃f1 f2 c1 c2,fp=f1++f2∧cs=c1++c2∧O f1 c1 x∧OwnL O f2 c2 xs
def Own:(t:Ty)→World→List Nat→List Value→t.Den→Prop
 | .int,_,fp,cs,x=>fp=[]∧cs=[.int .i64 x]∧ -9223372036854775808≤x∧x≤9223372036854775807
 | .bool,_,fp,cs,x=>fp=[]∧cs=[.bool x]
 | .str,_,fp,cs,x=>fp=[]∧cs=[.string x]∧x.size≤maxLen
 | .u8,_,fp,cs,x=>fp=[]∧cs=[.int .u8 x.toNat]
 | .vl,_,fp,cs,x=>fp=[]∧cs=[hdV x]
 | .sl E e,w,fp,cs,xs=>(fp=[]∧cs=[.slice none 0 0]∧xs=[])∨
  ∃g cap cur fps,fp=g::fps∧cs=[.slice (some ⟨g,0,none⟩) xs.length cap]∧w.heap[g]? =some (.cells cur E (0,0))∧xs.length≤cap∧cap≤maxLen∧cur.size=cap*e.wd∧
   OwnL (Own e w) fps (cur.toList.take (xs.length*e.wd)) xs
 | .pr a b,w,fp,cs,x=>∃f1 f2 l r,fp=f1++f2∧cs=l++r∧Own a w f1 l x.1∧Own b w f2 r x.2
theorem OwnL.mono {α:Type}{O b:List Nat→List Value→α→Prop}:∀{xs:List α} {fp:List Nat} {cs:List Value},OwnL O fp cs xs→
 (∀f c x,(∀g∈f,g∈fp)→O f c x→b f c x)→OwnL b fp cs xs
 | [],_,_,h,_=>h
 | _::_,_,_,⟨f1,f2,c1,c2,h1,h2,h3,h4⟩,k=>⟨f1,f2,c1,c2,h1,h2,k _ _ _ (fun g a=>by rw[h1];exact aS _ a) h3,
  OwnL.mono h4 fun f c x d i=>k f c x (fun g a=>by rw[h1];exact aW _ (d g a)) i⟩
theorem OwnL.append {α:Type}{O:List Nat→List Value→α→Prop}:∀{xs ys:List α} {f1 f:List Nat} {c1 c2:List Value},OwnL O f1 c1 xs→OwnL O f c2 ys→OwnL O (f1++f) (c1++c2) (xs++ys)
 | [],_,_,_,_,_,⟨h1,h2⟩,k=>by rw[h1,h2];exact k
 | _::_,_,_,_,_,_,⟨a,b,c,d,h1,h2,h3,h4⟩,k=>⟨a,b++_,c,d++_,by rw[h1,aR],by rw[h2,aR],h3,OwnL.append h4 k⟩
theorem Qjn {α:Type}{O:List Nat→List Value→α→Prop}{f:List Nat}{c:List Value}{x:α}(h:O f c x):OwnL O f c [x]:=
 ⟨f,[],c,[],by simp,by simp,h,rfl,rfl⟩
theorem Own.len:∀{t:Ty} {w:World} {fp:List Nat} {cs:List Value} {x:t.Den},Own t w fp cs x→cs.length=t.wd
 | .int,_,_,_,_,h=>by rw[h.2.1];rfl
 | .bool,_,_,_,_,h=>by rw[h.2];rfl
 | .str,_,_,_,_,h=>by rw[h.2.1];rfl
 | .u8,_,_,_,_,h=>by rw[h.2];rfl
 | .vl,_,_,_,_,h=>by rw[h.2];rfl
 | .sl _ _,_,_,_,_,h=>by rcases h with ⟨_,h,_⟩|⟨_,_,_,_,_,h,_⟩ <;> rw[h] <;> rfl
 | .pr _ _,_,_,_,_,⟨_,_,_,_,_,h,h1,h2⟩=>by rw[h,ah,Own.len h1,Own.len h2]
theorem OwnL.len {e:Ty}{w:World}:∀{xs:List e.Den} {fp:List Nat} {cs:List Value},OwnL (Own e w) fp cs xs→cs.length=xs.length*e.wd
 | [],_,_,h=>by rw[h.2];simp
 | _::xs,_,_,⟨_,_,_,_,_,h2,h3,h4⟩=>by rw[h2,ah,h3.len,h4.len,av,bK,cJ,dF]
theorem Own.keep:∀{t:Ty} {w w':World} {fp:List Nat} {cs:List Value} {x:t.Den},Own t w fp cs x→(∀g∈fp,w'.heap[g]? =w.heap[g]?)→Own t w' fp cs x
 | .int,_,_,_,_,_,h,_=>h
 | .bool,_,_,_,_,_,h,_=>h
 | .str,_,_,_,_,_,h,_=>h
 | .u8,_,_,_,_,_,h,_=>h
 | .vl,_,_,_,_,_,h,_=>h
 | .sl _ _,_,_,_,_,_,h,k=>by
  rcases h with h|⟨g,b,d,fps,rfl,i,j,m,o,p,q⟩
  ·exact .inl h
  ·exact .inr ⟨g,b,d,fps,rfl,i,(k g (aB ..)).trans j,m,o,p,OwnL.mono q fun f c x s u=>Own.keep u fun g a=>k g (aA _ (s g a))⟩
 | .pr _ _,_,_,_,_,_,⟨f1,f2,l,r,h,i,j,m⟩,k=>⟨f1,f2,l,r,h,i,Own.keep j fun g a=>k g (by rw[h];exact aS _ a),Own.keep m fun g a=>k g (by rw[h];exact aW _ a)⟩
theorem Own.lt:∀{t:Ty} {w:World} {fp:List Nat} {cs:List Value} {x:t.Den},Own t w fp cs x→∀g∈fp,g<w.heap.size
 | .int,_,_,_,_,h=>by rw[h.1];simp
 | .bool,_,_,_,_,h=>by rw[h.1];simp
 | .str,_,_,_,_,h=>by rw[h.1];simp
 | .u8,_,_,_,_,h=>by rw[h.1];simp
 | .vl,_,_,_,_,h=>by rw[h.1];simp
 | .sl e E,w,_,_,_,h=>by
  rcases h with h|⟨g,u,v,fps,rfl,s,j,o,z,A,m⟩
  ·rw[h.1];simp
  ·intro y f
   rcases aJ.1 f with rfl|f
   ·rcases da y w.heap.size with q|p
    ·exact q
    ·rw[Array.getElem?_eq_none p] at j;cases j
   ·clear s o A
    generalize List.take _ _=cs at m
    revert m f
    clear j z
    rename_i xs
    induction xs generalizing fps cs with
    | nil=>intro f m;rw[m.1] at f;cases f
    | cons x xs F=>
     rintro f ⟨a,b,c,d,rfl,rfl,C,D⟩
     rcases aQ.1 f with f|f
     ·exact Own.lt C _ f
     ·exact F b (aA _ f) d f D
 | .pr _ _,_,_,_,_,⟨f1,f2,l,r,h,s,j,o⟩=>by
  intro g i
  rw[h] at i
  rcases aQ.1 i with i|i
  ·exact Own.lt j _ i
  ·exact Own.lt o _ i
theorem OwnL.get {e:Ty}{w:World}:∀{xs:List e.Den} {fp:List Nat} {cs:List Value},OwnL (Own e w) fp cs xs→∀i x,xs[i]? =some x→∃f h,Own e w f h x∧(∀g∈f,g∈fp)∧∀j u,h[j]? =some u→cs[i*e.wd+j]? =some u
 | [],_,_,_,i,x,hx=>by simp at hx
 | y::xs,_,_,⟨a,b,c,d,h1,h2,h3,h4⟩,i,x,hx=>by
  cases i with
  | zero=>
   simp at hx
   subst hx
   refine ⟨a,c,h3,fun g m=>by rw[h1];exact aS _ m,fun j u l=> ?_⟩
   rw[h2,Nat.zero_mul,bw,bo (ai.1 l).1]
   exact l
  | succ i=>
   obtain ⟨f,h,o,p,q⟩:=OwnL.get h4 i x (by simpa using hx)
   refine ⟨f,h,o,fun g m=>by rw[h1];exact aW _ (p g m),fun j u l=> ?_⟩
   rw[h2,bl (by rw[h3.len,bK];omega),← q j u l,h3.len,bK]
   congr 1
   omega
theorem Own.rep:∀{t:Ty} {w:World} {fp:List Nat} {cs:List Value} {x:t.Den},Own t w fp cs x→Rep t w cs x
 | .int,_,_,_,_,h=>h.2
 | .bool,_,_,_,_,h=>h.2
 | .str,_,_,_,_,h=>h.2
 | .u8,_,_,_,_,h=>h.2
 | .vl,_,_,_,_,h=>h.2
 | .sl _ e,w,_,_,xs,h=>by
  rcases h with ⟨_,h,q⟩|⟨g,b,o,fps,rfl,c,d,m,s,D,v⟩
  ·subst q
   exact ⟨none,0,h,aO _,aL _,fun h=>absurd h (by simp)⟩
  ·refine ⟨_,b,c,m,s,fun _=>⟨g,0,rfl,fun i x C=> ?_⟩⟩
   obtain ⟨f,p,y,_,z⟩:=v.get i x C
   refine ⟨p,Own.rep y,fun j u A=> ?_⟩
   have a:=z j u A
   rw[bc] at a
   split at a
   ·simp only[World.cell?,d]
    simpa using a
   ·cases a
 | .pr _ _,_,_,_,_,⟨f1,f2,l,r,h,c,d,m⟩=>⟨l,r,c,Own.rep d,Own.rep m⟩
theorem Rep.one:∀{t:Ty} {w:World} {cs:List Value} {x:t.Den},Rep t w cs x→∀v∈cs,v.oneCell'=true
 | .int,_,_,_,h=>by rw[h.1];simp[Value.oneCell']
 | .bool,_,_,_,h=>by have h:_=_:=h;rw[h];simp[Value.oneCell']
 | .str,_,_,_,h=>by rw[h.1];simp[Value.oneCell']
 | .u8,_,_,_,h=>by have h:_=_:=h;rw[h];simp[Value.oneCell']
 | .vl,_,_,_,h=>by have h:_=_:=h;rw[h];simpa using Qu1 _
 | .sl _ _,_,_,_,⟨_,_,h,_⟩=>by rw[h];simp[Value.oneCell']
 | .pr _ _,_,_,_,⟨_,_,h,h1,h2⟩=>by
  intro v a
  rw[h] at a
  rcases aQ.1 a with a|a
  ·exact Rep.one h1 v a
  ·exact Rep.one h2 v a
theorem Qgx {P:Program}(w:World)(a:Addr)(v:Value)(m:Mode)(h:v.oneCell'=true):(store a v m).run P w=stored P w a v m:=run_store P w a v m h
attribute [go_sem] Qgx
def Frs (t:Ty)(B U:Nat)(w:World)(cs:List Value)(x:t.Den):Prop:=∃fp,Own t w fp cs x∧fp.Nodup∧∀g∈fp,B≤g∧g<U
def FrsL (e:Ty)(B U:Nat)(w:World)(cs:List Value)(xs:List e.Den):Prop:=∃fp,OwnL (Own e w) fp cs xs∧fp.Nodup∧∀g∈fp,B≤g∧g<U
theorem Frs.rep {t:Ty}{B U:Nat}{w:World}{cs:List Value}{x:t.Den}(h:Frs t B U w cs x):Rep t w cs x:=h.choose_spec.1.rep
theorem Frs.mono {t:Ty}{B U a b:Nat}{w:World}{cs:List Value}{x:t.Den}(h:Frs t B U w cs x)(l:a≤B)(m:U≤b):Frs t a b w cs x:=by
 obtain ⟨c,d,f,i⟩:=h
 exact ⟨c,d,f,fun g j=>by have:=i g j;omega⟩
theorem Frs.keep {t:Ty}{B U:Nat}{w w':World}{cs:List Value}{x:t.Den}(h:Frs t B U w cs x)(i:∀g,B≤g→g<U→w'.heap[g]? =w.heap[g]?):Frs t B U w' cs x:=by
 obtain ⟨c,d,f,a⟩:=h
 exact ⟨c,d.keep fun g b=>i g (a g b).1 (a g b).2,f,a⟩
theorem FrsL.keep {e:Ty}{B U:Nat}{w w':World}{cs:List Value}{xs:List e.Den}(h:FrsL e B U w cs xs)(m:∀g,B≤g→g<U→w'.heap[g]? =w.heap[g]?):FrsL e B U w' cs xs:=by
 obtain ⟨i,j,l,a⟩:=h
 exact ⟨i,j.mono fun f c x b o=>o.keep fun g d=>m g (a g (b g d)).1 (a g (b g d)).2,l,a⟩
theorem Jh {l r:List Nat}{M:Nat}(c:l.Nodup)(d:r.Nodup)(i:∀g∈l,g<M)(j:∀g∈r,M≤g):(l++r).Nodup:=
 bj.2 ⟨c,d,fun a f b h e=>by have:=i a f;have:=j b h;omega⟩
theorem Frs.join {a b:Ty}{B M U:Nat}{w:World}{l r:List Value}{x:a.Den}{y:b.Den}(h:Frs a B M w l x)(k:Frs b M U w r y)(s:B≤M)(t:M≤U):Frs (.pr a b) B U w (l++r) (x,y):=by
 obtain ⟨d,m,o,i⟩:=h
 obtain ⟨f,p,q,j⟩:=k
 refine ⟨d++f,⟨d,f,l,r,rfl,rfl,m,p⟩,Jh o q (fun g c=>(i g c).2) (fun g c=>(j g c).1),fun g c=> ?_⟩
 rcases aQ.1 c with c|c
 ·have:=i g c;omega
 ·have:=j g c;omega
theorem Frs.int {B U:Nat}{w:World}{x:Int}(h: -9223372036854775808≤x∧x≤9223372036854775807):Frs .int B U w [.int .i64 x] x:=⟨[],⟨rfl,rfl,h⟩,bG,by simp⟩
theorem Frs.bool {B U:Nat}{w:World}{x:Bool}:Frs .bool B U w [.bool x] x:=⟨[],⟨rfl,rfl⟩,bG,by simp⟩
theorem Frs.str {B U:Nat}{w:World}{x:ByteArray}(h:x.size≤maxLen):Frs .str B U w [.string x] x:=⟨[],⟨rfl,rfl,h⟩,bG,by simp⟩
theorem Frs.nil {E:TypeId}{e:Ty}{B U:Nat}{w:World}:Frs (.sl E e) B U w [.slice none 0 0] []:=⟨[],.inl ⟨rfl,rfl,rfl⟩,bG,by simp⟩
structure Fill (e:Ty) (E:TypeId) (w0:World) (g n k:Nat) (w:World) (xs:List e.Den):Prop where
  nw:Nw w0 w
  base:w0.heap.size≤g
  lt:g<w.heap.size
  row:∃cur,w.heap[g]? =some (.cells cur E (0,0))∧cur.size=n*e.wd∧FrsL e (g+1) w.heap.size w (cur.toList.take (k*e.wd)) (xs.take k)
def XO (w:World)(g off:Nat):List Value→World
 | []=>w
 | v::vs=>XO (w.setCell ⟨g,off,none⟩ v) g (off+1) vs
theorem QhB (w:World)(g off:Nat)(vs:List Value):(XO w g off vs).heap.size=w.heap.size:=by
 induction vs generalizing w off with
 | nil=>rfl
 | cons v vs a=>simp[XO,a]
theorem YD (w:World)(g off:Nat)(vs:List Value)(k:Nat)(h:k≠g):(XO w g off vs).heap[k]? =w.heap[k]? :=by
 induction vs generalizing w off with
 | nil=>rfl
 | cons v vs a=>
  rw[XO,a]
  exact Below.heap_setCell w ⟨g,off,none⟩ v k h
theorem W3 (g:Nat)(E:TypeId)(b:Nat×Nat)(vs:List Value):∀(w:World) (off:Nat) (cur:Array Value),w.heap[g]? =some (.cells cur E b)→off+vs.length≤cur.size→
 ∃a,(XO w g off vs).heap[g]? =some (.cells a E b)∧a.size=cur.size∧a.toList=cur.toList.take off++vs++cur.toList.drop (off+vs.length):=by
 induction vs with
 | nil=>intro w off cur h _;exact ⟨cur,h,rfl,by simp⟩
 | cons v vs m=>
  intro w off cur h l
  simp only[av] at l
  have d:(w.setCell ⟨g,off,none⟩ v).heap[g]? =some (.cells (cur.setIfInBounds off v) E b):=by simp[World.setCell,Array.getElem?_modify,h]
  obtain ⟨a,f,i,j⟩:=m (w.setCell ⟨g,off,none⟩ v) (off+1) (cur.setIfInBounds off v) d (by simp;omega)
  refine ⟨a,f,by simpa using i,?_⟩
  rw[j]
  have c:off<cur.toList.length:=by simp;omega
  simp only[Array.toList_setIfInBounds,av]
  rw[List.drop_set_of_lt (by omega)]
  have:(cur.toList.set off v).take (off+1)=cur.toList.take off++[v]:=by
   rw[bQ (by simpa using c),List.take_set_of_le (aO _)]
   simp
  rw[this]
  simp[bS,dF 1 vs.length]
theorem Qvr {w0 w:World}(h:Nw w0 w){g:Nat}(a:w0.heap.size≤g)(off:Nat)(vs:List Value):Nw w0 (XO w g off vs):=by
 induction vs generalizing w off with
 | nil=>exact h
 | cons v vs b=>exact b (h.setCell (p:=⟨g,off,none⟩) a v) _
section
variable {e:Ty}{E:TypeId}{w0 w w1:World}{g n k:Nat}{xs:List e.Den}
theorem Fill.start (w0:World)(E:TypeId)(cur:Array Value)(n:Nat)(a:cur.size=n*e.wd)(xs:List e.Den):Fill e E w0 w0.heap.size n 0 (w0.alloc (.cells cur E)) xs:=
 ⟨(QX _).alloc _,aO _,by simp,cur,heap_alloc_new w0 _,a,[],by simpa using ⟨rfl,rfl⟩,bG,by simp⟩
theorem Fill.cell (h:Fill e E w0 g n k w xs)(l:Nw w w1)(i:k<n){j:Nat}(m:j<e.wd):∃u,w1.cell? ⟨g,k*e.wd+j,none⟩=some u∧w1.frozen? ⟨g,k*e.wd+j,none⟩=false:=by
 obtain ⟨a,c,d,_⟩:=h.row
 have b:w1.heap[g]? =some (.cells a E (0,0)):=(Below.block l g h.lt).trans c
 have f:k*e.wd+j<a.size:=by
  rw[d]
  calc k*e.wd+j<k*e.wd+e.wd:=by omega
   _=(k+1)*e.wd:=by rw[bK,cJ]
   _≤n*e.wd:=cc _ i
 exact ⟨a[k*e.wd+j],by simp[World.cell?,b,f],by simp[World.frozen?,b]⟩
theorem Fill.step (h:Fill e E w0 g n k w xs)(m:Nw w w1)(N:k<n){x:e.Den}(Q:xs[k]? =some x){cs:List Value}(v:Frs e w.heap.size w1.heap.size w1 cs x):Fill e E w0 g n (k+1) (XO w1 g (k*e.wd) cs) xs:=by
 obtain ⟨b,I,u,J⟩:=h.row
 have K:w1.heap[g]? =some (.cells b E (0,0)):=(Below.block m g h.lt).trans I
 have i:cs.length=e.wd:=by obtain ⟨_,p,_⟩:=v;exact p.len
 have j:k*e.wd+cs.length≤b.size:=by
  rw[u,i]
  calc k*e.wd+e.wd=(k+1)*e.wd:=by rw[bK,cJ]
   _≤n*e.wd:=cc _ N
 obtain ⟨c,p,L,M⟩:=W3 g E (0,0) cs w1 (k*e.wd) b K j
 have P:=m.size
 have O:=h.lt
 refine ⟨Qvr (h.nw.trans m) h.base _ _,h.base,by rw[QhB];omega,c,p,L.trans u,?_⟩
 have o:FrsL e (g+1) w.heap.size (XO w1 g (k*e.wd) cs) (b.toList.take (k*e.wd)) (xs.take k):=J.keep fun f a d=>by
  rw[YD _ _ _ _ _ (by omega)]
  exact Below.block m f d
 have q:Frs e w.heap.size w1.heap.size (XO w1 g (k*e.wd) cs) cs x:=v.keep fun f a d=>YD _ _ _ _ _ (by omega)
 obtain ⟨G,y,z,s⟩:=o
 obtain ⟨H,A,C,t⟩:=q
 rw[QhB]
 refine ⟨G++H,?_,Jh z C (fun g r=>(s g r).2) (fun g r=>(t g r).1),fun f a=> ?_⟩
 ·have D:xs.take (k+1)=xs.take k++[x]:=by
   have l:=(ai.1 Q)
   rw[bQ l.1,l.2]
  have F:c.toList.take ((k+1)*e.wd)=b.toList.take (k*e.wd)++cs:=by
   have l:(b.toList.take (k*e.wd)++cs).length=(k+1)*e.wd:=by
    rw[ah,ap,i,bK,cJ,cF (by simp;omega)]
   rw[M,← l,dq]
  rw[D,F]
  exact y.append (Qjn A)
 ·rcases aQ.1 a with a|a
  ·have:=s f a;omega
  ·have:=t f a;omega
theorem Qx5 (h:Fill e E w0 g n n w xs)(q:xs.length=n)(p:n≤maxLen):Frs (.sl E e) g w.heap.size w [.slice (some ⟨g,0,none⟩) n n] xs:=by
 obtain ⟨b,j,l,c,d,m,f⟩:=h.row
 subst q
 rw[dy] at d
 refine ⟨g::c,.inr ⟨g,xs.length,b,c,rfl,rfl,j,aO _,p,l,d⟩,bq.2 ⟨fun o=>by have:=f g o;omega,m⟩,fun i a=> ?_⟩
 rcases aJ.1 a with rfl|a
 ·exact ⟨aO _,h.lt⟩
 ·have:=f i a;omega
end
section
variable {e:Ty}{E:TypeId}{w0 w w1:World}{g n k:Nat}{xs:List e.Den}
end
def Kb (B U:Nat)(w w':World):Prop:=∀g,B≤g→g<U→w'.heap[g]? =w.heap[g]?
section
variable {B U:Nat}{w w' w'':World}
theorem QAt:Kb B U w w:=fun _ _ _=>rfl
theorem Kb.trans (h:Kb B U w w')(k:Kb B U w' w''):Kb B U w w'':=fun g a b=>(k g a b).trans (h g a b)
theorem Kb.setCell (h:Kb B U w w'){p:Addr}(c:p.block<B∨U≤p.block)(u:Value):Kb B U w (w'.setCell p u):=fun g a b=>(Below.heap_setCell w' p u g (by omega)).trans (h g a b)
theorem Kb.alloc (h:Kb B U w w')(c:U≤w'.heap.size)(o:Obj):Kb B U w (w'.alloc o):=fun g a b=>(Below.heap_alloc w' o g (by omega)).trans (h g a b)
theorem Kb.drew (h:Kb B U w w'):Kb B U w w'.drew:=h
theorem Kb.drewN (h:Kb B U w w')(n:Nat):Kb B U w (w'.drewN n):=h
theorem Kb.nw (h:Kb B U w w')(c:Nw w' w'')(d:U≤w'.heap.size):Kb B U w w'':=fun g a b=>(Below.block c g (by omega)).trans (h g a b)
theorem QvY {p:Addr}{u:Value}(a:p.block<B∨U≤p.block)(h:Kb B U w w'):Kb B U w (w'.setCell p u):=h.setCell a u
end
theorem QAG {t:Ty}{B U:Nat}{w w':World}{cs:List Value}{x:t.Den}(h:Frs t B U w cs x)(a:Kb B U w w'):Frs t B U w' cs x:=h.keep a
def QBT (E:TypeId)(e:Ty)(w:World)(xs:List e.Den)(n:Ending)(w':World):Prop:=∃A c,n= .returned (.slice A xs.length c)∧Frs (.sl E e) w.heap.size w'.heap.size w' [.slice A xs.length c] xs∧Nw w w'
def QBO (t:Ty)(w:World)(x:t.Den)(e:Ending)(w':World):Prop:=∃u0,e= .returned u0∧Frs t w.heap.size w'.heap.size w' [u0] x∧Nw w w'
def QBP (t:Ty)(w:World)(x:t.Den)(e:Ending)(w':World):Prop:=∃u0 u1,e= .returned (.agg #[u0,u1])∧Frs t w.heap.size w'.heap.size w' [u0,u1] x∧Nw w w'
def QBQ (t:Ty)(w:World)(x:t.Den)(e:Ending)(w':World):Prop:=∃u0 u1 u2,e= .returned (.agg #[u0,u1,u2])∧Frs t w.heap.size w'.heap.size w' [u0,u1,u2] x∧Nw w w'
def QBR (t:Ty)(w:World)(x:t.Den)(e:Ending)(w':World):Prop:=∃u0 u1 u2 u3,e= .returned (.agg #[u0,u1,u2,u3])∧Frs t w.heap.size w'.heap.size w' [u0,u1,u2,u3] x∧Nw w w'
def QBS (t:Ty)(w:World)(x:t.Den)(e:Ending)(w':World):Prop:=∃u0 u1 u2 u3 u4,e= .returned (.agg #[u0,u1,u2,u3,u4])∧Frs t w.heap.size w'.heap.size w' [u0,u1,u2,u3,u4] x∧Nw w w'
theorem QmX {P:Program}(t E:TypeId)(z:Value)(b a:Nat)(m:P.underlying t=some (.slice E))(c:(P.info? E).map (fun i=>(i.zero,i.size,i.bytes))=some (some z,b,a))
 (n:Nat) (hbytes:a*n≤281474976710656) (h63:n≤9223372036854775807) (w:World):
 (Instr.makeSlice t (.int .i64 (n:Int)) (.int .i64 (n:Int))).run P w= .ok (.slice (some ⟨w.heap.size,0,none⟩) n n) (w.alloc (.cells (madeCells z.cells (n*b)) E)):=by
 obtain ⟨i,j,f⟩:=cA.1 c
 simp only[Prod.mk.injEq] at f
 obtain ⟨o,l,h⟩:=f
 have:=run_make (P:=P) w t E i z m j o .i64 .i64 n n (by omega) (di _) (by rw[h];have d:=Int.ofNat_le.2 hbytes;rw[Int.natCast_mul] at d;exact d) (by omega)
 simpa [l] using this
end Go.Proofs.YtjfpbcmfbnnooaaGreat
namespace Go.Proofs.YtjfpbcmfbnnooaaGreat
set_option maxHeartbeats 4000000
set_option maxRecDepth 100000
open Go.RowKit
def CutTo (l:Int)(t:Nat)(l':Int):Prop:=(l<t∧l'= -1)∨(t≤l∧l'=l - t)
theorem CutTo.le {l a:Int}{t:Nat}(h:CutTo l t a)(h0:0≤l)(b:l≤1048576): -1≤a∧a≤1048576:=by unfold CutTo at h;omega
def SzPost (w:World)(l:Int)(t:Nat)(e:Ending)(w':World):Prop:=∃l',e= .returned (.int .i64 l')∧CutTo l t l'∧Nw w w'
def QAv (w:World)(e:Ending)(w':World):Prop:=e= .returned (.bool true)∧Nw w w'
theorem HZ (p:Qy→Prop)(xs:List (Qy))(v:Value)(F:Nat)(caps:Array Value)(w:World)(hr:Rep (.sl 103 Y6) w [v] xs)(hcf:Qf Tryz.prog F)
 (hF:∀(i:Nat) (x:Qy) (W:World) (v0 v1:Value),xs[i]? =some x→Nw w W→Rep Y6 W [v0,v1] x→Calls Tryz.prog F (#[.agg #[v0,v1]]++caps) W (RetB (p x) W)):
 Calls Tryz.prog 222 #[v,.func (.func F) #[] caps] w (Qwv p xs w):=by
 obtain ⟨A,c,rfl,hl,hc⟩:=hr.slv
 have hm:xs.length≤9223372036854775807:=by unfold maxLen at hc;omega
 have HF:=hid hF
 clear hF
 go_enter Tryz.func222,Tryz.ntmps222
 go_wp2
 go_loopw [8] (fun i wr=>∃k:Nat,k≤xs.length∧i= .int .i64 k∧(∀j x,j<k→xs[j]? =some x→¬p x)∧Nw w wr) (fun i _=>xs.length - (intOf i).toNat)
 case atStart=>exact ⟨0,aL _,rfl,fun j x h=>absurd h (by omega),QX _⟩
 case round=>
  obtain ⟨k,hk,rfl,hno,hq⟩:=hrel
  have HN:=hid hno
  clear hno
  by_cases hlt:k<xs.length
  ·obtain ⟨b,o,v0,v1,rfl,hx,c0,c1⟩:=(hr.nw hq).at2 rfl (ao hlt)
   have hcf:=hcf
   unfold Qf at hcf
   have hcall:=HF.out k _ wr v0 v1 (ao hlt) hq hx
   have HC:=hid hcall
   clear hcall
   go_wp2_with fail
   refine Calls.mono HC.out ?_
   rintro e w1 ⟨bb,rfl,hb,hq1⟩
   cases bb with
   | true=>
    have HP:=hid (hb.1 rfl)
    clear hb
    go_wp2
    go_ret
    exact ⟨_,rfl,.inr ⟨k,rfl,hlt,fun y hy=>by rw[ao hlt] at hy;cases hy;exact HP.out,HN.out⟩,hq.trans hq1⟩
   | false=>
    have HP:=hid (fun hp=>absurd (hb.2 hp) (by simp):¬p xs[k])
    clear hb
    go_wp2
    go_roundw
    case rel=>exact ⟨k+1,by omega,by go_num,fun j y hj hy=>by
     by_cases e1:j=k
     ·subst e1
      rw[ao hlt] at hy
      cases hy
      exact HP.out
     ·exact HN.out j y (by omega) hy,hq.trans hq1⟩
    case measure=>simp[intOf];omega
  ·go_wp2
   go_ret
   refine ⟨_,rfl,.inl ⟨rfl,fun x hx=> ?_⟩,hq⟩
   obtain ⟨j,hj,hjx⟩:=List.mem_iff_getElem.1 hx
   exact HN.out j x (by omega) (by rw[ao hj,hjx])
theorem KI (p:Qy→Prop)(xs:List (Qy))(v:Value)(F:Nat)(caps:Array Value)(w:World)(g:Rep (.sl 103 Y6) w [v] xs)(b:Qf Tryz.prog F)
 (hF:∀(i:Nat) (x:Qy) (W:World) (h j:Value),xs[i]? =some x→Nw w W→Rep Y6 W [h,j] x→Calls Tryz.prog F (#[.agg #[h,j]]++caps) W (RetB (p x) W)):
 Calls Tryz.prog 139 #[v,.func (.func F) #[] caps] w (RetB (∃x∈xs,p x) w):=by
 have a:=HZ p xs v F caps w g b hF
 obtain ⟨A,c,rfl,q,m⟩:=g.slv
 have n:xs.length≤9223372036854775807:=by unfold maxLen at m;omega
 have k:=hid a
 clear a hF
 go_enter Tryz.func139,Tryz.ntmps139
 go_wp2_with fail
 refine Calls.mono k.out ?_
 rintro e s ⟨r,rfl,d,f⟩
 have o:=d.range n
 have l:=hid d
 clear d
 go_wp2
 go_ret
 exact RetB.of (by rw[← l.out.any];simp) f
theorem Qto {s t:ByteArray}(h:(s.toList==t.toList)=true):s=t:=by
 have h:s.toList=t.toList:=by simpa using h
 rw[bm,bm] at h
 cases s;cases t
 exact congrArg _ (Array.toList_inj.1 h)
theorem QxY {s t:ByteArray}(h:(s.toList==t.toList)=false):s≠t:=by
 rintro rfl
 simp at h
theorem Qtq {s t:ByteArray}(h:s=t):(s.toList==t.toList)=true:=by subst h;simp
theorem Qtp {s t:ByteArray}(h:s≠t):(s.toList==t.toList)=false:=by
 cases e:(s.toList==t.toList) with
 | false=>rfl
 | true=>exact absurd (Qto e) h
def Yu (k c:Nat):Prop:=(97≤c∧c≤122)∨(k≠0∧48≤c∧c≤57)
def Qeo (s:ByteArray):Prop:=(∀k (h:k<s.size),Yu k s[k].toNat)∧1≤s.size∧s.size≤6
def Qqy (c:Nat):Prop:=c=48∨c=49∨c=45
def QoO (s:ByteArray):Prop:=∀k (h:k<s.size),Qqy s[k].toNat
theorem QaU (n lo hi:Int)(w:World):Calls Tryz.prog 65 #[.int .i64 n,.int .i64 lo,.int .i64 hi] w (RetB (lo≤n∧n≤hi) w):=by
 by_cases a:lo≤n
 ·by_cases b:n≤hi
  all_goals
   go_enter Tryz.func65,Tryz.ntmps65
   go_wp2
   go_ret
   exact RetB.of (by simp;omega) (QX _)
 ·go_enter Tryz.func65,Tryz.ntmps65
  go_wp2
  go_ret
  exact RetB.of (by simp;omega) (QX _)
theorem Kk (n lo hi:Int)(w:World):Calls Tryz.prog 104 #[.int .i64 n,.int .i64 lo,.int .i64 hi] w (RetB (lo≤n∧n≤hi) w):=by
 by_cases a:lo≤n
 ·by_cases b:n≤hi
  all_goals
   go_enter Tryz.func104,Tryz.ntmps104
   go_wp2
   go_ret
   exact RetB.of (by simp;omega) (QX _)
 ·go_enter Tryz.func104,Tryz.ntmps104
  go_wp2
  go_ret
  exact RetB.of (by simp;omega) (QX _)
theorem Qhs {s:ByteArray}{k:Nat}(h:k<s.size)(a:¬Yu k s[k].toNat):¬Qeo s:=fun b=>a (b.1 k h)
theorem Qaa {s:ByteArray}{k:Nat}(h:k<s.size)(d:∀j (h:j<s.size),j<k→Yu j s[j].toNat)(a:Yu k s[k].toNat):∀j (h:j<s.size),j<k+1→Yu j s[j].toNat:=by
 intro j b c
 by_cases e:j=k
 ·subst e;exact a
 ·exact d j b (by omega)
theorem QmB (s:ByteArray)(w:World)(hs:s.size≤maxLen):Calls Tryz.prog 200 #[.string s] w (RetB (Qeo s) w):=by
  have hm:s.size≤9223372036854775807:=hs
  go_enter Tryz.func200,Tryz.ntmps200
  go_wp2
  go_loop [3] (fun i=>∃k:Nat,k≤s.size∧i= .int .i64 k∧∀j (h:j<s.size),j<k→Yu j s[j].toNat) (fun i=>s.size - (intOf i).toNat)
  case atStart=>exact ⟨0,aL _,rfl,fun j h h'=>absurd h' (by omega)⟩
  case round=>
    obtain ⟨k,hk,rfl,hyes⟩:=hrel
    have HY:=hid hyes
    clear hyes
    by_cases hlt:k<s.size
    · rcases (by omega : s[k].toNat<48 ∨ (48 ≤ s[k].toNat ∧ s[k].toNat ≤ 57) ∨ (58 ≤ s[k].toNat ∧ s[k].toNat ≤ 96) ∨ (97 ≤ s[k].toNat ∧ s[k].toNat ≤ 122) ∨ 123 ≤ s[k].toNat) with h1|⟨h1,h2⟩|⟨h1,h2⟩|⟨h1,h2⟩|h1
      all_goals first|have d0:decide ((97:Int)≤(s[k].toNat:Int))=true:=aN (by omega)|have d0:decide ((97:Int)≤(s[k].toNat:Int))=false:=ay (by omega)
      all_goals first|have d1:decide ((s[k].toNat:Int)≤122)=true:=aN (by omega)|have d1:decide ((s[k].toNat:Int)≤122)=false:=ay (by omega)
      all_goals first|have d2:decide ((48:Int)≤(s[k].toNat:Int))=true:=aN (by omega)|have d2:decide ((48:Int)≤(s[k].toNat:Int))=false:=ay (by omega)
      all_goals first|have d3:decide ((s[k].toNat:Int)≤57)=true:=aN (by omega)|have d3:decide ((s[k].toNat:Int)≤57)=false:=ay (by omega)
      all_goals first|have d4:decide ((s[k].toNat:Int)<48)=true:=aN (by omega)|have d4:decide ((s[k].toNat:Int)<48)=false:=ay (by omega)
      all_goals first|have d5:decide ((57:Int)<(s[k].toNat:Int))=true:=aN (by omega)|have d5:decide ((57:Int)<(s[k].toNat:Int))=false:=ay (by omega)
      all_goals rcases Nat.eq_zero_or_pos k with rfl|hk0
      all_goals try have hk1:((k:Int)==0)=false:=by simp;omega
      all_goals go_wp2
      all_goals first
        | (go_ret
           exact RetB.no (Qhs hlt (by unfold Yu;omega)) (QX _))
        | (go_round
           case rel=>exact ⟨_+1,by omega,by go_num,Qaa hlt HY.out (by unfold Yu;omega)⟩
           case measure=>simp[intOf];omega)
    · have : k = s.size := by omega
      subst this
      go_wp2_with (go_at_call 104;refine (Kk _ _ _ _).mono ?_;rintro e w1 ⟨b,rfl,hb,hq1⟩)
      go_ret
      refine RetB.of (hb.trans ⟨fun h=>⟨fun j hj=>HY.out j hj hj,by omega,by omega⟩,fun h=>by have:=h.2;omega⟩) hq1
theorem Qmw (s:ByteArray)(w:World)(hs:s.size≤maxLen):Calls Tryz.prog 138 #[.string s] w (RetB (Qeo s) w):=by
  have hm:s.size≤9223372036854775807:=hs
  go_enter Tryz.func138,Tryz.ntmps138
  go_wp2
  go_loopw [3] (fun i wr=>∃k:Nat,k≤s.size∧i= .int .i64 k∧(∀j (h:j<s.size),j<k→Yu j s[j].toNat)∧Nw w wr) (fun i _=>s.size - (intOf i).toNat)
  case atStart=>exact ⟨0,aL _,rfl,fun j h h'=>absurd h' (by omega),QX _⟩
  case round=>
    obtain ⟨k,hk,rfl,hyes,hq⟩:=hrel
    have HY:=hid hyes
    clear hyes
    by_cases hlt:k<s.size
    · have hi0 : (0 : Int) ≤ k := by omega
      have hi1:(k:Int)<s.size:=by omega
      rcases (by omega:s[k].toNat<48∨(48≤s[k].toNat∧s[k].toNat≤57)∨(58≤s[k].toNat∧s[k].toNat≤96)∨(97≤s[k].toNat∧s[k].toNat≤122)∨123≤s[k].toNat) with h1|⟨h1,h2⟩|⟨h1,h2⟩|⟨h1,h2⟩|h1
      all_goals first|have d0:decide ((97:Int)≤(s[k].toNat:Int))=true:=aN (by omega)|have d0:decide ((97:Int)≤(s[k].toNat:Int))=false:=ay (by omega)
      all_goals first|have d1:decide ((s[k].toNat:Int)≤122)=true:=aN (by omega)|have d1:decide ((s[k].toNat:Int)≤122)=false:=ay (by omega)
      all_goals first|have d2:decide ((48:Int)≤(s[k].toNat:Int))=true:=aN (by omega)|have d2:decide ((48:Int)≤(s[k].toNat:Int))=false:=ay (by omega)
      all_goals first|have d3:decide ((s[k].toNat:Int)≤57)=true:=aN (by omega)|have d3:decide ((s[k].toNat:Int)≤57)=false:=ay (by omega)
      all_goals first|have d4:decide ((s[k].toNat:Int)<48)=true:=aN (by omega)|have d4:decide ((s[k].toNat:Int)<48)=false:=ay (by omega)
      all_goals first|have d5:decide ((57:Int)<(s[k].toNat:Int))=true:=aN (by omega)|have d5:decide ((57:Int)<(s[k].toNat:Int))=false:=ay (by omega)
      all_goals rcases Nat.eq_zero_or_pos k with rfl|hk0
      all_goals try have hk1:((k:Int)==0)=false:=by simp;omega
      all_goals go_wp2_with fail
      all_goals go_quiet (fail)
      all_goals go_wp2
      all_goals first
        | (go_ret
           exact RetB.no (Qhs hlt (by unfold Yu;omega)) (hq.drewN _))
        | (go_roundw
           case rel=>exact ⟨_+1,by omega,by go_num,Qaa hlt HY.out (by unfold Yu;omega),hq.drewN _⟩
           case measure=>simp[intOf];omega)
    · have : k = s.size := by omega
      subst this
      go_wp2_with (go_at_call 65;refine (QaU _ _ _ _).mono ?_;rintro e w1 ⟨b,rfl,hb,hq1⟩)
      go_ret
      refine RetB.of (hb.trans ⟨fun h=>⟨fun j hj=>HY.out j hj hj,by omega,by omega⟩,fun h=>by have:=h.2;omega⟩) (hq.trans hq1)
theorem Qey {a b:Int}(h:a≠b):(a != b)=true:=by simpa using h
theorem QgM {a b:Int}(h:a=b):(a != b)=false:=by simpa using h
theorem Qeu {a b:Int}(h:a=b):(a==b)=true:=by simpa using h
theorem Hm {a b:Int}(h:a≠b):(a==b)=false:=by simpa using h
end Go.Proofs.YtjfpbcmfbnnooaaGreat
