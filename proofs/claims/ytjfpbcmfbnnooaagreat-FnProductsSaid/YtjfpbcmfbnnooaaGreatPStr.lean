import Derived.WalkKit
import Derived.ChangeArms
import Derived.DataReads
import Derived.Deep.Draws
import Derived.WalkSpells
import Derived.WalkLawsBesides
import Derived.Deep.LoopGhost
import Derived.Deep.QuietTactic
import Derived.BigQuiet
import Derived.Test.YtjfpbcmfbnnooaaGreatProg
import Derived.StillTailTactics
set_option linter.all false
namespace Go.Proofs.YtjfpbcmfbnnooaaGreat
open Tryz
abbrev BA:=ByteArray
section
open Go
set_option linter.defProp false
def bM:=@Array.getD_eq_getD_getElem?
def cp:=@Array.getElem?_eq_some_iff
def cG:=@Array.toList_append
def dp:=@Array.toList_inj
def da:=@Array.toList_map
def aH:=@Bool.and_eq_true
def dJ:=@Bool.and_false
def cY:=@Bool.and_true
def bT:=@Bool.eq_false_iff
def cC:=@Bool.eq_iff_iff
def cc:=@Bool.false_eq_true
def dd:=@Bool.false_ne_true
def cA:=@Bool.not_eq_true'
def ci:=@Bool.or_eq_true
def cN:=@ByteArray.data_append
def dQ:=@ByteArray.ext
def aE:=@ByteArray.size_append
def aR:=@ByteArray.size_extract
def bc:=@ByteArray.toList_eq
def aw:=@Go.Sem.run_bind
def be:=@Go.Sem.run_pure
def cR:=@Int.le_refl
def dD:=@Int.natCast_nonneg
def bW:=@Int.toNat_natCast
def ce:=@Int.toNat_of_nonneg
def co:=@List.Pairwise.nil
def aV:=@List.all_cons
def dE:=@List.all_eq_false
def ao:=@List.all_eq_true
def bo:=@List.all_nil
def bV:=@List.any_eq_false
def bG:=@List.any_eq_true
def aM:=@List.append_assoc
def bH:=@List.append_nil
def aN:=@List.cons.injEq
def cI:=@List.cons_append
def ed:=@List.drop_drop
def bS:=@List.drop_eq_getElem_cons
def cr:=@List.drop_eq_nil_of_le
def dH:=@List.drop_zero
def bF:=@List.eq_nil_of_length_eq_zero
def cV:=@List.eq_of_mem_replicate
def bL:=@List.ext_getElem?
def bg:=@List.filter_append
def dn:=@List.filter_cons
def dr:=@List.filter_eq_self
def dC:=@List.find?_eq_none
def bY:=@List.findIdx?_eq_some_iff_getElem
def cF:=@List.flatMap_append
def di:=@List.flatMap_cons
def bN:=@List.foldl_append
def bn:=@List.foldl_cons
def db:=@List.foldl_nil
def bm:=@List.getElem?_append_left
def bw:=@List.getElem?_append_right
def cB:=@List.getElem?_cons_succ
def bQ:=@List.getElem?_cons_zero
def dy:=@List.getElem?_drop
def ak:=@List.getElem?_eq_getElem
def bt:=@List.getElem?_eq_none
def cQ:=@List.getElem?_eq_none_iff
def ae:=@List.getElem?_eq_some_iff
def bl:=@List.getElem?_map
def cU:=@List.getElem?_modify
def ck:=@List.getElem?_replicate
def bp:=@List.getElem?_set
def bh:=@List.getElem?_set_ne
def bj:=@List.getElem?_set_self
def bf:=@List.getElem?_take
def cP:=@List.getElem?_zip_eq_some
def cZ:=@List.getElem_mem
def ai:=@List.length_append
def av:=@List.length_cons
def aX:=@List.length_drop
def bR:=@List.length_filter_le
def aC:=@List.length_map
def aB:=@List.length_nil
def dh:=@List.length_range
def aQ:=@List.length_replicate
def ax:=@List.length_set
def cy:=@List.length_singleton
def au:=@List.length_take
def dx:=@List.length_zip
def aT:=@List.map_append
def bU:=@List.map_cons
def dL:=@List.map_map
def aO:=@List.mem_append
def aU:=@List.mem_append_left
def bd:=@List.mem_append_right
def aK:=@List.mem_cons
def az:=@List.mem_cons_of_mem
def aA:=@List.mem_cons_self
def bA:=@List.mem_filter
def cj:=@List.mem_flatMap
def aG:=@List.mem_iff_getElem?
def aW:=@List.mem_map
def ah:=@List.mem_of_getElem?
def cE:=@List.mem_or_eq_of_mem_set
def bC:=@List.mem_range
def aI:=@List.mem_singleton
def dX:=@List.nil_append
def bz:=@List.nodup_append
def bP:=@List.nodup_cons
def cv:=@List.nodup_nil
def bO:=@List.not_mem_nil
def bK:=@List.pairwise_cons
def cX:=@List.pairwise_singleton
def bk:=@List.range_succ
def du:=@List.set_cons_succ
def cM:=@List.set_set
def bB:=@List.take_append_drop
def dF:=@List.take_left
def dN:=@List.take_length
def aJ:=@List.take_of_length_le
def cd:=@List.take_succ_eq_append_getElem
def bX:=@Nat.add_assoc
def cW:=@Nat.add_le_add_left
def cw:=@Nat.add_mul
def bE:=@Nat.add_sub_cancel_left
def ec:=@Nat.add_zero
def eb:=@Nat.beq_refl
def cK:=@Nat.ble_eq_true_of_le
def aZ:=@Nat.eq_of_beq_eq_true
def aD:=@Nat.le_of_ble_eq_true
def aP:=@Nat.le_refl
def de:=@Nat.le_succ_of_le
def bi:=@Nat.le_trans
def ba:=@Nat.lt_of_lt_of_le
def dt:=@Nat.min_eq_left
def cH:=@Nat.mod_eq_of_lt
def cO:=@Nat.mul_le_mul
def cD:=@Nat.mul_le_mul_right
def dU:=@Nat.mul_one
def aS:=@Nat.not_lt_zero
def dq:=@Nat.one_mul
def ea:=@Nat.succ_pos
def bJ:=@Nat.zero_add
def aL:=@Nat.zero_le
def aq:=@Option.getD_none
def ap:=@Option.getD_some
def bq:=@Option.isSome_iff_exists
def cq:=@Option.map_eq_some_iff
def dR:=@Option.map_none
def bD:=@Option.some.inj
def br:=@Option.some.injEq
def aF:=@Result.andThen_ok
def dY:=@Sem.run_bind
def dl:=@World.cell?_of_block
def dM:=@beq_self_eq_true
def bu:=@decide_eq_decide
def aj:=@decide_eq_false
def ay:=@decide_eq_true
def aY:=@decide_eq_true_eq
def bI:=@decide_eq_true_iff
def dc:=@eq_self
def cJ:=@getElem?_pos
def ab:=@of_decide_eq_false
def aa:=@of_decide_eq_true
end
set_option maxHeartbeats 4000000
set_option maxRecDepth 100000
open Go.RowKit
abbrev Hdr:=Option (Nat×Nat×Nat×Nat)
def hdV:Hdr→Value
 | none=> .slice none 0 0
 | some (g,o,n,c)=> .slice (some ⟨g,o,none⟩) n c
def QxF (x:Hdr):(hdV x).oneCell'=true:=by
 match x with
 | none=>simp[hdV,Value.oneCell']
 | some (g,o,n,c)=>simp[hdV,Value.oneCell']
def Qpi {x y:Hdr}(h:hdV x=hdV y):x=y:=by
 match x,y with
 | none,none=>rfl
 | none,some (g,o,n,c)=>simp[hdV] at h
 | some (g,o,n,c),none=>simp[hdV] at h
 | some (g,o,n,c),some (g',o',n',c')=>
  simp[hdV] at h
  obtain ⟨⟨rfl,rfl⟩,rfl,rfl⟩:=h
  rfl
inductive Ty where
  | int|bool|str|u8|vl
  | sl (E:TypeId) (e:Ty)
  | pr (a b:Ty)
@[reducible] def Ty.Den:Ty→Type
 | .int=>Int
 | .bool=>Bool
 | .str=>BA
 | .u8=>UInt8
 | .vl=>Hdr
 | .sl _ e=>List e.Den
 | .pr a b=>a.Den×b.Den
@[reducible] def Ty.wd:Ty→Nat
 | .pr a b=>a.wd+b.wd
 | .int=>1
 | .bool=>1
 | .str=>1
 | .u8=>1
 | .vl=>1
 | .sl _ _=>1
def WY:∀t:Ty,0<t.wd
 | .int=>Nat.one_pos
 | .bool=>Nat.one_pos
 | .str=>Nat.one_pos
 | .u8=>Nat.one_pos
 | .vl=>Nat.one_pos
 | .sl _ _=>Nat.one_pos
 | .pr a _=>Nat.add_pos_left (WY a) _
def Rep:(t:Ty)→World→List Value→t.Den→Prop
 | .int,_,cs,x=>cs=[.int .i64 x]∧ -9223372036854775808≤x∧x≤9223372036854775807
 | .bool,_,cs,x=>cs=[.bool x]
 | .str,_,cs,x=>cs=[.string x]∧x.size≤maxLen
 | .u8,_,cs,x=>cs=[.int .u8 x.toNat]
 | .vl,_,cs,x=>cs=[hdV x]
 | .sl _ e,w,cs,xs=>∃A c,cs=[.slice A xs.length c]∧xs.length≤c∧c≤maxLen∧
  (0<xs.length→∃b o,A=some ⟨b,o,none⟩∧∀i x,xs[i]? =some x→∃ds,Rep e w ds x∧∀j u,ds[j]? =some u→w.cell? ⟨b,o+i*e.wd+j,none⟩=some u)
 | .pr a b,w,cs,x=>∃l r,cs=l++r∧Rep a w l x.1∧Rep b w r x.2
def Kp (w w':World):Prop:=∀a v,w.cell? a=some v→w'.cell? a=some v
def QE7 (w:World):Kp w w:=fun _ _ h=>h
def Kp.trans {a b c:World}(h:Kp a b)(k:Kp b c):Kp a c:=fun p v q=>k p v (h p v q)
def Qfk {w w':World}(h:Below w.heap.size w w'):Kp w w':=fun a v e=>by
 rw[h.cell (World.block_lt_of_cell? w a e)];exact e
def Kp.alloc (w:World)(o:Obj):Kp w (w.alloc o):=Qfk ((Below.refl _ _).alloc (aP _) o)
def Rep.len:∀{t:Ty} {w:World} {cs:List Value} {x:t.Den},Rep t w cs x→cs.length=t.wd
 | .int,_,_,_,h=>by rw[h.1];rfl
 | .bool,_,_,_,h=>by have h:_=_:=h;rw[h];rfl
 | .str,_,_,_,h=>by rw[h.1];rfl
 | .u8,_,_,_,h=>by have h:_=_:=h;rw[h];rfl
 | .vl,_,_,_,h=>by have h:_=_:=h;rw[h];rfl
 | .sl _ _,_,_,_,⟨_,_,h,_⟩=>by rw[h];rfl
 | .pr _ _,_,_,_,⟨_,_,h,h1,h2⟩=>by rw[h,ai,Rep.len h1,Rep.len h2]
def Rep.kp:∀{t:Ty} {w w':World} {cs:List Value} {x:t.Den},Rep t w cs x→Kp w w'→Rep t w' cs x
 | .int,_,_,_,_,h,_=>h
 | .bool,_,_,_,_,h,_=>h
 | .str,_,_,_,_,h,_=>h
 | .u8,_,_,_,_,h,_=>h
 | .vl,_,_,_,_,h,_=>h
 | .sl _ _,_,_,_,_,⟨A,c,h,h1,h2,h3⟩,k=>⟨A,c,h,h1,h2,fun m=>by
  obtain ⟨b,o,e,d⟩:=h3 m
  refine ⟨b,o,e,fun i x p=> ?_⟩
  obtain ⟨a,f,g⟩:=d i x p
  exact ⟨a,Rep.kp f k,fun j u n=>k _ _ (g j u n)⟩⟩
 | .pr _ _,_,_,_,_,⟨l,r,h,h1,h2⟩,k=>⟨l,r,h,Rep.kp h1 k,Rep.kp h2 k⟩
def QB8 {t:Ty}{w w':World}{cs:List Value}{x:t.Den}(h:Rep t w cs x)(hb:Below w.heap.size w w'):Rep t w' cs x:=h.kp (Qfk hb)
def Rep.alloc {t:Ty}{w:World}{cs:List Value}{x:t.Den}(h:Rep t w cs x)(o:Obj):Rep t (w.alloc o) cs x:=h.kp (Kp.alloc w o)
def Rep.drew {t:Ty}{w:World}{cs:List Value}{x:t.Den}(h:Rep t w cs x):Rep t w.drew cs x:=h.kp fun _ _ e=>e
def Rep.drewN {t:Ty}{w:World}{cs:List Value}{x:t.Den}(h:Rep t w cs x)(n:Nat):Rep t (w.drewN n) cs x:=h.kp fun _ _ e=>e
def Rep.slv {E:TypeId}{e:Ty}{w:World}{v:Value}{xs:List e.Den}(h:Rep (.sl E e) w [v] xs):∃A c,v= .slice A xs.length c∧xs.length≤c∧c≤maxLen:=by
 obtain ⟨A,c,h,a,b,_⟩:=h
 exact ⟨A,c,by simpa using h,a,b⟩
def Rep.at_ {E:TypeId}{e:Ty}{w:World}{A:Option Addr}{n c:Nat}{xs:List e.Den}(h:Rep (.sl E e) w [.slice A n c] xs){i:Nat}{x:e.Den}(d:xs[i]? =some x):
 ∃b o a,A=some ⟨b,o,none⟩∧Rep e w a x∧∀j u,a[j]? =some u→w.cell? ⟨b,o+i*e.wd+j,none⟩=some u:=by
 obtain ⟨p,q,h,r,s,g⟩:=h
 simp only[aN,Value.slice.injEq,and_true] at h
 obtain ⟨rfl,rfl,rfl⟩:=h
 have t:i<xs.length:=(ae.1 d).1
 obtain ⟨b,o,f,k⟩:=g (by omega)
 obtain ⟨a,l,m⟩:=k i x d
 exact ⟨b,o,a,f,l,m⟩
def Rep.cut {E:TypeId}{e:Ty}{w:World}{A:Option Addr}{n c:Nat}{xs:List e.Den}(h:Rep (.sl E e) w [.slice A n c] xs){m:Nat}(u:m≤n)(a:Nat)(t:m≤a)(f:a≤maxLen):
 Rep (.sl E e) w [.slice A m a] (xs.take m):=by
 obtain ⟨q,g,h,r,s,k⟩:=h
 simp only[aN,Value.slice.injEq,and_true] at h
 obtain ⟨rfl,rfl,rfl⟩:=h
 have p:(xs.take m).length=m:=by simp;omega
 refine ⟨A,a,by rw[p],by omega,f,fun v=> ?_⟩
 obtain ⟨b,o,j,l⟩:=k (by omega)
 refine ⟨b,o,j,fun i x d=>l i x ?_⟩
 rw[bf] at d
 split at d
 ·exact d
 ·cases d
def Rep.int_ {w:World}{v:Value}{x:Int}(h:Rep .int w [v] x):v= .int .i64 x∧ -9223372036854775808≤x∧x≤9223372036854775807:=⟨by simpa using h.1,h.2⟩
def Rep.bool_ {w:World}{v:Value}{x:Bool}(h:Rep .bool w [v] x):v= .bool x:=by have h:_=_:=h;simpa using h
def Rep.str_ {w:World}{v:Value}{x:BA}(h:Rep .str w [v] x):v= .string x∧x.size≤maxLen:=⟨by simpa using h.1,h.2⟩
theorem Rep.pr1 {a b:Ty}{w:World}{v:Value}{cs:List Value}{x:a.Den×b.Den}(h:Rep (.pr a b) w (v::cs) x)(d:a.wd=1):Rep a w [v] x.1∧Rep b w cs x.2:=by
 obtain ⟨l,r,h,c,e⟩:=h
 match l,c.len.trans d with
 | [u],_=>
  grind
theorem QnT {α:Type}{n:Nat}{p:Nat→α→Prop}(h:∀i,i<n→∃d,p i d):∃xs:List α,xs.length=n∧∀i x,xs[i]? =some x→p i x:=by
 induction n with
 | zero=>exact ⟨[],rfl,by simp⟩
 | succ n e=>
  obtain ⟨xs,a,c⟩:=e (fun i b=>h i (by omega))
  obtain ⟨d,f⟩:=h n (by omega)
  refine ⟨xs++[d],by simp[a],fun i x g=> ?_⟩
  grind
def Trd (P:Program)(T:TypeId)(t:Ty):Prop:=
 P.cellsOf T=t.wd∧∀{H:Type} (enc:TypeId×Value→H) (w:World) (base:Nat) (spare:Nat→Bool) (held:Bool) (fuel:Nat) (cs:List Value) (x:DataW H×List MemPlace),
  DataW.trod enc P w base spare held fuel T cs=some x→∃d,Rep t w cs d
section
variable {P:Program}{T:TypeId}
def Trd.int (h:P.underlying T=some (.int .i64))(g:P.cellsOf T=1):Trd P T .int:=⟨g,fun f w c b e d j x i=>by
 obtain ⟨n,rfl,_,a⟩:=DataW.trod_int h i
 refine ⟨n,rfl,?_⟩
 simp[Lit.wf] at a
 exact ⟨a.1,a.2⟩⟩
def Trd.bool (h:P.underlying T=some .bool)(g:P.cellsOf T=1):Trd P T .bool:=⟨g,fun f w c a e d j x i=>by
 obtain ⟨b,rfl,_⟩:=DataW.trod_bool h i
 exact ⟨b,rfl⟩⟩
def Trd.str (h:P.underlying T=some .string)(f:P.cellsOf T=1):Trd P T .str:=⟨f,fun e w b a d c j x i=>by
 obtain ⟨s,rfl,_,g⟩:=DataW.trod_string h i
 exact ⟨s,rfl,g⟩⟩
theorem Trd.sl {E:TypeId}{e:Ty}(h:P.underlying T=some (.slice E))(Q:P.cellsOf T=1)(I:Trd P E e):Trd P T (.sl E e):=⟨Q,fun L w G F J H Z x A=>by
 rcases DataW.trod_slice h A with ⟨rfl,_⟩|⟨a,D,v,g,K,n,_,rfl,_,_,V,W,S,U,_,_⟩
 ·exact ⟨[],none,0,rfl,aP _,aL _,fun h=>absurd h (by simp)⟩
 ·have q:∀i,i<D→∃d:e.Den,∃c,Rep e w c d∧∀j u,c[j]? =some u→w.cell? (a.add (i*e.wd+j))=some u:=by
   intro i z
   have l:=U i z
   have m:i<g.length:=by omega
   rw[ak m] at l
   obtain ⟨c,M,N⟩:=Option.bind_eq_some_iff.1 l
   obtain ⟨d,R⟩:=I.2 _ _ _ _ _ _ _ _ N
   refine ⟨d,c,R,fun j u s=> ?_⟩
   obtain ⟨_,h5,O⟩:=World.cells?_some M
   have hj:j<c.length:=(ae.1 s).1
   have:=O j (by omega)
   rw[s,I.1] at this
   rw[← this]
   congr 1
   unfold Addr.add
   grind
  obtain ⟨t,B,f⟩:=QnT (p:=fun i x=>∃c,Rep e w c x∧∀j u,c[j]? =some u→w.cell? (a.add (i*e.wd+j))=some u) q
  subst B
  refine ⟨t,some a,v,rfl,V,W,fun X=> ?_⟩
  have C:t[0]? =some t[0]:=ak X
  have k:a.spot=none∨∀c:List Value,Rep e w c t[0]→c.length=0:=by
   obtain ⟨c,l,m⟩:=f 0 _ C
   cases c with
   | nil=>right;intro c y;rw[y.len,← l.len];rfl
   | cons u us=>
    left
    have:=m 0 u rfl
    simpa [Addr.add] using World.cell?_spot this
  rcases k with r|r
  ·obtain ⟨b,o,Y⟩:=a
   have r:Y=none:=r
   subst r
   refine ⟨b,o,rfl,fun i x A=> ?_⟩
   obtain ⟨c,l,m⟩:=f i x A
   refine ⟨c,l,fun j u s=> ?_⟩
   rw[← m j u s]
   congr 1
   unfold Addr.add
   grind
  ·exact absurd (r _ (f 0 _ C).choose_spec.1) (by rw[(f 0 _ C).choose_spec.1.len];exact Nat.ne_of_gt (WY e))⟩
def TF (P:Program)(fs:Array Field)(i k:Nat)(t:Ty):Prop:=
 ∀{H:Type} (enc:TypeId×Value→H) (w:World) (base:Nat) (spare:Nat→Bool) (held:Bool) (n:Nat) (cs:List Value),cs.length=k+t.wd→
  (∀j f,i≤j→fs[j]? =some f→∃y,DataW.trod enc P w base spare held n f.type ((cs.drop f.offset).take (P.cellsOf f.type))=some y)→∃d,Rep t w (cs.drop k) d
def QFa {c:Array Field}{i k:Nat}{t:Ty}(f:Field)(l:c[i]? =some f)(m:f.offset=k)(e:Trd P f.type t):TF P c i k t:=
 fun j w b a d n o p h=>by
  obtain ⟨y,g⟩:=h i f (aP _) l
  rw[m,e.1,aJ (by simp;omega)] at g
  exact e.2 _ _ _ _ _ _ _ _ g
def TF.cons {m:Array Field}{i k:Nat}{a b:Ty}(f:Field)(x:m[i]? =some f)(A:f.offset=k)(q:Trd P f.type a)(hb:TF P m (i+1) (k+a.wd) b):TF P m i k (.pr a b):=
 fun l w e c g n s z h=>by
  obtain ⟨y,r⟩:=h i f (aP _) x
  rw[A,q.1] at r
  obtain ⟨d,v⟩:=q.2 _ _ _ _ _ _ _ _ r
  obtain ⟨t,o⟩:=hb l w e c g n s (by rw[z];simp[Ty.wd,bX]) (fun j u B p=>h j u (by omega) p)
  refine ⟨(d,t),_,_,?_,v,o⟩
  rw[← ed,bB]
theorem Trd.st {t:Ty}{e:Array Field}(h:P.underlying T=some (.struct e))(i:P.cellsOf T=t.wd)(l:TF P e 0 0 t):Trd P T t:=⟨i,fun d w b a c g k x o=>by
 obtain ⟨s,n,_,_,m,p,q⟩:=DataW.trod_struct h o
 have:=l d w b a c n k (by rw[m,i,bJ]) (fun j f _ r=>by
  grind)
 simpa using this⟩
end
@[reducible] def Qv9:Ty:= .pr (.pr (.sl 103 (.pr .str .int)) (.pr (.sl 9 .str) (.sl 139 (.pr .int (.pr .int (.pr .bool .int)))))) (.pr (.pr (.sl 103 (.pr .str .int)) (.sl 147 (.pr .str (.pr .int (.pr (.sl 207 (.pr .int .bool)) (.sl 9 .str)))))) (.sl 62 (.sl 3 .int)))
@[reducible] def QB3:Ty:= .pr (.pr (.sl 9 .str) (.sl 229 (.pr .int (.pr .int .int)))) (.pr (.sl 229 (.pr .int (.pr .int .int))) (.pr .int (.pr .int .bool)))
@[reducible] def Qsr:Ty:= .pr (.pr .int (.sl 290 (.pr (.sl 3 .int) (.sl 3 .int)))) (.pr (.sl 103 (.pr .str .int)) (.pr (.sl 183 (.pr .int .bool)) .str))
@[reducible] def J6:Ty:= .pr (.sl 103 (.pr .str .int)) (.sl 147 (.pr .str (.pr .int (.pr (.sl 207 (.pr .int .bool)) (.sl 9 .str)))))
@[reducible] def QlA:Ty:= .pr (.sl 59 (.pr .int .str)) (.pr (.sl 68 (.pr .int (.pr .int .int))) (.sl 68 (.pr .int (.pr .int .int))))
@[reducible] def UB:Ty:= .pr (.sl 103 (.pr .str .int)) (.pr (.sl 9 .str) (.sl 139 (.pr .int (.pr .int (.pr .bool .int)))))
@[reducible] def Qss:Ty:= .pr (.sl 103 (.pr .str .int)) (.sl 90 (.pr .int (.pr .int (.pr (.sl 9 .str) (.sl 9 .str)))))
@[reducible] def Zk:Ty:= .sl 147 (.pr .str (.pr .int (.pr (.sl 207 (.pr .int .bool)) (.sl 9 .str))))
@[reducible] def Zm:Ty:= .pr .str (.pr .int (.pr (.sl 207 (.pr .int .bool)) (.sl 9 .str)))
@[reducible] def QdG:Ty:= .sl 90 (.pr .int (.pr .int (.pr (.sl 9 .str) (.sl 9 .str))))
@[reducible] def QzO:Ty:= .pr (.sl 9 .str) (.sl 229 (.pr .int (.pr .int .int)))
@[reducible] def WN:Ty:= .pr .int (.pr .int (.pr (.sl 9 .str) (.sl 9 .str)))
@[reducible] def Qlz:Ty:= .pr .int (.sl 290 (.pr (.sl 3 .int) (.sl 3 .int)))
@[reducible] def Qq:Ty:= .sl 139 (.pr .int (.pr .int (.pr .bool .int)))
@[reducible] def Qg7:Ty:= .sl 313 (.pr .int (.pr .bool (.sl 9 .str)))
@[reducible] def Yv:Ty:= .sl 290 (.pr (.sl 3 .int) (.sl 3 .int))
@[reducible] def Yi:Ty:= .pr .int (.pr .int (.pr .bool .int))
@[reducible] def U2:Ty:= .sl 229 (.pr .int (.pr .int .int))
@[reducible] def JQ:Ty:= .pr .int (.pr .bool (.sl 9 .str))
@[reducible] def ZM:Ty:= .sl 68 (.pr .int (.pr .int .int))
@[reducible] def Zu:Ty:= .pr (.sl 3 .int) (.sl 3 .int)
@[reducible] def QcG:Ty:= .pr (.sl 9 .str) (.sl 9 .str)
@[reducible] def XK:Ty:= .sl 183 (.pr .int .bool)
@[reducible] def QI:Ty:= .pr .int (.pr .int .int)
@[reducible] def XY:Ty:= .sl 207 (.pr .int .bool)
@[reducible] def Qj:Ty:= .sl 103 (.pr .str .int)
@[reducible] def Qg8:Ty:= .sl 204 (.pr .int .int)
@[reducible] def Xz:Ty:= .sl 59 (.pr .int .str)
@[reducible] def Y2:Ty:= .sl 62 (.sl 3 .int)
@[reducible] def Qa0:Ty:= .sl 25 (.sl 9 .str)
@[reducible] def Q0:Ty:= .pr .int .bool
@[reducible] def QG:Ty:= .pr .str .int
@[reducible] def QM:Ty:= .pr .int .str
@[reducible] def QdY:Ty:= .pr .int .int
@[reducible] def Qd:Ty:= .sl 9 .str
@[reducible] def Qv:Ty:= .sl 3 .int
@[reducible] def QP:Ty:= .sl 5 .u8
abbrev Yw:=(List (BA×Int))×List BA×(List (Int×Int×Bool×Int))
abbrev Ua:=(List (BA×Int))×(List (BA×Int×(List (Int×Bool))×List BA))
abbrev QkE:=Int×BA
abbrev Qma:=(Int×(List (List Int×List Int)))×(List (BA×Int))×(List (Int×Bool))×BA
abbrev Qmb:=List (Int×Bool)
abbrev Qmc:=((List (BA×Int))×List BA×(List (Int×Int×Bool×Int)))×((List (BA×Int))×(List (BA×Int×(List (Int×Bool))×List BA)))×List (List Int)
abbrev QqR:=Int×(List (List Int×List Int))
abbrev QqS:=List (BA×Int)
abbrev QtS:=(List (Int×BA))×(List (Int×Int×Int))×(List (Int×Int×Int))
abbrev QAk:=List (Int×Bool×List BA)
abbrev QtP:=(List (BA×Int))×(List (Int×Int×List BA×List BA))
abbrev QtQ:=BA×Int×(List (Int×Bool))×List BA
abbrev QtR:=List (Int×Int×Bool×Int)
abbrev Qzi:=List (BA×Int×(List (Int×Bool))×List BA)
set_option maxHeartbeats 4000000
set_option maxRecDepth 100000
open Go.RowKit
def Nw (w w':World):Prop:=Below w.heap.size w w'
def Q4 (w:World):Nw w w:=Below.refl _ _
def Nw.trans {a b c:World}(h:Nw a b)(k:Nw b c):Nw a c:=Below.trans h (Below.mono k (Below.size h))
def Nw.alloc {a w:World}(h:Nw a w)(o:Obj):Nw a (w.alloc o):=Below.alloc h (Below.size h) o
def Nw.drew {a w:World}(h:Nw a w):Nw a w.drew:=Below.drew h
def Nw.drewN {a w:World}(h:Nw a w)(n:Nat):Nw a (w.drewN n):=h.trans ⟨rfl,rfl,rfl,aP _,fun _ _=>rfl⟩
def Nw.setCell {a w:World}(h:Nw a w){p:Addr}(f:a.heap.size≤p.block)(u:Value):Nw a (w.setCell p u):=Below.setCell h f u
def ZA {a b c:World}(k:Nw b c)(h:Nw a b):Nw a c:=h.trans k
def Q8 {a w:World}{p:Addr}{u:Value}(f:a.heap.size≤p.block)(h:Nw a w):Nw a (w.setCell p u):=h.setCell f u
def Nw.size {a w:World}(h:Nw a w):a.heap.size≤w.heap.size:=Below.size h
def Nw.kp {a w:World}(h:Nw a w):Kp a w:=Qfk h
def QCn {a w:World}(h:Nw a w):Below a.heap.size a w:=h
def Rep.nw {t:Ty}{w w':World}{cs:List Value}{x:t.Den}(h:Rep t w cs x)(hb:Nw w w'):Rep t w' cs x:=h.kp hb.kp
def Nw.cells {W f:World}(hb:Nw W f):(∀b o,b<W.heap.size→f.cell? ⟨b,o,none⟩=W.cell? ⟨b,o,none⟩)∧(∀b o,b<W.heap.size→f.frozen? ⟨b,o,none⟩=W.frozen? ⟨b,o,none⟩):=
 ⟨fun b o h=>Below.cell hb (p:=⟨b,o,none⟩) h,fun b o h=>Below.frozen hb (p:=⟨b,o,none⟩) h⟩
def Qb {P:Program}{f:FuncId}{fn:Func}{c:Code}(i:P.funcs[f]? =some fn)(g:(fn.name== "runtime.NumGoroutine")=false)(hb:fn.body=some c)(args:Array Value)(w:World):
 (callFunc f args).run P w= .ok (.enter f args) w:=by
 have h:fn.name≠ "runtime.NumGoroutine" :=by simpa using g
 simp[callFunc,i,h,hb]
def Qe (P:Program)(F:FuncId):Prop:=∀(a_:Array Value) (W:World),(callFunc F a_).run P W= .ok (.enter F a_) W
def En{f:FuncId}{fn:Func}{c:Code}(h:prog.funcs[f]? =some fn)(g:(fn.name== "runtime.NumGoroutine")=false:=by kernel_rfl)(b:fn.body=some c:=by rfl):Qe prog f:=fun a W=>Qb h g b a W
def hid {p:Prop}(h:p):Hid p:=h
def RetB (p:Prop)(w:World)(e:Ending)(w':World):Prop:=∃b:Bool,e= .returned (.bool b)∧(b=true↔p)∧Nw w w'
def RetB.yes {p:Prop}{w w':World}(h:p)(f:Nw w w'):RetB p w (.returned (.bool true)) w':=⟨true,rfl,by simp[h],f⟩
def RetB.no {p:Prop}{w w':World}(h:¬p)(f:Nw w w'):RetB p w (.returned (.bool false)) w':=⟨false,rfl,by simp[h],f⟩
def RetB.not {p:Prop}(h:false=true↔p):¬p:=fun f=>absurd (h.2 f) (by simp)
def RetB.of {p:Prop}{w w':World}{b:Bool}(h:b=true↔p)(f:Nw w w'):RetB p w (.returned (.bool b)) w':=⟨b,rfl,h,f⟩
def IsIdx {α:Type}(p:α→Prop)(xs:List α)(r:Int):Prop:=(r= -1∧∀x∈xs,¬p x)∨(∃k:Nat,r=k∧k<xs.length∧(∀x,xs[k]? =some x→p x)∧∀j x,j<k→xs[j]? =some x→¬p x)
def QzV {α:Type}(p:α→Prop)(xs:List α)(w:World)(e:Ending)(w':World):Prop:=∃r:Int,e= .returned (.int .i64 r)∧IsIdx p xs r∧Nw w w'
def IsIdx.range {α:Type}{p:α→Prop}{xs:List α}{r:Int}(h:IsIdx p xs r)(f:xs.length≤9223372036854775807): -1≤r∧r≤9223372036854775807:=by
 rcases h with ⟨rfl,_⟩|⟨k,rfl,h,_⟩ <;> omega
def IsIdx.any {α:Type}{p:α→Prop}{xs:List α}{r:Int}(h:IsIdx p xs r):0≤r↔∃x∈xs,p x:=by
 rcases h with ⟨rfl,h⟩|⟨k,rfl,f,h,_⟩
 ·constructor
  ·intro j;omega
  ·rintro ⟨x,i,g⟩;exact absurd g (h x i)
 ·exact ⟨fun _=>⟨xs[k],cZ f,h _ (ak f)⟩,fun _=>by omega⟩
section
variable {E:TypeId}{e:Ty}{w:World}{A:Option Addr}{n c:Nat}{xs:List e.Den}
def Rep.at1 (h:Rep (.sl E e) w [.slice A n c] xs)(g:e.wd=1){i:Nat}{x:e.Den}(l:xs[i]? =some x):
 ∃b o v,A=some ⟨b,o,none⟩∧Rep e w [v] x∧w.cell? ⟨b,o+i,none⟩=some v:=by
 obtain ⟨b,o,j,rfl,f,k⟩:=h.at_ l
 match j,f.len.trans g with
 | [v],_=>exact ⟨b,o,v,rfl,f,by have:=k 0 v rfl;rwa [g,dU] at this⟩
def Rep.at2 (h:Rep (.sl E e) w [.slice A n c] xs)(j:e.wd=2){i:Nat}{x:e.Den}(p:xs[i]? =some x):
 ∃b o f g,A=some ⟨b,o,none⟩∧Rep e w [f,g] x∧w.cell? ⟨b,o+i*2,none⟩=some f∧w.cell? ⟨b,o+i*2+1,none⟩=some g:=by
 obtain ⟨b,o,m,rfl,k,l⟩:=h.at_ p
 match m,k.len.trans j with
 | [f,g],_=>exact ⟨b,o,f,g,rfl,k,by have:=l 0 f rfl;rwa [j] at this,by have:=l 1 g rfl;rwa [j] at this⟩
end
def Rep.pr2 {a b:Ty}{w:World}{v u:Value}{cs:List Value}{x:a.Den×b.Den}(h:Rep (.pr a b) w (v::u::cs) x)(i:a.wd=2):Rep a w [v,u] x.1∧Rep b w cs x.2:=by
 obtain ⟨l,r,h,f,g⟩:=h
 match l,f.len.trans i with
 | [y,z],_=>
  simp only[cI,dX,aN] at h
  obtain ⟨rfl,rfl,rfl⟩:=h
  exact ⟨f,g⟩
section
variable {a b c d:Ty}{w:World}{u0 u1 u2 u3:Value}
def Rep.open2 {x:(Ty.pr a b).Den}(h:Rep (.pr a b) w [u0,u1] x)(f:a.wd=1):Rep a w [u0] x.1∧Rep b w [u1] x.2:=h.pr1 f
def Rep.open3 {x:(Ty.pr a (.pr b c)).Den}(h:Rep (.pr a (.pr b c)) w [u0,u1,u2] x)(i:a.wd=1)(hb:b.wd=1):Rep a w [u0] x.1∧Rep b w [u1] x.2.1∧Rep c w [u2] x.2.2:=by
 obtain ⟨f,g⟩:=h.pr1 i
 exact ⟨f,g.pr1 hb⟩
end
def Ty.tot:(t:Ty)→t.Den→Nat
 | .int,_=>0
 | .bool,_=>0
 | .str,s=>s.size
 | .u8,_=>0
 | .vl,_=>0
 | .sl _ e,xs=>xs.length+(xs.map e.tot).sum
 | .pr a b,x=>a.tot x.1+b.tot x.2
def cut (left:Int)(t:Nat):Int:=if left<t then -1 else left - t
set_option maxHeartbeats 4000000
set_option maxRecDepth 100000
abbrev Qs:Type:=BA×Int
abbrev Xy:Ty:= .pr .str .int
abbrev QCg:Type:=Int×Bool
abbrev QGM:Ty:= .pr .int .bool
abbrev QCh:Type:=BA×Int×(List QCg)×(List BA)
abbrev QEx:Ty:= .pr .str (.pr .int (.pr (.sl 207 QGM) (.sl 9 .str)))
abbrev QCf:Type:=(List Qs)×(List QCh)
abbrev QEw:Ty:= .pr (.sl 103 Xy) (.sl 147 QEx)
abbrev Q1:Type:=(List Int)×(List Int)
abbrev Zt:Ty:= .pr (.sl 3 .int) (.sl 3 .int)
abbrev XZ:Type:=Int×(List Q1)
abbrev QdC:Ty:= .pr .int (.sl 290 Zt)
abbrev Z3:Type:=Int×Bool
abbrev QjO:Ty:= .pr .int .bool
abbrev ZF:Type:=XZ×(List Qs)×(List Z3)×BA
abbrev Qeq:Ty:= .pr QdC (.pr (.sl 103 Xy) (.pr (.sl 183 QjO) .str))
abbrev Xj:Type:=Int×Int×Bool
abbrev QFf:Type:=Int×Int×Bool×Int
abbrev QGL:Ty:= .pr .int (.pr .int (.pr .bool .int))
abbrev Qy4:Type:=(List Qs)×(List BA)×(List QFf)
abbrev QzM:Ty:= .pr (.sl 103 Xy) (.pr (.sl 9 .str) (.sl 139 QGL))
abbrev QCe:Type:=Int×Int×Int
abbrev QEv:Ty:= .pr .int (.pr .int .int)
abbrev QlH:Type:=(List BA)×(List QCe)
abbrev Qoj:Ty:= .pr (.sl 9 .str) (.sl 229 QEv)
set_option maxHeartbeats 4000000
set_option maxRecDepth 100000
open Go.RowKit
def OwnL {α:Type}(O:List Nat→List Value→α→Prop):List Nat→List Value→List α→Prop
 | fp,cs,[]=>fp=[]∧cs=[]
 | fp,cs,x::xs=>∃f1 f2 c1 c2,fp=f1++f2∧cs=c1++c2∧O f1 c1 x∧OwnL O f2 c2 xs
def Own:(t:Ty)→World→List Nat→List Value→t.Den→Prop
 | .int,_,fp,cs,x=>fp=[]∧cs=[.int .i64 x]∧ -9223372036854775808≤x∧x≤9223372036854775807
 | .bool,_,fp,cs,x=>fp=[]∧cs=[.bool x]
 | .str,_,fp,cs,x=>fp=[]∧cs=[.string x]∧x.size≤maxLen
 | .u8,_,fp,cs,x=>fp=[]∧cs=[.int .u8 x.toNat]
 | .vl,_,fp,cs,x=>fp=[]∧cs=[hdV x]
 | .sl E e,w,fp,cs,xs=>(fp=[]∧cs=[.slice none 0 0]∧xs=[])∨
  ∃g cap cur fps,fp=g::fps∧cs=[.slice (some ⟨g,0,none⟩) xs.length cap]∧w.heap[g]? =some (.cells cur E (0,0))∧xs.length≤cap∧cap≤maxLen∧cur.size=cap*e.wd∧
   OwnL (Own e w) fps (cur.toList.take (xs.length*e.wd)) xs
 | .pr a b,w,fp,cs,x=>∃f1 f2 l r,fp=f1++f2∧cs=l++r∧Own a w f1 l x.1∧Own b w f2 r x.2
def OwnL.mono {α:Type}{O b:List Nat→List Value→α→Prop}:∀{xs:List α} {fp:List Nat} {cs:List Value},OwnL O fp cs xs→
 (∀f c x,(∀g∈f,g∈fp)→O f c x→b f c x)→OwnL b fp cs xs
 | [],_,_,h,_=>h
 | _::_,_,_,⟨f1,f2,c1,c2,h1,h2,h3,h4⟩,k=>⟨f1,f2,c1,c2,h1,h2,k _ _ _ (fun g a=>by rw[h1];exact aU _ a) h3,
  OwnL.mono h4 fun f c x d i=>k f c x (fun g a=>by rw[h1];exact bd _ (d g a)) i⟩
def OwnL.append {α:Type}{O:List Nat→List Value→α→Prop}:∀{xs ys:List α} {f1 f:List Nat} {c1 c2:List Value},OwnL O f1 c1 xs→OwnL O f c2 ys→OwnL O (f1++f) (c1++c2) (xs++ys)
 | [],_,_,_,_,_,⟨h1,h2⟩,k=>by rw[h1,h2];exact k
 | _::_,_,_,_,_,_,⟨a,b,c,d,h1,h2,h3,h4⟩,k=>⟨a,b++_,c,d++_,by rw[h1,aM],by rw[h2,aM],h3,OwnL.append h4 k⟩
def Qkk {α:Type}{O:List Nat→List Value→α→Prop}{f:List Nat}{c:List Value}{x:α}(h:O f c x):OwnL O f c [x]:=
 ⟨f,[],c,[],by simp,by simp,h,rfl,rfl⟩
def Own.len:∀{t:Ty} {w:World} {fp:List Nat} {cs:List Value} {x:t.Den},Own t w fp cs x→cs.length=t.wd
 | .int,_,_,_,_,h=>by rw[h.2.1];rfl
 | .bool,_,_,_,_,h=>by rw[h.2];rfl
 | .str,_,_,_,_,h=>by rw[h.2.1];rfl
 | .u8,_,_,_,_,h=>by rw[h.2];rfl
 | .vl,_,_,_,_,h=>by rw[h.2];rfl
 | .sl _ _,_,_,_,_,h=>by rcases h with ⟨_,h,_⟩|⟨_,_,_,_,_,h,_⟩ <;> rw[h] <;> rfl
 | .pr _ _,_,_,_,_,⟨_,_,_,_,_,h,h1,h2⟩=>by rw[h,ai,Own.len h1,Own.len h2]
def OwnL.len {e:Ty}{w:World}:∀{xs:List e.Den} {fp:List Nat} {cs:List Value},OwnL (Own e w) fp cs xs→cs.length=xs.length*e.wd
 | [],_,_,h=>by rw[h.2];simp
 | _::xs,_,_,⟨_,_,_,_,_,h2,h3,h4⟩=>by rw[h2,ai,h3.len,h4.len,av,cw,dq,Nat.add_comm]
def Own.keep:∀{t:Ty} {w w':World} {fp:List Nat} {cs:List Value} {x:t.Den},Own t w fp cs x→(∀g∈fp,w'.heap[g]? =w.heap[g]?)→Own t w' fp cs x
 | .int,_,_,_,_,_,h,_=>h
 | .bool,_,_,_,_,_,h,_=>h
 | .str,_,_,_,_,_,h,_=>h
 | .u8,_,_,_,_,_,h,_=>h
 | .vl,_,_,_,_,_,h,_=>h
 | .sl _ _,_,_,_,_,_,h,k=>by
  rcases h with h|⟨g,b,d,fps,rfl,i,j,m,o,p,q⟩
  ·exact .inl h
  ·exact .inr ⟨g,b,d,fps,rfl,i,(k g (aA ..)).trans j,m,o,p,OwnL.mono q fun f c x s u=>Own.keep u fun g a=>k g (az _ (s g a))⟩
 | .pr _ _,_,_,_,_,_,⟨f1,f2,l,r,h,i,j,m⟩,k=>⟨f1,f2,l,r,h,i,Own.keep j fun g a=>k g (by rw[h];exact aU _ a),Own.keep m fun g a=>k g (by rw[h];exact bd _ a)⟩
theorem Own.lt:∀{t:Ty} {w:World} {fp:List Nat} {cs:List Value} {x:t.Den},Own t w fp cs x→∀g∈fp,g<w.heap.size
 | .int,_,_,_,_,h=>by rw[h.1];simp
 | .bool,_,_,_,_,h=>by rw[h.1];simp
 | .str,_,_,_,_,h=>by rw[h.1];simp
 | .u8,_,_,_,_,h=>by rw[h.1];simp
 | .vl,_,_,_,_,h=>by rw[h.1];simp
 | .sl e E,w,_,_,_,h=>by
  rcases h with h|⟨g,q,s,fps,rfl,p,m,o,u,v,j⟩
  ·rw[h.1];simp
  ·intro C f
   rcases aK.1 f with rfl|f
   ·grind
   ·clear p o v
    generalize List.take _ _=cs at j
    revert j f
    clear m u
    rename_i xs
    induction xs generalizing fps cs with
    | nil=>intro f j;rw[j.1] at f;cases f
    | cons x xs A=>
     rintro f ⟨a,b,c,d,rfl,rfl,y,z⟩
     rcases aO.1 f with f|f
     ·exact Own.lt y _ f
     ·exact A b (az _ f) d f z
 | .pr _ _,_,_,_,_,⟨f1,f2,l,r,h,p,m,o⟩=>by
  intro g i
  rw[h] at i
  rcases aO.1 i with i|i
  ·exact Own.lt m _ i
  ·exact Own.lt o _ i
theorem OwnL.get {e:Ty}{w:World}:∀{xs:List e.Den} {fp:List Nat} {cs:List Value},OwnL (Own e w) fp cs xs→∀i x,xs[i]? =some x→∃f h,Own e w f h x∧(∀g∈f,g∈fp)∧∀j u,h[j]? =some u→cs[i*e.wd+j]? =some u
 | [],_,_,_,i,x,hx=>by simp at hx
 | y::xs,_,_,⟨a,b,c,d,h1,h2,h3,h4⟩,i,x,hx=>by
  cases i with
  | zero=>
   grind
  | succ i=>
   obtain ⟨f,h,l,m,o⟩:=OwnL.get h4 i x (by simpa using hx)
   refine ⟨f,h,l,fun g p=>by rw[h1];exact bd _ (m g p),fun j u q=> ?_⟩
   rw[h2,bw (by rw[h3.len,cw];omega),← o j u q,h3.len,cw]
   congr 1
   omega
def Own.rep:∀{t:Ty} {w:World} {fp:List Nat} {cs:List Value} {x:t.Den},Own t w fp cs x→Rep t w cs x
 | .int,_,_,_,_,h=>h.2
 | .bool,_,_,_,_,h=>h.2
 | .str,_,_,_,_,h=>h.2
 | .u8,_,_,_,_,h=>h.2
 | .vl,_,_,_,_,h=>h.2
 | .sl _ e,w,_,_,xs,h=>by
  rcases h with ⟨_,h,q⟩|⟨g,b,o,fps,rfl,c,d,m,s,D,v⟩
  ·subst q
   exact ⟨none,0,h,aP _,aL _,fun h=>absurd h (by simp)⟩
  ·refine ⟨_,b,c,m,s,fun _=>⟨g,0,rfl,fun i x C=> ?_⟩⟩
   obtain ⟨f,p,y,_,z⟩:=v.get i x C
   refine ⟨p,Own.rep y,fun j u A=> ?_⟩
   have a:=z j u A
   rw[bf] at a
   split at a
   ·simp only[World.cell?,d]
    simpa using a
   ·cases a
 | .pr _ _,_,_,_,_,⟨f1,f2,l,r,h,c,d,m⟩=>⟨l,r,c,Own.rep d,Own.rep m⟩
def Rep.one:∀{t:Ty} {w:World} {cs:List Value} {x:t.Den},Rep t w cs x→∀v∈cs,v.oneCell'=true
 | .int,_,_,_,h=>by rw[h.1];simp[Value.oneCell']
 | .bool,_,_,_,h=>by have h:_=_:=h;rw[h];simp[Value.oneCell']
 | .str,_,_,_,h=>by rw[h.1];simp[Value.oneCell']
 | .u8,_,_,_,h=>by have h:_=_:=h;rw[h];simp[Value.oneCell']
 | .vl,_,_,_,h=>by have h:_=_:=h;rw[h];simpa using QxF _
 | .sl _ _,_,_,_,⟨_,_,h,_⟩=>by rw[h];simp[Value.oneCell']
 | .pr _ _,_,_,_,⟨_,_,h,h1,h2⟩=>by
  intro v a
  rw[h] at a
  rcases aO.1 a with a|a
  ·exact Rep.one h1 v a
  ·exact Rep.one h2 v a
def Qhs {P:Program}(w:World)(a:Addr)(v:Value)(m:Mode)(h:v.oneCell'=true):(store a v m).run P w=stored P w a v m:=run_store P w a v m h
attribute [go_sem] Qhs
def Frs (t:Ty)(B U:Nat)(w:World)(cs:List Value)(x:t.Den):Prop:=∃fp,Own t w fp cs x∧fp.Nodup∧∀g∈fp,B≤g∧g<U
def FrsL (e:Ty)(B U:Nat)(w:World)(cs:List Value)(xs:List e.Den):Prop:=∃fp,OwnL (Own e w) fp cs xs∧fp.Nodup∧∀g∈fp,B≤g∧g<U
def Frs.rep {t:Ty}{B U:Nat}{w:World}{cs:List Value}{x:t.Den}(h:Frs t B U w cs x):Rep t w cs x:=h.choose_spec.1.rep
def Frs.mono {t:Ty}{B U a b:Nat}{w:World}{cs:List Value}{x:t.Den}(h:Frs t B U w cs x)(l:a≤B)(m:U≤b):Frs t a b w cs x:=by
 obtain ⟨c,d,f,i⟩:=h
 exact ⟨c,d,f,fun g j=>by have:=i g j;omega⟩
def Frs.keep {t:Ty}{B U:Nat}{w w':World}{cs:List Value}{x:t.Den}(h:Frs t B U w cs x)(i:∀g,B≤g→g<U→w'.heap[g]? =w.heap[g]?):Frs t B U w' cs x:=by
 obtain ⟨c,d,f,a⟩:=h
 exact ⟨c,d.keep fun g b=>i g (a g b).1 (a g b).2,f,a⟩
def FrsL.keep {e:Ty}{B U:Nat}{w w':World}{cs:List Value}{xs:List e.Den}(h:FrsL e B U w cs xs)(m:∀g,B≤g→g<U→w'.heap[g]? =w.heap[g]?):FrsL e B U w' cs xs:=by
 obtain ⟨i,j,l,a⟩:=h
 exact ⟨i,j.mono fun f c x b o=>o.keep fun g d=>m g (a g (b g d)).1 (a g (b g d)).2,l,a⟩
def JO {l r:List Nat}{M:Nat}(c:l.Nodup)(d:r.Nodup)(i:∀g∈l,g<M)(j:∀g∈r,M≤g):(l++r).Nodup:=
 bz.2 ⟨c,d,fun a f b h e=>by have:=i a f;have:=j b h;omega⟩
theorem Frs.join {a b:Ty}{B M U:Nat}{w:World}{l r:List Value}{x:a.Den}{y:b.Den}(h:Frs a B M w l x)(k:Frs b M U w r y)(s:B≤M)(t:M≤U):Frs (.pr a b) B U w (l++r) (x,y):=by
 obtain ⟨d,i,j,m⟩:=h
 obtain ⟨f,o,p,q⟩:=k
 refine ⟨d++f,⟨d,f,l,r,rfl,rfl,i,o⟩,JO j p (fun g c=>(m g c).2) (fun g c=>(q g c).1),fun g c=> ?_⟩
 grind
def Frs.int {B U:Nat}{w:World}{x:Int}(h: -9223372036854775808≤x∧x≤9223372036854775807):Frs .int B U w [.int .i64 x] x:=⟨[],⟨rfl,rfl,h⟩,cv,by simp⟩
def Frs.bool {B U:Nat}{w:World}{x:Bool}:Frs .bool B U w [.bool x] x:=⟨[],⟨rfl,rfl⟩,cv,by simp⟩
def Frs.str {B U:Nat}{w:World}{x:BA}(h:x.size≤maxLen):Frs .str B U w [.string x] x:=⟨[],⟨rfl,rfl,h⟩,cv,by simp⟩
def Frs.nil {E:TypeId}{e:Ty}{B U:Nat}{w:World}:Frs (.sl E e) B U w [.slice none 0 0] []:=⟨[],.inl ⟨rfl,rfl,rfl⟩,cv,by simp⟩
structure Fill (e:Ty) (E:TypeId) (w0:World) (g n k:Nat) (w:World) (xs:List e.Den):Prop where
  nw:Nw w0 w
  base:w0.heap.size≤g
  lt:g<w.heap.size
  row:∃cur,w.heap[g]? =some (.cells cur E (0,0))∧cur.size=n*e.wd∧FrsL e (g+1) w.heap.size w (cur.toList.take (k*e.wd)) (xs.take k)
def Wx (w:World)(g off:Nat):List Value→World
 | []=>w
 | v::vs=>Wx (w.setCell ⟨g,off,none⟩ v) g (off+1) vs
def Qik (w:World)(g off:Nat)(vs:List Value):(Wx w g off vs).heap.size=w.heap.size:=by
 induction vs generalizing w off with
 | nil=>rfl
 | cons v vs a=>simp[Wx,a]
def Y9 (w:World)(g off:Nat)(vs:List Value)(k:Nat)(h:k≠g):(Wx w g off vs).heap[k]? =w.heap[k]? :=by
 induction vs generalizing w off with
 | nil=>rfl
 | cons v vs a=>
  rw[Wx,a]
  exact Below.heap_setCell w ⟨g,off,none⟩ v k h
def Uw (g:Nat)(E:TypeId)(b:Nat×Nat)(vs:List Value):∀(w:World) (off:Nat) (cur:Array Value),w.heap[g]? =some (.cells cur E b)→off+vs.length≤cur.size→
 ∃a,(Wx w g off vs).heap[g]? =some (.cells a E b)∧a.size=cur.size∧a.toList=cur.toList.take off++vs++cur.toList.drop (off+vs.length):=by
 induction vs with
 | nil=>intro w off cur h _;exact ⟨cur,h,rfl,by simp⟩
 | cons v vs m=>
  intro w off cur h l
  simp only[av] at l
  have d:(w.setCell ⟨g,off,none⟩ v).heap[g]? =some (.cells (cur.setIfInBounds off v) E b):=by simp[World.setCell,Array.getElem?_modify,h]
  obtain ⟨a,f,i,j⟩:=m (w.setCell ⟨g,off,none⟩ v) (off+1) (cur.setIfInBounds off v) d (by simp;omega)
  refine ⟨a,f,by simpa using i,?_⟩
  rw[j]
  have c:off<cur.toList.length:=by simp;omega
  simp only[Array.toList_setIfInBounds,av]
  rw[List.drop_set_of_lt (by omega)]
  have:(cur.toList.set off v).take (off+1)=cur.toList.take off++[v]:=by
   rw[cd (by simpa using c),List.take_set_of_le (aP _)]
   simp
  rw[this]
  simp[bX,Nat.add_comm 1 vs.length]
def Qyk {w0 w:World}(h:Nw w0 w){g:Nat}(a:w0.heap.size≤g)(off:Nat)(vs:List Value):Nw w0 (Wx w g off vs):=by
 induction vs generalizing w off with
 | nil=>exact h
 | cons v vs b=>exact b (h.setCell (p:=⟨g,off,none⟩) a v) _
section
variable {e:Ty}{E:TypeId}{w0 w w1:World}{g n k:Nat}{xs:List e.Den}
def Fill.start (w0:World)(E:TypeId)(cur:Array Value)(n:Nat)(a:cur.size=n*e.wd)(xs:List e.Den):Fill e E w0 w0.heap.size n 0 (w0.alloc (.cells cur E)) xs:=
 ⟨(Q4 _).alloc _,aP _,by simp,cur,heap_alloc_new w0 _,a,[],by simpa using ⟨rfl,rfl⟩,cv,by simp⟩
def Fill.cell (h:Fill e E w0 g n k w xs)(l:Nw w w1)(i:k<n){j:Nat}(m:j<e.wd):∃u,w1.cell? ⟨g,k*e.wd+j,none⟩=some u∧w1.frozen? ⟨g,k*e.wd+j,none⟩=false:=by
 obtain ⟨a,c,d,_⟩:=h.row
 have b:w1.heap[g]? =some (.cells a E (0,0)):=(Below.block l g h.lt).trans c
 have f:k*e.wd+j<a.size:=by
  rw[d]
  calc k*e.wd+j<k*e.wd+e.wd:=by omega
   _=(k+1)*e.wd:=by rw[cw,dq]
   _≤n*e.wd:=cD _ i
 exact ⟨a[k*e.wd+j],by simp[World.cell?,b,f],by simp[World.frozen?,b]⟩
theorem Fill.step (h:Fill e E w0 g n k w xs)(j:Nw w w1)(N:k<n){x:e.Den}(Q:xs[k]? =some x){cs:List Value}(t:Frs e w.heap.size w1.heap.size w1 cs x):Fill e E w0 g n (k+1) (Wx w1 g (k*e.wd) cs) xs:=by
 obtain ⟨a,I,s,J⟩:=h.row
 have K:w1.heap[g]? =some (.cells a E (0,0)):=(Below.block j g h.lt).trans I
 have p:cs.length=e.wd:=by obtain ⟨_,o,_⟩:=t;exact o.len
 have d:k*e.wd+cs.length≤a.size:=by
  rw[s,p]
  calc k*e.wd+e.wd=(k+1)*e.wd:=by rw[cw,dq]
   _≤n*e.wd:=cD _ N
 obtain ⟨b,o,L,M⟩:=Uw g E (0,0) cs w1 (k*e.wd) a K d
 have P:=j.size
 have O:=h.lt
 refine ⟨Qyk (h.nw.trans j) h.base _ _,h.base,by rw[Qik];omega,b,o,L.trans s,?_⟩
 have m:FrsL e (g+1) w.heap.size (Wx w1 g (k*e.wd) cs) (a.toList.take (k*e.wd)) (xs.take k):=J.keep fun l f c=>by
  rw[Y9 _ _ _ _ _ (by omega)]
  exact Below.block j l c
 have q:Frs e w.heap.size w1.heap.size (Wx w1 g (k*e.wd) cs) cs x:=t.keep fun l f c=>Y9 _ _ _ _ _ (by omega)
 obtain ⟨G,u,v,y⟩:=m
 obtain ⟨H,z,A,C⟩:=q
 rw[Qik]
 refine ⟨G++H,?_,JO v A (fun g r=>(y g r).2) (fun g r=>(C g r).1),fun l f=> ?_⟩
 ·have D:xs.take (k+1)=xs.take k++[x]:=by
   have i:=(ae.1 Q)
   rw[cd i.1,i.2]
  have F:b.toList.take ((k+1)*e.wd)=a.toList.take (k*e.wd)++cs:=by
   have i:(a.toList.take (k*e.wd)++cs).length=(k+1)*e.wd:=by
    grind
   rw[M,← i,dF]
  rw[D,F]
  exact u.append (Qkk z)
 ·grind
theorem QB6 (h:Fill e E w0 g n n w xs)(p:xs.length=n)(o:n≤maxLen):Frs (.sl E e) g w.heap.size w [.slice (some ⟨g,0,none⟩) n n] xs:=by
 obtain ⟨a,d,f,b,c,i,j⟩:=h.row
 subst p
 rw[dN] at c
 refine ⟨g::b,.inr ⟨g,xs.length,a,b,rfl,rfl,d,aP _,o,f,c⟩,bP.2 ⟨fun l=>by have:=j g l;omega,i⟩,fun q m=> ?_⟩
 grind
end
section
variable {e:Ty}{E:TypeId}{w0 w w1:World}{g n k:Nat}{xs:List e.Den}
end
def Kb (B U:Nat)(w w':World):Prop:=∀g,B≤g→g<U→w'.heap[g]? =w.heap[g]?
section
variable {B U:Nat}{w w' w'':World}
def QE6:Kb B U w w:=fun _ _ _=>rfl
def Kb.trans (h:Kb B U w w')(k:Kb B U w' w''):Kb B U w w'':=fun g a b=>(k g a b).trans (h g a b)
def Kb.setCell (h:Kb B U w w'){p:Addr}(c:p.block<B∨U≤p.block)(u:Value):Kb B U w (w'.setCell p u):=fun g a b=>(Below.heap_setCell w' p u g (by omega)).trans (h g a b)
def Kb.alloc (h:Kb B U w w')(c:U≤w'.heap.size)(o:Obj):Kb B U w (w'.alloc o):=fun g a b=>(Below.heap_alloc w' o g (by omega)).trans (h g a b)
def Kb.drew (h:Kb B U w w'):Kb B U w w'.drew:=h
def Kb.drewN (h:Kb B U w w')(n:Nat):Kb B U w (w'.drewN n):=h
def Kb.nw (h:Kb B U w w')(c:Nw w' w'')(d:U≤w'.heap.size):Kb B U w w'':=fun g a b=>(Below.block c g (by omega)).trans (h g a b)
def Qy7 {p:Addr}{u:Value}(a:p.block<B∨U≤p.block)(h:Kb B U w w'):Kb B U w (w'.setCell p u):=h.setCell a u
end
def QFj {t:Ty}{B U:Nat}{w w':World}{cs:List Value}{x:t.Den}(h:Frs t B U w cs x)(a:Kb B U w w'):Frs t B U w' cs x:=h.keep a
def QHg (E:TypeId)(e:Ty)(w:World)(xs:List e.Den)(n:Ending)(w':World):Prop:=∃A c,n= .returned (.slice A xs.length c)∧Frs (.sl E e) w.heap.size w'.heap.size w' [.slice A xs.length c] xs∧Nw w w'
def QHb (t:Ty)(w:World)(x:t.Den)(e:Ending)(w':World):Prop:=∃u0,e= .returned u0∧Frs t w.heap.size w'.heap.size w' [u0] x∧Nw w w'
def QHc (t:Ty)(w:World)(x:t.Den)(e:Ending)(w':World):Prop:=∃u0 u1,e= .returned (.agg #[u0,u1])∧Frs t w.heap.size w'.heap.size w' [u0,u1] x∧Nw w w'
def QHd (t:Ty)(w:World)(x:t.Den)(e:Ending)(w':World):Prop:=∃u0 u1 u2,e= .returned (.agg #[u0,u1,u2])∧Frs t w.heap.size w'.heap.size w' [u0,u1,u2] x∧Nw w w'
def QHe (t:Ty)(w:World)(x:t.Den)(e:Ending)(w':World):Prop:=∃u0 u1 u2 u3,e= .returned (.agg #[u0,u1,u2,u3])∧Frs t w.heap.size w'.heap.size w' [u0,u1,u2,u3] x∧Nw w w'
def QHf (t:Ty)(w:World)(x:t.Den)(e:Ending)(w':World):Prop:=∃u0 u1 u2 u3 u4,e= .returned (.agg #[u0,u1,u2,u3,u4])∧Frs t w.heap.size w'.heap.size w' [u0,u1,u2,u3,u4] x∧Nw w w'
def Qof {P:Program}(t E:TypeId)(z:Value)(b a:Nat)(m:P.underlying t=some (.slice E))(c:(P.info? E).map (fun i=>(i.zero,i.size,i.bytes))=some (some z,b,a))
 (n:Nat) (hbytes:a*n≤281474976710656) (h63:n≤9223372036854775807) (w:World):
 (Instr.makeSlice t (.int .i64 (n:Int)) (.int .i64 (n:Int))).run P w= .ok (.slice (some ⟨w.heap.size,0,none⟩) n n) (w.alloc (.cells (madeCells z.cells (n*b)) E)):=by
 obtain ⟨i,j,f⟩:=cq.1 c
 simp only[Prod.mk.injEq] at f
 obtain ⟨o,l,h⟩:=f
 have:=run_make (P:=P) w t E i z m j o .i64 .i64 n n (by omega) (cR _) (by rw[h];have d:=Int.ofNat_le.2 hbytes;rw[Int.natCast_mul] at d;exact d) (by omega)
 simpa [l] using this
set_option maxHeartbeats 4000000
set_option maxRecDepth 100000
open Go.RowKit
def CutTo (l:Int)(t:Nat)(l':Int):Prop:=(l<t∧l'= -1)∨(t≤l∧l'=l - t)
def CutTo.le {l l':Int}{t:Nat}(h:CutTo l t l')(h0:0≤l)(a:l≤1048576): -1≤l'∧l'≤1048576:=by unfold CutTo at h;omega
def SzPost (w:World)(l:Int)(t:Nat)(e:Ending)(w':World):Prop:=∃l',e= .returned (.int .i64 l')∧CutTo l t l'∧Nw w w'
def QE8 (w:World)(e:Ending)(w':World):Prop:=e= .returned (.bool true)∧Nw w w'
def QaL (p:Qs→Prop)(xs:List (Qs))(v:Value)(F:Nat)(caps:Array Value)(w:World)(hr:Rep (.sl 103 Xy) w [v] xs)(hcf:Qe prog F)
 (hF:∀(i:Nat) (x:Qs) (W:World) (v0 v1:Value),xs[i]? =some x→Nw w W→Rep Xy W [v0,v1] x→Calls prog F (#[.agg #[v0,v1]]++caps) W (RetB (p x) W)):
 Calls prog 222 #[v,.func (.func F) #[] caps] w (QzV p xs w):=by
 obtain ⟨A,c,rfl,hl,hc⟩:=hr.slv
 have hm:xs.length≤9223372036854775807:=by unfold maxLen at hc;omega
 have HF:=hid hF
 clear hF
 go_enter func222,ntmps222
 go_wp2
 go_loopw [8] (fun i wr=>∃k:Nat,k≤xs.length∧i= .int .i64 k∧(∀j x,j<k→xs[j]? =some x→¬p x)∧Nw w wr) (fun i _=>xs.length - (intOf i).toNat)
 case atStart=>exact ⟨0,aL _,rfl,fun j x h=>absurd h (by omega),Q4 _⟩
 case round=>
  obtain ⟨k,hk,rfl,hno,hq⟩:=hrel
  have HN:=hid hno
  clear hno
  by_cases hlt:k<xs.length
  ·obtain ⟨b,o,v0,v1,rfl,hx,c0,c1⟩:=(hr.nw hq).at2 rfl (ak hlt)
   have hcf:=hcf
   unfold Qe at hcf
   have hcall:=HF.out k _ wr v0 v1 (ak hlt) hq hx
   have HC:=hid hcall
   clear hcall
   go_wp2_with fail
   refine Calls.mono HC.out ?_
   rintro e w1 ⟨bb,rfl,hb,hq1⟩
   cases bb with
   | true=>
    have HP:=hid (hb.1 rfl)
    clear hb
    go_wp2
    go_ret
    exact ⟨_,rfl,.inr ⟨k,rfl,hlt,fun y hy=>by rw[ak hlt] at hy;cases hy;exact HP.out,HN.out⟩,hq.trans hq1⟩
   | false=>
    have HP:=hid (fun hp=>absurd (hb.2 hp) (by simp):¬p xs[k])
    clear hb
    go_wp2
    go_roundw
    case rel=>exact ⟨k+1,by omega,by go_num,fun j y hj hy=>by
     by_cases e1:j=k
     ·subst e1
      rw[ak hlt] at hy
      cases hy
      exact HP.out
     ·exact HN.out j y (by omega) hy,hq.trans hq1⟩
    case measure=>simp[intOf];omega
  ·go_wp2
   go_ret
   refine ⟨_,rfl,.inl ⟨rfl,fun x hx=> ?_⟩,hq⟩
   obtain ⟨j,hj,hjx⟩:=List.mem_iff_getElem.1 hx
   exact HN.out j x (by omega) (by rw[ak hj,hjx])
def K6 (p:Qs→Prop)(xs:List (Qs))(v:Value)(F:Nat)(caps:Array Value)(w:World)(g:Rep (.sl 103 Xy) w [v] xs)(b:Qe prog F)
 (hF:∀(i:Nat) (x:Qs) (W:World) (h j:Value),xs[i]? =some x→Nw w W→Rep Xy W [h,j] x→Calls prog F (#[.agg #[h,j]]++caps) W (RetB (p x) W)):
 Calls prog 139 #[v,.func (.func F) #[] caps] w (RetB (∃x∈xs,p x) w):=by
 have a:=QaL p xs v F caps w g b hF
 obtain ⟨A,c,rfl,q,m⟩:=g.slv
 have n:xs.length≤9223372036854775807:=by unfold maxLen at m;omega
 have k:=hid a
 clear a hF
 go_enter func139,ntmps139
 go_wp2_with fail
 refine Calls.mono k.out ?_
 rintro e s ⟨r,rfl,d,f⟩
 have o:=d.range n
 have l:=hid d
 clear d
 go_wp2
 go_ret
 exact RetB.of (by rw[← l.out.any];simp) f
def QvV {s t:BA}(h:(s.toList==t.toList)=true):s=t:=by
 have h:s.toList=t.toList:=by simpa using h
 rw[bc,bc] at h
 cases s;cases t
 exact congrArg _ (dp.1 h)
def QBV {s t:BA}(h:(s.toList==t.toList)=false):s≠t:=by
 rintro rfl
 simp at h
def QvX {s t:BA}(h:s=t):(s.toList==t.toList)=true:=by subst h;simp
def QvW {s t:BA}(h:s≠t):(s.toList==t.toList)=false:=by
 cases e:(s.toList==t.toList) with
 | false=>rfl
 | true=>exact absurd (QvV e) h
def Yz (k c:Nat):Prop:=(97≤c∧c≤122)∨(k≠0∧48≤c∧c≤57)
def YP (s:BA):Prop:=(∀k (h:k<s.size),Yz k s[k].toNat)∧1≤s.size∧s.size≤6
def QsF (c:Nat):Prop:=c=48∨c=49∨c=45
def Qqu (s:BA):Prop:=∀k (h:k<s.size),QsF s[k].toNat
def QbP (n lo hi:Int)(w:World):Calls prog 65 #[.int .i64 n,.int .i64 lo,.int .i64 hi] w (RetB (lo≤n∧n≤hi) w):=by
 by_cases a:lo≤n
 ·by_cases b:n≤hi
  all_goals
   go_enter func65,ntmps65
   go_wp2
   go_ret
   exact RetB.of (by simp;omega) (Q4 _)
 ·go_enter func65,ntmps65
  go_wp2
  go_ret
  exact RetB.of (by simp;omega) (Q4 _)
def KL (n lo hi:Int)(w:World):Calls prog 104 #[.int .i64 n,.int .i64 lo,.int .i64 hi] w (RetB (lo≤n∧n≤hi) w):=by
 by_cases a:lo≤n
 ·by_cases b:n≤hi
  all_goals
   go_enter func104,ntmps104
   go_wp2
   go_ret
   exact RetB.of (by simp;omega) (Q4 _)
 ·go_enter func104,ntmps104
  go_wp2
  go_ret
  exact RetB.of (by simp;omega) (Q4 _)
def Qie {s:BA}{k:Nat}(h:k<s.size)(a:¬Yz k s[k].toNat):¬YP s:=fun b=>a (b.1 k h)
def QaW {s:BA}{k:Nat}(h:k<s.size)(d:∀j (h:j<s.size),j<k→Yz j s[j].toNat)(a:Yz k s[k].toNat):∀j (h:j<s.size),j<k+1→Yz j s[j].toNat:=by
 intro j b c
 by_cases e:j=k
 ·subst e;exact a
 ·exact d j b (by omega)
def Qgt (s:BA)(w:World)(hs:s.size≤maxLen):Calls prog 200 #[.string s] w (RetB (YP s) w):=by
  have hm:s.size≤9223372036854775807:=hs
  go_enter func200,ntmps200
  go_wp2
  go_loop [3] (fun i=>∃k:Nat,k≤s.size∧i= .int .i64 k∧∀j (h:j<s.size),j<k→Yz j s[j].toNat) (fun i=>s.size - (intOf i).toNat)
  case atStart=>exact ⟨0,aL _,rfl,fun j h h'=>absurd h' (by omega)⟩
  case round=>
    obtain ⟨k,hk,rfl,hyes⟩:=hrel
    have HY:=hid hyes
    clear hyes
    by_cases hlt:k<s.size
    · rcases (by omega : s[k].toNat<48 ∨ (48 ≤ s[k].toNat ∧ s[k].toNat ≤ 57) ∨ (58 ≤ s[k].toNat ∧ s[k].toNat ≤ 96) ∨ (97 ≤ s[k].toNat ∧ s[k].toNat ≤ 122) ∨ 123 ≤ s[k].toNat) with h1|⟨h1,h2⟩|⟨h1,h2⟩|⟨h1,h2⟩|h1
      all_goals first|have d0:decide ((97:Int)≤(s[k].toNat:Int))=true:=ay (by omega)|have d0:decide ((97:Int)≤(s[k].toNat:Int))=false:=aj (by omega)
      all_goals first|have d1:decide ((s[k].toNat:Int)≤122)=true:=ay (by omega)|have d1:decide ((s[k].toNat:Int)≤122)=false:=aj (by omega)
      all_goals first|have d2:decide ((48:Int)≤(s[k].toNat:Int))=true:=ay (by omega)|have d2:decide ((48:Int)≤(s[k].toNat:Int))=false:=aj (by omega)
      all_goals first|have d3:decide ((s[k].toNat:Int)≤57)=true:=ay (by omega)|have d3:decide ((s[k].toNat:Int)≤57)=false:=aj (by omega)
      all_goals first|have d4:decide ((s[k].toNat:Int)<48)=true:=ay (by omega)|have d4:decide ((s[k].toNat:Int)<48)=false:=aj (by omega)
      all_goals first|have d5:decide ((57:Int)<(s[k].toNat:Int))=true:=ay (by omega)|have d5:decide ((57:Int)<(s[k].toNat:Int))=false:=aj (by omega)
      all_goals rcases Nat.eq_zero_or_pos k with rfl|hk0
      all_goals try have hk1:((k:Int)==0)=false:=by simp;omega
      all_goals go_wp2
      all_goals first
        | (go_ret
           exact RetB.no (Qie hlt (by unfold Yz;omega)) (Q4 _))
        | (go_round
           case rel=>exact ⟨_+1,by omega,by go_num,QaW hlt HY.out (by unfold Yz;omega)⟩
           case measure=>simp[intOf];omega)
    · have : k = s.size := by omega
      subst this
      go_wp2_with (go_at_call 104;refine (KL _ _ _ _).mono ?_;rintro e w1 ⟨b,rfl,hb,hq1⟩)
      go_ret
      refine RetB.of (hb.trans ⟨fun h=>⟨fun j hj=>HY.out j hj hj,by omega,by omega⟩,fun h=>by have:=h.2;omega⟩) hq1
def Qgo (s:BA)(w:World)(hs:s.size≤maxLen):Calls prog 138 #[.string s] w (RetB (YP s) w):=by
  have hm:s.size≤9223372036854775807:=hs
  go_enter func138,ntmps138
  go_wp2
  go_loopw [3] (fun i wr=>∃k:Nat,k≤s.size∧i= .int .i64 k∧(∀j (h:j<s.size),j<k→Yz j s[j].toNat)∧Nw w wr) (fun i _=>s.size - (intOf i).toNat)
  case atStart=>exact ⟨0,aL _,rfl,fun j h h'=>absurd h' (by omega),Q4 _⟩
  case round=>
    obtain ⟨k,hk,rfl,hyes,hq⟩:=hrel
    have HY:=hid hyes
    clear hyes
    by_cases hlt:k<s.size
    · have hi0 : (0 : Int) ≤ k := by omega
      have hi1:(k:Int)<s.size:=by omega
      rcases (by omega:s[k].toNat<48∨(48≤s[k].toNat∧s[k].toNat≤57)∨(58≤s[k].toNat∧s[k].toNat≤96)∨(97≤s[k].toNat∧s[k].toNat≤122)∨123≤s[k].toNat) with h1|⟨h1,h2⟩|⟨h1,h2⟩|⟨h1,h2⟩|h1
      all_goals first|have d0:decide ((97:Int)≤(s[k].toNat:Int))=true:=ay (by omega)|have d0:decide ((97:Int)≤(s[k].toNat:Int))=false:=aj (by omega)
      all_goals first|have d1:decide ((s[k].toNat:Int)≤122)=true:=ay (by omega)|have d1:decide ((s[k].toNat:Int)≤122)=false:=aj (by omega)
      all_goals first|have d2:decide ((48:Int)≤(s[k].toNat:Int))=true:=ay (by omega)|have d2:decide ((48:Int)≤(s[k].toNat:Int))=false:=aj (by omega)
      all_goals first|have d3:decide ((s[k].toNat:Int)≤57)=true:=ay (by omega)|have d3:decide ((s[k].toNat:Int)≤57)=false:=aj (by omega)
      all_goals first|have d4:decide ((s[k].toNat:Int)<48)=true:=ay (by omega)|have d4:decide ((s[k].toNat:Int)<48)=false:=aj (by omega)
      all_goals first|have d5:decide ((57:Int)<(s[k].toNat:Int))=true:=ay (by omega)|have d5:decide ((57:Int)<(s[k].toNat:Int))=false:=aj (by omega)
      all_goals rcases Nat.eq_zero_or_pos k with rfl|hk0
      all_goals try have hk1:((k:Int)==0)=false:=by simp;omega
      all_goals go_wp2_with fail
      all_goals go_quiet (fail)
      all_goals go_wp2
      all_goals first
        | (go_ret
           exact RetB.no (Qie hlt (by unfold Yz;omega)) (hq.drewN _))
        | (go_roundw
           case rel=>exact ⟨_+1,by omega,by go_num,QaW hlt HY.out (by unfold Yz;omega),hq.drewN _⟩
           case measure=>simp[intOf];omega)
    · have : k = s.size := by omega
      subst this
      go_wp2_with (go_at_call 65;refine (QbP _ _ _ _).mono ?_;rintro e w1 ⟨b,rfl,hb,hq1⟩)
      go_ret
      refine RetB.of (hb.trans ⟨fun h=>⟨fun j hj=>HY.out j hj hj,by omega,by omega⟩,fun h=>by have:=h.2;omega⟩) (hq.trans hq1)
def Qfr {a b:Int}(h:a≠b):(a != b)=true:=by simpa using h
def QhG {a b:Int}(h:a=b):(a != b)=false:=by simpa using h
def Qfp {a b:Int}(h:a=b):(a==b)=true:=by simpa using h
def Qad {a b:Int}(h:a≠b):(a==b)=false:=by simpa using h
end Go.Proofs.YtjfpbcmfbnnooaaGreat
