/- How Go's data of this program lie in memory: a small universe of types, and what it means that cells read as a datum. No program is named here. -/
import Derived.WalkKit
import Derived.ChangeArms
import Derived.DataReads
import Derived.Deep.Draws
import Derived.WalkSpells
import Derived.WalkLawsBesides
import Derived.Deep.LoopGhost
import Derived.Deep.QuietTactic
import Derived.BigQuiet
import Derived.Test.YtfkmmpfdncopdaaGreatProg
import Derived.StillTailTactics
set_option linter.unusedSimpArgs false
set_option linter.unusedVariables false
set_option linter.unusedSectionVars false
namespace Go.Proofs.YtfkmmpfdncopdaaGreat
section
open Go
set_option linter.defProp false
def aa:=@List.getElem?_eq_getElem
def ab:=@of_decide_eq_false
def ae:=@of_decide_eq_true
def ah:=@List.getElem?_eq_some_iff
def ai:=@List.length_append
def aj:=@Option.getD_some
def ak:=@Option.getD_none
def ap:=@List.mem_of_getElem?
def aq:=@List.length_take
def au:=@List.length_cons
def aw:=@Go.Sem.run_bind
def ax:=@List.mem_cons_of_mem
def ay:=@decide_eq_false
def az:=@List.mem_cons_self
def aA:=@List.length_replicate
def aB:=@List.all_eq_true
def aC:=@List.mem_singleton
def aD:=@List.length_set
def aE:=@List.mem_cons
def aF:=@List.length_nil
def aG:=@Nat.le_of_ble_eq_true
def aH:=@Result.andThen_ok
def aI:=@List.cons.injEq
def aJ:=@decide_eq_true
def aK:=@List.mem_append
def aL:=@Bool.and_eq_true
def aM:=@List.mem_iff_getElem?
def aN:=@ByteArray.size_append
def aO:=@Nat.le_refl
def aP:=@List.length_map
def aQ:=@List.mem_append_left
def aR:=@Nat.zero_le
def aS:=@ByteArray.size_extract
def aT:=@List.mem_append_right
def aU:=@List.take_of_length_le
def aV:=@decide_eq_true_eq
def aW:=@List.getElem?_set_self
def aX:=@Nat.eq_of_beq_eq_true
def aY:=@getElem?_pos
def aZ:=@List.append_assoc
def b5:=@Go.Sem.run_pure
def b6:=@List.getElem?_set_ne
def b7:=@Option.isSome_iff_exists
def b8:=@Nat.not_lt_zero
def b9:=@List.nodup_append
def ba:=@List.mem_map
def bc:=@ByteArray.toList_eq
def bd:=@List.length_drop
def be:=@List.getElem?_take
def bf:=@List.getElem?_append_left
def bg:=@List.map_cons
def bh:=@Nat.lt_of_lt_of_le
def bi:=@List.pairwise_cons
def bj:=@List.getElem?_append_right
def bk:=@Option.some.injEq
def bl:=@List.nodup_cons
def bm:=@List.all_cons
def bn:=@Nat.zero_add
def bo:=@Nat.add_sub_cancel_left
def bp:=@List.getElem?_eq_none
def bq:=@List.getElem?_map
def br:=@List.drop_eq_getElem_cons
def bt:=@List.nodup_nil
def bu:=@List.foldl_cons
def bw:=@Nat.le_trans
def bz:=@List.getElem?_set
def bA:=@List.ext_getElem?
def bB:=@List.eq_nil_of_length_eq_zero
def bC:=@List.any_eq_true
def bD:=@Nat.add_mul
def bE:=@List.drop_eq_nil_of_le
def bF:=@List.append_nil
def bG:=@Array.getD_eq_getD_getElem?
def bH:=@List.filter_append
def bI:=@List.take_append_drop
def bJ:=@List.all_nil
def bK:=@Nat.add_assoc
def bL:=@decide_eq_decide
def bM:=@Bool.not_eq_true'
def bN:=@List.take_succ_eq_append_getElem
def bO:=@List.getElem?_cons_zero
def bP:=@Array.getElem?_eq_some_iff
def bQ:=@Bool.false_eq_true
def bR:=@List.mem_filter
def bS:=@Bool.or_eq_true
def bT:=@List.findIdx?_eq_some_iff_getElem
def bU:=@Bool.eq_iff_iff
def bV:=@Nat.mul_le_mul_right
def bW:=@List.not_mem_nil
def bX:=@List.Pairwise.nil
def bY:=@List.mem_range
def c9:=@List.mem_or_eq_of_mem_set
def cd:=@Classical.byContradiction
def ce:=@List.map_append
def cj:=@List.mem_flatMap
def ck:=@List.getElem?_replicate
def cq:=@List.any_eq_false
def cr:=@Bool.eq_false_iff
def cu:=@Nat.min_eq_left
def cv:=@List.filter_eq_self
def cw:=@Option.map_eq_some_iff
def cA:=@Nat.ble_eq_true_of_le
def cB:=@List.length_filter_le
def cC:=@List.getElem?_drop
def cD:=@List.getElem?_modify
def cE:=@List.range_succ
def cF:=@List.eq_of_mem_replicate
def cG:=@List.pairwise_singleton
def cH:=@List.filter_cons_of_neg
def cI:=@List.getElem_mem
def cJ:=@List.cons_append
def cK:=@List.set_cons_succ
def cM:=@Option.map_some
def cN:=@Nat.one_mul
def cO:=@Nat.lt_or_ge
def cP:=@List.nil_append
def cQ:=@List.length_singleton
def cR:=@Nat.le_succ_of_le
def cU:=@Bool.and_true
def cV:=@Bool.or_eq_false_iff
def cW:=@Array.toList_map
def cX:=@Nat.mul_one
def cY:=@List.flatMap_append
def cZ:=@Int.toNat_of_nonneg
def d6:=@List.take_left
def d7:=@List.drop_drop
def d8:=@Nat.beq_refl
def d9:=@List.map_nil
def da:=@Nat.mod_eq_of_lt
def db:=@List.take_length
def dc:=@List.map_toArray
def dd:=@List.filter_cons
def de:=@Option.map_none
def dh:=@Int.le_refl
def di:=@Sem.run_bind
def dk:=@Nat.add_zero
def dl:=@List.set_set
def dn:=@List.map_map
def dp:=@List.drop_zero
end
set_option maxHeartbeats 4000000
set_option maxRecDepth 100000
open Go.RowKit
abbrev Hdr:=Option (Nat×Nat×Nat×Nat)
def hdV:Hdr→Value
  | none=> .slice none 0 0
  | some (g,o,n,c)=> .slice (some ⟨g,o,none⟩) n c
theorem Qo6 (x:Hdr):(hdV x).oneCell'=true:=by
  match x with
  | none=>simp[hdV,Value.oneCell']
  | some (g,o,n,c)=>simp[hdV,Value.oneCell']
theorem Qjg {x y:Hdr}(h:hdV x=hdV y):x=y:=by
  match x,y with
  | none,none=>rfl
  | none,some (g,o,n,c)=>simp[hdV] at h
  | some (g,o,n,c),none=>simp[hdV] at h
  | some (g,o,n,c),some (g',o',n',c')=>
    simp[hdV] at h
    obtain ⟨⟨rfl,rfl⟩,rfl,rfl⟩:=h
    rfl
inductive Ty where
  | int | bool | str | u8 | vl
  | sl (E:TypeId) (e:Ty)
  | pr (a b:Ty)
@[reducible] def Ty.Den:Ty→Type
  | .int=>Int
  | .bool=>Bool
  | .str=>ByteArray
  | .u8=>UInt8
  | .vl=>Hdr
  | .sl _ e=>List e.Den
  | .pr a b=>a.Den×b.Den
@[reducible] def Ty.wd:Ty→Nat
  | .pr a b=>a.wd+b.wd
  | .int=>1
  | .bool=>1
  | .str=>1
  | .u8=>1
  | .vl=>1
  | .sl _ _=>1
theorem XD:∀t:Ty,0 < t.wd
  | .int=>Nat.one_pos
  | .bool=>Nat.one_pos
  | .str=>Nat.one_pos
  | .u8=>Nat.one_pos
  | .vl=>Nat.one_pos
  | .sl _ _=>Nat.one_pos
  | .pr a _=>Nat.add_pos_left (XD a) _
def Rep:(t:Ty)→World→List Value→t.Den→Prop
  | .int,_,cs,x=>cs=[.int .i64 x]∧ -9223372036854775808≤x∧x≤9223372036854775807
  | .bool,_,cs,x=>cs=[.bool x]
  | .str,_,cs,x=>cs=[.string x]∧x.size≤maxLen
  | .u8,_,cs,x=>cs=[.int .u8 x.toNat]
  | .vl,_,cs,x=>cs=[hdV x]
  | .sl _ e,w,cs,xs=>∃A c,cs=[.slice A xs.length c]∧xs.length≤c∧c≤maxLen∧
      (0 < xs.length→∃b o,A=some ⟨b,o,none⟩∧∀i x,xs[i]? =some x→∃ds,Rep e w ds x∧∀j u,ds[j]? =some u→w.cell? ⟨b,o+i*e.wd+j,none⟩=some u)
  | .pr a b,w,cs,x=>∃l r,cs=l++r∧Rep a w l x.1∧Rep b w r x.2
def Kp (w w':World):Prop:=∀a v,w.cell? a=some v→w'.cell? a=some v
theorem Qs0 (w:World):Kp w w:=fun _ _ h=>h
theorem Kp.trans {a b c:World}(h:Kp a b)(k:Kp b c):Kp a c:=fun p v q=>k p v (h p v q)
theorem Qcv {w w':World}(h:Below w.heap.size w w'):Kp w w':=fun a v e=>by
  rw[h.cell (World.block_lt_of_cell? w a e)]; exact e
theorem Kp.alloc (w:World)(o:Obj):Kp w (w.alloc o):=Qcv ((Below.refl _ _).alloc (aO _) o)
theorem Rep.len:∀{t:Ty} {w:World} {cs:List Value} {x:t.Den},Rep t w cs x→cs.length=t.wd
  | .int,_,_,_,h=>by rw[h.1]; rfl
  | .bool,_,_,_,h=>by have h:_=_:=h; rw[h]; rfl
  | .str,_,_,_,h=>by rw[h.1]; rfl
  | .u8,_,_,_,h=>by have h:_=_:=h; rw[h]; rfl
  | .vl,_,_,_,h=>by have h:_=_:=h; rw[h]; rfl
  | .sl _ _,_,_,_,⟨_,_,h,_⟩=>by rw[h]; rfl
  | .pr _ _,_,_,_,⟨_,_,h,h1,h2⟩=>by rw[h,ai,Rep.len h1,Rep.len h2]
theorem Rep.kp:∀{t:Ty} {w w':World} {cs:List Value} {x:t.Den},Rep t w cs x→Kp w w'→Rep t w' cs x
  | .int,_,_,_,_,h,_=>h
  | .bool,_,_,_,_,h,_=>h
  | .str,_,_,_,_,h,_=>h
  | .u8,_,_,_,_,h,_=>h
  | .vl,_,_,_,_,h,_=>h
  | .sl _ _,_,_,_,_,⟨A,c,h,h1,h2,h3⟩,k=>⟨A,c,h,h1,h2,fun hp=>by
      obtain ⟨b,o,e,h4⟩:=h3 hp
      refine ⟨b,o,e,fun i x hx=> ?_⟩
      obtain ⟨ds,h5,h6⟩:=h4 i x hx
      exact ⟨ds,Rep.kp h5 k,fun j u hu=>k _ _ (h6 j u hu)⟩⟩
  | .pr _ _,_,_,_,_,⟨l,r,h,h1,h2⟩,k=>⟨l,r,h,Rep.kp h1 k,Rep.kp h2 k⟩
theorem Qrh {t:Ty}{w w':World}{cs:List Value}{x:t.Den}(h:Rep t w cs x)(hb:Below w.heap.size w w'):Rep t w' cs x:=h.kp (Qcv hb)
theorem Rep.alloc {t:Ty}{w:World}{cs:List Value}{x:t.Den}(h:Rep t w cs x)(o:Obj):Rep t (w.alloc o) cs x:=h.kp (Kp.alloc w o)
theorem Rep.drew {t:Ty}{w:World}{cs:List Value}{x:t.Den}(h:Rep t w cs x):Rep t w.drew cs x:=h.kp fun _ _ e=>e
theorem Rep.drewN {t:Ty}{w:World}{cs:List Value}{x:t.Den}(h:Rep t w cs x)(n:Nat):Rep t (w.drewN n) cs x:=h.kp fun _ _ e=>e
theorem Rep.slv {E:TypeId}{e:Ty}{w:World}{v:Value}{xs:List e.Den}(h:Rep (.sl E e) w [v] xs):∃A c,v= .slice A xs.length c∧xs.length≤c∧c≤maxLen:=by
  obtain ⟨A,c,h,h1,h2,_⟩:=h
  exact ⟨A,c,by simpa using h,h1,h2⟩
theorem Rep.at_ {E:TypeId}{e:Ty}{w:World}{A:Option Addr}{n c:Nat}{xs:List e.Den}(h:Rep (.sl E e) w [.slice A n c] xs){i:Nat}{x:e.Den}(hx:xs[i]? =some x):
    ∃b o ds,A=some ⟨b,o,none⟩∧Rep e w ds x∧∀j u,ds[j]? =some u→w.cell? ⟨b,o+i*e.wd+j,none⟩=some u:=by
  obtain ⟨A',c',h,h1,h2,h3⟩:=h
  simp only[aI,Value.slice.injEq,and_true] at h
  obtain ⟨rfl,rfl,rfl⟩:=h
  have hl:i < xs.length:=(ah.1 hx).1
  obtain ⟨b,o,e1,h4⟩:=h3 (by omega)
  obtain ⟨ds,h5,h6⟩:=h4 i x hx
  exact ⟨b,o,ds,e1,h5,h6⟩
theorem Rep.cut {E:TypeId}{e:Ty}{w:World}{A:Option Addr}{n c:Nat}{xs:List e.Den}(h:Rep (.sl E e) w [.slice A n c] xs){m:Nat}(hm:m≤n)(c':Nat)(hc:m≤c')(hc':c'≤maxLen):
    Rep (.sl E e) w [.slice A m c'] (xs.take m):=by
  obtain ⟨A',c'',h,h1,h2,h3⟩:=h
  simp only[aI,Value.slice.injEq,and_true] at h
  obtain ⟨rfl,rfl,rfl⟩:=h
  have hl:(xs.take m).length=m:=by simp; omega
  refine ⟨A,c',by rw[hl],by omega,hc',fun hp=> ?_⟩
  obtain ⟨b,o,e1,h4⟩:=h3 (by omega)
  refine ⟨b,o,e1,fun i x hx=>h4 i x ?_⟩
  rw[be] at hx
  split at hx
  · exact hx
  · cases hx
theorem Rep.int_ {w:World}{v:Value}{x:Int}(h:Rep .int w [v] x):v= .int .i64 x∧ -9223372036854775808≤x∧x≤9223372036854775807:=⟨by simpa using h.1,h.2⟩
theorem Rep.bool_ {w:World}{v:Value}{x:Bool}(h:Rep .bool w [v] x):v= .bool x:=by have h:_=_:=h; simpa using h
theorem Rep.str_ {w:World}{v:Value}{x:ByteArray}(h:Rep .str w [v] x):v= .string x∧x.size≤maxLen:=⟨by simpa using h.1,h.2⟩
theorem Rep.pr1 {a b:Ty}{w:World}{v:Value}{cs:List Value}{x:a.Den×b.Den}(h:Rep (.pr a b) w (v :: cs) x)(ha:a.wd=1):Rep a w [v] x.1∧Rep b w cs x.2:=by
  obtain ⟨l,r,h,h1,h2⟩:=h
  match l,h1.len.trans ha with
  | [u],_=>
    simp only[cJ,cP,aI] at h
    obtain ⟨rfl,rfl⟩:=h
    exact ⟨h1,h2⟩
theorem QgB {α:Type}{n:Nat}{p:Nat→α→Prop}(h:∀i,i < n→∃d,p i d):∃xs:List α,xs.length=n∧∀i x,xs[i]? =some x→p i x:=by
  induction n with
  | zero=>exact ⟨[],rfl,by simp⟩
  | succ n ih=>
    obtain ⟨xs,hxl,hxs⟩:=ih (fun i hil=>h i (by omega))
    obtain ⟨d,hd⟩:=h n (by omega)
    refine ⟨xs++[d],by simp[hxl],fun i x hx=> ?_⟩
    rw[List.getElem?_append] at hx
    split at hx
    · exact hxs i x hx
    · have:i=n:=by
        have:=(ah.1 hx).1
        simp at this
        omega
      subst this
      simp[hxl] at hx
      subst hx
      exact hd
def Trd (P:Program)(T:TypeId)(t:Ty):Prop:=
  P.cellsOf T=t.wd∧∀{H:Type} (enc:TypeId×Value→H) (w:World) (base:Nat) (spare:Nat→Bool) (held:Bool) (fuel:Nat) (cs:List Value) (x:DataW H×List MemPlace),
    DataW.trod enc P w base spare held fuel T cs=some x→∃d,Rep t w cs d
section
variable {P:Program}{T:TypeId}
theorem Trd.int (h:P.underlying T=some (.int .i64))(hc:P.cellsOf T=1):Trd P T .int:=⟨hc,fun enc w base spare held fuel cs x hx=>by
  obtain ⟨n,rfl,_,hw⟩:=DataW.trod_int h hx
  refine ⟨n,rfl, ?_⟩
  simp[Lit.wf] at hw
  exact ⟨hw.1,hw.2⟩⟩
theorem Trd.bool (h:P.underlying T=some .bool)(hc:P.cellsOf T=1):Trd P T .bool:=⟨hc,fun enc w base spare held fuel cs x hx=>by
  obtain ⟨b,rfl,_⟩:=DataW.trod_bool h hx
  exact ⟨b,rfl⟩⟩
theorem Trd.str (h:P.underlying T=some .string)(hc:P.cellsOf T=1):Trd P T .str:=⟨hc,fun enc w base spare held fuel cs x hx=>by
  obtain ⟨s,rfl,_,hs⟩:=DataW.trod_string h hx
  exact ⟨s,rfl,hs⟩⟩
theorem Trd.sl {E:TypeId}{e:Ty}(h:P.underlying T=some (.slice E))(hc:P.cellsOf T=1)(he:Trd P E e):Trd P T (.sl E e):=⟨hc,fun enc w base spare held fuel cs x hx=>by
  rcases DataW.trod_slice h hx with ⟨rfl,_⟩ | ⟨a,len,cap,elems,rest,n,_,rfl,_,_,hl,hm,hel,hi,_,_⟩
  · exact ⟨[],none,0,rfl,aO _,aR _,fun h=>absurd h (by simp)⟩
  · have hget:∀i,i < len→∃d:e.Den,∃ds,Rep e w ds d∧∀j u,ds[j]? =some u→w.cell? (a.add (i*e.wd+j))=some u:=by
      intro i hil
      have h1:=hi i hil
      have h2:i < elems.length:=by omega
      rw[aa h2] at h1
      obtain ⟨ds,h3,h4⟩:=Option.bind_eq_some_iff.1 h1
      obtain ⟨d,hd⟩:=he.2 _ _ _ _ _ _ _ _ h4
      refine ⟨d,ds,hd,fun j u hu=> ?_⟩
      obtain ⟨_,h5,h6⟩:=World.cells?_some h3
      have hj:j < ds.length:=(ah.1 hu).1
      have:=h6 j (by omega)
      rw[hu,he.1] at this
      rw[← this]
      congr 1
      unfold Addr.add
      by_cases e1:i*e.wd=0 <;> by_cases e2:j=0 <;> simp[e1,e2,bK]
    obtain ⟨xs,hxl,hxs⟩:=QgB (p:=fun i x=>∃ds,Rep e w ds x∧∀j u,ds[j]? =some u→w.cell? (a.add (i*e.wd+j))=some u) hget
    subst hxl
    refine ⟨xs,some a,cap,rfl,hl,hm,fun hp=> ?_⟩
    have hz:xs[0]? =some xs[0]:=aa hp
    have hspot:a.spot=none∨∀ds:List Value,Rep e w ds xs[0]→ds.length=0:=by
      obtain ⟨ds,h1,h2⟩:=hxs 0 _ hz
      cases ds with
      | nil=>right; intro ds hds; rw[hds.len,← h1.len]; rfl
      | cons u us=>
        left
        have:=h2 0 u rfl
        simpa [Addr.add] using World.cell?_spot this
    rcases hspot with hs | hs
    · obtain ⟨b, o, sp⟩ := a
      have hs:sp=none:=hs
      subst hs
      refine ⟨b,o,rfl,fun i x hx=> ?_⟩
      obtain ⟨ds,h1,h2⟩:=hxs i x hx
      refine ⟨ds,h1,fun j u hu=> ?_⟩
      rw[← h2 j u hu]
      congr 1
      unfold Addr.add
      split
      · rename_i e0
        have e1:i*e.wd=0:=by omega
        have e2:j=0:=by omega
        rw[show o+i*e.wd+j=o by omega]
      · simp[bK]
    · exact absurd (hs _ (hxs 0 _ hz).choose_spec.1) (by rw[(hxs 0 _ hz).choose_spec.1.len]; exact Nat.ne_of_gt (XD e))⟩
def TF (P:Program)(fs:Array Field)(i k:Nat)(t:Ty):Prop:=
  ∀{H:Type} (enc:TypeId×Value→H) (w:World) (base:Nat) (spare:Nat→Bool) (held:Bool) (n:Nat) (cs:List Value),cs.length=k+t.wd→
    (∀j f,i≤j→fs[j]? =some f→∃y,DataW.trod enc P w base spare held n f.type ((cs.drop f.offset).take (P.cellsOf f.type))=some y)→∃d,Rep t w (cs.drop k) d
theorem Qs1 {fs:Array Field}{i k:Nat}{t:Ty}(f:Field)(hf:fs[i]? =some f)(ho:f.offset=k)(ht:Trd P f.type t):TF P fs i k t:=
  fun enc w base spare held n cs hl h=>by
    obtain ⟨y,hy⟩:=h i f (aO _) hf
    rw[ho,ht.1,aU (by simp; omega)] at hy
    exact ht.2 _ _ _ _ _ _ _ _ hy
theorem TF.cons {fs:Array Field}{i k:Nat}{a b:Ty}(f:Field)(hf:fs[i]? =some f)(ho:f.offset=k)(ht:Trd P f.type a)(hb:TF P fs (i+1) (k+a.wd) b):TF P fs i k (.pr a b):=
  fun enc w base spare held n cs hl h=>by
    obtain ⟨y,hy⟩:=h i f (aO _) hf
    rw[ho,ht.1] at hy
    obtain ⟨d,hd⟩:=ht.2 _ _ _ _ _ _ _ _ hy
    obtain ⟨d',hd'⟩:=hb enc w base spare held n cs (by rw[hl]; simp[Ty.wd,bK]) (fun j f' hj hf'=>h j f' (by omega) hf')
    refine ⟨(d,d'),_,_, ?_,hd,hd'⟩
    rw[← d7,bI]
theorem Trd.st {t:Ty}{fs:Array Field}(h:P.underlying T=some (.struct fs))(hc:P.cellsOf T=t.wd)(hf:TF P fs 0 0 t):Trd P T t:=⟨hc,fun enc w base spare held fuel cs x hx=>by
  obtain ⟨xs,n,_,_,hl,hxl,hg⟩:=DataW.trod_struct h hx
  have:=hf enc w base spare held n cs (by rw[hl,hc,bn]) (fun j f _ hj=>by
    have h1:=hg j f hj
    have:j < fs.size:=(bP.1 hj).1
    rw[h1,aa (by omega)]
    exact ⟨_,rfl⟩)
  simpa using this⟩
end
end Go.Proofs.YtfkmmpfdncopdaaGreat
namespace Go.Proofs.YtfkmmpfdncopdaaGreat
set_option maxHeartbeats 4000000
set_option maxRecDepth 100000
open Go.RowKit
def Nw (w w':World):Prop:=Below w.heap.size w w'
theorem QJ (w:World):Nw w w:=Below.refl _ _
theorem Nw.trans {a b c:World}(h:Nw a b)(k:Nw b c):Nw a c:=Below.trans h (Below.mono k (Below.size h))
theorem Nw.alloc {a w:World}(h:Nw a w)(o:Obj):Nw a (w.alloc o):=Below.alloc h (Below.size h) o
theorem Nw.drew {a w:World}(h:Nw a w):Nw a w.drew:=Below.drew h
theorem Nw.drewN {a w:World}(h:Nw a w)(n:Nat):Nw a (w.drewN n):=h.trans ⟨rfl,rfl,rfl,aO _,fun _ _=>rfl⟩
theorem Nw.setCell {a w:World}(h:Nw a w){p:Addr}(hp:a.heap.size≤p.block)(u:Value):Nw a (w.setCell p u):=Below.setCell h hp u
theorem Zg {a b c:World}(k:Nw b c)(h:Nw a b):Nw a c:=h.trans k
theorem QX {a w:World}{p:Addr}{u:Value}(hp:a.heap.size≤p.block)(h:Nw a w):Nw a (w.setCell p u):=h.setCell hp u
theorem Nw.size {a w:World}(h:Nw a w):a.heap.size≤w.heap.size:=Below.size h
theorem Nw.kp {a w:World}(h:Nw a w):Kp a w:=Qcv h
theorem QsJ {a w:World}(h:Nw a w):Below a.heap.size a w:=h
theorem Rep.nw {t:Ty}{w w':World}{cs:List Value}{x:t.Den}(h:Rep t w cs x)(hb:Nw w w'):Rep t w' cs x:=h.kp hb.kp
theorem Nw.cells {W w1:World}(hb:Nw W w1):(∀b o,b < W.heap.size→w1.cell? ⟨b,o,none⟩=W.cell? ⟨b,o,none⟩)∧(∀b o,b < W.heap.size→w1.frozen? ⟨b,o,none⟩=W.frozen? ⟨b,o,none⟩):=
  ⟨fun b o h=>Below.cell hb (p:=⟨b,o,none⟩) h,fun b o h=>Below.frozen hb (p:=⟨b,o,none⟩) h⟩
theorem Qc {P:Program}{f:FuncId}{fn:Func}{c:Code}(hf:P.funcs[f]? =some fn)(hname:(fn.name== "runtime.NumGoroutine")=false)(hb:fn.body=some c)(args:Array Value)(w:World):
    (callFunc f args).run P w= .ok (.enter f args) w:=by
  have h1:fn.name≠ "runtime.NumGoroutine" :=by simpa using hname
  simp[callFunc,hf,h1,hb]
def Qe (P:Program)(F:FuncId):Prop:=∀(a_:Array Value) (W:World),(callFunc F a_).run P W= .ok (.enter F a_) W
theorem hid {p:Prop}(h:p):Hid p:=h
def RetB (p:Prop)(w:World)(e:Ending)(w':World):Prop:=∃b:Bool,e= .returned (.bool b)∧(b=true↔p)∧Nw w w'
theorem RetB.yes {p:Prop}{w w':World}(h:p)(hq:Nw w w'):RetB p w (.returned (.bool true)) w':=⟨true,rfl,by simp[h],hq⟩
theorem RetB.no {p:Prop}{w w':World}(h:¬p)(hq:Nw w w'):RetB p w (.returned (.bool false)) w':=⟨false,rfl,by simp[h],hq⟩
theorem RetB.not {p:Prop}(h:false=true↔p):¬p:=fun hp=>absurd (h.2 hp) (by simp)
theorem RetB.of {p:Prop}{w w':World}{b:Bool}(h:b=true↔p)(hq:Nw w w'):RetB p w (.returned (.bool b)) w':=⟨b,rfl,h,hq⟩
def IsIdx {α:Type}(p:α→Prop)(xs:List α)(r:Int):Prop:=(r= -1∧∀x∈xs,¬p x)∨(∃k:Nat,r=k∧k < xs.length∧(∀x,xs[k]? =some x→p x)∧∀j x,j < k→xs[j]? =some x→¬p x)
def QqW {α:Type}(p:α→Prop)(xs:List α)(w:World)(e:Ending)(w':World):Prop:=∃r:Int,e= .returned (.int .i64 r)∧IsIdx p xs r∧Nw w w'
theorem IsIdx.range {α:Type}{p:α→Prop}{xs:List α}{r:Int}(h:IsIdx p xs r)(hl:xs.length≤9223372036854775807): -1≤r∧r≤9223372036854775807:=by
  rcases h with ⟨rfl,_⟩ | ⟨k,rfl,h,_⟩ <;> omega
theorem IsIdx.any {α:Type}{p:α→Prop}{xs:List α}{r:Int}(h:IsIdx p xs r):0≤r↔∃x∈xs,p x:=by
  rcases h with ⟨rfl,h⟩ | ⟨k,rfl,hk,h,_⟩
  · constructor
    · intro h0; omega
    · rintro ⟨x,hx,hp⟩; exact absurd hp (h x hx)
  · exact ⟨fun _=>⟨xs[k],cI hk,h _ (aa hk)⟩,fun _=>by omega⟩
section
variable {E:TypeId}{e:Ty}{w:World}{A:Option Addr}{n c:Nat}{xs:List e.Den}
theorem Rep.at1 (h:Rep (.sl E e) w [.slice A n c] xs)(hw:e.wd=1){i:Nat}{x:e.Den}(hx:xs[i]? =some x):
    ∃b o v,A=some ⟨b,o,none⟩∧Rep e w [v] x∧w.cell? ⟨b,o+i,none⟩=some v:=by
  obtain ⟨b,o,ds,rfl,h1,h2⟩:=h.at_ hx
  match ds,h1.len.trans hw with
  | [v],_=>exact ⟨b,o,v,rfl,h1,by have:=h2 0 v rfl; rwa [hw,cX] at this⟩
theorem Rep.at2 (h:Rep (.sl E e) w [.slice A n c] xs)(hw:e.wd=2){i:Nat}{x:e.Den}(hx:xs[i]? =some x):
    ∃b o v0 v1,A=some ⟨b,o,none⟩∧Rep e w [v0,v1] x∧w.cell? ⟨b,o+i*2,none⟩=some v0∧w.cell? ⟨b,o+i*2+1,none⟩=some v1:=by
  obtain ⟨b,o,ds,rfl,h1,h2⟩:=h.at_ hx
  match ds,h1.len.trans hw with
  | [v0,v1],_=>exact ⟨b,o,v0,v1,rfl,h1,by have:=h2 0 v0 rfl; rwa [hw] at this,by have:=h2 1 v1 rfl; rwa [hw] at this⟩
end
theorem Rep.pr2 {a b:Ty}{w:World}{v u:Value}{cs:List Value}{x:a.Den×b.Den}(h:Rep (.pr a b) w (v :: u :: cs) x)(ha:a.wd=2):Rep a w [v,u] x.1∧Rep b w cs x.2:=by
  obtain ⟨l,r,h,h1,h2⟩:=h
  match l,h1.len.trans ha with
  | [y,z],_=>
    simp only[cJ,cP,aI] at h
    obtain ⟨rfl,rfl,rfl⟩:=h
    exact ⟨h1,h2⟩
section
variable {a b c d:Ty}{w:World}{u0 u1 u2 u3:Value}
theorem Rep.open2 {x:(Ty.pr a b).Den}(h:Rep (.pr a b) w [u0,u1] x)(ha:a.wd=1):Rep a w [u0] x.1∧Rep b w [u1] x.2:=h.pr1 ha
theorem Rep.open3 {x:(Ty.pr a (.pr b c)).Den}(h:Rep (.pr a (.pr b c)) w [u0,u1,u2] x)(ha:a.wd=1)(hb:b.wd=1):Rep a w [u0] x.1∧Rep b w [u1] x.2.1∧Rep c w [u2] x.2.2:=by
  obtain ⟨h1,h2⟩:=h.pr1 ha
  exact ⟨h1,h2.pr1 hb⟩
end
def Ty.tot:(t:Ty)→t.Den→Nat
  | .int,_=>0
  | .bool,_=>0
  | .str,s=>s.size
  | .u8,_=>0
  | .vl,_=>0
  | .sl _ e,xs=>xs.length+(xs.map e.tot).sum
  | .pr a b,x=>a.tot x.1+b.tot x.2
def cut (left:Int)(t:Nat):Int:=if left < t then -1 else left - t
end Go.Proofs.YtfkmmpfdncopdaaGreat
namespace Go.Proofs.YtfkmmpfdncopdaaGreat
set_option maxHeartbeats 4000000
set_option maxRecDepth 100000
abbrev Qz:Type:=ByteArray×Int
abbrev YR:Ty:= .pr .str .int
abbrev Qtu:Type:=Int×Bool
abbrev QsC:Type:=ByteArray×Int×(List Qtu)×(List ByteArray)
abbrev QsO:Type:=(List Qz)×(List QsC)
abbrev QP:Type:=(List Int)×(List Int)
abbrev Q8:Ty:= .pr (.sl 3 .int) (.sl 3 .int)
abbrev Y0:Type:=Int×(List QP)
abbrev Hm:Ty:= .pr .int (.sl 237 Q8)
abbrev ZF:Type:=Int×Bool
abbrev QeZ:Ty:= .pr .int .bool
abbrev Zq:Type:=Y0×(List Qz)×(List ZF)×ByteArray
abbrev Qah:Ty:= .pr Hm (.pr (.sl 203 YR) (.pr (.sl 120 QeZ) .str))
abbrev Yw:Type:=Int×Int×Bool
abbrev QtC:Type:=Int×Int×Bool×Int
abbrev Qs4:Ty:= .pr .int (.pr .int (.pr .bool .int))
abbrev Qph:Type:=(List Qz)×(List ByteArray)×(List QtC)
abbrev Qpe:Ty:= .pr (.sl 203 YR) (.pr (.sl 9 .str) (.sl 136 Qs4))
abbrev QrS:Type:=Int×Int×Int
abbrev QrA:Ty:= .pr .int (.pr .int .int)
abbrev QhF:Type:=(List ByteArray)×(List QrS)
abbrev Qid:Ty:= .pr (.sl 9 .str) (.sl 184 QrA)
end Go.Proofs.YtfkmmpfdncopdaaGreat
namespace Go.Proofs.YtfkmmpfdncopdaaGreat
set_option maxHeartbeats 4000000
set_option maxRecDepth 100000
open Go.RowKit
def OwnL {α:Type}(O:List Nat→List Value→α→Prop):List Nat→List Value→List α→Prop
  | fp,cs,[]=>fp=[]∧cs=[]
  | fp,cs,x :: xs=>∃f1 f2 c1 c2,fp=f1++f2∧cs=c1++c2∧O f1 c1 x∧OwnL O f2 c2 xs
def Own:(t:Ty)→World→List Nat→List Value→t.Den→Prop
  | .int,_,fp,cs,x=>fp=[]∧cs=[.int .i64 x]∧ -9223372036854775808≤x∧x≤9223372036854775807
  | .bool,_,fp,cs,x=>fp=[]∧cs=[.bool x]
  | .str,_,fp,cs,x=>fp=[]∧cs=[.string x]∧x.size≤maxLen
  | .u8,_,fp,cs,x=>fp=[]∧cs=[.int .u8 x.toNat]
  | .vl,_,fp,cs,x=>fp=[]∧cs=[hdV x]
  | .sl E e,w,fp,cs,xs=>(fp=[]∧cs=[.slice none 0 0]∧xs=[])∨
      ∃g cap cur fps,fp=g :: fps∧cs=[.slice (some ⟨g,0,none⟩) xs.length cap]∧w.heap[g]? =some (.cells cur E (0,0))∧xs.length≤cap∧cap≤maxLen∧cur.size=cap*e.wd∧
        OwnL (Own e w) fps (cur.toList.take (xs.length*e.wd)) xs
  | .pr a b,w,fp,cs,x=>∃f1 f2 l r,fp=f1++f2∧cs=l++r∧Own a w f1 l x.1∧Own b w f2 r x.2
theorem OwnL.mono {α:Type}{O O':List Nat→List Value→α→Prop}:∀{xs:List α} {fp:List Nat} {cs:List Value},OwnL O fp cs xs→
    (∀f c x,(∀g∈f,g∈fp)→O f c x→O' f c x)→OwnL O' fp cs xs
  | [],_,_,h,_=>h
  | _ :: _,_,_,⟨f1,f2,c1,c2,h1,h2,h3,h4⟩,k=>⟨f1,f2,c1,c2,h1,h2,k _ _ _ (fun g hg=>by rw[h1]; exact aQ _ hg) h3,
      OwnL.mono h4 fun f c x hf ho=>k f c x (fun g hg=>by rw[h1]; exact aT _ (hf g hg)) ho⟩
theorem OwnL.append {α:Type}{O:List Nat→List Value→α→Prop}:∀{xs ys:List α} {f1 f2:List Nat} {c1 c2:List Value},OwnL O f1 c1 xs→OwnL O f2 c2 ys→OwnL O (f1++f2) (c1++c2) (xs++ys)
  | [],_,_,_,_,_,⟨h1,h2⟩,k=>by rw[h1,h2]; exact k
  | _ :: _,_,_,_,_,_,⟨a,b,c,d,h1,h2,h3,h4⟩,k=>⟨a,b++_,c,d++_,by rw[h1,aZ],by rw[h2,aZ],h3,OwnL.append h4 k⟩
theorem Qgn {α:Type}{O:List Nat→List Value→α→Prop}{f:List Nat}{c:List Value}{x:α}(h:O f c x):OwnL O f c [x]:=
  ⟨f,[],c,[],by simp,by simp,h,rfl,rfl⟩
theorem Own.len:∀{t:Ty} {w:World} {fp:List Nat} {cs:List Value} {x:t.Den},Own t w fp cs x→cs.length=t.wd
  | .int,_,_,_,_,h=>by rw[h.2.1]; rfl
  | .bool,_,_,_,_,h=>by rw[h.2]; rfl
  | .str,_,_,_,_,h=>by rw[h.2.1]; rfl
  | .u8,_,_,_,_,h=>by rw[h.2]; rfl
  | .vl,_,_,_,_,h=>by rw[h.2]; rfl
  | .sl _ _,_,_,_,_,h=>by rcases h with ⟨_,h,_⟩ | ⟨_,_,_,_,_,h,_⟩ <;> rw[h] <;> rfl
  | .pr _ _,_,_,_,_,⟨_,_,_,_,_,h,h1,h2⟩=>by rw[h,ai,Own.len h1,Own.len h2]
theorem OwnL.len {e:Ty}{w:World}:∀{xs:List e.Den} {fp:List Nat} {cs:List Value},OwnL (Own e w) fp cs xs→cs.length=xs.length*e.wd
  | [],_,_,h=>by rw[h.2]; simp
  | _ :: xs,_,_,⟨_,_,_,_,_,h2,h3,h4⟩=>by rw[h2,ai,h3.len,h4.len,au,bD,cN,Nat.add_comm]
theorem Own.keep:∀{t:Ty} {w w':World} {fp:List Nat} {cs:List Value} {x:t.Den},Own t w fp cs x→(∀g∈fp,w'.heap[g]? =w.heap[g]?)→Own t w' fp cs x
  | .int,_,_,_,_,_,h,_=>h
  | .bool,_,_,_,_,_,h,_=>h
  | .str,_,_,_,_,_,h,_=>h
  | .u8,_,_,_,_,_,h,_=>h
  | .vl,_,_,_,_,_,h,_=>h
  | .sl _ _,_,_,_,_,_,h,k=>by
      rcases h with h | ⟨g,cap,cur,fps,rfl,h1,h2,h3,h4,h5,h6⟩
      · exact .inl h
      · exact .inr ⟨g,cap,cur,fps,rfl,h1,(k g (az ..)).trans h2,h3,h4,h5,OwnL.mono h6 fun f c x hf ho=>Own.keep ho fun g hg=>k g (ax _ (hf g hg))⟩
  | .pr _ _,_,_,_,_,_,⟨f1,f2,l,r,h,h1,h2,h3⟩,k=>⟨f1,f2,l,r,h,h1,Own.keep h2 fun g hg=>k g (by rw[h]; exact aQ _ hg),Own.keep h3 fun g hg=>k g (by rw[h]; exact aT _ hg)⟩
theorem Own.lt:∀{t:Ty} {w:World} {fp:List Nat} {cs:List Value} {x:t.Den},Own t w fp cs x→∀g∈fp,g < w.heap.size
  | .int,_,_,_,_,h=>by rw[h.1]; simp
  | .bool,_,_,_,_,h=>by rw[h.1]; simp
  | .str,_,_,_,_,h=>by rw[h.1]; simp
  | .u8,_,_,_,_,h=>by rw[h.1]; simp
  | .vl,_,_,_,_,h=>by rw[h.1]; simp
  | .sl e E,w,_,_,_,h=>by
      rcases h with h | ⟨g,cap,cur,fps,rfl,h1,h2,h3,h4,h5,h6⟩
      · rw[h.1]; simp
      · intro g' hg'
        rcases aE.1 hg' with rfl | hg'
        · rcases cO g' w.heap.size with hlt | hge
          · exact hlt
          · rw[Array.getElem?_eq_none hge] at h2; cases h2
        · clear h1 h3 h5
          generalize List.take _ _=cs at h6
          revert h6 hg'
          clear h2 h4
          rename_i xs
          induction xs generalizing fps cs with
          | nil=>intro hg' h6; rw[h6.1] at hg'; cases hg'
          | cons x xs ih=>
            rintro hg' ⟨a,b,c,d,rfl,rfl,h7,h8⟩
            rcases aK.1 hg' with hg' | hg'
            · exact Own.lt h7 _ hg'
            · exact ih b (ax _ hg') d hg' h8
  | .pr _ _,_,_,_,_,⟨f1,f2,l,r,h,h1,h2,h3⟩=>by
      intro g hg
      rw[h] at hg
      rcases aK.1 hg with hg | hg
      · exact Own.lt h2 _ hg
      · exact Own.lt h3 _ hg
theorem OwnL.get {e:Ty}{w:World}:∀{xs:List e.Den} {fp:List Nat} {cs:List Value},OwnL (Own e w) fp cs xs→∀i x,xs[i]? =some x→∃f ds,Own e w f ds x∧(∀g∈f,g∈fp)∧∀j u,ds[j]? =some u→cs[i*e.wd+j]? =some u
  | [],_,_,_,i,x,hx=>by simp at hx
  | y :: xs,_,_,⟨a,b,c,d,h1,h2,h3,h4⟩,i,x,hx=>by
      cases i with
      | zero=>
        simp at hx
        subst hx
        refine ⟨a,c,h3,fun g hg=>by rw[h1]; exact aQ _ hg,fun j u hu=> ?_⟩
        rw[h2,Nat.zero_mul,bn,bf (ah.1 hu).1]
        exact hu
      | succ i=>
        obtain ⟨f,ds,h5,h6,h7⟩:=OwnL.get h4 i x (by simpa using hx)
        refine ⟨f,ds,h5,fun g hg=>by rw[h1]; exact aT _ (h6 g hg),fun j u hu=> ?_⟩
        rw[h2,bj (by rw[h3.len,bD]; omega),← h7 j u hu,h3.len,bD]
        congr 1
        omega
theorem Own.rep:∀{t:Ty} {w:World} {fp:List Nat} {cs:List Value} {x:t.Den},Own t w fp cs x→Rep t w cs x
  | .int,_,_,_,_,h=>h.2
  | .bool,_,_,_,_,h=>h.2
  | .str,_,_,_,_,h=>h.2
  | .u8,_,_,_,_,h=>h.2
  | .vl,_,_,_,_,h=>h.2
  | .sl _ e,w,_,_,xs,h=>by
      rcases h with ⟨_,h,h'⟩ | ⟨g,cap,cur,fps,rfl,h1,h2,h3,h4,h5,h6⟩
      · subst h'
        exact ⟨none,0,h,aO _,aR _,fun h=>absurd h (by simp)⟩
      · refine ⟨_, cap, h1, h3, h4, fun _ => ⟨g, 0, rfl, fun i x hx => ?_⟩⟩
        obtain ⟨f,ds,h7,_,h8⟩:=h6.get i x hx
        refine ⟨ds,Own.rep h7,fun j u hu=> ?_⟩
        have h9:=h8 j u hu
        rw[be] at h9
        split at h9
        · simp only [World.cell?, h2]
          simpa using h9
        · cases h9
  | .pr _ _,_,_,_,_,⟨f1,f2,l,r,h,h1,h2,h3⟩=>⟨l,r,h1,Own.rep h2,Own.rep h3⟩
theorem Rep.one:∀{t:Ty} {w:World} {cs:List Value} {x:t.Den},Rep t w cs x→∀v∈cs,v.oneCell'=true
  | .int,_,_,_,h=>by rw[h.1]; simp[Value.oneCell']
  | .bool,_,_,_,h=>by have h:_=_:=h; rw[h]; simp[Value.oneCell']
  | .str,_,_,_,h=>by rw[h.1]; simp[Value.oneCell']
  | .u8,_,_,_,h=>by have h:_=_:=h; rw[h]; simp[Value.oneCell']
  | .vl,_,_,_,h=>by have h:_=_:=h; rw[h]; simpa using Qo6 _
  | .sl _ _,_,_,_,⟨_,_,h,_⟩=>by rw[h]; simp[Value.oneCell']
  | .pr _ _,_,_,_,⟨_,_,h,h1,h2⟩=>by
      intro v hv
      rw[h] at hv
      rcases aK.1 hv with hv | hv
      · exact Rep.one h1 v hv
      · exact Rep.one h2 v hv
theorem QcO {P:Program}(w:World)(a:Addr)(v:Value)(m:Mode)(h:v.oneCell'=true):(store a v m).run P w=stored P w a v m:=run_store P w a v m h
attribute [go_sem] QcO
def Frs (t:Ty)(B U:Nat)(w:World)(cs:List Value)(x:t.Den):Prop:=∃fp,Own t w fp cs x∧fp.Nodup∧∀g∈fp,B≤g∧g < U
def FrsL (e:Ty)(B U:Nat)(w:World)(cs:List Value)(xs:List e.Den):Prop:=∃fp,OwnL (Own e w) fp cs xs∧fp.Nodup∧∀g∈fp,B≤g∧g < U
theorem Frs.rep {t:Ty}{B U:Nat}{w:World}{cs:List Value}{x:t.Den}(h:Frs t B U w cs x):Rep t w cs x:=h.choose_spec.1.rep
theorem Frs.mono {t:Ty}{B U B' U':Nat}{w:World}{cs:List Value}{x:t.Den}(h:Frs t B U w cs x)(hB:B'≤B)(hU:U≤U'):Frs t B' U' w cs x:=by
  obtain ⟨fp,h1,h2,h3⟩:=h
  exact ⟨fp,h1,h2,fun g hg=>by have:=h3 g hg; omega⟩
theorem Frs.keep {t:Ty}{B U:Nat}{w w':World}{cs:List Value}{x:t.Den}(h:Frs t B U w cs x)(hk:∀g,B≤g→g < U→w'.heap[g]? =w.heap[g]?):Frs t B U w' cs x:=by
  obtain ⟨fp,h1,h2,h3⟩:=h
  exact ⟨fp,h1.keep fun g hg=>hk g (h3 g hg).1 (h3 g hg).2,h2,h3⟩
theorem FrsL.keep {e:Ty}{B U:Nat}{w w':World}{cs:List Value}{xs:List e.Den}(h:FrsL e B U w cs xs)(hk:∀g,B≤g→g < U→w'.heap[g]? =w.heap[g]?):FrsL e B U w' cs xs:=by
  obtain ⟨fp,h1,h2,h3⟩:=h
  exact ⟨fp,h1.mono fun f c x hf ho=>ho.keep fun g hg=>hk g (h3 g (hf g hg)).1 (h3 g (hf g hg)).2,h2,h3⟩
theorem Uf {l r:List Nat}{M:Nat}(h1:l.Nodup)(h2:r.Nodup)(hl:∀g∈l,g < M)(hr:∀g∈r,M≤g):(l++r).Nodup:=
  b9.2 ⟨h1,h2,fun a ha b hb e=>by have:=hl a ha; have:=hr b hb; omega⟩
theorem Frs.join {a b:Ty}{B M U:Nat}{w:World}{l r:List Value}{x:a.Den}{y:b.Den}(h:Frs a B M w l x)(k:Frs b M U w r y)(hB:B≤M)(hU:M≤U):Frs (.pr a b) B U w (l++r) (x,y):=by
  obtain ⟨f1,h1,h2,h3⟩:=h
  obtain ⟨f2,k1,k2,k3⟩:=k
  refine ⟨f1++f2,⟨f1,f2,l,r,rfl,rfl,h1,k1⟩,Uf h2 k2 (fun g hg=>(h3 g hg).2) (fun g hg=>(k3 g hg).1),fun g hg=> ?_⟩
  rcases aK.1 hg with hg | hg
  · have:=h3 g hg; omega
  · have:=k3 g hg; omega
theorem Frs.int {B U:Nat}{w:World}{x:Int}(h: -9223372036854775808≤x∧x≤9223372036854775807):Frs .int B U w [.int .i64 x] x:=⟨[],⟨rfl,rfl,h⟩,bt,by simp⟩
theorem Frs.bool {B U:Nat}{w:World}{x:Bool}:Frs .bool B U w [.bool x] x:=⟨[],⟨rfl,rfl⟩,bt,by simp⟩
theorem Frs.str {B U:Nat}{w:World}{x:ByteArray}(h:x.size≤maxLen):Frs .str B U w [.string x] x:=⟨[],⟨rfl,rfl,h⟩,bt,by simp⟩
theorem Frs.nil {E:TypeId}{e:Ty}{B U:Nat}{w:World}:Frs (.sl E e) B U w [.slice none 0 0] []:=⟨[], .inl ⟨rfl,rfl,rfl⟩,bt,by simp⟩
structure Fill (e:Ty) (E:TypeId) (w0:World) (g n k:Nat) (w:World) (xs:List e.Den):Prop where
  nw:Nw w0 w
  base:w0.heap.size≤g
  lt:g < w.heap.size
  row:∃cur,w.heap[g]? =some (.cells cur E (0,0))∧cur.size=n*e.wd∧FrsL e (g+1) w.heap.size w (cur.toList.take (k*e.wd)) (xs.take k)
def Xs (w:World)(g off:Nat):List Value→World
  | []=>w
  | v :: vs=>Xs (w.setCell ⟨g,off,none⟩ v) g (off+1) vs
theorem Qd6 (w:World)(g off:Nat)(vs:List Value):(Xs w g off vs).heap.size=w.heap.size:=by
  induction vs generalizing w off with
  | nil=>rfl
  | cons v vs ih=>simp[Xs,ih]
theorem Yp (w:World)(g off:Nat)(vs:List Value)(k:Nat)(h:k≠g):(Xs w g off vs).heap[k]? =w.heap[k]? :=by
  induction vs generalizing w off with
  | nil=>rfl
  | cons v vs ih=>
    rw[Xs,ih]
    exact Below.heap_setCell w ⟨g,off,none⟩ v k h
theorem Ww (g:Nat)(E:TypeId)(fr:Nat×Nat)(vs:List Value):∀(w:World) (off:Nat) (cur:Array Value),w.heap[g]? =some (.cells cur E fr)→off+vs.length≤cur.size→
    ∃cur',(Xs w g off vs).heap[g]? =some (.cells cur' E fr)∧cur'.size=cur.size∧cur'.toList=cur.toList.take off++vs++cur.toList.drop (off+vs.length):=by
  induction vs with
  | nil=>intro w off cur h _; exact ⟨cur,h,rfl,by simp⟩
  | cons v vs ih=>
    intro w off cur h hl
    simp only[au] at hl
    have h1:(w.setCell ⟨g,off,none⟩ v).heap[g]? =some (.cells (cur.setIfInBounds off v) E fr):=by simp[World.setCell,Array.getElem?_modify,h]
    obtain ⟨cur',h2,h3,h4⟩:=ih (w.setCell ⟨g,off,none⟩ v) (off+1) (cur.setIfInBounds off v) h1 (by simp; omega)
    refine ⟨cur',h2,by simpa using h3, ?_⟩
    rw[h4]
    have hlt:off < cur.toList.length:=by simp; omega
    simp only[Array.toList_setIfInBounds,au]
    rw[List.drop_set_of_lt (by omega)]
    have:(cur.toList.set off v).take (off+1)=cur.toList.take off++[v]:=by
      rw[bN (by simpa using hlt),List.take_set_of_le (aO _)]
      simp
    rw[this]
    simp[bK,Nat.add_comm 1 vs.length]
theorem Qou {w0 w:World}(h:Nw w0 w){g:Nat}(hg:w0.heap.size≤g)(off:Nat)(vs:List Value):Nw w0 (Xs w g off vs):=by
  induction vs generalizing w off with
  | nil=>exact h
  | cons v vs ih=>exact ih (h.setCell (p:=⟨g,off,none⟩) hg v) _
section
variable {e:Ty}{E:TypeId}{w0 w w1:World}{g n k:Nat}{xs:List e.Den}
theorem Fill.start (w0:World)(E:TypeId)(cur:Array Value)(n:Nat)(hc:cur.size=n*e.wd)(xs:List e.Den):Fill e E w0 w0.heap.size n 0 (w0.alloc (.cells cur E)) xs:=
  ⟨(QJ _).alloc _,aO _,by simp,cur,heap_alloc_new w0 _,hc,[],by simpa using ⟨rfl,rfl⟩,bt,by simp⟩
theorem Fill.cell (h:Fill e E w0 g n k w xs)(hq:Nw w w1)(hk:k < n){j:Nat}(hj:j < e.wd):∃u,w1.cell? ⟨g,k*e.wd+j,none⟩=some u∧w1.frozen? ⟨g,k*e.wd+j,none⟩=false:=by
  obtain ⟨cur,h1,h2,_⟩:=h.row
  have h3:w1.heap[g]? =some (.cells cur E (0,0)):=(Below.block hq g h.lt).trans h1
  have h4:k*e.wd+j < cur.size:=by
    rw[h2]
    calc k*e.wd+j < k*e.wd+e.wd:=by omega
      _=(k+1)*e.wd:=by rw[bD,cN]
      _≤n*e.wd:=bV _ hk
  exact ⟨cur[k*e.wd+j],by simp[World.cell?,h3,h4],by simp[World.frozen?,h3]⟩
theorem Fill.step (h:Fill e E w0 g n k w xs)(hq:Nw w w1)(hk:k < n){x:e.Den}(hx:xs[k]? =some x){cs:List Value}(hf:Frs e w.heap.size w1.heap.size w1 cs x):Fill e E w0 g n (k+1) (Xs w1 g (k*e.wd) cs) xs:=by
  obtain ⟨cur,h1,h2,h3⟩:=h.row
  have h4:w1.heap[g]? =some (.cells cur E (0,0)):=(Below.block hq g h.lt).trans h1
  have hcl:cs.length=e.wd:=by obtain ⟨_,h5,_⟩:=hf; exact h5.len
  have hfit:k*e.wd+cs.length≤cur.size:=by
    rw[h2,hcl]
    calc k*e.wd+e.wd=(k+1)*e.wd:=by rw[bD,cN]
      _≤n*e.wd:=bV _ hk
  obtain ⟨cur',h5,h6,h7⟩:=Ww g E (0,0) cs w1 (k*e.wd) cur h4 hfit
  have hsz:=hq.size
  have hlt:=h.lt
  refine ⟨Qou (h.nw.trans hq) h.base _ _,h.base,by rw[Qd6]; omega,cur',h5,h6.trans h2, ?_⟩
  have h3':FrsL e (g+1) w.heap.size (Xs w1 g (k*e.wd) cs) (cur.toList.take (k*e.wd)) (xs.take k):=h3.keep fun g' hg' hg''=>by
    rw[Yp _ _ _ _ _ (by omega)]
    exact Below.block hq g' hg''
  have hf':Frs e w.heap.size w1.heap.size (Xs w1 g (k*e.wd) cs) cs x:=hf.keep fun g' hg' hg''=>Yp _ _ _ _ _ (by omega)
  obtain ⟨f1,a1,a2,a3⟩:=h3'
  obtain ⟨f2,b1,b2,b3⟩:=hf'
  rw[Qd6]
  refine ⟨f1++f2, ?_,Uf a2 b2 (fun g hg=>(a3 g hg).2) (fun g hg=>(b3 g hg).1),fun g' hg'=> ?_⟩
  · have e1:xs.take (k+1)=xs.take k++[x]:=by
      have hl:=(ah.1 hx)
      rw[bN hl.1,hl.2]
    have e2:cur'.toList.take ((k+1)*e.wd)=cur.toList.take (k*e.wd)++cs:=by
      have hl:(cur.toList.take (k*e.wd)++cs).length=(k+1)*e.wd:=by
        rw[ai,aq,hcl,bD,cN,cu (by simp; omega)]
      rw[h7,← hl,d6]
    rw[e1,e2]
    exact a1.append (Qgn b1)
  · rcases aK.1 hg' with hg' | hg'
    · have:=a3 g' hg'; omega
    · have:=b3 g' hg'; omega
theorem Qrg (h:Fill e E w0 g n n w xs)(hn:xs.length=n)(hm:n≤maxLen):Frs (.sl E e) g w.heap.size w [.slice (some ⟨g,0,none⟩) n n] xs:=by
  obtain ⟨cur,h1,h2,fp,h3,h4,h5⟩:=h.row
  subst hn
  rw[db] at h3
  refine ⟨g :: fp, .inr ⟨g,xs.length,cur,fp,rfl,rfl,h1,aO _,hm,h2,h3⟩,bl.2 ⟨fun hg=>by have:=h5 g hg; omega,h4⟩,fun g' hg'=> ?_⟩
  rcases aE.1 hg' with rfl | hg'
  · exact ⟨aO _,h.lt⟩
  · have:=h5 g' hg'; omega
end
section
variable {e:Ty}{E:TypeId}{w0 w w1:World}{g n k:Nat}{xs:List e.Den}
end
def Kb (B U:Nat)(w w':World):Prop:=∀g,B≤g→g < U→w'.heap[g]? =w.heap[g]?
section
variable {B U:Nat}{w w' w'':World}
theorem QsX:Kb B U w w:=fun _ _ _=>rfl
theorem Kb.trans (h:Kb B U w w')(k:Kb B U w' w''):Kb B U w w'':=fun g a b=>(k g a b).trans (h g a b)
theorem Kb.setCell (h:Kb B U w w'){p:Addr}(hp:p.block < B∨U≤p.block)(u:Value):Kb B U w (w'.setCell p u):=fun g a b=>(Below.heap_setCell w' p u g (by omega)).trans (h g a b)
theorem Kb.alloc (h:Kb B U w w')(hU:U≤w'.heap.size)(o:Obj):Kb B U w (w'.alloc o):=fun g a b=>(Below.heap_alloc w' o g (by omega)).trans (h g a b)
theorem Kb.drew (h:Kb B U w w'):Kb B U w w'.drew:=h
theorem Kb.drewN (h:Kb B U w w')(n:Nat):Kb B U w (w'.drewN n):=h
theorem Kb.nw (h:Kb B U w w')(hq:Nw w' w'')(hU:U≤w'.heap.size):Kb B U w w'':=fun g a b=>(Below.block hq g (by omega)).trans (h g a b)
theorem QpA {p:Addr}{u:Value}(hp:p.block < B∨U≤p.block)(h:Kb B U w w'):Kb B U w (w'.setCell p u):=h.setCell hp u
end
theorem Qs8 {t:Ty}{B U:Nat}{w w':World}{cs:List Value}{x:t.Den}(h:Frs t B U w cs x)(hk:Kb B U w w'):Frs t B U w' cs x:=h.keep hk
def Qur (E:TypeId)(e:Ty)(w:World)(xs:List e.Den)(n:Ending)(w':World):Prop:=∃A c,n= .returned (.slice A xs.length c)∧Frs (.sl E e) w.heap.size w'.heap.size w' [.slice A xs.length c] xs∧Nw w w'
def Quu (t:Ty)(w:World)(x:t.Den)(e:Ending)(w':World):Prop:=∃u0,e= .returned u0∧Frs t w.heap.size w'.heap.size w' [u0] x∧Nw w w'
def Qua (t:Ty)(w:World)(x:t.Den)(e:Ending)(w':World):Prop:=∃u0 u1,e= .returned (.agg #[u0,u1])∧Frs t w.heap.size w'.heap.size w' [u0,u1] x∧Nw w w'
def Quk (t:Ty)(w:World)(x:t.Den)(e:Ending)(w':World):Prop:=∃u0 u1 u2,e= .returned (.agg #[u0,u1,u2])∧Frs t w.heap.size w'.heap.size w' [u0,u1,u2] x∧Nw w w'
def Qud (t:Ty)(w:World)(x:t.Den)(e:Ending)(w':World):Prop:=∃u0 u1 u2 u3,e= .returned (.agg #[u0,u1,u2,u3])∧Frs t w.heap.size w'.heap.size w' [u0,u1,u2,u3] x∧Nw w w'
def Quq (t:Ty)(w:World)(x:t.Den)(e:Ending)(w':World):Prop:=∃u0 u1 u2 u3 u4,e= .returned (.agg #[u0,u1,u2,u3,u4])∧Frs t w.heap.size w'.heap.size w' [u0,u1,u2,u3,u4] x∧Nw w w'
theorem QgG {P:Program}(t E:TypeId)(z:Value)(size bytes:Nat)(ht:P.underlying t=some (.slice E))(hinfo:(P.info? E).map (fun i=>(i.zero,i.size,i.bytes))=some (some z,size,bytes))
    (n:Nat) (hbytes:bytes*n≤281474976710656) (h63:n≤9223372036854775807) (w:World):
    (Instr.makeSlice t (.int .i64 (n:Int)) (.int .i64 (n:Int))).run P w= .ok (.slice (some ⟨w.heap.size,0,none⟩) n n) (w.alloc (.cells (madeCells z.cells (n*size)) E)):=by
  obtain ⟨i,hi,hzz⟩:=cw.1 hinfo
  simp only[Prod.mk.injEq] at hzz
  obtain ⟨hz,hs,hb⟩:=hzz
  have:=run_make (P:=P) w t E i z ht hi hz .i64 .i64 n n (by omega) (dh _) (by rw[hb]; have hb2:=Int.ofNat_le.2 hbytes; rw[Int.natCast_mul] at hb2; exact hb2) (by omega)
  simpa [hs] using this
end Go.Proofs.YtfkmmpfdncopdaaGreat
namespace Go.Proofs.YtfkmmpfdncopdaaGreat
set_option maxHeartbeats 4000000
set_option maxRecDepth 100000
open Go.RowKit
def CutTo (l:Int)(t:Nat)(l':Int):Prop:=(l < t∧l'= -1)∨(t≤l∧l'=l - t)
theorem CutTo.le {l l':Int}{t:Nat}(h:CutTo l t l')(h0:0≤l)(h1:l≤1048576): -1≤l'∧l'≤1048576:=by unfold CutTo at h; omega
def SzPost (w:World)(l:Int)(t:Nat)(e:Ending)(w':World):Prop:=∃l',e= .returned (.int .i64 l')∧CutTo l t l'∧Nw w w'
end Go.Proofs.YtfkmmpfdncopdaaGreat
namespace Go.Proofs.YtfkmmpfdncopdaaGreat
set_option maxHeartbeats 4000000
set_option maxRecDepth 100000
open Go.RowKit
def QsV (w:World)(e:Ending)(w':World):Prop:=e= .returned (.bool true)∧Nw w w'
end Go.Proofs.YtfkmmpfdncopdaaGreat
namespace Go.Proofs.YtfkmmpfdncopdaaGreat
set_option maxHeartbeats 4000000
set_option maxRecDepth 100000
open Go.RowKit
theorem Kq (p:Qz→Prop)(xs:List (Qz))(v:Value)(F:Nat)(caps:Array Value)(w:World)(hr:Rep (.sl 203 YR) w [v] xs)(hcf:Qe Tryz.prog F)
    (hF:∀(i:Nat) (x:Qz) (W:World) (v0 v1:Value),xs[i]? =some x→Nw w W→Rep YR W [v0,v1] x→Calls Tryz.prog F (#[.agg #[v0,v1]]++caps) W (RetB (p x) W)):
    Calls Tryz.prog 305 #[v, .func (.func F) #[] caps] w (QqW p xs w):=by
  obtain ⟨A,c,rfl,hl,hc⟩:=hr.slv
  have hm:xs.length≤9223372036854775807:=by unfold maxLen at hc; omega
  have HF:=hid hF
  clear hF
  go_enter Tryz.func305,Tryz.ntmps305
  go_wp2
  go_loopw [8] (fun i wr=>∃k:Nat,k≤xs.length∧i= .int .i64 k∧(∀j x,j < k→xs[j]? =some x→¬p x)∧Nw w wr) (fun i _=>xs.length - (intOf i).toNat)
  case atStart=>exact ⟨0,aR _,rfl,fun j x h=>absurd h (by omega),QJ _⟩
  case round=>
    obtain ⟨k,hk,rfl,hno,hq⟩:=hrel
    have HN:=hid hno
    clear hno
    by_cases hlt:k < xs.length
    · obtain ⟨b, o, v0, v1, rfl, hx, c0, c1⟩ := (hr.nw hq).at2 rfl (aa hlt)
      have hcf:=hcf
      unfold Qe at hcf
      have hcall:=HF.out k _ wr v0 v1 (aa hlt) hq hx
      have HC:=hid hcall
      clear hcall
      go_wp2_with fail
      refine Calls.mono HC.out ?_
      rintro e w1 ⟨bb,rfl,hb,hq1⟩
      cases bb with
      | true=>
        have HP:=hid (hb.1 rfl)
        clear hb
        go_wp2
        go_ret
        exact ⟨_,rfl, .inr ⟨k,rfl,hlt,fun y hy=>by rw[aa hlt] at hy; cases hy; exact HP.out,HN.out⟩,hq.trans hq1⟩
      | false=>
        have HP:=hid (fun hp=>absurd (hb.2 hp) (by simp):¬p xs[k])
        clear hb
        go_wp2
        go_roundw
        case rel=>exact ⟨k+1,by omega,by go_num,fun j y hj hy=>by
          by_cases e1:j=k
          · subst e1
            rw[aa hlt] at hy
            cases hy
            exact HP.out
          · exact HN.out j y (by omega) hy,hq.trans hq1⟩
        case measure=>simp[intOf]; omega
    · go_wp2
      go_ret
      refine ⟨_,rfl, .inl ⟨rfl,fun x hx=> ?_⟩,hq⟩
      obtain ⟨j,hj,hjx⟩:=List.mem_iff_getElem.1 hx
      exact HN.out j x (by omega) (by rw[aa hj,hjx])
theorem VX (p:Qz→Prop)(xs:List (Qz))(v:Value)(F:Nat)(caps:Array Value)(w:World)(hr:Rep (.sl 203 YR) w [v] xs)(hcf:Qe Tryz.prog F)
    (hF:∀(i:Nat) (x:Qz) (W:World) (v0 v1:Value),xs[i]? =some x→Nw w W→Rep YR W [v0,v1] x→Calls Tryz.prog F (#[.agg #[v0,v1]]++caps) W (RetB (p x) W)):
    Calls Tryz.prog 243 #[v, .func (.func F) #[] caps] w (RetB (∃x∈xs,p x) w):=by
  have hcall:=Kq p xs v F caps w hr hcf hF
  obtain ⟨A,c,rfl,hl,hc⟩:=hr.slv
  have hm:xs.length≤9223372036854775807:=by unfold maxLen at hc; omega
  have HC:=hid hcall
  clear hcall hF
  go_enter Tryz.func243,Tryz.ntmps243
  go_wp2_with fail
  refine Calls.mono HC.out ?_
  rintro e w1 ⟨r,rfl,hi,hq1⟩
  have hrr:=hi.range hm
  have HI:=hid hi
  clear hi
  go_wp2
  go_ret
  exact RetB.of (by rw[← HI.out.any]; simp) hq1
end Go.Proofs.YtfkmmpfdncopdaaGreat
namespace Go.Proofs.YtfkmmpfdncopdaaGreat
set_option maxHeartbeats 4000000
set_option maxRecDepth 100000
open Go.RowKit
theorem QlK {s t:ByteArray}(h:(s.toList==t.toList)=true):s=t:=by
  have h:s.toList=t.toList:=by simpa using h
  rw[bc,bc] at h
  cases s; cases t
  exact congrArg _ (Array.toList_inj.1 h)
theorem QqC {s t:ByteArray}(h:(s.toList==t.toList)=false):s≠t:=by
  rintro rfl
  simp at h
theorem QmV {s t:ByteArray}(h:s=t):(s.toList==t.toList)=true:=by subst h; simp
theorem QlO {s t:ByteArray}(h:s≠t):(s.toList==t.toList)=false:=by
  cases e:(s.toList==t.toList) with
  | false=>rfl
  | true=>exact absurd (QlK e) h
def ZZ (k c:Nat):Prop:=(97≤c∧c≤122)∨(k≠0∧48≤c∧c≤57)
def QbE (s:ByteArray):Prop:=(∀k (h:k < s.size),ZZ k s[k].toNat)∧1≤s.size∧s.size≤6
def QlZ (c:Nat):Prop:=c=48∨c=49∨c=45
def QkU (s:ByteArray):Prop:=∀k (h:k < s.size),QlZ s[k].toNat
theorem KT (n lo hi:Int)(w:World):Calls Tryz.prog 94 #[.int .i64 n, .int .i64 lo, .int .i64 hi] w (RetB (lo≤n∧n≤hi) w):=by
  by_cases h1:lo≤n
  · by_cases h2 : n ≤ hi
    all_goals
      go_enter Tryz.func94,Tryz.ntmps94
      go_wp2
      go_ret
      exact RetB.of (by simp; omega) (QJ _)
  · go_enter Tryz.func94, Tryz.ntmps94
    go_wp2
    go_ret
    exact RetB.of (by simp; omega) (QJ _)
theorem Vh (n lo hi:Int)(w:World):Calls Tryz.prog 132 #[.int .i64 n, .int .i64 lo, .int .i64 hi] w (RetB (lo≤n∧n≤hi) w):=by
  by_cases h1:lo≤n
  · by_cases h2 : n ≤ hi
    all_goals
      go_enter Tryz.func132,Tryz.ntmps132
      go_wp2
      go_ret
      exact RetB.of (by simp; omega) (QJ _)
  · go_enter Tryz.func132, Tryz.ntmps132
    go_wp2
    go_ret
    exact RetB.of (by simp; omega) (QJ _)
theorem QdZ {s:ByteArray}{k:Nat}(h:k < s.size)(hc:¬ZZ k s[k].toNat):¬QbE s:=fun hn=>hc (hn.1 k h)
theorem Kx {s:ByteArray}{k:Nat}(h:k < s.size)(hy:∀j (h:j < s.size),j < k→ZZ j s[j].toNat)(hc:ZZ k s[k].toNat):∀j (h:j < s.size),j < k+1→ZZ j s[j].toNat:=by
  intro j hj hjk
  by_cases e:j=k
  · subst e; exact hc
  · exact hy j hj (by omega)
theorem Qin (s:ByteArray)(w:World)(hs:s.size≤maxLen):Calls Tryz.prog 247 #[.string s] w (RetB (QbE s) w):=by
  have hm:s.size≤9223372036854775807:=hs
  go_enter Tryz.func247,Tryz.ntmps247
  go_wp2
  go_loop [3] (fun i=>∃k:Nat,k≤s.size∧i= .int .i64 k∧∀j (h:j < s.size),j < k→ZZ j s[j].toNat) (fun i=>s.size - (intOf i).toNat)
  case atStart=>exact ⟨0,aR _,rfl,fun j h h'=>absurd h' (by omega)⟩
  case round=>
    obtain ⟨k,hk,rfl,hyes⟩:=hrel
    have HY:=hid hyes
    clear hyes
    by_cases hlt:k < s.size
    · rcases (by omega : s[k].toNat < 48 ∨ (48 ≤ s[k].toNat ∧ s[k].toNat ≤ 57) ∨ (58 ≤ s[k].toNat ∧ s[k].toNat ≤ 96) ∨ (97 ≤ s[k].toNat ∧ s[k].toNat ≤ 122) ∨ 123 ≤ s[k].toNat) with h1 | ⟨h1, h2⟩ | ⟨h1, h2⟩ | ⟨h1, h2⟩ | h1
      all_goals first | have d0:decide ((97:Int)≤(s[k].toNat:Int))=true:=aJ (by omega) | have d0:decide ((97:Int)≤(s[k].toNat:Int))=false:=ay (by omega)
      all_goals first | have d1:decide ((s[k].toNat:Int)≤122)=true:=aJ (by omega) | have d1:decide ((s[k].toNat:Int)≤122)=false:=ay (by omega)
      all_goals first | have d2:decide ((48:Int)≤(s[k].toNat:Int))=true:=aJ (by omega) | have d2:decide ((48:Int)≤(s[k].toNat:Int))=false:=ay (by omega)
      all_goals first | have d3:decide ((s[k].toNat:Int)≤57)=true:=aJ (by omega) | have d3:decide ((s[k].toNat:Int)≤57)=false:=ay (by omega)
      all_goals first | have d4:decide ((s[k].toNat:Int) < 48)=true:=aJ (by omega) | have d4:decide ((s[k].toNat:Int) < 48)=false:=ay (by omega)
      all_goals first | have d5:decide ((57:Int) < (s[k].toNat:Int))=true:=aJ (by omega) | have d5:decide ((57:Int) < (s[k].toNat:Int))=false:=ay (by omega)
      all_goals rcases Nat.eq_zero_or_pos k with rfl | hk0
      all_goals try have hk1:((k:Int)==0)=false:=by simp; omega
      all_goals go_wp2
      all_goals first
        | (go_ret
           exact RetB.no (QdZ hlt (by unfold ZZ; omega)) (QJ _))
        | (go_round
           case rel=>exact ⟨_+1,by omega,by go_num,Kx hlt HY.out (by unfold ZZ; omega)⟩
           case measure=>simp[intOf]; omega)
    · have : k = s.size := by omega
      subst this
      go_wp2_with (go_at_call 132; refine (Vh _ _ _ _).mono ?_; rintro e w1 ⟨b,rfl,hb,hq1⟩)
      go_ret
      refine RetB.of (hb.trans ⟨fun h=>⟨fun j hj=>HY.out j hj hj,by omega,by omega⟩,fun h=>by have:=h.2; omega⟩) hq1
theorem QhJ (s:ByteArray)(w:World)(hs:s.size≤maxLen):Calls Tryz.prog 242 #[.string s] w (RetB (QbE s) w):=by
  have hm:s.size≤9223372036854775807:=hs
  go_enter Tryz.func242,Tryz.ntmps242
  go_wp2
  go_loopw [3] (fun i wr=>∃k:Nat,k≤s.size∧i= .int .i64 k∧(∀j (h:j < s.size),j < k→ZZ j s[j].toNat)∧Nw w wr) (fun i _=>s.size - (intOf i).toNat)
  case atStart=>exact ⟨0,aR _,rfl,fun j h h'=>absurd h' (by omega),QJ _⟩
  case round=>
    obtain ⟨k,hk,rfl,hyes,hq⟩:=hrel
    have HY:=hid hyes
    clear hyes
    by_cases hlt:k < s.size
    · have hi0 : (0 : Int) ≤ k := by omega
      have hi1:(k:Int) < s.size:=by omega
      rcases (by omega:s[k].toNat < 48∨(48≤s[k].toNat∧s[k].toNat≤57)∨(58≤s[k].toNat∧s[k].toNat≤96)∨(97≤s[k].toNat∧s[k].toNat≤122)∨123≤s[k].toNat) with h1 | ⟨h1,h2⟩ | ⟨h1,h2⟩ | ⟨h1,h2⟩ | h1
      all_goals first | have d0:decide ((97:Int)≤(s[k].toNat:Int))=true:=aJ (by omega) | have d0:decide ((97:Int)≤(s[k].toNat:Int))=false:=ay (by omega)
      all_goals first | have d1:decide ((s[k].toNat:Int)≤122)=true:=aJ (by omega) | have d1:decide ((s[k].toNat:Int)≤122)=false:=ay (by omega)
      all_goals first | have d2:decide ((48:Int)≤(s[k].toNat:Int))=true:=aJ (by omega) | have d2:decide ((48:Int)≤(s[k].toNat:Int))=false:=ay (by omega)
      all_goals first | have d3:decide ((s[k].toNat:Int)≤57)=true:=aJ (by omega) | have d3:decide ((s[k].toNat:Int)≤57)=false:=ay (by omega)
      all_goals first | have d4:decide ((s[k].toNat:Int) < 48)=true:=aJ (by omega) | have d4:decide ((s[k].toNat:Int) < 48)=false:=ay (by omega)
      all_goals first | have d5:decide ((57:Int) < (s[k].toNat:Int))=true:=aJ (by omega) | have d5:decide ((57:Int) < (s[k].toNat:Int))=false:=ay (by omega)
      all_goals rcases Nat.eq_zero_or_pos k with rfl | hk0
      all_goals try have hk1:((k:Int)==0)=false:=by simp; omega
      all_goals go_wp2_with fail
      all_goals go_quiet (fail)
      all_goals go_wp2
      all_goals first
        | (go_ret
           exact RetB.no (QdZ hlt (by unfold ZZ; omega)) (hq.drewN _))
        | (go_roundw
           case rel=>exact ⟨_+1,by omega,by go_num,Kx hlt HY.out (by unfold ZZ; omega),hq.drewN _⟩
           case measure=>simp[intOf]; omega)
    · have : k = s.size := by omega
      subst this
      go_wp2_with (go_at_call 94; refine (KT _ _ _ _).mono ?_; rintro e w1 ⟨b,rfl,hb,hq1⟩)
      go_ret
      refine RetB.of (hb.trans ⟨fun h=>⟨fun j hj=>HY.out j hj hj,by omega,by omega⟩,fun h=>by have:=h.2; omega⟩) (hq.trans hq1)
theorem QcC {a b:Int}(h:a≠b):(a != b)=true:=by simpa using h
theorem Qdy {a b:Int}(h:a=b):(a != b)=false:=by simpa using h
theorem Qcq {a b:Int}(h:a=b):(a==b)=true:=by simpa using h
theorem Kc {a b:Int}(h:a≠b):(a==b)=false:=by simpa using h
end Go.Proofs.YtfkmmpfdncopdaaGreat
