/- Valid nets, both sides; markings. -/
import Derived.Test.YtnakmhfjafecpaaGreatNet
import Derived.Test.YtnakmhfjafecpaaGreatSz
import Derived.StillTail
import Derived.Deep.RegionHeld3
import Derived.Maps.AppendAt
import Derived.Laws.OwnMore
set_option linter.unusedSimpArgs false
set_option linter.unusedVariables false
set_option linter.unusedSectionVars false
namespace Go.Proofs.YtnakmhfjafecpaaGreat
open Go.RowKit
def TrAt (hi:Int)(ts:List Yp)(k:Nat):Prop:=∀t,ts[k]? =some t→Qqh hi t
theorem TrAt.step {hi:Int}{ts:List Yp}{k:Nat}(h:∀j,j < k→TrAt hi ts j)(hk:TrAt hi ts k):∀j,j < k+1→TrAt hi ts j:=by
  intro j hj
  by_cases e:j=k
  · subst e; exact hk
  · exact h j (by omega)
end Go.Proofs.YtnakmhfjafecpaaGreat
namespace Go.Proofs.YtnakmhfjafecpaaGreat
open Go.RowKit
theorem BitsAt.step {s:ByteArray}{k:Nat}(h:∀j,j < k→BitsAt s j)(hk:BitsAt s k):∀j,j < k+1→BitsAt s j:=by
  intro j hj
  by_cases e:j=k
  · subst e; exact hk
  · exact h j (by omega)
end Go.Proofs.YtnakmhfjafecpaaGreat
namespace Go.Proofs.YtnakmhfjafecpaaGreat
open Go.RowKit
def Qol (m:Nat)(l:Xj):Prop:=(0≤l.1∧l.1≤(m:Int) - 1)∨(l.1= -1∧l.2=false)
structure StgOk (s:WY):Prop where
  net:Qqv s.1
  sigs:XL s.2.1
  len:s.2.2.1.length=s.1.2.length
  labs:∀l∈s.2.2.1,Qol s.2.1.length l
  bits:Qqu s.2.2.2 s.1.1
def LabAt (m:Nat)(ls:List Xj)(k:Nat):Prop:=∀x,ls[k]? =some x→Qol m x
theorem LabAt.step {m:Nat}{ls:List Xj}{k:Nat}(h:∀j,j < k→LabAt m ls j)(hk:LabAt m ls k):∀j,j < k+1→LabAt m ls j:=by
  intro j hj
  by_cases e:j=k
  · subst e; exact hk
  · exact h j (by omega)
end Go.Proofs.YtnakmhfjafecpaaGreat
namespace Go.Proofs.YtnakmhfjafecpaaGreat
open Go.RowKit
def Qbb (ops:Array Oper)(n:Nat):Bool:=
  (List.range n).all fun i=>match ops[i]? with
    | some o=>(o.after.all fun e=> !Region.binds .any e||decide (e.on < i))&&(match o.guard with | some (g,_)=>decide (g < n) | none=>true)
    | none=>false
def QqM (l:List Oper)(n:Nat):Bool:=
  decide (n < l.length)&&Qbb l.toArray n&&(List.range n).all (fun i=>Region.waitsFor .any l.toArray n i)&&Region.chainB .any l.toArray n&&
    Region.seqB .any l.toArray (l.length - n) n (Array.replicate n true++Array.replicate (l.length - n) false)
def QqL (P:Program)(l:List Oper)(n:Nat)(Q:Exit→Act→World→Prop):Exit→Act→World→Prop
  | .normal,a,w=>wpList P l.toArray Q (l.drop n) a w
  | e,a,w=>Q e a w
section
variable {P:Program}{Q:Exit→Act→World→Prop}{a:Act}{w:World}
theorem Qgw {n g:Nat}{listed:Array Bool}(hs:listed.size=n)(b:Bool){i:Nat}(hi:i < n):(listed++Array.replicate g false).getD i b=listed.getD i b:=by
  simp[hi,hs,Array.getElem_append_left,show i < n+g by omega]
theorem QhU {ops:Array Oper}{n:Nat}{listed:Array Bool}(hH:Qbb ops n=true)(hs:listed.size=n)(hr:∀i,i < n→i∉Region.ready .any ops (listed++Array.replicate (ops.size - n) false))(hn:n≤ops.size):∀i,i < n→listed.getD i true=true:=by
  intro i
  induction i using Nat.strongRecOn with
  | _ i ih=>
    intro hi
    cases h:listed.getD i true with
    | true=>rfl
    | false=>
      refine absurd (mem_ready.2 ⟨by rw[Qgw hs _ hi]; exact h, ?_⟩) (hr i hi)
      have h1:=List.all_eq_true.1 hH i (List.mem_range.2 hi)
      cases ho:ops[i]? with
      | none=>rw[ho] at h1; cases h1
      | some o=>
        rw[ho] at h1
        simp only[Bool.and_eq_true,Array.all_eq_true_iff_forall_mem,Bool.or_eq_true,Bool.not_eq_true',decide_eq_true_eq] at h1
        refine ⟨o,rfl,fun e he hb=> ?_⟩
        have h2:=h1.1 e he
        rw[hb] at h2
        have h3:e.on < i:=by simpa using h2
        rw[Qgw hs _ (by omega)]
        have:=ih e.on h3 (by omega)
        have h4:e.on < listed.size:=by omega
        simpa [h4] using this
end
end Go.Proofs.YtnakmhfjafecpaaGreat
namespace Go.Proofs.YtnakmhfjafecpaaGreat
open Go.RowKit
structure Mw (B M:Nat) (w w':World):Prop where
  os:w'.os=w.os
  tape:w'.tape=w.tape
  output:w'.output=w.output
  size:w.heap.size≤w'.heap.size
  block:∀k,k < w.heap.size→(k < B∨M≤k)→w'.heap[k]? =w.heap[k]?
theorem Mw.nw {a w w':World}{B M:Nat}(h:Mw B M w w')(ha:Nw a w)(hB:a.heap.size≤B):Nw a w':=
  ⟨h.os.trans ha.os,h.tape.trans ha.tape,h.output.trans ha.output,Nat.le_trans ha.size h.size,fun k hk=>(h.block k (Nat.lt_of_lt_of_le hk ha.size) (.inl (Nat.lt_of_lt_of_le hk hB))).trans (Below.block ha k hk)⟩
theorem Mw.trans {a b c:World}{B M:Nat}(h:Mw B M a b)(k:Mw B M b c):Mw B M a c:=
  ⟨k.os.trans h.os,k.tape.trans h.tape,k.output.trans h.output,Nat.le_trans h.size k.size,fun g hg hx=>(k.block g (Nat.lt_of_lt_of_le hg h.size) hx).trans (h.block g hg hx)⟩
theorem Mw.mono {B M B' M':Nat}{w w':World}(h:Mw B M w w')(hB:B'≤B)(hM:M≤M'):Mw B' M' w w':=
  ⟨h.os,h.tape,h.output,h.size,fun k hk hx=>h.block k hk (by omega)⟩
theorem Mw.cells {B M:Nat}{w w':World}(h:Mw B M w w'):(∀b o,b < w.heap.size→(b < B∨M≤b)→w'.cell? ⟨b,o,none⟩=w.cell? ⟨b,o,none⟩)∧
    (∀b o,b < w.heap.size→(b < B∨M≤b)→w'.frozen? ⟨b,o,none⟩=w.frozen? ⟨b,o,none⟩):=
  ⟨fun b o h1 h2=>World.cell?_of_block (h.block b h1 h2),fun b o h1 h2=>World.frozen?_of_block (h.block b h1 h2)⟩
structure ElemInfo (P:Program) (E:TypeId) (e:Ty):Prop where
  ex:∃i z,P.info? E=some i∧i.zero=some z∧i.size=e.wd∧i.bytes≤65536∧z.cells.size=e.wd
def Vx (P:Program)(E:TypeId)(n:Nat):Bool:=match P.info? E with
  | some i=>match i.zero with
    | some z=>i.size==n&&decide (i.bytes≤65536)&&z.cells.size==n
    | none=>false
  | none=>false
theorem QjG {P:Program}{E:TypeId}{e:Ty}(h:Vx P E e.wd=true):ElemInfo P E e:=by
  unfold Vx at h
  cases hi:P.info? E with
  | none=>rw[hi] at h; cases h
  | some i=>
    rw[hi] at h
    simp only at h
    cases hz:i.zero with
    | none=>rw[hz] at h; cases h
    | some z=>
      rw[hz] at h
      simp only[Bool.and_eq_true,beq_iff_eq,decide_eq_true_eq] at h
      exact ⟨i,z,hi,hz,h.1.1,h.1.2,h.2⟩
section
variable {E:TypeId}{e:Ty}{w:World}
theorem Own.row {fp:List Nat}{v:Value}{xs:List e.Den}(h:Own (.sl E e) w fp [v] xs):∃cs fps,w.ownsRow 0 E e.wd v xs.length cs∧OwnL (Own e w) fps cs xs∧((v.ownBlock=none∧fp=[]∧fps=[])∨∃g,v.ownBlock=some g∧fp=g :: fps):=by
  rcases h with ⟨rfl,h,h'⟩ | ⟨g,cap,cur,fps,rfl,h1,h2,h3,h4,h5,h6⟩
  · subst h'
    simp only[List.cons.injEq,and_true] at h
    subst h
    exact ⟨[],[],World.ownsRow_nil _ _ _ _,⟨rfl,rfl⟩, .inl ⟨rfl,rfl,rfl⟩⟩
  · simp only [List.cons.injEq, and_true] at h1
    subst h1
    refine ⟨_,fps,⟨?_, .inr ⟨g,cap,cur,rfl,Nat.zero_le _,h2,h3,h4,h5,rfl⟩⟩,h6, .inr ⟨g,rfl,rfl⟩⟩
    exact h6.len
theorem Qg3 {fps:List Nat}{v:Value}{cs:List Value}{xs:List e.Den}{n:Nat}(hn:n=xs.length)(h:w.ownsRow 0 E e.wd v n cs)(ho:OwnL (Own e w) fps cs xs):
    ∃fp,Own (.sl E e) w fp [v] xs∧((v.ownBlock=none∧fp=fps)∨∃g,v.ownBlock=some g∧fp=g :: fps):=by
  subst hn
  rcases h.2 with ⟨rfl,h0⟩ | ⟨g,cap,cur,rfl,_,h2,h3,h4,h5,h6⟩
  · obtain rfl := List.eq_nil_of_length_eq_zero h0
    obtain ⟨rfl,_⟩:=ho
    exact ⟨[], .inl ⟨rfl,rfl,rfl⟩, .inl ⟨rfl,rfl⟩⟩
  · exact ⟨g :: fps, .inr ⟨g,cap,cur,fps,rfl,rfl,h2,h3,h4,h5,by rw[h6]; exact ho⟩, .inr ⟨g,rfl,rfl⟩⟩
theorem OwnL.one {fp:List Nat}:∀{xs:List e.Den} {fp:List Nat} {cs:List Value},OwnL (Own e w) fp cs xs→∀u∈cs,u.oneCell'=true
  | [],_,_,h=>by rw[h.2]; simp
  | _ :: _,_,_,⟨_,_,_,_,_,h2,h3,h4⟩=>by
    intro u hu
    rw[h2] at hu
    rcases List.mem_append.1 hu with hu | hu
    · exact Rep.one h3.rep u hu
    · exact OwnL.one (fp:=[]) h4 u hu
theorem OwnL.lt {xs:List e.Den}{fp:List Nat}{cs:List Value}(h:OwnL (Own e w) fp cs xs):∀g∈fp,g < w.heap.size:=by
  induction xs generalizing fp cs with
  | nil=>rw[h.1]; simp
  | cons x xs ih=>
    obtain ⟨f1,f2,c1,c2,rfl,rfl,h3,h4⟩:=h
    intro g hg
    rcases List.mem_append.1 hg with hg | hg
    · exact Own.lt h3 g hg
    · exact ih h4 g hg
variable {P:Program}
def Ty.flat:Ty→Bool
  | .pr a b=>a.flat&&b.flat
  | .sl _ _=>false
  | _=>true
theorem Rep.own:∀{t:Ty} {w:World} {cs:List Value} {x:t.Den},Rep t w cs x→t.flat=true→Own t w [] cs x
  | .int,_,_,_,h,_=>⟨rfl,h⟩
  | .bool,_,_,_,h,_=>⟨rfl,h⟩
  | .str,_,_,_,h,_=>⟨rfl,h⟩
  | .u8,_,_,_,h,_=>⟨rfl,h⟩
  | .vl,_,_,_,h,_=>⟨rfl,h⟩
  | .sl _ _,_,_,_,_,h=>by cases h
  | .pr a b,_,_,_,⟨l,r,h,h1,h2⟩,hf=>by
    simp only[Ty.flat,Bool.and_eq_true] at hf
    exact ⟨[],[],l,r,rfl,h,Rep.own h1 hf.1,Rep.own h2 hf.2⟩
theorem Qce (hf:e.flat=true)(b:Nat):∀(ys:List e.Den) (o:Nat),(∀i x,ys[i]? =some x→∃ds,Rep e w ds x∧∀j u,ds[j]? =some u→w.cell? ⟨b,o+i*e.wd+j,none⟩=some u)→
    ∃news,OwnL (Own e w) [] news ys∧∀j u,news[j]? =some u→w.cell? ⟨b,o+j,none⟩=some u
  | [],_,_=>⟨[],⟨rfl,rfl⟩,by simp⟩
  | y :: ys,o,h=>by
    obtain ⟨ds,h1,h2⟩:=h 0 y rfl
    obtain ⟨news,h3,h4⟩:=Qce hf b ys (o+e.wd) (fun i x hx=>by
      obtain ⟨ds',h5,h6⟩:=h (i+1) x hx
      refine ⟨ds',h5,fun j u hu=> ?_⟩
      rw[← h6 j u hu]
      congr 2
      rw[Nat.add_mul]
      omega)
    refine ⟨ds++news,⟨[],[],ds,news,rfl,rfl,h1.own hf,h3⟩,fun j u hu=> ?_⟩
    by_cases hj:j < ds.length
    · rw [List.getElem?_append_left hj] at hu
      have:=h2 j u hu
      simpa using this
    · rw [List.getElem?_append_right (by omega)] at hu
      rw[← h4 _ _ hu]
      congr 2
      have:=h1.len
      omega
theorem Rep.src {A:Option Addr}{n c M:Nat}{ys:List e.Den}(hr:Rep (.sl E e) w [.slice A n c] ys)(hf:e.flat=true):n=ys.length∧((A=none∧n=0)∨∃ad news,A=some ad∧FrsL e M M w news ys∧∀j u,news[j]? =some u→w.cell? (ad.add j)=some u):=by
  obtain ⟨A',c',h1,h2,h3,h4⟩:=hr
  simp only[List.cons.injEq,Value.slice.injEq,and_true] at h1
  obtain ⟨rfl,rfl,rfl⟩:=h1
  refine ⟨rfl, ?_⟩
  rcases Nat.eq_zero_or_pos ys.length with h0 | hp
  · cases A with
    | none=>exact .inl ⟨rfl,h0⟩
    | some ad=>
      obtain rfl:=List.eq_nil_of_length_eq_zero h0
      exact .inr ⟨ad,[],rfl,⟨[],⟨rfl,rfl⟩,List.nodup_nil,by simp⟩,by simp⟩
  · obtain ⟨b, o, rfl, h5⟩ := h4 hp
    obtain ⟨news,h6,h7⟩:=Qce hf b ys o h5
    exact .inr ⟨⟨b,o,none⟩,news,rfl,⟨[],h6,List.nodup_nil,by simp⟩,fun j u hu=>by rw[Addr.add_lit]; exact h7 j u hu⟩
theorem QpE (w:World)(E:TypeId)(e:Ty):Frs (.sl E e) w.heap.size (w.heap.size+1) (w.alloc (.cells #[] E)) [.slice (some ⟨w.heap.size,0,none⟩) 0 0] []:=
  ⟨[w.heap.size], .inr ⟨w.heap.size,0, #[],[],rfl,rfl,heap_alloc_new w _,Nat.le_refl _,Nat.zero_le _,by simp,by simpa using ⟨rfl,rfl⟩⟩,by simp,by simp⟩
end
end Go.Proofs.YtnakmhfjafecpaaGreat
namespace Go.Proofs.YtnakmhfjafecpaaGreat
open Go.RowKit
def Sub (N:Nat→Prop)(w wN:World):Prop:=∀a v,wN.cell? a=some v→N a.block∧w.cell? a=some v
def Rd (N:Nat→Prop)(t:Ty)(w:World)(cs:List Value)(x:t.Den):Prop:=∃wN,Sub N w wN∧Rep t wN cs x
section
variable {N N':Nat→Prop}{t:Ty}{w w' wN:World}{cs:List Value}{x:t.Den}
theorem Sub.mono (h:Sub N w wN)(k:∀g,N g→N' g∧w'.heap[g]? =w.heap[g]?):Sub N' w' wN:=
  fun a v e=>by
    obtain ⟨h1,h2⟩:=h a v e
    exact ⟨(k _ h1).1,by rw[World.cell?_of_block (k _ h1).2]; exact h2⟩
theorem Rd.mono (h:Rd N t w cs x)(k:∀g,N g→N' g∧w'.heap[g]? =w.heap[g]?):Rd N' t w' cs x:=by
  obtain ⟨wN,h1,h2⟩:=h
  exact ⟨wN,h1.mono k,h2⟩
theorem Rd.rep (h:Rd N t w cs x):Rep t w cs x:=by
  obtain ⟨wN,h1,h2⟩:=h
  exact h2.kp fun a v e=>(h1 a v e).2
theorem Rep.rd (h:Rep t w cs x)(hN:∀g,g < w.heap.size→N g):Rd N t w cs x:=⟨w,fun a v e=>⟨hN _ (World.block_lt_of_cell? w a e),e⟩,h⟩
theorem JY (N:Nat→Prop)(w:World):∃wM,Sub N w wM∧∀g,N g→wM.heap[g]? =w.heap[g]? :=by
  classical
  refine ⟨{w with heap:=w.heap.mapIdx fun g o=>if N g then o else .deferred none},fun a v e=> ?_,fun g hg=> ?_⟩
  · by_cases h : N a.block
    · refine ⟨h, ?_⟩
      rw[← e]
      simp only[World.cell?,Array.getElem?_mapIdx]
      cases w.heap[a.block]? with
      | none=>rfl
      | some o=>simp[h]
    · exfalso
      simp only[World.cell?,Array.getElem?_mapIdx] at e
      cases h1:w.heap[a.block]? with
      | none=>simp[h1] at e
      | some o=>simp[h1,h] at e
  · simp only [Array.getElem?_mapIdx]
    cases w.heap[g]? with
    | none=>rfl
    | some o=>simp[hg]
theorem Sub.kp {wM:World}(h:Sub N w wN)(hM:∀g,N g→wM.heap[g]? =w.heap[g]?):Kp wN wM:=fun a v e=>by
  obtain ⟨h1,h2⟩:=h a v e
  rw[World.cell?_of_block (hM _ h1)]; exact h2
theorem Own.rd {fp:List Nat}(h:Own t w fp cs x)(hN:∀g∈fp,N g):Rd N t w cs x:=by
  obtain ⟨wM,h1,h2⟩:=JY N w
  exact ⟨wM,h1,(h.keep fun g hg=>h2 g (hN g hg)).rep⟩
end
theorem Rep.own0:∀{t:Ty} {w w':World} {cs:List Value} {x:t.Den},Rep t w cs x→t.flat=true→Own t w' [] cs x
  | .int,_,_,_,_,h,_=>⟨rfl,h.1,h.2⟩
  | .bool,_,_,_,_,h,_=>⟨rfl,h⟩
  | .str,_,_,_,_,h,_=>⟨rfl,h.1,h.2⟩
  | .u8,_,_,_,_,h,_=>⟨rfl,h⟩
  | .vl,_,_,_,_,h,_=>⟨rfl,h⟩
  | .sl _ _,_,_,_,_,_,hf=>by cases hf
  | .pr a b,w,w',_,_,⟨l,r,h1,h2,h3⟩,hf=>by
    have hf:(a.flat&&b.flat)=true:=hf
    rw[Bool.and_eq_true] at hf
    exact ⟨[],[],l,r,rfl,h1,Rep.own0 h2 hf.1,Rep.own0 h3 hf.2⟩
theorem Rep.rd0 {N:Nat→Prop}{t:Ty}{w w':World}{cs:List Value}{x:t.Den}(h:Rep t w cs x)(hf:t.flat=true):Rd N t w' cs x:=
  (h.own0 (w':=w') hf).rd (by simp)
theorem Rd.pr {N:Nat→Prop}{a b:Ty}{w:World}{l r:List Value}{x:a.Den}{y:b.Den}(h:Rd N a w l x)(k:Rd N b w r y):Rd N (.pr a b) w (l++r) (x,y):=by
  obtain ⟨wM,m1,m2⟩:=JY N w
  obtain ⟨w1,h1,h2⟩:=h
  obtain ⟨w2,k1,k2⟩:=k
  exact ⟨wM,m1,l,r,rfl,h2.kp (h1.kp m2),k2.kp (k1.kp m2)⟩
inductive LV where
  | val (v:Value)
  | dat (t:Ty) (x:t.Den)
  | ref (q:Nat)
  | ptr (q off:Nat)
  | ept (q wd i j:Nat)
  | sub (q wd lo n:Nat)
  | elt (t:Ty) (x:t.Den) (off:Nat)
  | clo (f:FuncId) (qs:List Nat)
inductive PV where
  | cm (b:Bool) (ls:List LV)
  | tup (cs:List (Bool×List LV))
@[reducible] def lf (l:LV):PV:= .cm false [l]
@[reducible] def ag (ls:List LV):PV:= .cm true ls
@[reducible] def dI (n:Int):LV:= .dat .int n
@[reducible] def dB (b:Bool):LV:= .dat .bool b
@[reducible] def dS (s:ByteArray):LV:= .dat .str s
inductive Ent where
  | box (E:TypeId) (cs:List LV)
  | arr (E:TypeId) (e:Ty) (xs:List e.Den)
  | obx (E:TypeId) (wd n:Nat) (ls:List LV) (ov:List (Nat×LV))
  | mp (kb:Bool) (k:Ty) (vb:Bool) (v:Ty) (m:List (k.Den×v.Den))
  | bys (E:TypeId) (l:List UInt8)
  | pl (o:Bool) (e:Ty) (vs:List Hdr) (f:Hdr→e.Den)
  | fz (E:TypeId) (e:Ty) (xs:List e.Den)
@[reducible] def Tab:=List (Nat×Option Ent)
structure St where
  tm:List (Nat×PV)
  tab:Tab
structure Gh where
  h:Nat→Value
  f:Nat→List Nat
  N:Nat→Prop
def lk {α:Type _}:List (Nat×α)→Nat→Option α
  | [],_=>none
  | (j,x) :: l,i=>match Nat.beq i j with
    | true=>some x
    | false=>lk l i
theorem V0 {α:Type _}(j:Nat)(x:α)(l:List (Nat×α))(i:Nat):lk ((j,x) :: l) i=if i=j then some x else lk l i:=by
  by_cases h:i=j
  · subst h; simp[lk]
  · have:Nat.beq i j=false:=by
      cases h':Nat.beq i j with
      | true=>exact absurd (Nat.eq_of_beq_eq_true h') h
      | false=>rfl
    simp[lk,this,h]
def Tab.ent (T:Tab)(q:Nat):Option Ent:=match lk T q with
  | some (some e)=>some e
  | _=>none
theorem Qp (j:Nat)(x:Option Ent)(T:Tab)(q:Nat):Tab.ent ((j,x) :: T) q=if q=j then x else T.ent q:=by
  unfold Tab.ent
  rw[V0]
  by_cases h:q=j
  · simp[h]; cases x <;> rfl
  · simp[h]
def Tab.al (T:Tab)(q:Nat):Prop:=∃e,T.ent q=some e
def LV.tags:LV→List Nat
  | .ref q=>[q]
  | .ptr q _=>[q]
  | .ept q _ _ _=>[q]
  | .sub q _ _ _=>[q]
  | .clo _ qs=>qs
  | .val _=>[]
  | .dat _ _=>[]
  | .elt _ _ _=>[]
def Q8:List LV→List Nat
  | []=>[]
  | l :: ls=>l.tags++Q8 ls
def Vj:List (Bool×List LV)→List Nat
  | []=>[]
  | c :: cs=>Q8 c.2++Vj cs
def ovr (ls:List LV):List (Nat×LV)→List LV
  | []=>ls
  | p :: ov=>(ovr ls ov).set p.1 p.2
def JR:List (Nat×LV)→List Nat
  | []=>[]
  | p :: ov=>p.2.tags++JR ov
theorem Qga {ls:List LV}{p:Nat}{l:LV}:∀q∈Q8 (ls.set p l),q∈l.tags∨q∈Q8 ls:=by
  induction ls generalizing p with
  | nil=>intro q hq; exact .inr (by simpa using hq)
  | cons x ls ih=>
    cases p with
    | zero=>
      intro q hq
      simp only[List.set_cons_zero,Q8,List.mem_append] at hq
      rcases hq with h | h
      · exact .inl h
      · exact .inr (by simp[Q8,h])
    | succ p=>
      intro q hq
      simp only[List.set_cons_succ,Q8,List.mem_append] at hq
      rcases hq with h | h
      · exact .inr (by simp[Q8,h])
      · rcases ih q h with h | h
        · exact .inl h
        · exact .inr (by simp[Q8,h])
theorem QcO {ls:List LV}(h:Q8 ls=[]):∀{ov:List (Nat×LV)},∀q∈Q8 (ovr ls ov),q∈JR ov
  | [],q,hq=>by rw[show ovr ls []=ls from rfl,h] at hq; cases hq
  | p :: ov,q,hq=>by
    rcases Qga q hq with h1 | h1
    · exact List.mem_append_left _ h1
    · exact List.mem_append_right _ (QcO h q h1)
def PV.tags:PV→List Nat
  | .cm _ ls=>Q8 ls
  | .tup cs=>Vj cs
def Ent.tags:Ent→List Nat
  | .box _ cs=>Q8 cs
  | .arr _ _ _=>[]
  | .obx _ _ _ _ ov=>JR ov
  | .mp _ _ _ _ _=>[]
  | .bys _ _=>[]
  | .pl _ _ _ _=>[]
  | .fz _ _ _=>[]
def Qqa (n:Nat):List Nat→Bool
  | []=>true
  | q :: qs=>Nat.blt q n&&Qqa n qs
def SubR (h:Value)(wd lo n:Nat)(v:Value):Prop:=∃B m c,h= .slice B m c∧v= .slice (if c=lo then B else B.map (·.add (lo*wd))) n (c - lo)
section
variable (al:Nat→Prop)(gh:Gh)(w:World)
def LVR:LV→Value→Prop
  | .val u,v=>v=u
  | .dat t x,v=>Rd gh.N t w [v] x
  | .ref q,v=>al q→v=gh.h q
  | .ptr q off,v=>al q→∃g,gh.h q= .pointer (some ⟨g,0,none⟩)∧v= .pointer (some ⟨g,off,none⟩)
  | .ept q wd i j,v=>al q→∃g n c,gh.h q= .slice (some ⟨g,0,none⟩) n c∧v= .pointer (some ⟨g,i*wd+j,none⟩)
  | .sub q wd lo n,v=>al q→SubR (gh.h q) wd lo n v
  | .elt t x off,v=>∃b o ds wN,v= .pointer (some ⟨b,o+off,none⟩)∧Sub gh.N w wN∧Rep t wN ds x∧∀j u,ds[j]? =some u→wN.cell? ⟨b,o+j,none⟩=some u
  | .clo f qs,v=>(∀q∈qs,al q)→v= .func (.func f) #[] (qs.map gh.h).toArray
def LVs:List LV→List Value→Prop
  | [],vs=>vs=[]
  | l :: ls,vs=>∃v vs',vs=v :: vs'∧LVR al gh w l v∧LVs ls vs'
def CmR:Bool×List LV→Value→Prop
  | (true,ls),v=>∃vs,v= .agg vs.toArray∧LVs al gh w ls vs
  | (false,ls),v=>∃l,ls=[l]∧LVR al gh w l v
def CmsR:List (Bool×List LV)→List Value→Prop
  | [],vs=>vs=[]
  | c :: cs,vs=>∃v vs',vs=v :: vs'∧CmR al gh w c v∧CmsR cs vs'
def PVR:PV→Value→Prop
  | .cm b ls,v=>CmR al gh w (b,ls) v
  | .tup cs,v=>∃vs,v= .tuple vs.toArray∧CmsR al gh w cs vs
def LO:LV→List Nat→Value→Prop
  | .dat t x,f,v=>Own t w f [v] x
  | .ref q,f,v=>f=[]∧v.oneCell'=true∧(al q→v=gh.h q)
  | .val u,f,v=>f=[]∧v=u∧u.oneCell'=true
  | _,_,_=>False
def LOs:List LV→List Nat→List Value→Prop
  | [],f,cs=>f=[]∧cs=[]
  | l :: ls,f,cs=>∃f1 f2 v cs',f=f1++f2∧cs=v :: cs'∧LO al gh w l f1 v∧LOs ls f2 cs'
def MV:Bool→(t:Ty)→Value→t.Den→Prop
  | true,t,v,x=>∃cs,v= .agg cs.toArray∧Rd gh.N t w cs x
  | false,t,v,x=>Rd gh.N t w [v] x
def MpL (kb:Bool)(k:Ty)(vb:Bool)(v:Ty):List MapEntry→List (k.Den×v.Den)→Prop
  | [],m=>m=[]
  | e :: es,m=>∃x y m',m=(x,y) :: m'∧MV gh w kb k e.key x∧MV gh w vb v e.val y∧MpL kb k vb v es m'
def Row (w:World)(g:Nat)(cur:Array Value)(E:TypeId):Prop:=∃f:Nat×Nat,w.heap[g]? =some (.cells cur E f)∧(f=(0,0)∨f=(cur.size,cur.size+1))
def FzL (N:Nat→Prop)(w:World)(e:Ty):List Hdr→List e.Den→Prop
  | [],xs=>xs=[]
  | v :: vs,xs=>∃x r,xs=x :: r∧Rd N e w [hdV v] x∧FzL N w e vs r
def EntR (q:Nat):Ent→Prop
  | .box E cs=>∃g cur,gh.h q= .pointer (some ⟨g,0,none⟩)∧gh.f q=[g]∧w.heap[g]? =some (.cells cur E (0,0))∧LVs al gh w cs cur.toList
  | .arr E e xs=>Own (.sl E e) w (gh.f q) [gh.h q] xs
  | .obx E wd n ls0 ov=>Q8 ls0=[]∧∃g cap cur fps,gh.h q= .slice (some ⟨g,0,none⟩) n cap∧gh.f q=g :: fps∧w.heap[g]? =some (.cells cur E (0,0))∧n≤cap∧cap≤maxLen∧cur.size=cap*wd∧(ovr ls0 ov).length=n*wd∧LOs al gh w (ovr ls0 ov) fps (cur.toList.take (n*wd))
  | .bys E l=>∃g cap cur,gh.h q= .slice (some ⟨g,0,none⟩) l.length cap∧gh.f q=[g]∧Row w g cur E∧l.length≤cap∧cap≤maxLen∧cur.size=cap∧cur.toList.take l.length=l.map fun b=>Value.int .u8 b.toNat
  | .fz E e xs=>∃vs,Own (.sl E .vl) w (gh.f q) [gh.h q] vs∧FzL gh.N w e vs xs
  | .pl true e vs f=>gh.h q= .slice none 0 0∧OwnL (Own e w) (gh.f q) (vs.map hdV) (vs.map f)
  | .pl false e vs f=>gh.h q= .slice none 0 0∧gh.f q=[]∧∀v∈vs,Rd gh.N e w [hdV v] (f v)
  | .mp kb k vb v m=>∃g es clock,gh.h q= .map (some g)∧gh.f q=[g]∧w.heap[g]? =some (.map es clock)∧m.Pairwise (fun p q=>p.1≠q.1)∧MpL gh w kb k vb v es.toList m
end
section
variable {w w':World}{g:Nat}{cur:Array Value}{E:TypeId}
theorem Row.keep (h:Row w g cur E)(k:w'.heap[g]? =w.heap[g]?):Row w' g cur E:=by
  obtain ⟨f,h1,h2⟩:=h
  exact ⟨f,k.trans h1,h2⟩
theorem Row.lt (h:Row w g cur E):g < w.heap.size:=by
  obtain ⟨f,h1,_⟩:=h
  exact (Array.getElem?_eq_some_iff.1 h1).1
theorem Row.cell (h:Row w g cur E)(i:Nat):w.cell? ⟨g,i,none⟩=cur[i]? :=by
  obtain ⟨f,h1,_⟩:=h
  simp[World.cell?,h1]
end
section
variable {al al':Nat→Prop}{gh gh':Gh}{w w':World}
theorem LVR.mono {l:LV}{v:Value}(h:LVR al gh w l v)(ha:∀q∈l.tags,al' q→al q∧gh'.h q=gh.h q)(hN:∀g,gh.N g→gh'.N g∧w'.heap[g]? =w.heap[g]?):LVR al' gh' w' l v:=by
  cases l with
  | val u=>exact h
  | dat t x=>exact Rd.mono h hN
  | ref q=>intro k; obtain ⟨k1,k2⟩:=ha q (by simp[LV.tags]) k; rw[k2]; exact h k1
  | ptr q off=>intro k; obtain ⟨k1,k2⟩:=ha q (by simp[LV.tags]) k; rw[k2]; exact h k1
  | ept q wd i j=>intro k; obtain ⟨k1,k2⟩:=ha q (by simp[LV.tags]) k; rw[k2]; exact h k1
  | sub q wd lo n=>intro k; obtain ⟨k1,k2⟩:=ha q (by simp[LV.tags]) k; rw[k2]; exact h k1
  | elt t x off=>obtain ⟨b,o,ds,wN,h1,h2,h3,h4⟩:=h; exact ⟨b,o,ds,wN,h1,h2.mono hN,h3,h4⟩
  | clo f qs=>
    intro k
    have h1:v=_:=h fun q hq=>(ha q (by simpa [LV.tags] using hq) (k q hq)).1
    rw[h1]
    congr 1
    refine congrArg List.toArray (List.map_congr_left fun q hq=> ?_)
    exact (ha q (by simpa [LV.tags] using hq) (k q hq)).2.symm
theorem LVs.mono {ls:List LV}{vs:List Value}(h:LVs al gh w ls vs)(ha:∀q∈Q8 ls,al' q→al q∧gh'.h q=gh.h q)(hN:∀g,gh.N g→gh'.N g∧w'.heap[g]? =w.heap[g]?):LVs al' gh' w' ls vs:=by
  induction ls generalizing vs with
  | nil=>exact h
  | cons l ls ih=>
    obtain ⟨v,vs',rfl,h1,h2⟩:=h
    exact ⟨v,vs',rfl,h1.mono (fun q hq=>ha q (by simp[Q8,hq])) hN,ih h2 fun q hq=>ha q (by simp[Q8,hq])⟩
theorem CmR.mono {c:Bool×List LV}{v:Value}(h:CmR al gh w c v)(ha:∀q∈Q8 c.2,al' q→al q∧gh'.h q=gh.h q)(hN:∀g,gh.N g→gh'.N g∧w'.heap[g]? =w.heap[g]?):CmR al' gh' w' c v:=by
  obtain ⟨b,ls⟩:=c
  cases b with
  | true=>obtain ⟨vs,rfl,h1⟩:=h; exact ⟨vs,rfl,h1.mono ha hN⟩
  | false=>obtain ⟨l,rfl,h1⟩:=h; exact ⟨l,rfl,h1.mono (fun q hq=>ha q (by simp[Q8,hq])) hN⟩
theorem CmsR.mono {cs:List (Bool×List LV)}{vs:List Value}(h:CmsR al gh w cs vs)(ha:∀q∈Vj cs,al' q→al q∧gh'.h q=gh.h q)(hN:∀g,gh.N g→gh'.N g∧w'.heap[g]? =w.heap[g]?):CmsR al' gh' w' cs vs:=by
  induction cs generalizing vs with
  | nil=>exact h
  | cons c cs ih=>
    obtain ⟨v,vs',rfl,h1,h2⟩:=h
    exact ⟨v,vs',rfl,h1.mono (fun q hq=>ha q (by simp[Vj,hq])) hN,ih h2 fun q hq=>ha q (by simp[Vj,hq])⟩
theorem PVR.mono {pv:PV}{v:Value}(h:PVR al gh w pv v)(ha:∀q∈pv.tags,al' q→al q∧gh'.h q=gh.h q)(hN:∀g,gh.N g→gh'.N g∧w'.heap[g]? =w.heap[g]?):PVR al' gh' w' pv v:=by
  cases pv with
  | cm b ls=>exact CmR.mono h ha hN
  | tup cs=>obtain ⟨vs,rfl,h1⟩:=h; exact ⟨vs,rfl,h1.mono ha hN⟩
theorem LOs.mono {ls:List LV}{f:List Nat}{cs:List Value}(h:LOs al gh w ls f cs)(ha:∀q∈Q8 ls,al' q→al q∧gh'.h q=gh.h q)(hb:∀g∈f,w'.heap[g]? =w.heap[g]?):LOs al' gh' w' ls f cs:=by
  induction ls generalizing f cs with
  | nil=>exact h
  | cons l ls ih=>
    obtain ⟨f1,f2,v,cs',rfl,rfl,h1,h2⟩:=h
    refine ⟨f1,f2,v,cs',rfl,rfl, ?_,ih h2 (fun q hq=>ha q (by simp[Q8,hq])) fun g hg=>hb g (List.mem_append_right _ hg)⟩
    cases l with
    | dat t x=>exact Own.keep h1 fun g hg=>hb g (List.mem_append_left _ hg)
    | ref q=>
      refine ⟨h1.1,h1.2.1,fun k=> ?_⟩
      obtain ⟨k1,k2⟩:=ha q (by simp[Q8,LV.tags]) k
      rw[k2]; exact h1.2.2 k1
    | val u=>exact h1
    | _=>exact h1.elim
theorem LOs.lt {ls:List LV}{f:List Nat}{cs:List Value}(h:LOs al gh w ls f cs):∀g∈f,g < w.heap.size:=by
  induction ls generalizing f cs with
  | nil=>rw[h.1]; simp
  | cons l ls ih=>
    obtain ⟨f1,f2,v,cs',rfl,rfl,h1,h2⟩:=h
    intro g hg
    rcases List.mem_append.1 hg with hg | hg
    · cases l with
      | dat t x=>exact Own.lt h1 g hg
      | ref q=>rw[h1.1] at hg; cases hg
      | val u=>rw[h1.1] at hg; cases hg
      | _=>exact h1.elim
    · exact ih h2 g hg
theorem MV.mono {b:Bool}{t:Ty}{v:Value}{x:t.Den}(h:MV gh w b t v x)(hN:∀g,gh.N g→gh'.N g∧w'.heap[g]? =w.heap[g]?):MV gh' w' b t v x:=by
  cases b with
  | true=>obtain ⟨cs,h1,h2⟩:=h; exact ⟨cs,h1,h2.mono hN⟩
  | false=>exact Rd.mono h hN
theorem MpL.mono {kb vb:Bool}{k v:Ty}{es:List MapEntry}{m:List (k.Den×v.Den)}(h:MpL gh w kb k vb v es m)(hN:∀g,gh.N g→gh'.N g∧w'.heap[g]? =w.heap[g]?):MpL gh' w' kb k vb v es m:=by
  induction es generalizing m with
  | nil=>exact h
  | cons e es ih=>
    obtain ⟨x,y,m',h0,h1,h2,h3⟩:=h
    exact ⟨x,y,m',h0,h1.mono hN,h2.mono hN,ih h3⟩
theorem FzL.mono {N N':Nat→Prop}{e:Ty}{vs:List Hdr}{xs:List e.Den}(h:FzL N w e vs xs)(hN:∀g,N g→N' g∧w'.heap[g]? =w.heap[g]?):FzL N' w' e vs xs:=by
  induction vs generalizing xs with
  | nil=>exact h
  | cons v vs ih=>obtain ⟨x,r,h1,h2,h3⟩:=h; exact ⟨x,r,h1,h2.mono hN,ih h3⟩
theorem EntR.mono {q:Nat}{e:Ent}(h:EntR al gh w q e)(ha:∀r∈e.tags,al' r→al r∧gh'.h r=gh.h r)(hN:∀g,gh.N g→gh'.N g∧w'.heap[g]? =w.heap[g]?)
    (hh:gh'.h q=gh.h q) (hf:gh'.f q=gh.f q) (hb:∀g∈gh.f q,w'.heap[g]? =w.heap[g]?):EntR al' gh' w' q e:=by
  cases e with
  | box E cs=>
    obtain ⟨g,cur,h1,h2,h3,h4⟩:=h
    exact ⟨g,cur,hh.trans h1,hf.trans h2,(hb g (by rw[h2]; simp)).trans h3,h4.mono ha hN⟩
  | arr E e xs=>
    unfold EntR
    rw[hh,hf]
    exact Own.keep h hb
  | obx E wd n ls0 ov=>
    obtain ⟨h0,g,cap,cur,fps,h1,h2,h3,h4,h5,h6,h7,h8⟩:=h
    exact ⟨h0,g,cap,cur,fps,hh.trans h1,hf.trans h2,(hb g (by rw[h2]; simp)).trans h3,h4,h5,h6,h7,h8.mono (fun r hr=>ha r (QcO h0 r hr)) fun g' hg'=>hb g' (by rw[h2]; exact List.mem_cons_of_mem _ hg')⟩
  | mp kb k vb v m=>
    obtain ⟨g,es,clock,h1,h2,h3,h4,h5⟩:=h
    exact ⟨g,es,clock,hh.trans h1,hf.trans h2,(hb g (by rw[h2]; simp)).trans h3,h4,h5.mono hN⟩
  | bys E l=>
    obtain ⟨g,cap,cur,h1,h2,h3,h4⟩:=h
    exact ⟨g,cap,cur,hh.trans h1,hf.trans h2,h3.keep (hb g (by rw[h2]; simp)),h4⟩
  | pl o e vs f=>
    cases o with
    | true=>exact ⟨hh.trans h.1,by rw[hf]; exact OwnL.mono h.2 fun f' c x hf' ho=>Own.keep ho fun g hg=>hb g (hf' g hg)⟩
    | false=>exact ⟨hh.trans h.1,hf.trans h.2.1,fun v hv=>(h.2.2 v hv).mono hN⟩
  | fz E e xs=>
    obtain ⟨vs,h1,h2⟩:=h
    exact ⟨vs,by rw[hh,hf]; exact Own.keep h1 hb,h2.mono hN⟩
theorem EntR.lt {q:Nat}{e:Ent}(h:EntR al gh w q e):∀g∈gh.f q,g < w.heap.size:=by
  cases e with
  | box E cs=>
    obtain ⟨g,cur,h1,h2,h3,h4⟩:=h
    rw[h2]
    intro g' hg'
    obtain rfl:=List.mem_singleton.1 hg'
    rcases Nat.lt_or_ge g' w.heap.size with k | k
    · exact k
    · rw[Array.getElem?_eq_none k] at h3; cases h3
  | arr E e xs=>exact Own.lt h
  | obx E wd n ls0 ov=>
    obtain ⟨h0,g,cap,cur,fps,h1,h2,h3,h4,h5,h6,h7,h8⟩:=h
    rw[h2]
    intro g' hg'
    rcases List.mem_cons.1 hg' with rfl | hg'
    · rcases Nat.lt_or_ge g' w.heap.size with k | k
      · exact k
      · rw[Array.getElem?_eq_none k] at h3; cases h3
    · exact h8.lt g' hg'
  | bys E l=>
    obtain ⟨g,cap,cur,h1,h2,h3,h4⟩:=h
    rw[h2]
    intro g' hg'
    obtain rfl:=List.mem_singleton.1 hg'
    exact h3.lt
  | pl o e vs f=>
    cases o with
    | true=>exact OwnL.lt h.2
    | false=>rw[h.2.1]; intro g hg; cases hg
  | fz E e xs=>obtain ⟨vs,h1,_⟩:=h; exact Own.lt h1
  | mp kb k vb v m=>
    obtain ⟨g,es,clock,h1,h2,h3,h4⟩:=h
    rw[h2]
    intro g' hg'
    obtain rfl:=List.mem_singleton.1 hg'
    rcases Nat.lt_or_ge g' w.heap.size with k | k
    · exact k
    · rw[Array.getElem?_eq_none k] at h3; cases h3
theorem LVs.len {ls:List LV}{vs:List Value}(h:LVs al gh w ls vs):vs.length=ls.length:=by
  induction ls generalizing vs with
  | nil=>rw[show vs=[] from h]; rfl
  | cons l ls ih=>obtain ⟨v,vs',rfl,_,h2⟩:=h; simp[ih h2]
theorem LVs.get {ls:List LV}{vs:List Value}(h:LVs al gh w ls vs){i:Nat}{l:LV}(hl:ls[i]? =some l):∃v,vs[i]? =some v∧LVR al gh w l v:=by
  induction ls generalizing vs i with
  | nil=>simp at hl
  | cons l' ls ih=>
    obtain ⟨v,vs',rfl,h1,h2⟩:=h
    cases i with
    | zero=>simp at hl; subst hl; exact ⟨v,rfl,h1⟩
    | succ i=>exact ih h2 (by simpa using hl)
theorem LVs.app {l1 l2:List LV}{v1 v2:List Value}(h:LVs al gh w l1 v1)(k:LVs al gh w l2 v2):LVs al gh w (l1++l2) (v1++v2):=by
  induction l1 generalizing v1 with
  | nil=>rw[show v1=[] from h]; exact k
  | cons l ls ih=>obtain ⟨v,vs',rfl,h1,h2⟩:=h; exact ⟨v,vs'++v2,rfl,h1,ih h2⟩
theorem Qd1 {l1 l2:List LV}{vs:List Value}(h:LVs al gh w (l1++l2) vs):∃v1 v2,vs=v1++v2∧LVs al gh w l1 v1∧LVs al gh w l2 v2:=by
  induction l1 generalizing vs with
  | nil=>exact ⟨[],vs,rfl,rfl,h⟩
  | cons l ls ih=>
    obtain ⟨v,vs',rfl,h1,h2⟩:=h
    obtain ⟨a,b,rfl,h3,h4⟩:=ih h2
    exact ⟨v :: a,b,rfl,⟨v,a,rfl,h1,h3⟩,h4⟩
theorem LVs.take {ls:List LV}{vs:List Value}(h:LVs al gh w ls vs)(n:Nat):LVs al gh w (ls.take n) (vs.take n):=by
  induction ls generalizing vs n with
  | nil=>rw[show vs=[] from h]; simp[LVs]
  | cons l ls ih=>
    obtain ⟨v,vs',rfl,h1,h2⟩:=h
    cases n with
    | zero=>simp[LVs]
    | succ n=>exact ⟨v,_,rfl,h1,ih h2 n⟩
theorem LVs.drop {ls:List LV}{vs:List Value}(h:LVs al gh w ls vs)(n:Nat):LVs al gh w (ls.drop n) (vs.drop n):=by
  induction ls generalizing vs n with
  | nil=>rw[show vs=[] from h]; simp[LVs]
  | cons l ls ih=>
    obtain ⟨v,vs',rfl,h1,h2⟩:=h
    cases n with
    | zero=>exact ⟨v,vs',rfl,h1,h2⟩
    | succ n=>exact ih h2 n
theorem LVs.one {ls:List LV}{v:Value}(h:LVs al gh w ls [v]){l:LV}(hl:ls=[l]):LVR al gh w l v:=by
  subst hl
  obtain ⟨_,_,h0,h1,_⟩:=h
  simp only[List.cons.injEq] at h0
  obtain ⟨rfl,rfl⟩:=h0
  exact h1
end
def leaves:(t:Ty)→t.Den→List LV
  | .int,x=>[.dat .int x]
  | .bool,x=>[.dat .bool x]
  | .str,x=>[.dat .str x]
  | .u8,x=>[.dat .u8 x]
  | .vl,x=>[.dat .vl x]
  | .sl E e,x=>[.dat (.sl E e) x]
  | .pr a b,x=>leaves a x.1++leaves b x.2
theorem YP:∀(t:Ty) (x:t.Den),(leaves t x).length=t.wd
  | .int,_=>rfl
  | .bool,_=>rfl
  | .str,_=>rfl
  | .u8,_=>rfl
  | .vl,_=>rfl
  | .sl _ _,_=>rfl
  | .pr a b,x=>by simp[leaves,YP a,YP b]
theorem Rd.leaves {al:Nat→Prop}{gh:Gh}{w:World}:∀{t:Ty} {cs:List Value} {x:t.Den},Rd gh.N t w cs x→LVs al gh w (leaves t x) cs
  | .int,cs,x,h=>by
    obtain ⟨wN,h1,h2⟩:=h; have:=h2.1; subst this; exact ⟨_,[],rfl,⟨wN,h1,h2⟩,rfl⟩
  | .bool,cs,x,h=>by
    obtain ⟨wN,h1,h2⟩:=h; have h2:cs=_:=h2; subst h2; exact ⟨_,[],rfl,⟨wN,h1,rfl⟩,rfl⟩
  | .str,cs,x,h=>by
    obtain ⟨wN,h1,h2⟩:=h; have:=h2.1; subst this; exact ⟨_,[],rfl,⟨wN,h1,h2⟩,rfl⟩
  | .u8,cs,x,h=>by
    obtain ⟨wN,h1,h2⟩:=h; have h2:cs=_:=h2; subst h2; exact ⟨_,[],rfl,⟨wN,h1,rfl⟩,rfl⟩
  | .vl,cs,x,h=>by
    obtain ⟨wN,h1,h2⟩:=h; have h2:cs=_:=h2; subst h2; exact ⟨_,[],rfl,⟨wN,h1,rfl⟩,rfl⟩
  | .sl E e,cs,x,h=>by
    have hl:=h.rep.len
    match cs,hl with
    | [v],_=>exact ⟨v,[],rfl,h,rfl⟩
  | .pr a b,cs,x,h=>by
    obtain ⟨wN,h1,l,r,rfl,h2,h3⟩:=h
    exact LVs.app (Rd.leaves ⟨wN,h1,h2⟩) (Rd.leaves ⟨wN,h1,h3⟩)
theorem LVs.rd {al:Nat→Prop}{gh:Gh}{w:World}:∀{t:Ty} {cs:List Value} {x:t.Den},LVs al gh w (Go.Proofs.YtnakmhfjafecpaaGreat.leaves t x) cs→Rd gh.N t w cs x
  | .int,cs,x,h=>by obtain ⟨v,vs,rfl,h1,h2⟩:=h; rw[show vs=[] from h2]; exact h1
  | .bool,cs,x,h=>by obtain ⟨v,vs,rfl,h1,h2⟩:=h; rw[show vs=[] from h2]; exact h1
  | .str,cs,x,h=>by obtain ⟨v,vs,rfl,h1,h2⟩:=h; rw[show vs=[] from h2]; exact h1
  | .u8,cs,x,h=>by obtain ⟨v,vs,rfl,h1,h2⟩:=h; rw[show vs=[] from h2]; exact h1
  | .vl,cs,x,h=>by obtain ⟨v,vs,rfl,h1,h2⟩:=h; rw[show vs=[] from h2]; exact h1
  | .sl E e,cs,x,h=>by obtain ⟨v,vs,rfl,h1,h2⟩:=h; rw[show vs=[] from h2]; exact h1
  | .pr a b,cs,x,h=>by
    obtain ⟨v1,v2,rfl,h1,h2⟩:=Qd1 h
    exact Rd.pr (LVs.rd h1) (LVs.rd h2)
structure Cx (T:Tab) (gh:Gh) (w:World):Prop where
  en:∀q e,T.ent q=some e→EntR T.al gh w q e
  dj:∀q q',T.al q→T.al q'→q≠q'→∀g∈gh.f q,g∉gh.f q'
  nd:∀q,T.al q→(gh.f q).Nodup
  no:∀q,T.al q→∀g∈gh.f q,¬gh.N g
  nl:∀g,gh.N g→g < w.heap.size
theorem Cx.lt {T:Tab}{gh:Gh}{w:World}(h:Cx T gh w){q:Nat}(hq:T.al q):∀g∈gh.f q,g < w.heap.size:=by
  obtain ⟨e,he⟩:=hq
  exact (h.en q e he).lt
structure Grw (w w':World):Prop where
  os:w'.os=w.os
  tape:w'.tape=w.tape
  output:w'.output=w.output
  size:w.heap.size≤w'.heap.size
theorem ZO (w:World):Grw w w:=⟨rfl,rfl,rfl,Nat.le_refl _⟩
theorem Grw.trans {a b c:World}(h:Grw a b)(k:Grw b c):Grw a c:=⟨k.os.trans h.os,k.tape.trans h.tape,k.output.trans h.output,Nat.le_trans h.size k.size⟩
theorem Nw.grw {a b:World}(h:Nw a b):Grw a b:=⟨h.os,h.tape,h.output,h.size⟩
structure Amb where
  w0:World
  N0:Nat→Prop
  X:Nat→Prop
  n:Nat
  k0:Nat
  h0:Nat→Value
  f0:Nat→List Nat
structure Rg (A:Amb) (s:St) (gh:Gh) (a:Act) (w:World):Prop where
  cx:Cx s.tab gh w
  sz:a.tmps.size=A.n
  df:a.defers=[]
  tm:∀i pv,lk s.tm i=some pv→∃v,a.tmps[i]? =some v∧PVR s.tab.al gh w pv v
  gw:Grw A.w0 w
  kp:∀g,A.X g→g < A.w0.heap.size→w.heap[g]? =A.w0.heap[g]?
  fr:∀g,gh.N g→A.N0 g∨A.w0.heap.size≤g
  ox:∀q,s.tab.al q→∀g∈gh.f q,g < A.w0.heap.size→¬A.X g
  hh:∀q,q < A.k0→s.tab.al q→gh.h q=A.h0 q
  xn:∀g,g < A.w0.heap.size→¬A.X g→A.N0 g
def R (A:Amb)(s:St)(a:Act)(w:World):Prop:=∃gh,Rg A s gh a w
def Does (A:Amb)(P:Program)(o:Oper)(s s':St):Prop:=∀a w K Q,R A s a w→(∀a' w',R A s' a' w'→K a' w')→o.wp P a w K Q
def Wk (A:Amb)(s s':St):Prop:=∀a w,R A s a w→R A s' a w
theorem Qqq (A:Amb)(s:St):Wk A s s:=fun _ _ h=>h
theorem Wk.trans {A:Amb}{s s' s'':St}(h:Wk A s s')(k:Wk A s' s''):Wk A s s'':=fun a w x=>k a w (h a w x)
theorem Does.wk {A:Amb}{P:Program}{o:Oper}{s s' s'':St}(h:Does A P o s s')(k:Wk A s' s''):Does A P o s s'':=fun a w K Q r hk=>h a w K Q r fun a' w' r'=>hk a' w' (k a' w' r')
theorem Qqp {A:Amb}{P:Program}{o:Oper}{s s' s'':St}(k:Wk A s s')(h:Does A P o s' s''):Does A P o s s'':=fun a w K Q r hk=>h a w K Q (k a w r) hk
@[reducible] def St.put (s:St) (d:Nat) (pv:PV):St:=⟨(d,pv) :: s.tm,s.tab⟩
theorem Rg.put {A:Amb}{s:St}{gh:Gh}{a:Act}{w:World}(h:Rg A s gh a w){d:Nat}(hd:d < A.n){pv:PV}{v:Value}(hv:PVR s.tab.al gh w pv v):Rg A (s.put d pv) gh (a.put (some d) v) w where
  cx:=h.cx
  sz:=by simp[Act.put,h.sz]
  df:=h.df
  tm i pv' hi:=by
    simp only[V0] at hi
    by_cases hid:i=d
    · subst hid
      rw[if_pos rfl] at hi
      cases hi
      exact ⟨v,by simp[Act.put,h.sz,hd],hv⟩
    · rw [if_neg hid] at hi
      obtain ⟨v',h1,h2⟩:=h.tm i pv' hi
      exact ⟨v',by simp only[Act.put]; rw[Array.getElem?_setIfInBounds_ne (fun e=>hid e.symm)]; exact h1,h2⟩
  gw:=h.gw
  kp:=h.kp
  fr:=h.fr
  ox:=h.ox
  hh:=h.hh
  xn:=h.xn
theorem Rg.puto {A:Amb}{s:St}{gh:Gh}{a:Act}{w:World}(h:Rg A s gh a w){v:Value}:Rg A s gh (a.put none v) w:=h
structure Fresh (s:St) (q:Nat):Prop where
  tm:∀i pv,lk s.tm i=some pv→q∉pv.tags
  en:∀r e,s.tab.ent r=some e→q∉e.tags
  al:¬s.tab.al q
theorem Rg.step {A:Amb}{s:St}{gh gh':Gh}{a:Act}{w w':World}{T:Tab}(h:Rg A s gh a w)(cx:Cx T gh' w')
    (ha:∀q,T.al q→(s.tab.al q∧gh'.h q=gh.h q∧(q < A.k0→gh'.f q=gh'.f q))∨(Fresh s q∧A.k0≤q)) (hN:∀g,gh.N g→gh'.N g∧w'.heap[g]? =w.heap[g]?)
    (gw:Grw w w')
    (kp:∀g,g < w.heap.size→(∀q,s.tab.al q→g∉gh.f q)→w'.heap[g]? =w.heap[g]?)
    (fr:∀g,gh'.N g→gh.N g∨w.heap.size≤g∨(∃q,s.tab.al q∧g∈gh.f q∧(g < A.w0.heap.size→A.N0 g)))
    (ox:∀q,T.al q→∀g∈gh'.f q,w.heap.size≤g∨∃q',s.tab.al q'∧g∈gh.f q'):Rg A ⟨s.tm,T⟩ gh' a w' where
  cx:=cx
  sz:=h.sz
  df:=h.df
  tm i pv hi:=by
    obtain ⟨v,h1,h2⟩:=h.tm i pv hi
    exact ⟨v,h1,h2.mono (fun q hq hal=>by
      rcases ha q hal with ⟨k1,k2,_⟩ | ⟨k1,_⟩
      · exact ⟨k1,k2⟩
      · exact absurd hq (k1.tm i pv hi)) hN⟩
  gw:=h.gw.trans gw
  kp g hX hl:=by
    rw[kp g (Nat.lt_of_lt_of_le hl h.gw.size) fun q hq hg=>h.ox q hq g hg hl hX]
    exact h.kp g hX hl
  fr g hg:=by
    rcases fr g hg with k | k | ⟨q,k1,k2,k3⟩
    · exact h.fr g k
    · exact .inr (Nat.le_trans h.gw.size k)
    · rcases Nat.lt_or_ge g A.w0.heap.size with k4 | k4
      · exact .inl (k3 k4)
      · exact .inr k4
  ox q hq g hg hl:=by
    rcases ox q hq g hg with k | ⟨q',k1,k2⟩
    · have:=h.gw.size; omega
    · exact h.ox q' k1 g k2 hl
  hh q hq hal:=by
    rcases ha q hal with ⟨h1,h2,h3⟩ | ⟨_,h1⟩
    · rw[h2]; exact h.hh q hq h1
    · omega
  xn:=h.xn
theorem Rg.know {A:Amb}{s:St}{gh:Gh}{a:Act}{w:World}(h:Rg A s gh a w){d:Nat}{pv:PV}{v:Value}(hd:a.tmps[d]? =some v)(hv:PVR s.tab.al gh w pv v):Rg A (s.put d pv) gh a w where
  cx:=h.cx
  sz:=h.sz
  df:=h.df
  tm i pv' hi:=by
    simp only[V0] at hi
    by_cases hid:i=d
    · subst hid
      rw[if_pos rfl] at hi
      cases hi
      exact ⟨v,hd,hv⟩
    · rw [if_neg hid] at hi
      exact h.tm i pv' hi
  gw:=h.gw
  kp:=h.kp
  fr:=h.fr
  ox:=h.ox
  hh:=h.hh
  xn:=h.xn
def inB (q:Nat):List Nat→Bool
  | []=>false
  | r :: rs=>match Nat.beq q r with
    | true=>true
    | false=>inB q rs
theorem Qdn {q:Nat}{l:List Nat}(h:inB q l=false):q∉l:=by
  induction l with
  | nil=>simp
  | cons r rs ih=>
    unfold inB at h
    cases e:Nat.beq q r with
    | true=>rw[e] at h; cases h
    | false=>
      rw[e] at h
      intro hm
      rcases List.mem_cons.1 hm with rfl | hm
      · rw[Nat.beq_refl] at e; cases e
      · exact ih h hm
def Yq:Tab→List Nat
  | []=>[]
  | (q,e) :: T=>match e with
    | some e=>q :: (e.tags++Yq T)
    | none=>Yq T
theorem Z7 {T:Tab}{q:Nat}{e:Ent}(h:T.ent q=some e):q∈Yq T∧∀r∈e.tags,r∈Yq T:=by
  induction T with
  | nil=>cases h
  | cons x T ih=>
    obtain ⟨j,o⟩:=x
    rw[Qp] at h
    by_cases e1:q=j
    · rw [if_pos e1] at h
      subst h
      exact ⟨by simp[Yq,e1],fun r hr=>by simp[Yq,hr]⟩
    · rw [if_neg e1] at h
      obtain ⟨h1,h2⟩:=ih h
      cases o with
      | none=>exact ⟨h1,h2⟩
      | some e'=>exact ⟨by simp[Yq,h1],fun r hr=>by simp[Yq,h2 r hr]⟩
def QeP:List (Nat×PV)→List Nat
  | []=>[]
  | p :: l=>p.2.tags++QeP l
theorem QfX {l:List (Nat×PV)}{i:Nat}{pv:PV}(h:lk l i=some pv):∀q∈pv.tags,q∈QeP l:=by
  induction l with
  | nil=>cases h
  | cons x l ih=>
    obtain ⟨j,pv'⟩:=x
    rw[V0] at h
    intro q hq
    simp only[QeP,List.mem_append]
    by_cases e:i=j
    · rw[if_pos e] at h; cases h; exact .inl hq
    · rw[if_neg e] at h; exact .inr (ih h q hq)
def QiN (s:St)(q:Nat):Bool:= !(inB q (QeP s.tm))&& !(inB q (Yq s.tab))
theorem Fresh.of {s:St}{q:Nat}(h:QiN s q=true):Fresh s q:=by
  simp only[QiN,Bool.and_eq_true,Bool.not_eq_true'] at h
  have h1:=Qdn h.1
  have h2:=Qdn h.2
  exact ⟨fun i pv hi hq=>h1 (QfX hi q hq),fun r e he hq=>h2 ((Z7 he).2 q hq),fun ⟨e,he⟩=>h2 (Z7 he).1⟩
end Go.Proofs.YtnakmhfjafecpaaGreat
