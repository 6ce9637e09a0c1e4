/- Sorted lists without repetition: put in one by one, or sorted and made compact. Plain lists; no program is named here. -/
import Derived.Test.YtgpdhgadmjfokaaGreatHAv
import Derived.Sort.OwnSorted
import Derived.Shelf.Sort.AssemblysIn
import Derived.Shelf.Lays
import Derived.Shelf.Slices.In.SortNone
import Derived.Test.YtgpdhgadmjfokaaGreatHAf
import Derived.Test.YtgpdhgadmjfokaaGreatHAi
import Derived.Test.YtgpdhgadmjfokaaGreatHApp
import Derived.Test.YtgpdhgadmjfokaaGreatHAk
import Derived.Test.YtgpdhgadmjfokaaGreatHStr
import Derived.Test.YtgpdhgadmjfokaaGreatProg
import Derived.KernelRfl
import Derived.Test.YtgpdhgadmjfokaaGreatHAl
set_option linter.unusedSimpArgs false
set_option linter.unusedVariables false
set_option linter.unusedSectionVars false
namespace Go.Proofs.YtgpdhgadmjfokaaGreat
structure TO {α:Type _} (lt:α→α→Bool):Prop where
  irr:∀x,lt x x=false
  tr:∀x y z,lt x y=true→lt y z=true→lt x z=true
  tot:∀x y,lt x y=true∨x=y∨lt y x=true
def Q7 {α:Type _}[DecidableEq α](lt:α→α→Bool)(x:α):List α→List α
  | []=>[x]
  | y :: l=>if lt y x=true then y :: Q7 lt x l else if y=x then y :: l else x :: y :: l
def ZD {α:Type _}[DecidableEq α]:List α→List α
  | []=>[]
  | [x]=>[x]
  | x :: y :: l=>if x=y then ZD (y :: l) else x :: ZD (y :: l)
def ofG {α:Type _}[DecidableEq α](lt:α→α→Bool)(l:List α):List α:=l.foldl (fun s x=>Q7 lt x s) []
section
variable {α:Type _}[DecidableEq α]{lt:α→α→Bool}{l a b:List α}{x y z:α}{k:Nat}
omit [DecidableEq α] in
theorem TO.ext (h:TO lt):∀{a b:List α},a.Pairwise (fun x y=>lt x y=true)→b.Pairwise (fun x y=>lt x y=true)→(∀x,x∈a↔x∈b)→a=b
  | [],[],_,_,_=>rfl
  | [],y :: b,_,_,hm=>by have:=(hm y).2 (ay ..); cases this
  | x :: a,[],_,_,hm=>by have:=(hm x).1 (ay ..); cases this
  | x :: a,y :: b,ha,hb,hm=>by
    obtain ⟨a1,a2⟩:=bi.1 ha
    obtain ⟨b1,b2⟩:=bi.1 hb
    have hxy:x=y:=by
      rcases aD.1 ((hm x).1 (ay ..)) with h1 | h1
      · exact h1
      · rcases aD.1 ((hm y).2 (ay ..)) with h2 | h2
        · exact h2.symm
        · have := h.tr _ _ _ (a1 _ h2) (b1 _ h1)
          rw[h.irr] at this; cases this
    subst hxy
    congr 1
    refine h.ext a2 b2 fun z=>⟨fun hz=> ?_,fun hz=> ?_⟩
    · rcases aD.1 ((hm z).1 (ax _ hz)) with h1 | h1
      · subst h1; have:=a1 _ hz; rw[h.irr] at this; cases this
      · exact h1
    · rcases aD.1 ((hm z).2 (ax _ hz)) with h1 | h1
      · subst h1; have:=b1 _ hz; rw[h.irr] at this; cases this
      · exact h1
theorem Yr:z∈Q7 lt x l↔z=x∨z∈l:=by
  induction l with
  | nil=>simp[Q7]
  | cons y l ih=>
    unfold Q7
    split
    · rw [aD, ih, aD]
      constructor
      · rintro (h | h | h)
        · exact .inr (.inl h)
        · exact .inl h
        · exact .inr (.inr h)
      · rintro (h | h | h)
        · exact .inr (.inl h)
        · exact .inl h
        · exact .inr (.inr h)
    · split
      · rename_i h; subst h
        rw[aD]
        exact ⟨fun h=>h.elim .inl fun h=> .inr (.inr h),fun h=>h.elim .inl id⟩
      · rw[aD]
theorem Ua (h:TO lt)(hl:l.Pairwise (fun x y=>lt x y=true)):(Q7 lt x l).Pairwise (fun x y=>lt x y=true):=by
  induction l with
  | nil=>simp[Q7]
  | cons y l ih=>
    obtain ⟨h1,h2⟩:=bi.1 hl
    unfold Q7
    split
    · rename_i hy
      refine bi.2 ⟨fun z hz=> ?_,ih h2⟩
      rcases Yr.1 hz with rfl | hz
      · exact hy
      · exact h1 z hz
    · split
      · exact hl
      · rename_i hy hne
        have hxy:lt x y=true:=by
          rcases h.tot x y with h3 | h3 | h3
          · exact h3
          · exact absurd h3.symm hne
          · exact absurd h3 hy
        refine bi.2 ⟨fun z hz=> ?_,hl⟩
        rcases aD.1 hz with rfl | hz
        · exact hxy
        · exact h.tr _ _ _ hxy (h1 z hz)
theorem Qbu (h:TO lt):∀(l s:List α),s.Pairwise (fun x y=>lt x y=true)→(l.foldl (fun s x=>Q7 lt x s) s).Pairwise (fun x y=>lt x y=true)∧∀z,z∈l.foldl (fun s x=>Q7 lt x s) s↔z∈s∨z∈l
  | [],s,hs=>⟨hs,fun z=>by simp⟩
  | x :: l,s,hs=>by
    obtain ⟨h1,h2⟩:=Qbu h l _ (Ua (x:=x) h hs)
    refine ⟨h1,fun z=> ?_⟩
    rw[bq,h2,Yr,aD]
    constructor
    · rintro ((h | h) | h)
      · exact .inr (.inl h)
      · exact .inl h
      · exact .inr (.inr h)
    · rintro (h | h | h)
      · exact .inl (.inr h)
      · exact .inl (.inl h)
      · exact .inr h
theorem Q0 (h:TO lt)(l:List α):(ofG lt l).Pairwise (fun x y=>lt x y=true):=(Qbu h l [] bW).1
theorem UE (h:TO lt)(l:List α):z∈ofG lt l↔z∈l:=by
  have:=(Qbu h l [] bW).2 z
  simpa [ofG] using this
theorem Qkk:Q7 lt x (ofG lt l)=ofG lt (l++[x]):=by unfold ofG; rw[List.foldl_append]; rfl
theorem K3:∀{l:List α},z∈ZD l↔z∈l
  | []=>Iff.rfl
  | [x]=>Iff.rfl
  | x :: y :: l=>by
    unfold ZD
    split
    · rename_i h; subst h
      rw[K3]
      exact ⟨ax _,fun h=>(aD.1 h).elim (fun h=>by rw[h]; exact ay ..) id⟩
    · rw[aD,K3,aD (l:=y :: l)]
theorem QbN (h:TO lt):∀{l:List α},l.Pairwise (fun x y=>lt y x=false)→(ZD l).Pairwise (fun x y=>lt x y=true)
  | [],_=>bW
  | [x],_=>by simp[ZD]
  | x :: y :: l,hl=>by
    obtain ⟨h1,h2⟩:=bi.1 hl
    unfold ZD
    split
    · exact QbN h h2
    · rename_i hne
      refine bi.2 ⟨fun z hz=> ?_,QbN h h2⟩
      rw[K3] at hz
      rcases h.tot x z with h3 | h3 | h3
      · exact h3
      · subst h3
        rcases aD.1 hz with h4 | h4
        · exact absurd h4 hne
        · have h5 := h1 y (ay ..)
          have h6:=(bi.1 h2).1 x h4
          rcases h.tot x y with h7 | h7 | h7
          · rw[h6] at h7; cases h7
          · exact absurd h7 hne
          · rw[h5] at h7; cases h7
      · have:=h1 z hz; rw[this] at h3; cases h3
theorem Qm5 (h:TO lt){s l:List α}(hs:s.Pairwise (fun x y=>lt y x=false))(hm:∀z,z∈s↔z∈l):ZD s=ofG lt l:=
  h.ext (QbN h hs) (Q0 h l) fun z=>by rw[K3,hm,UE h]
theorem QdU:∀{k:Nat} {l:List α},(∀j,j < k→∀y,l[j]? =some y→lt y x=true)→k≤l.length→(∀y,l[k]? =some y→lt y x=false∧y≠x)→Q7 lt x l=l.take k++x :: l.drop k
  | 0,[],_,_,_=>rfl
  | 0,y :: l,_,_,h2=>by
    obtain ⟨h3,h4⟩:=h2 y rfl
    unfold Q7
    rw[if_neg (by rw[h3]; decide),if_neg h4]; rfl
  | k+1,[],_,hk,_=>by simp at hk
  | k+1,y :: l,h1,hk,h2=>by
    unfold Q7
    rw[if_pos (h1 0 (by omega) y rfl),QdU (k:=k) (fun j hj z hz=>h1 (j+1) (by omega) z (by simpa using hz)) (by simpa using hk) (fun z hz=>h2 z (by simpa using hz))]
    rfl
theorem JW:∀{k:Nat} {l:List α},(∀j,j < k→∀y,l[j]? =some y→lt y x=true)→l[k]? =some x→lt x x=false→Q7 lt x l=l
  | 0,[],_,h,_=>by simp at h
  | 0,y :: l,_,h,h3=>by
    simp only[bL,bk] at h
    subst h
    unfold Q7
    rw[if_neg (by rw[h3]; decide),if_pos rfl]
  | k+1,[],_,h,_=>by simp at h
  | k+1,y :: l,h1,h,h3=>by
    unfold Q7
    rw[if_pos (h1 0 (by omega) y rfl),JW (k:=k) (fun j hj z hz=>h1 (j+1) (by omega) z (by simpa using hz)) (by simpa using h) h3]
end
def ltI (x y:Int):Bool:=decide (x < y)
theorem Wj:TO ltI:=⟨fun x=>by simp[ltI],fun x y z h1 h2=>by simp only[ltI,aU] at*; omega,fun x y=>by simp only[ltI,aU]; omega⟩
end Go.Proofs.YtgpdhgadmjfokaaGreat
namespace Go.Proofs.YtgpdhgadmjfokaaGreat
open Go.RowKit
def ltB (x y:ByteArray):Bool:=Op.bytesLess x.toList y.toList
def fB (x:ByteArray):List UInt8:=x.data.toList
theorem QoI {x y:ByteArray}(h:fB x=fB y):x=y:=by
  cases x; cases y
  exact congrArg _ (Array.toList_inj.1 h)
theorem Qof:∀(x y:List UInt8),Op.bytesLess x y=decide (x < y)
  | [],[]=>by simp[Op.bytesLess]
  | _ :: _,[]=>by simp[Op.bytesLess]
  | [],_ :: _=>by simp[Op.bytesLess]
  | a :: x,b :: y=>by
    rw[Op.bytesLess,Qof x y]
    simp only[List.cons_lt_cons_iff]
    by_cases h1:a < b <;> by_cases h2:a=b <;> by_cases h3:x < y <;> simp[h1,h2,h3]
theorem QbT (x y:ByteArray):ltB x y=decide (fB x < fB y):=by unfold ltB; rw[b5,b5,Qof]; rfl
theorem Q2:TO ltB:=⟨fun x=>by rw[QbT]; simp[List.lt_irrefl],fun x y z h1 h2=>by rw[QbT,aU] at*; exact List.lt_trans h1 h2,fun x y=>by
  rw[QbT,QbT,aU,aU]
  by_cases h1:fB x < fB y
  · exact .inl h1
  · by_cases h2 : fB y < fB x
    · exact .inr (.inr h2)
    · exact .inr (.inl (QoI (List.le_antisymm (List.not_lt.1 h2) (List.not_lt.1 h1))))⟩
def Z5 (xs:List ByteArray):List ByteArray:=xs.mergeSort fun x y=> !ltB y x
theorem Kj (xs:List ByteArray):(Z5 xs).Perm xs:=List.mergeSort_perm ..
theorem J0 (xs:List ByteArray):(Z5 xs).length=xs.length:=(Kj xs).length_eq
theorem Qd4 (xs:List ByteArray):(Z5 xs).Pairwise fun x y=>ltB y x=false:=by
  have h:=List.pairwise_mergeSort (le:=fun x y:ByteArray=> !ltB y x) (fun a b c h1 h2=>by
    simp only[bG] at*
    cases e:ltB c a with
    | false=>rfl
    | true=>
      rcases Q2.tot a b with k | rfl | k
      · rw[Q2.tr _ _ _ e k] at h2; cases h2
      · rw[e] at h2; cases h2
      · rw[k] at h1; cases h1) (fun a b=>by
    cases e:ltB b a with
    | false=>rfl
    | true=>
      cases k:ltB a b with
      | false=>rfl
      | true=>have:=Q2.tr _ _ _ e k; rw[Q2.irr] at this; cases this) xs
  exact h.imp fun h=>by simpa using h
theorem QjY (xs:List ByteArray):(Z5 xs).map fB=(xs.map fB).mergeSort fun x y=>decide (x≤y):=
  List.map_mergeSort fun a _ b _=>by
    rw[QbT]
    by_cases h:fB b < fB a
    · have : ¬ fB a ≤ fB b := fun k => List.not_lt.2 k h
      simp[h,this]
    · have := List.not_lt.1 h
      simp[h,this]
theorem QkA (x:ByteArray):encStr (fB x)= .string x:=by cases x; simp[encStr,fB]
theorem QcU {w:World}:∀{xs:List ByteArray} {fp:List Nat} {cs:List Value},OwnL (Own .str w) fp cs xs→fp=[]∧cs=(xs.map fB).map encStr∧∀x∈xs,x.size≤maxLen
  | [],fp,cs,h=>⟨h.1,h.2,fun x hx=>by cases hx⟩
  | x :: xs,fp,cs,h=>by
    obtain ⟨f1,f2,l,r,rfl,rfl,⟨rfl,rfl,h1⟩,h2⟩:=h
    obtain ⟨rfl,rfl,h3⟩:=QcU h2
    exact ⟨rfl,by rw[aZ,aZ,QkA]; rfl,fun y hy=>by rcases aD.1 hy with rfl | hy; exact h1; exact h3 y hy⟩
theorem Qe4 {w:World}:∀{xs:List ByteArray},(∀x∈xs,x.size≤maxLen)→OwnL (Own .str w) [] ((xs.map fB).map encStr) xs
  | [],_=>⟨rfl,rfl⟩
  | x :: xs,h=>⟨[],[],[.string x],(xs.map fB).map encStr,rfl,by rw[aZ,aZ,QkA]; rfl,⟨rfl,rfl,h x (ay ..)⟩,Qe4 fun y hy=>h y (ax _ hy)⟩
def Qkn (P:Program)(f:FuncId):Prop:=∀(blk cap:Nat) (zs:List ByteArray) (w:World),Sort.Holds encStr w blk 0 (zs.map fB).toArray→blk < w.heap.size→zs.length < 4611686018427387904→
  Calls P f #[.slice (some ⟨blk,0,none⟩) zs.length cap] w fun e w'=>e= .returned (.tuple #[])∧∃n os,w'=Sort.grow (Sort.putRow encStr (Sort.ahead w n) blk 0 ((Z5 zs).map fB).toArray) os
theorem Qlg {P:Program}{f:FuncId}{E:TypeId}(hS:Qkn P f)(hN:QfB P f)(xs:List ByteArray)(hl:xs.length≤1000000000):FC P f [(false,[.ref 0])] [(0,some (.arr E .str xs))] 1 (Is (.tup []) [(0,some (.arr E .str (Z5 xs)))]):=fun gh w vs cx ha=>by
  obtain ⟨v,vs',rfl,⟨l,hl_,h1⟩,rfl⟩:=ha
  simp only[aH,and_true] at hl_
  subst hl_
  have hv:v=gh.h 0:=h1 ⟨_,rfl⟩
  subst hv
  have hO:Own (.sl E .str) w (gh.f 0) [gh.h 0] xs:=cx.en 0 _ rfl
  have alq:∀(y:List ByteArray) q,Tab.al [(0,some (Ent.arr E .str y))] q→q=0:=fun y q ⟨e,he⟩=>by
    rw[Qf] at he
    split at he
    · assumption
    · cases he
  rcases hO with ⟨hf,hc,hx⟩ | ⟨g,cap,cur,fps,hf,hc,hb,hn,hcap,hsz,hL⟩
  · simp only [aH, and_true] at hc
    subst hx
    rw[hc]
    refine Calls.mono (hN w) fun e w' he=> ?_
    obtain ⟨rfl,h2⟩:=he
    refine ⟨_,_,_,gh,rfl,⟨rfl,rfl⟩,⟨fun q e he=> ?_,fun q q' hq hq' hne=>absurd ((alq _ q hq).trans (alq _ q' hq').symm) hne,fun q hq=> ?_,fun q hq g hg=> ?_,fun g hg=>bf (cx.nl g hg) h2.size⟩,⟨[],rfl,rfl⟩,
      ⟨h2.grw,fun g hg _=>Below.block h2 g hg,fun g hg=> .inl hg,fun q hq g hg=> ?_⟩,fun q _ _=>rfl⟩
    · rw [Qf] at he
      split at he
      · rename_i e0; subst e0; cases he
        exact .inl ⟨hf,by rw[hc],by simp[Z5]⟩
      · cases he
    · rw[alq _ q hq,hf]; exact bF
    · rw[alq _ q hq,hf] at hg; cases hg
    · rw[alq _ q hq,hf] at hg; cases hg
  · simp only [aH, and_true] at hc
    rw[cP] at hL
    obtain ⟨rfl,ht,hr⟩:=QcU hL
    have hg:g < w.heap.size:=(bM.1 hb).1
    rw[hc]
    have hm:xs.length≤9223372036854775807:=by unfold maxLen at hcap; omega
    refine Calls.mono (hS g cap xs w (holds_of_block hb (by rw[aQ]; exact ht)) hg (by omega)) fun e w' he=> ?_
    obtain ⟨rfl,n,os,rfl⟩:=he
    obtain ⟨k1,k2,k3,k4,k5⟩:=grownBy_sorted (w:=w) (g:=g) (n:=n) (os:=os) ((Z5 xs).map fB).toArray
    have hlen:=J0 xs
    refine ⟨_,_,_,gh,rfl,⟨rfl,rfl⟩,⟨fun q e he=> ?_,fun q q' hq hq' hne=>absurd ((alq _ q hq).trans (alq _ q' hq').symm) hne,fun q hq=> ?_,fun q hq g' hg'=> ?_,fun g' hg'=>bf (cx.nl g' hg') k4⟩,⟨[],rfl,rfl⟩,
      ⟨⟨k1,k2,k3,k4⟩,fun g' h1 h2=> ?_,fun g' h1=> .inl h1,fun q hq g' hg'=> ?_⟩,fun q _ _=>rfl⟩
    · rw [Qf] at he
      split at he
      · rename_i e0; subst e0; cases he
        refine .inr ⟨g,cap,_,[],hf,by rw[hc,hlen],heap_sorted _ hb,by omega,hcap,by simpa [Sort.putCells] using hsz, ?_⟩
        show OwnL (Own .str _) [] (List.take ((Z5 xs).length*1) _) (Z5 xs)
        have ht2:=take_putCells cur ((Z5 xs).map fB) (by rw[aQ]; have:cur.size=cap*1:=hsz; omega)
        rw[aQ] at ht2
        rw[cP,ht2]
        exact Qe4 fun x hx=>hr x ((Kj xs).mem_iff.1 hx)
      · cases he
    · rw[alq _ q hq]; exact cx.nd 0 ⟨_,rfl⟩
    · rw[alq _ q hq] at hg'; exact cx.no 0 ⟨_,rfl⟩ g' hg'
    · exact k5 g' h1 fun e0=>h2 0 ⟨_,rfl⟩ (by rw[hf]; cases e0; exact ay ..)
    · rw[alq _ q hq] at hg'; exact .inr ⟨0,⟨_,rfl⟩,hg'⟩
end Go.Proofs.YtgpdhgadmjfokaaGreat
namespace Go.Proofs.YtgpdhgadmjfokaaGreat
open Go.RowKit
def Qjr:Go.Shelf.Ren:=⟨fun | 190=>111 | 125=>224 | 258=>223 | 128=>331 | 129=>332 | 302=>322 | 303=>323 | 304=>324 | 305=>325 | 306=>326 | 307=>327 | 308=>328 | 309=>329 | 310=>330 | 333=>412 | 329=>413 | 330=>414 | 334=>415 | 335=>416 | 336=>417 | 344=>459 | n=>n,fun | 31=>24 | 9=>9 | 3=>3 | 46=>228 | 0=>0 | 51=>305 | 53=>117 | 4=>4 | 183=>299 | 182=>298 | 131=>238 | 5=>5 | 218=>366 | 222=>370 | 228=>397 | 229=>398 | n=>n,fun | n=>n⟩
theorem QnW:Go.Proofs.Lays.n190 Tryz.prog Qjr:={
  mixed:=by kernel_rfl,
  f125:=Tryz.func224.trans (congrArg some (by kernel_rfl)),
  f128:=Tryz.func331.trans (congrArg some (by kernel_rfl)),
  f129:=Tryz.func332.trans (congrArg some (by kernel_rfl)),
  f190:=Tryz.func111.trans (congrArg some (by kernel_rfl)),
  f258:=Tryz.func223.trans (congrArg some (by kernel_rfl)),
  f302:=Tryz.func322.trans (congrArg some (by kernel_rfl)),
  f303:=Tryz.func323.trans (congrArg some (by kernel_rfl)),
  f304:=Tryz.func324.trans (congrArg some (by kernel_rfl)),
  f305:=Tryz.func325.trans (congrArg some (by kernel_rfl)),
  f306:=Tryz.func326.trans (congrArg some (by kernel_rfl)),
  f307:=Tryz.func327.trans (congrArg some (by kernel_rfl)),
  f308:=Tryz.func328.trans (congrArg some (by kernel_rfl)),
  f309:=Tryz.func329.trans (congrArg some (by kernel_rfl)),
  f310:=Tryz.func330.trans (congrArg some (by kernel_rfl)),
  f329:=Tryz.func413.trans (congrArg some (by kernel_rfl)),
  f330:=Tryz.func414.trans (congrArg some (by kernel_rfl)),
  f333:=Tryz.func412.trans (congrArg some (by kernel_rfl)),
  f334:=Tryz.func415.trans (congrArg some (by kernel_rfl)),
  f335:=Tryz.func416.trans (congrArg some (by kernel_rfl)),
  f336:=Tryz.func417.trans (congrArg some (by kernel_rfl)),
  f344:=Tryz.func459.trans (congrArg some (by kernel_rfl)),
  t0:=Tryz.underlying0,
  a0:=Tryz.isAgg0,
  z0:=Tryz.sizeOf0,
  v0:=Tryz.zeroValue0,
  t3:=Tryz.underlying3,
  a3:=Tryz.isAgg3,
  z3:=Tryz.sizeOf3,
  v3:=Tryz.zeroValue3,
  t4:=Tryz.underlying4,
  a4:=Tryz.isAgg4,
  z4:=Tryz.sizeOf4,
  v4:=Tryz.zeroValue4,
  t5:=Tryz.underlying5,
  a5:=Tryz.isAgg5,
  z5:=Tryz.sizeOf5,
  v5:=Tryz.zeroValue5,
  t9:=Tryz.underlying9,
  a9:=Tryz.isAgg9,
  z9:=Tryz.sizeOf9,
  v9:=Tryz.zeroValue9,
  t31:=Tryz.underlying24,
  a31:=Tryz.isAgg24,
  z31:=Tryz.sizeOf24,
  v31:=Tryz.zeroValue24,
  t46:=Tryz.underlying228,
  a46:=Tryz.isAgg228,
  z46:=Tryz.sizeOf228,
  v46:=Tryz.zeroValue228,
  t51:=Tryz.underlying305,
  a51:=Tryz.isAgg305,
  z51:=Tryz.sizeOf305,
  v51:=Tryz.zeroValue305,
  t53:=Tryz.underlying117,
  a53:=Tryz.isAgg117,
  z53:=Tryz.sizeOf117,
  v53:=Tryz.zeroValue117,
  t131:=Tryz.underlying238,
  a131:=Tryz.isAgg238,
  z131:=Tryz.sizeOf238,
  v131:=Tryz.zeroValue238,
  t182:=Tryz.underlying298,
  a182:=Tryz.isAgg298,
  z182:=Tryz.sizeOf298,
  v182:=Tryz.zeroValue298,
  t183:=Tryz.underlying299,
  a183:=Tryz.isAgg299,
  z183:=Tryz.sizeOf299,
  v183:=Tryz.zeroValue299,
  t218:=Tryz.underlying366,
  a218:=Tryz.isAgg366,
  z218:=Tryz.sizeOf366,
  v218:=Tryz.zeroValue366,
  t222:=Tryz.underlying370,
  a222:=Tryz.isAgg370,
  z222:=Tryz.sizeOf370,
  v222:=Tryz.zeroValue370,
  t228:=Tryz.underlying397,
  a228:=Tryz.isAgg397,
  z228:=Tryz.sizeOf397,
  v228:=Tryz.zeroValue397,
  t229:=Tryz.underlying398,
  a229:=Tryz.isAgg398,
  z229:=Tryz.sizeOf398,
  v229:=Tryz.zeroValue398}
theorem QoW:Qkn Tryz.prog 111:=fun blk cap zs w hH hb hl=>by
  have h:=calls_of_every_depth fun D=>AnyS.slices_Sort_string_in QnW D blk 0 cap (zs.map fB) w hH hb (by rw[aQ]; exact hl)
  rw[aQ,← QjY] at h
  exact h
theorem Qjg:QfB Tryz.prog 111:=fun w=>Calls.mono (Any.slices_Sort_string_none QnW none 0 w) fun _ _ ⟨h1,h2⟩=>⟨h1,h2▸QO _⟩
theorem Qeh (l:List ByteArray)(hl:l.length≤1000000000):FC Tryz.prog 111 [(false,[.ref 0])] [(0,some (.arr 9 .str l))] 1 (Is (.tup []) [(0,some (.arr 9 .str (Z5 l)))]):=Qlg QoW Qjg l hl
end Go.Proofs.YtgpdhgadmjfokaaGreat
namespace Go.Proofs.YtgpdhgadmjfokaaGreat
open Go.RowKit
set_option maxRecDepth 100000
set_option maxHeartbeats 4000000
theorem QZ (n:Int)(low:Int)(high:Int):FC Tryz.prog 107 [(false,[dI n]),(false,[dI low]),(false,[dI high])] [] 0 (QV (lB (decide (low≤n∧n≤high)))):=by
 refine Qj Tryz.func107 rfl rfl Tryz.ntmps107 fun O_ hO w0_ N0_ X_ h0_ f0_=> ?_
 refine acI 0 fun hi1=> ?_
 refine acI 1 fun hi2=> ?_
 refine acI 2 fun hi3=> ?_
 iterate 8 refine w_ ?_
 cases hb4:(decide (low≤n))
 ·have hb4':=ab hb4
  iterate 6 refine w_ ?_
  refine Qb<|fqB hO ?_
  (rw[bu]; simp; omega)
 ·have hb4':=ae hb4
  iterate 6 refine w_ ?_
  refine Qb<|fqB hO ?_
  (simp_all; done)
theorem Z8 (n:Int)(lo:Int)(hi:Int):FC Tryz.prog 163 [(false,[dI n]),(false,[dI lo]),(false,[dI hi])] [] 0 (QV (lB (decide (lo≤n∧n≤hi)))):=by
 refine Qj Tryz.func163 rfl rfl Tryz.ntmps163 fun O_ hO w0_ N0_ X_ h0_ f0_=> ?_
 refine acI 0 fun hi1=> ?_
 refine acI 1 fun hi2=> ?_
 refine acI 2 fun hi3=> ?_
 iterate 8 refine w_ ?_
 cases hb4:(decide (lo≤n))
 ·have hb4':=ab hb4
  iterate 6 refine w_ ?_
  refine Qb<|fqB hO ?_
  (rw[bu]; simp; omega)
 ·have hb4':=ae hb4
  iterate 6 refine w_ ?_
  refine Qb<|fqB hO ?_
  (simp_all; done)
theorem U5 (l:List Int)(hl:l.length≤2000000):FC Tryz.prog 435 [(false,[.dat (.sl 3 .int) l])] [] 0 (Wy 3 .int l):=by
 refine Qj Tryz.func435 rfl rfl Tryz.ntmps435 fun O_ hO w0_ N0_ X_ h0_ f0_=> ?_
 iterate 4 refine w_ ?_
 refine lc (dBs 0 (e:= .int) XI) ?_
 refine w_ ?_
 refine lc (Zj 1 (Qa rfl) rfl (Evl.rep (Qa rfl)) rfl Xf Wf (by first | omega | (simp only[ak,aQ,ap,aq,aE]; omega) | (simp only[ak,bh,ap,aq,aE]; omega)) rfl (Fresh.of rfl) (nlr rfl)) ?_
 iterate 2 refine w_ ?_
 refine Qb<|fo_ hO ?_
 rfl
theorem QmX {α:Type _}(f:α→Nat){xs:List α}{x:α}(h:x∈xs):f x≤(xs.map f).sum:=by
  induction xs with
  | nil=>cases h
  | cons y ys ih=>
    simp only[aZ,List.sum_cons]
    rcases aD.1 h with rfl | h
    · omega
    · have:=ih h; omega
theorem Qm2 {n:YD}(hz:Ty.tot J4 n≤2000000):n.2.length≤2000000:=by
  have:Ty.tot J4 n=0+(n.2.length+(n.2.map (Ty.tot Q9)).sum):=rfl
  omega
theorem Qcm {s:QR}(hz:Ty.tot HA s≤2000000):Ty.tot J4 s.1≤2000000∧s.2.1.length≤2000000∧s.2.2.1.length≤2000000:=by
  have:Ty.tot HA s=Ty.tot J4 s.1+((s.2.1.length+(s.2.1.map (Ty.tot YH)).sum)+((s.2.2.1.length+(s.2.2.1.map (Ty.tot JS)).sum)+s.2.2.2.size)):=rfl
  omega
theorem QjB {n:YD}(hz:Ty.tot J4 n≤2000000):∀t∈n.2,t.1.length≤2000000∧t.2.length≤2000000:=fun t ht=>by
  have h1:Ty.tot J4 n=0+(n.2.length+(n.2.map (Ty.tot Q9)).sum):=rfl
  have h2:=QmX (Ty.tot Q9) ht
  have h3:Ty.tot Q9 t=(t.1.length+(t.1.map (Ty.tot .int)).sum)+(t.2.length+(t.2.map (Ty.tot .int)).sum):=rfl
  omega
theorem Qbk (n:Int×(List (List Int×List Int)))(hz:Ty.tot J4 n≤2000000):FC Tryz.prog 366 [(true,[dI n.1, .dat (.sl 245 (.pr (.sl 3 .int) (.sl 3 .int))) n.2])] [] 0 (Is (ag [dI n.1, .ref 0]) [ar 0 245 (.pr (.sl 3 .int) (.sl 3 .int)) n.2]):=by
 have hm:=Qm2 hz
 have hp:=QjB hz
 refine Qj Tryz.func366 rfl rfl Tryz.ntmps366 fun O_ hO w0_ N0_ X_ h0_ f0_=> ?_
 refine acG 0 0 fun hi1=> ?_
 refine w_ ?_
 refine xbx 0 ?_
 refine lc (xal 1 (.pr .int (.sl 245 (.pr (.sl 3 .int) (.sl 3 .int)))) JT) ?_
 iterate 4 refine w_ ?_
 refine lc (Qn Qdr ⟨_,_,rfl,(Qm rfl),rfl⟩ (aw.1 rfl) rfl rfl)<|lc (xal 2 (.pr .int (.sl 245 (.pr (.sl 3 .int) (.sl 3 .int)))) JT) ?_
 iterate 6 refine w_ ?_
 refine alL 10 fun hl2=> ?_
 iterate 4 refine w_ ?_
 refine AC.wk (QD 3 (p:=2) (off:=1) 245 (.pr (.sl 3 .int) (.sl 3 .int)) rfl rfl (Fresh.of rfl) (nlr rfl)) ?_
 refine lp0 n.2.length (fun k=>⟨[(2,lP 1 0),(3,lP 2 0),(10,lf (.dat (.sl 245 (.pr (.sl 3 .int) (.sl 3 .int))) n.2)),(11,lI (n.2.length:Int)),(12,lI (k:Int))],[bx 1 59 [dI 0, .val (.slice none 0 0)],bx 2 59 [dI n.1, .ref 4],ar 4 245 (.pr (.sl 3 .int) (.sl 3 .int)) (n.2.take k)]⟩) ?_ fun k hk3=> ?_
 · exact Wk.of [(4,3)] rfl ⟨rfl,rfl,rfl,rfl,rfl,trivial⟩ ⟨rfl,rfl,(Qk (by first | rfl | simp)),trivial⟩ rfl rfl
 iterate 4 refine w_ ?_
 cases hb4:(decide ((k:Int) < (n.2.length:Int)))
 ·have hb4':=ab hb4
  refine w_ ?_
  refine Qi ?_
  refine (?_:AC _ _ _ _ _)
  iterate 4 refine w_ ?_
  refine Qb ?_
  exact fi_ [(0,4)] hO ⟨(Qk (by rw[ZH (by omega)])),trivial⟩
 ·have hb4':=ae hb4
  iterate 5 refine w_ ?_
  obtain ⟨x5,hx6⟩:∃z,n.2[k]? =some z:=⟨_,aa (by omega)⟩
  iterate 2 refine w_ ?_
  refine lc (xal 5 (.pr (.sl 3 .int) (.sl 3 .int)) VH) ?_
  iterate 2 refine w_ ?_
  apply dV (i4 16 _ _ _ _ [⟨some 20,lR 6,[ar 6 3 .int x5.1]⟩,io 21 (lP 5 1),io 22 (lf (.dat (.sl 3 .int) x5.2)),⟨some 23,lR 7,[ar 7 3 .int x5.2]⟩,io 24 (ag [.ref 6, .ref 7]),⟨some 25,lR 8,[ar 8 245 (.pr (.sl 3 .int) (.sl 3 .int)) ([(x5.1,x5.2)]),(6,none),(7,none)]⟩,⟨some 26,lR 9,[ar 9 245 (.pr (.sl 3 .int) (.sl 3 .int)) ((n.2.take k)++([(x5.1,x5.2)])),(4,none),(8,none)]⟩,io 27 _,⟨none,lf (.val undef),[bx 2 59 [dI n.1, .ref 9]]⟩]) [0,0,3,3,3,31,31,3,3,3,0,0,0]
  iterate 4 refine z_ ?_
  refine zz (fun _ h_=>ac (dO 6 (U5 x5.1 (by have:=hp _ (ao ‹_›); omega)) QbD) rfl) ?_
  iterate 2 refine z_ ?_
  refine zz (fun _ h_=>ac (dO 7 (U5 x5.2 (by have:=hp _ (ao ‹_›); omega)) QbD) rfl) ?_
  refine zz (fun _ h_=>ac (Qn Qae ⟨_,_,rfl,(h_.w rfl),⟨_,_,rfl,(h_.w rfl),rfl⟩⟩ (aw.1 (by simp only[Zc,VQ,bm,bK]; rw[(h_.en 6 rfl),(h_.en 7 rfl)]; rfl)) rfl rfl) rfl)<|zz (fun _ h_=>ac (XX 8 (e:=(.pr (.sl 3 .int) (.sl 3 .int))) J5 UK VH rfl ⟨_,_,rfl,(h_.w rfl),rfl⟩ (aw.1 (by simp only[Zc,VQ,bm,bK]; rw[(h_.en 6 rfl),(h_.en 7 rfl)]; rfl)) ⟨_,_,_,_,rfl,⟨[.ref 6],[.ref 7],_,_,_,_,rfl,rfl,(.inl ⟨_,rfl,(h_.en 6 rfl),rfl⟩),(.inl ⟨_,rfl,(h_.en 7 rfl),rfl⟩),rfl⟩,⟨rfl,rfl⟩,rfl⟩ (by decide) rfl rfl (h_.fr 8 rfl) (nlr rfl)) rfl) ?_
  refine zz (fun _ h_=>ac (dA 9 Qaa) rfl) ?_
  refine z_ ?_
  refine zz (fun _ h_=>ac (ZA (h_.v rfl) (h_.en 2 rfl) (h_.w rfl) (by simp only[Zc,VQ,bm,bK]; rw[(h_.en 9 rfl)]; rfl) Qlq rfl) rfl) ?_
  exact zN
  refine (?_:AC _ _ _ _ _)
  iterate 3 refine w_ ?_
  refine Qd ?_
  refine l0_ ?_
  exact Wk.of [(4,9)] rfl ⟨rfl,rfl,rfl,rfl,rfl,trivial⟩ ⟨rfl,rfl,(Qk (by rw[Q1 hx6])),trivial⟩ rfl rfl
def QhI (b:Int)(t:QL):QL:=(t.1.map fun x=>x+b,t.2.map fun x=>x+b)
end Go.Proofs.YtgpdhgadmjfokaaGreat
namespace Go.Proofs.YtgpdhgadmjfokaaGreat
open Go.RowKit
set_option maxRecDepth 100000
set_option maxHeartbeats 4000000
theorem QrC {us:List Value}(h:us.length=5):∃a0 a1 a2 a3 a4,us=[a0,a1,a2,a3,a4]:=by
  match us,h with
  | [a0,a1,a2,a3,a4],_=>exact ⟨_,_,_,_,_,rfl⟩
theorem KO {p:Prop}[Decidable p]{w:World}{e:Ending}{w':World}(h:RetB p w e w'):RetB (decide p=true) w e w':=by
  obtain ⟨b,h1,h2,h3⟩:=h
  exact ⟨b,h1,by rw[h2,aU],h3⟩
theorem Xe (s:QR)[Decidable (StgOk s)]:FC Tryz.prog 249 [(true,leaves HA s)] [] 0 (QV (lf (dB (decide (StgOk s))))):=Qd3 fun gh w vs h=>by
  obtain ⟨us,rfl,hr⟩:=h.agg1
  obtain ⟨a0,a1,a2,a3,a4,rfl⟩:=QrC hr.len
  exact (Qgr a0 a1 a2 a3 a4 s w hr).mono fun _ _ h=>KO h
def QrW (ts:List QL)(a b:Nat)(p:Int):List QL:=(ts.modify a fun t=>(t.1,t.2++[p])).modify b fun t=>(t.1++[p],t.2)
def YG (b:Bool):ByteArray:=⟨#[if b then 49 else 48]⟩
def Kg (s:QR)(o:Qs):QR:=((s.1.1+1,QrW s.1.2 o.1.toNat o.2.1.toNat s.1.1),s.2.1,s.2.2.1,s.2.2.2++YG o.2.2)
theorem QeV {ts:List QL}{i:Nat}{x:QL}(h:ts[i]? =some x):(Za Q9 ts)[i*2+1]? =some (.dat (.sl 3 .int) x.2)∧(Za Q9 ts)[i*2+0]? =some (.dat (.sl 3 .int) x.1):=
  ⟨Ky (e:=Q9) (j:=1) h rfl,Ky (e:=Q9) (j:=0) h rfl⟩
theorem Qhv {ts:List QL}{i:Nat}{x:QL}{ys:List Int}(h:ts[i]? =some x):(Za Q9 ts).set (i*2+1) (.dat (.sl 3 .int) ys)=Za Q9 (ts.set i (x.1,ys)):=
  (KB (e:=Q9) (j:=1) (x':=(x.1,ys)) h rfl (by decide)).symm
theorem QgX {ts:List QL}{i:Nat}{x:QL}{ys:List Int}(h:ts[i]? =some x):(Za Q9 ts).set (i*2+0) (.dat (.sl 3 .int) ys)=Za Q9 (ts.set i (ys,x.2)):=
  (KB (e:=Q9) (j:=0) (x':=(ys,x.2)) h rfl (by decide)).symm
theorem Qcq {s:QR}(hz:Ty.tot HA s≤2000000):s.2.2.2.size≤2000000:=by
  have:Ty.tot HA s=Ty.tot J4 s.1+((s.2.1.length+(s.2.1.map (Ty.tot YH)).sum)+((s.2.2.1.length+(s.2.2.1.map (Ty.tot JS)).sum)+s.2.2.2.size)):=rfl
  omega
theorem ZI (b:UInt8):(⟨#[b]⟩:ByteArray).size=1:=rfl
theorem Qsc {a n:Nat}(h:a < n):a*2+1 < n*2:=by omega
theorem Qr6 {a n:Nat}(h:a < n):a*2+0 < n*2:=by omega
def K1:QR:=((0,[]),[],[],ByteArray.empty)
def Qox (s:QR)[Decidable (StgOk s)]:QR×Bool:=if StgOk s then (s,true) else (K1,false)
end Go.Proofs.YtgpdhgadmjfokaaGreat
namespace Go.Proofs.YtgpdhgadmjfokaaGreat
open Go.RowKit
set_option maxRecDepth 100000
set_option maxHeartbeats 4000000
def QkP (s:QR)(o:Qs):Prop:=StgOk s∧(0≤o.1∧o.1 < s.1.2.length)∧(0≤o.2.1∧o.2.1 < s.1.2.length)∧o.1≠o.2.1
instance (s:QR) (o:Qs) [Decidable (StgOk s)]:Decidable (QkP s o):=inferInstanceAs (Decidable (_∧_))
def Qlo (s:QR)(o:Qs)[Decidable (StgOk s)][Decidable (StgOk (Kg s o))]:QR×Bool:=if QkP s o then Qox (Kg s o) else (K1,false)
def QsX (s:QR)(o:Qs)[Decidable (StgOk s)][Decidable (StgOk (Kg s o))]:QR×Bool:=if QkP s o then (Kg s o,decide (StgOk (Kg s o))) else (K1,false)
section
variable {s:QR}{o:Qs}[Decidable (StgOk s)][Decidable (StgOk (Kg s o))]
end
end Go.Proofs.YtgpdhgadmjfokaaGreat
namespace Go.Proofs.YtgpdhgadmjfokaaGreat
open Go.RowKit
set_option maxRecDepth 100000
set_option maxHeartbeats 4000000
section
variable {α:Type _}(f:α→Int→α×Int)
def Qr:List α→Int→List α×Int
  | [],k=>([],k)
  | x :: xs,k=>((f x k).1 :: (Qr xs (f x k).2).1,(Qr xs (f x k).2).2)
def mkA (a:List α)(k:Int)(i:Nat):List α:=(Qr f (a.take i) k).1++a.drop i
def mkC (a:List α)(k:Int)(i:Nat):Int:=(Qr f (a.take i) k).2
variable {f}
end
@[reducible] def fI:Int→Int→Int×Int:=fun _ k=>(k,k+1)
@[reducible] def fL:Int×Bool→Int→(Int×Bool)×Int:=fun _ k=>((k,decide ((k+1) % 3=0)),k+2)
end Go.Proofs.YtgpdhgadmjfokaaGreat
namespace Go.Proofs.YtgpdhgadmjfokaaGreat
open Go.RowKit
set_option maxRecDepth 100000
set_option maxHeartbeats 4000000
@[reducible] def fT:List Int×List Int→Int→(List Int×List Int)×Int:=fun t k=>(((Qr fI t.1 k).1,(Qr fI t.2 (Qr fI t.1 k).2).1),(Qr fI t.2 (Qr fI t.1 k).2).2)
def cT (t:List Int×List Int):Nat:=t.1.length+t.2.length
def Qtg (a:List (List Int×List Int)):Nat:=(a.map cT).sum
end Go.Proofs.YtgpdhgadmjfokaaGreat
namespace Go.Proofs.YtgpdhgadmjfokaaGreat
open Go.RowKit
set_option maxRecDepth 100000
set_option maxHeartbeats 4000000
def dg (k:Int):Nat→ByteArray
  | 0=>(⟨#[]⟩:ByteArray)
  | j+1=>(⟨#[UInt8.ofNat ((48+(k / 10 ^ j) % 10):Int).toNat]⟩:ByteArray)++dg k j
def mt (k:Int):Nat→Nat→ByteArray
  | 0,j=>dg k j
  | n+1,j=>if k / 10 ^ j≤0 then dg k j else mt k n (j+1)
def Qoh (k:Int):ByteArray:=if k≤0 then (⟨#[109,48]⟩:ByteArray) else (⟨#[109]⟩:ByteArray)++mt k 20 0
end Go.Proofs.YtgpdhgadmjfokaaGreat
namespace Go.Proofs.YtgpdhgadmjfokaaGreat
open Go.RowKit
set_option maxRecDepth 100000
set_option maxHeartbeats 4000000
@[reducible] def fS:ByteArray×Int→Int→(ByteArray×Int)×Int:=fun _ k=>((Qoh k,k+1),k+2)
def Qs0 (s:QR)(k:Int):QR×Int:=(((s.1.1,(Qr fT s.1.2 k).1),(Qr fS s.2.1 (Qr fT s.1.2 k).2).1,(Qr fL s.2.2.1 (Qr fS s.2.1 (Qr fT s.1.2 k).2).2).1,s.2.2.2),(Qr fL s.2.2.1 (Qr fS s.2.1 (Qr fT s.1.2 k).2).2).2)
end Go.Proofs.YtgpdhgadmjfokaaGreat
namespace Go.Proofs.YtgpdhgadmjfokaaGreat
open Go.RowKit
set_option maxRecDepth 100000
set_option maxHeartbeats 4000000
section
variable [∀s,Decidable (StgOk s)]
def Qp8:QR→List Qs→QR×Bool
  | s,[]=>(s,true)
  | s,o :: os=>if (Qlo s o).2=true then Qp8 (Qlo s o).1 os else (K1,false)
def Qr3 (s:QR)(l:List Qs):QR×Bool:=if StgOk s∧l.length≤6 then Qp8 s l else (K1,false)
end
@[reducible] def Qot:(Qs)→Int→(Qs)×Int:=fun _ k=>((k,k+1,decide ((k+1+1) % 3=0)),k+1+1+1)
end Go.Proofs.YtgpdhgadmjfokaaGreat
namespace Go.Proofs.YtgpdhgadmjfokaaGreat
open Go.RowKit
set_option maxRecDepth 100000
set_option maxHeartbeats 4000000
def bAt (m:ByteArray)(p:Int):UInt8:=(m[p.toNat]?).getD 0
theorem Q3 {m:ByteArray}{p:Int}{c:UInt8}(h:m[p.toNat]? =some c):bAt m p=c:=by unfold bAt; rw[h]; rfl
theorem YW (m:ByteArray):m.toList.length=m.size:=by simp[b5]
def Ze {α:Type _}(f:α→Bool)(l:List α):Int:=match l.findIdx? f with | some i=>i | none=> -1
def NoneTo {α:Type _}(f:α→Bool)(l:List α)(k:Nat):Prop:=∀j,j < k→∀x,l[j]? =some x→f x=false
section
variable {α:Type _}{f:α→Bool}{l:List α}{k:Nat}{x:α}
theorem NoneTo.zero:NoneTo f l 0:=fun j hj=>absurd hj (bc j)
theorem NoneTo.step (h:NoneTo f l k)(hx:l[k]? =some x)(hf:f x=false):NoneTo f l (k+1):=fun j hj y hy=>by
  by_cases e:j=k
  · subst e; rw[hx] at hy; cases hy; exact hf
  · exact h j (by omega) y hy
theorem NoneTo.at (h:NoneTo f l k)(hx:l[k]? =some x)(hf:f x=true):Ze f l=k:=by
  obtain ⟨h1,h2⟩:=aj.1 hx
  have:l.findIdx? f=some k:=bT.2 ⟨h1,by rw[h2]; exact hf,fun j hj=>by
    have:=h j hj _ (aa (by omega))
    simp[this]⟩
  unfold Ze
  rw[this]
theorem NoneTo.no (h:NoneTo f l k)(hk:l.length≤k):Ze f l= -1:=by
  have:l.findIdx? f=none:=cw.2 fun x hx=>by
    obtain ⟨j,hj⟩:=aM.1 hx
    have:=(aj.1 hj).1
    exact h j (by omega) x hj
  unfold Ze
  rw[this]
theorem NoneTo.any_no (h:NoneTo f l k)(hk:l.length≤k):l.any f=false:=ce.2 fun x hx=>by
  obtain ⟨j,hj⟩:=aM.1 hx
  have:=(aj.1 hj).1
  simp[h j (by omega) x hj]
theorem QlM (hx:l[k]? =some x)(hf:f x=true):l.any f=true:=bR.2 ⟨x,ao hx,hf⟩
theorem XD (f:α→Bool)(l:List α):decide (0≤Ze f l)=l.any f:=by
  unfold Ze
  cases h:l.findIdx? f with
  | none=>
    have:=cw.1 h
    rw[bu]
    simp only[bR,aU]
    constructor
    · intro h; omega
    · rintro ⟨x,hx,hf⟩; rw[this x hx] at hf; cases hf
  | some i=>
    obtain ⟨h1,h2,_⟩:=bT.1 h
    have:l.any f=true:=bR.2 ⟨_,cN h1,h2⟩
    rw[this]
    simp
def Xh (f:α→Bool)(l:List α):Nat→List Int
  | 0=>[]
  | k+1=>Xh f l k++(match l[k]? with | some x=>if f x then [(k:Int)] else [] | none=>[])
theorem Qi3 (hx:l[k]? =some x)(hf:f x=true):Xh f l k++[(k:Int)]=Xh f l (k+1):=by simp[Xh,hx,hf]
theorem QkO (hx:l[k]? =some x)(hf:f x=false):Xh f l k=Xh f l (k+1):=by simp[Xh,hx,hf]
theorem Qc7 (f:α→Bool)(l:List α)(k:Nat):(Xh f l k).length≤k:=by
  induction k with
  | zero=>simp[Xh]
  | succ k ih=>
    simp only[Xh,ak]
    split
    · split <;> simp <;> omega
    · simp; omega
theorem QjH {f:α→Bool}{l:List α}{k:Nat}{t:Int}(h:t∈Xh f l k):∃x,0≤t∧t < l.length∧t < k∧l[t.toNat]? =some x∧f x=true:=by
  induction k with
  | zero=>simp[Xh] at h
  | succ k ih=>
    simp only[Xh,aG] at h
    rcases h with h | h
    · obtain ⟨x,h1,h2,h3,h4⟩:=ih h; exact ⟨x,h1,h2,by omega,h4⟩
    · cases hx : l[k]? with
      | none=>rw[hx] at h; simp at h
      | some x=>
        rw[hx] at h
        cases hf:f x with
        | false=>simp[hf] at h
        | true=>
          simp only[hf,if_true,aC] at h
          subst h
          have:=(aj.1 hx).1
          exact ⟨x,by omega,by omega,by omega,by simpa using hx,hf⟩
theorem ZX {l:List α}{k:Nat}{x:α}(hx:l[k]? =some x):l.drop k=x :: l.drop (k+1):=by
  obtain ⟨h1,h2⟩:=aj.1 hx
  rw[List.drop_eq_getElem_cons h1,h2]
end
def Hy (m:ByteArray)(ps:List Int):Prop:=∀p∈ps,(0≤p∧p < m.size)∧(bAt m p=48∨bAt m p=49)
def enb (m:ByteArray)(t:QL):Bool:= !t.1.any fun p=>decide (bAt m p=48)
def VT (n:YD)(m:ByteArray):List Int:=Xh (enb m) n.2 n.2.length
def clr (l:List UInt8):List Int→List UInt8
  | []=>l
  | p :: ps=>clr (l.set p.toNat 48) ps
def Uu (l:List UInt8):List Int→Option (List UInt8)
  | []=>some l
  | p :: ps=>if l[p.toNat]? =some 49 then none else Uu (l.set p.toNat 49) ps
def Uk (m:ByteArray)(t:QL):ByteArray×Bool:=match Uu (clr m.toList t.1) t.2 with
  | none=>(⟨#[]⟩,false)
  | some l=>(⟨l.toArray⟩,true)
def Z1 (n:YD)(m:ByteArray)(t:Int):ByteArray×Bool:=match n.2[t.toNat]? with
  | none=>(⟨#[]⟩,false)
  | some x=>Uk m x
def QsH (n:YD)(m:ByteArray)(t:Int):ByteArray×Bool:=if 0≤t then (match n.2[t.toNat]? with
  | none=>(⟨#[]⟩,false)
  | some x=>if enb m x then Uk m x else (⟨#[]⟩,false)) else (⟨#[]⟩,false)
section
variable {n:YD}{m:ByteArray}{t:Int}{x:QL}{l:List UInt8}{ps:List Int}{k:Nat}{p:Int}
theorem QlW (hx:ps[k]? =some p):clr l (ps.drop k)=clr (l.set p.toNat 48) (ps.drop (k+1)):=by rw[ZX hx,clr]
theorem Qnn (h:ps.length≤k):clr l (ps.drop k)=l:=by rw[bz h,clr]
theorem QjX (hx:ps[k]? =some p){c:UInt8}(hc:l[p.toNat]? =some c)(hn:decide (c=49)=false):Uu l (ps.drop k)=Uu (l.set p.toNat 49) (ps.drop (k+1)):=by
  rw[ZX hx,Uu,if_neg]
  rw[hc]
  intro h
  cases h
  simp at hn
theorem QiT (hx:ps[k]? =some p){c:UInt8}(hc:l[p.toNat]? =some c)(hn:decide (c=49)=true):Uu l (ps.drop k)=none:=by
  rw[ZX hx,Uu,if_pos]
  rw[hc,ae hn]
theorem Qeq (h:ps.length≤k):Uu l (ps.drop k)=some l:=by rw[bz h,Uu]
theorem QnR (l:List UInt8)(ps:List Int):(clr l ps).length=l.length:=by
  induction ps generalizing l with
  | nil=>rfl
  | cons p ps ih=>rw[clr,ih,aA]
theorem QcY (h:Uu (clr m.toList x.1) x.2=none):Uk m x=(⟨#[]⟩,false):=by unfold Uk; rw[h]
theorem QbM (h:Uu (clr m.toList x.1) x.2=some l):Uk m x=(⟨l.toArray⟩,true):=by unfold Uk; rw[h]
theorem Qaj (hx:n.2[t.toNat]? =some x):Z1 n m t=Uk m x:=by unfold Z1; rw[hx]
def Hi (n:YD)(m:ByteArray)(t:Int):Bool:=match n.2[t.toNat]? with
  | some x=>enb m x
  | none=>false
theorem Qam (hx:n.2[t.toNat]? =some x):Hi n m t=enb m x:=by unfold Hi; rw[hx]
theorem QlD (h:Hy m x.1):enb m x=true↔∀p∈x.1,bAt m p=49:=by
  unfold enb
  simp only[bG,ce,aU]
  constructor
  · intro k p hp
    rcases (h p hp).2 with h1 | h1
    · exact absurd h1 (k p hp)
    · exact h1
  · intro k p hp h1
    rw[k p hp] at h1
    exact absurd h1 (by decide)
theorem QfQ {c:UInt8}(hA:∀j,j < k→∀y,ps[j]? =some y→bAt m y=49)(hx:ps[k]? =some p)(hc:m[p.toNat]? =some c)(hb:(!decide (c=49))=false):∀j,j < k+1→∀y,ps[j]? =some y→bAt m y=49:=fun j hj y hy=>by
  by_cases e:j=k
  · subst e; rw [hx] at hy; cases hy
    rw[Q3 hc]
    simpa using hb
  · exact hA j (by omega) y hy
theorem Qmy {c:UInt8}(hn:n.2[t.toNat]? =some x)(hp:Hy m x.1)(hx:x.1[k]? =some p)(hc:m[p.toNat]? =some c)(hb:(!decide (c=49))=true):Hi n m t=false:=by
  rw[Qam hn,cj]
  intro h
  have:=(QlD hp).1 h p (ao hx)
  rw[Q3 hc] at this
  simp[this] at hb
theorem Qi7 (hn:n.2[t.toNat]? =some x)(hp:Hy m x.1)(hA:∀j,j < k→∀y,x.1[j]? =some y→bAt m y=49)(hk:x.1.length≤k):Hi n m t=true:=by
  rw[Qam hn]
  refine (QlD hp).2 fun p h=> ?_
  obtain ⟨j,hj⟩:=aM.1 h
  have:=(aj.1 hj).1
  exact hA j (by omega) p hj
theorem Qbe (hk:k < n.2.length)(h:Hi n m (k:Int)=true):Xh (enb m) n.2 k++[(k:Int)]=Xh (enb m) n.2 (k+1):=by
  have hx:=aa hk
  rw[Qam (t:=(k:Int)) (show n.2[((k:Int)).toNat]? =some _ from hx)] at h
  exact Qi3 hx h
theorem QcK (hk:k < n.2.length)(h:Hi n m (k:Int)=false):Xh (enb m) n.2 k=Xh (enb m) n.2 (k+1):=by
  have hx:=aa hk
  rw[Qam (t:=(k:Int)) (show n.2[((k:Int)).toNat]? =some _ from hx)] at h
  exact QkO hx h
end
theorem QbV (n:Int×(List (List Int×List Int)))(mark:ByteArray)(t:Int)(hnb:∀t∈n.2,Hy mark t.1∧Hy mark t.2)(ht:0≤t∧t < (n.2.length:Int)):FC Tryz.prog 358 [(true,[dI n.1, .dat (.sl 245 (.pr (.sl 3 .int) (.sl 3 .int))) n.2]),(false,[dS mark]),(false,[dI t])] [] 0 (QV (PV.tup [(false,[dS ((Z1 n mark t).1)]),(false,[dB ((Z1 n mark t).2)])])):=by
 have hml:=YW mark
 refine Qj Tryz.func358 rfl rfl Tryz.ntmps358 fun O_ hO w0_ N0_ X_ h0_ f0_=> ?_
 refine acG 0 0 fun hi1=> ?_
 refine acI 2 fun hi2=> ?_
 refine w_ ?_
 refine xbx 0 ?_
 iterate 5 refine w_ ?_
 refine lc (QdW 1 (Qa rfl) QT Ut Qfk rfl (Fresh.of rfl) (nlr rfl)) ?_
 iterate 7 refine w_ ?_
 obtain ⟨x,hx4⟩:∃z,n.2[(t).toNat]? =some z:=⟨_,aa (by omega)⟩
 have hx1:=(hnb _ (ao hx4)).1
 have hx2:=(hnb _ (ao hx4)).2
 iterate 3 refine w_ ?_
 refine alL 20 fun hl5=> ?_
 iterate 4 refine w_ ?_
 refine QF (fun m_ s_=>∃(k:Nat) (l:List UInt8),k≤x.1.length∧m_=x.1.length - k∧(clr mark.toList x.1=clr l (x.1.drop k))∧(l.length=mark.toList.length)∧s_=⟨[(2,lI t),(3,lP 0 0),(6,lf (dS (⟨#[]⟩:ByteArray))),(7,lB false),(8,lR 2),(20,lf (.dat (.sl 3 .int) x.1)),(21,lI (x.1.length:Int)),(22,lI (k:Int))],[bx 0 59 [dI n.1, .dat (.sl 245 (.pr (.sl 3 .int) (.sl 3 .int))) n.2],(2,some (.bys 5 l))]⟩) ⟨0,mark.toList,aT _,rfl,rfl,rfl,rfl⟩ ?_ ?_
 · exact Wk.of [(2,1)] rfl ⟨rfl,rfl,rfl,rfl,rfl,rfl,rfl,rfl,trivial⟩ ⟨rfl,rfl,trivial⟩ rfl rfl
 rintro m_ s_ ⟨k,l,hk6,hm7,hA,hL,rfl⟩
 iterate 4 refine w_ ?_
 cases hb8:(decide ((k:Int) < (x.1.length:Int)))
 ·have hb8':=ab hb8
  refine w_ ?_
  refine Qi ?_
  refine (?_:AC _ _ _ _ _)
  iterate 8 refine w_ ?_
  refine alL 35 fun hl9=> ?_
  iterate 4 refine w_ ?_
  refine QF (fun m_ s_=>∃(i:Nat) (l2:List UInt8),i≤x.2.length∧m_=x.2.length - i∧(Uu (clr mark.toList x.1) x.2=Uu l2 (x.2.drop i))∧(l2.length=mark.toList.length)∧s_=⟨[(8,lR 3),(35,lf (.dat (.sl 3 .int) x.2)),(36,lI (x.2.length:Int)),(37,lI (i:Int))],[(3,some (.bys 5 l2))]⟩) ⟨0,l,aT _,rfl,by rw[hA,Qnn (by omega)]; rfl,hL,rfl⟩ ?_ ?_
  · exact Wk.of [(3,2)] rfl ⟨rfl,rfl,rfl,rfl,trivial⟩ ⟨rfl,trivial⟩ rfl rfl
  rintro m_ s_ ⟨i,l2,hk10,hm11,hA2,hL2,rfl⟩
  iterate 4 refine w_ ?_
  cases hb12:(decide ((i:Int) < (x.2.length:Int)))
  ·have hb12':=ab hb12
   refine w_ ?_
   refine Qi ?_
   refine (?_:AC _ _ _ _ _)
   iterate 2 refine w_ ?_
   refine lc (VC (ys:=l2) (QlF (Qa rfl) rfl) Ut Qfk QT rfl) ?_
   iterate 3 refine w_ ?_
   refine Qb ?_
   have e13:((⟨(l2).toArray⟩:ByteArray):ByteArray)=((Z1 n mark t).1):=by
    first | (rw[Qaj (x:=x) (by assumption),QbM (hA2.trans (Qeq (by omega)))]; done)
   have e14:(true:Bool)=((Z1 n mark t).2):=by
    first | (rw[Qaj (x:=x) (by assumption),QbM (hA2.trans (Qeq (by omega)))]; done)
   exact fr_ hO (e:=((congrArg (fun z_=>PV.tup [(false,[dS z_]),(false,[dB true])]) e13)).trans (congrArg (fun z_=>PV.tup [(false,[dS ((Z1 n mark t).1)]),(false,[dB z_])]) e14))
  ·have hb12':=ae hb12
   iterate 5 refine w_ ?_
   obtain ⟨x15,hx16⟩:∃z,x.2[i]? =some z:=⟨_,aa (by omega)⟩
   have hrx15:=(hx2 _ (ao hx16)).1
   iterate 2 refine w_ ?_
   refine alI 40 fun hi17=> ?_
   iterate 6 refine w_ ?_
   refine lc (V9 (Qa rfl) rfl (Qa rfl) Ut YA rfl (by omega) (by first | omega | (simp only[aA]; omega))) ?_
   obtain ⟨x18,hx19⟩:∃z,l2[(x15).toNat]? =some z:=⟨_,aa (by omega)⟩
   refine lc (QfR (Qa rfl) rfl hx19 YA rfl)<|lc (Zz (Qa rfl) (QM 49 rfl) rfl) ?_
   refine w_ ?_
   cases hb20:(decide (x18=49))
   ·have hb20':=ab hb20
    iterate 5 refine w_ ?_
    refine lc (V9 (Qa rfl) rfl (Qa rfl) Ut YA rfl (by omega) (by first | omega | (simp only[aA]; omega)))<|lc (Hd (Qa rfl) rfl (by first | omega | (simp only[aA]; omega)) (QM 49 rfl) YA)<|Qd ?_
    refine (?_:AC _ _ _ _ _)
    iterate 3 refine w_ ?_
    refine Qd<|Q8 ⟨i+1,(l2.set ((x15).toNat) 49),by omega,rfl,hA2.trans (QjX hx16 hx19 (by assumption)),by rw[aA]; exact hL2,rfl⟩ (by omega) ?_
    exact Wk.of [] rfl ⟨rfl,rfl,rfl,rfl,trivial⟩ ⟨(Qq0 (by first | rfl | simp)),trivial⟩ rfl rfl
   ·have hb20':=ae hb20
    iterate 5 refine w_ ?_
    refine Qb ?_
    have e21:((⟨#[]⟩:ByteArray):ByteArray)=((Z1 n mark t).1):=by
     (rw[Qaj (x:=x) (by assumption),QcY (hA2.trans (QiT hx16 hx19 (by assumption)))]; done)
    have e22:(false:Bool)=((Z1 n mark t).2):=by
     (rw[Qaj (x:=x) (by assumption),QcY (hA2.trans (QiT hx16 hx19 (by assumption)))]; done)
    exact fr_ hO (e:=((congrArg (fun z_=>PV.tup [(false,[dS z_]),(false,[dB false])]) e21)).trans (congrArg (fun z_=>PV.tup [(false,[dS ((Z1 n mark t).1)]),(false,[dB z_])]) e22))
 ·have hb8':=ae hb8
  iterate 5 refine w_ ?_
  obtain ⟨x23,hx24⟩:∃z,x.1[k]? =some z:=⟨_,aa (by omega)⟩
  have hrx23:=(hx1 _ (ao hx24)).1
  iterate 2 refine w_ ?_
  refine alI 25 fun hi25=> ?_
  iterate 5 refine w_ ?_
  refine lc (V9 (Qa rfl) rfl (Qa rfl) Ut YA rfl (by omega) (by first | omega | (simp only[aA]; omega)))<|lc (Hd (Qa rfl) rfl (by first | omega | (simp only[aA]; omega)) (QM 48 rfl) YA)<|Qd ?_
  refine (?_:AC _ _ _ _ _)
  iterate 3 refine w_ ?_
  refine Qd<|Q8 ⟨k+1,(l.set ((x23).toNat) 48),by omega,rfl,hA.trans (QlW hx24),by rw[aA]; exact hL,rfl⟩ (by omega) ?_
  exact Wk.of [] rfl ⟨rfl,rfl,rfl,rfl,rfl,rfl,rfl,rfl,trivial⟩ ⟨rfl,(Qq0 (by first | rfl | simp)),trivial⟩ rfl rfl
theorem Hx (n:Int×(List (List Int×List Int)))(mark:ByteArray)(t:Int)(hnb:∀t∈n.2,Hy mark t.1∧Hy mark t.2)(ht:0≤t∧t < (n.2.length:Int)):FC Tryz.prog 360 [(true,[dI n.1, .dat (.sl 245 (.pr (.sl 3 .int) (.sl 3 .int))) n.2]),(false,[dS mark]),(false,[dI t])] [] 0 (QV (lB (Hi n mark t))):=by
 refine Qj Tryz.func360 rfl rfl Tryz.ntmps360 fun O_ hO w0_ N0_ X_ h0_ f0_=> ?_
 refine acG 0 0 fun hi1=> ?_
 refine acI 2 fun hi2=> ?_
 refine w_ ?_
 refine xbx 0 ?_
 iterate 7 refine w_ ?_
 obtain ⟨x,hx4⟩:∃z,n.2[(t).toNat]? =some z:=⟨_,aa (by omega)⟩
 have hx1:=(hnb _ (ao hx4)).1
 iterate 3 refine w_ ?_
 refine alL 14 fun hl5=> ?_
 iterate 4 refine w_ ?_
 refine lpK x.1.length (fun k=>∀j,j < k→∀y,x.1[j]? =some y→bAt mark y=49) (fun k=>⟨[(1,lf (dS mark)),(14,lf (.dat (.sl 3 .int) x.1)),(15,lI (x.1.length:Int)),(16,lI (k:Int))],[]⟩) (fun j hj=>absurd hj (bc j)) ?_ fun k hk6 hA=> ?_
 · exact Wk.of [] rfl ⟨rfl,rfl,rfl,rfl,trivial⟩ trivial rfl rfl
 iterate 4 refine w_ ?_
 cases hb7:(decide ((k:Int) < (x.1.length:Int)))
 ·have hb7':=ab hb7
  refine w_ ?_
  refine Qi ?_
  refine (?_:AC _ _ _ _ _)
  iterate 3 refine w_ ?_
  refine Qb<|fqB hO ?_
  first | exact (Qi7 (by assumption) hx1 hA (by omega)).symm
 ·have hb7':=ae hb7
  iterate 5 refine w_ ?_
  obtain ⟨x8,hx9⟩:∃z,x.1[k]? =some z:=⟨_,aa (by omega)⟩
  have hrx8:=(hx1 _ (ao hx9)).1
  iterate 2 refine w_ ?_
  refine alI 19 fun hi10=> ?_
  iterate 5 refine w_ ?_
  obtain ⟨c11,hc12⟩:∃z,mark[(x8).toNat]? =some z:=⟨_,b6 _ _ (by omega)⟩
  refine w_ ?_
  refine lc (QH (Qa rfl) (QM 49 rfl) rfl) ?_
  refine w_ ?_
  cases hb13:(!decide (c11=49))
  ·have hb13':(c11=49):=QA hb13
   refine w_ ?_
   refine AC.skip ?_
   refine (?_:AC _ _ _ _ _)
   iterate 3 refine w_ ?_
   refine Qd ?_
   refine lK_ (QfQ hA hx9 (by assumption) (by assumption)) ?_
   exact Wk.of [] rfl ⟨rfl,rfl,rfl,rfl,trivial⟩ trivial rfl rfl
  ·have hb13':¬(c11=49):=QP hb13
   iterate 4 refine w_ ?_
   refine Qb<|fqB hO ?_
   exact (Qmy (by assumption) hx1 hx9 (by assumption) (by assumption)).symm
theorem KN (n:Int×(List (List Int×List Int)))(mark:ByteArray)(hnb:∀t∈n.2,Hy mark t.1∧Hy mark t.2)(hnl:n.2.length≤2000000):FC Tryz.prog 251 [(true,[dI n.1, .dat (.sl 245 (.pr (.sl 3 .int) (.sl 3 .int))) n.2]),(false,[dS mark])] [] 0 (Wy 3 .int (VT n mark)):=by
 refine Qj Tryz.func251 rfl rfl Tryz.ntmps251 fun O_ hO w0_ N0_ X_ h0_ f0_=> ?_
 refine acG 0 0 fun hi1=> ?_
 refine w_ ?_
 refine xbx 0 ?_
 iterate 9 refine w_ ?_
 refine alL 8 fun hl2=> ?_
 iterate 4 refine w_ ?_
 refine AC.wk (Wk.nilS 1 5 3 .int rfl (Fresh.of rfl) (nlr rfl)) ?_
 refine lp0 n.2.length (fun k=>⟨[(1,lf (dS mark)),(2,lP 0 0),(4,lf (.val (.slice none 0 0))),(5,lR 2),(9,lI (n.2.length:Int)),(10,lI (k:Int))],[bx 0 59 [dI n.1, .dat (.sl 245 (.pr (.sl 3 .int) (.sl 3 .int))) n.2],ar 2 3 .int (Xh (enb mark) n.2 k)]⟩) ?_ fun k hk3=> ?_
 · exact Wk.of [(2,1)] rfl ⟨rfl,rfl,rfl,rfl,rfl,rfl,trivial⟩ ⟨rfl,(Qk (by first | rfl | simp)),trivial⟩ rfl rfl
 have hpk:=Qc7 (enb mark) n.2 k
 iterate 4 refine w_ ?_
 cases hb4:(decide ((k:Int) < (n.2.length:Int)))
 ·have hb4':=ab hb4
  refine w_ ?_
  refine Qi ?_
  refine (?_:AC _ _ _ _ _)
  iterate 4 refine w_ ?_
  refine Qb<|fo_ hO ?_
  rw[show k=n.2.length by omega]; rfl
 ·have hb4':=ae hb4
  iterate 12 refine w_ ?_
  refine lc (dK (Hx n mark (k:Int) hnb (by omega)) Qhi) ?_
  refine w_ ?_
  cases hb5:(Hi n mark (k:Int))
  ·refine w_ ?_
   refine AC.skip ?_
   refine (?_:AC _ _ _ _ _)
   iterate 3 refine w_ ?_
   refine Qd ?_
   refine l0_ ?_
   exact Wk.of [] rfl ⟨rfl,rfl,rfl,rfl,rfl,rfl,trivial⟩ ⟨rfl,(Qk (by first | exact Qbe (by omega) (by assumption) | exact QcK (by omega) (by assumption))),trivial⟩ rfl rfl
  ·iterate 4 refine w_ ?_
   refine lc (dBs 3 (e:= .int) XI) ?_
   refine lc (dA 4 Wf) ?_
   refine w_ ?_
   refine Qd ?_
   refine (?_:AC _ _ _ _ _)
   iterate 3 refine w_ ?_
   refine Qd ?_
   refine l0_ ?_
   exact Wk.of [(2,4)] rfl ⟨rfl,rfl,rfl,rfl,rfl,rfl,trivial⟩ ⟨rfl,(Qk (by first | exact Qbe (by omega) (by assumption) | exact QcK (by omega) (by assumption))),trivial⟩ rfl rfl
end Go.Proofs.YtgpdhgadmjfokaaGreat
