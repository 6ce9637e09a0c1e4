/- Sorted lists without repetition: put in one by one, or sorted and made compact. Plain lists; no program is named here. -/
import Derived.Test.YtfkmmpfdncopdaaGreatAv
import Derived.Sort.OwnSorted
import Derived.Shelf.Sort.AssemblysIn
import Derived.Shelf.Lays
import Derived.Shelf.Slices.In.SortNone
import Derived.Test.YtfkmmpfdncopdaaGreatAf
import Derived.Test.YtfkmmpfdncopdaaGreatAi
import Derived.Test.YtfkmmpfdncopdaaGreatApp
import Derived.Test.YtfkmmpfdncopdaaGreatAk
import Derived.Test.YtfkmmpfdncopdaaGreatStr
import Derived.Test.YtfkmmpfdncopdaaGreatProg
import Derived.KernelRfl
import Derived.Test.YtfkmmpfdncopdaaGreatAl
set_option linter.unusedSimpArgs false
set_option linter.unusedVariables false
set_option linter.unusedSectionVars false
namespace Go.Proofs.YtfkmmpfdncopdaaGreat
structure TO {α:Type _} (lt:α→α→Bool):Prop where
  irr:∀x,lt x x=false
  tr:∀x y z,lt x y=true→lt y z=true→lt x z=true
  tot:∀x y,lt x y=true∨x=y∨lt y x=true
def Q2 {α:Type _}[DecidableEq α](lt:α→α→Bool)(x:α):List α→List α
  | []=>[x]
  | y :: l=>if lt y x=true then y :: Q2 lt x l else if y=x then y :: l else x :: y :: l
def Zz {α:Type _}[DecidableEq α]:List α→List α
  | []=>[]
  | [x]=>[x]
  | x :: y :: l=>if x=y then Zz (y :: l) else x :: Zz (y :: l)
def ofG {α:Type _}[DecidableEq α](lt:α→α→Bool)(l:List α):List α:=l.foldl (fun s x=>Q2 lt x s) []
section
variable {α:Type _}[DecidableEq α]{lt:α→α→Bool}{l a b:List α}{x y z:α}{k:Nat}
omit [DecidableEq α] in
theorem TO.ext (h:TO lt):∀{a b:List α},a.Pairwise (fun x y=>lt x y=true)→b.Pairwise (fun x y=>lt x y=true)→(∀x,x∈a↔x∈b)→a=b
  | [],[],_,_,_=>rfl
  | [],y :: b,_,_,hm=>by have:=(hm y).2 (ay ..); cases this
  | x :: a,[],_,_,hm=>by have:=(hm x).1 (ay ..); cases this
  | x :: a,y :: b,ha,hb,hm=>by
    obtain ⟨a1,a2⟩:=bi.1 ha
    obtain ⟨b1,b2⟩:=bi.1 hb
    have hxy:x=y:=by
      rcases aC.1 ((hm x).1 (ay ..)) with h1 | h1
      · exact h1
      · rcases aC.1 ((hm y).2 (ay ..)) with h2 | h2
        · exact h2.symm
        · have := h.tr _ _ _ (a1 _ h2) (b1 _ h1)
          rw[h.irr] at this; cases this
    subst hxy
    congr 1
    refine h.ext a2 b2 fun z=>⟨fun hz=> ?_,fun hz=> ?_⟩
    · rcases aC.1 ((hm z).1 (ax _ hz)) with h1 | h1
      · subst h1; have:=a1 _ hz; rw[h.irr] at this; cases this
      · exact h1
    · rcases aC.1 ((hm z).2 (ax _ hz)) with h1 | h1
      · subst h1; have:=b1 _ hz; rw[h.irr] at this; cases this
      · exact h1
theorem Yp:z∈Q2 lt x l↔z=x∨z∈l:=by
  induction l with
  | nil=>simp[Q2]
  | cons y l ih=>
    unfold Q2
    split
    · rw [aC, ih, aC]
      constructor
      · rintro (h | h | h)
        · exact .inr (.inl h)
        · exact .inl h
        · exact .inr (.inr h)
      · rintro (h | h | h)
        · exact .inr (.inl h)
        · exact .inl h
        · exact .inr (.inr h)
    · split
      · rename_i h; subst h
        rw[aC]
        exact ⟨fun h=>h.elim .inl fun h=> .inr (.inr h),fun h=>h.elim .inl id⟩
      · rw[aC]
theorem V5 (h:TO lt)(hl:l.Pairwise (fun x y=>lt x y=true)):(Q2 lt x l).Pairwise (fun x y=>lt x y=true):=by
  induction l with
  | nil=>simp[Q2]
  | cons y l ih=>
    obtain ⟨h1,h2⟩:=bi.1 hl
    unfold Q2
    split
    · rename_i hy
      refine bi.2 ⟨fun z hz=> ?_,ih h2⟩
      rcases Yp.1 hz with rfl | hz
      · exact hy
      · exact h1 z hz
    · split
      · exact hl
      · rename_i hy hne
        have hxy:lt x y=true:=by
          rcases h.tot x y with h3 | h3 | h3
          · exact h3
          · exact absurd h3.symm hne
          · exact absurd h3 hy
        refine bi.2 ⟨fun z hz=> ?_,hl⟩
        rcases aC.1 hz with rfl | hz
        · exact hxy
        · exact h.tr _ _ _ hxy (h1 z hz)
theorem QaE (h:TO lt):∀(l s:List α),s.Pairwise (fun x y=>lt x y=true)→(l.foldl (fun s x=>Q2 lt x s) s).Pairwise (fun x y=>lt x y=true)∧∀z,z∈l.foldl (fun s x=>Q2 lt x s) s↔z∈s∨z∈l
  | [],s,hs=>⟨hs,fun z=>by simp⟩
  | x :: l,s,hs=>by
    obtain ⟨h1,h2⟩:=QaE h l _ (V5 (x:=x) h hs)
    refine ⟨h1,fun z=> ?_⟩
    rw[bq,h2,Yp,aC]
    constructor
    · rintro ((h | h) | h)
      · exact .inr (.inl h)
      · exact .inl h
      · exact .inr (.inr h)
    · rintro (h | h | h)
      · exact .inl (.inr h)
      · exact .inl (.inl h)
      · exact .inr h
theorem QY (h:TO lt)(l:List α):(ofG lt l).Pairwise (fun x y=>lt x y=true):=(QaE h l [] bW).1
theorem UN (h:TO lt)(l:List α):z∈ofG lt l↔z∈l:=by
  have:=(QaE h l [] bW).2 z
  simpa [ofG] using this
theorem Qkd:Q2 lt x (ofG lt l)=ofG lt (l++[x]):=by unfold ofG; rw[List.foldl_append]; rfl
theorem K7:∀{l:List α},z∈Zz l↔z∈l
  | []=>Iff.rfl
  | [x]=>Iff.rfl
  | x :: y :: l=>by
    unfold Zz
    split
    · rename_i h; subst h
      rw[K7]
      exact ⟨ax _,fun h=>(aC.1 h).elim (fun h=>by rw[h]; exact ay ..) id⟩
    · rw[aC,K7,aC (l:=y :: l)]
theorem Qbo (h:TO lt):∀{l:List α},l.Pairwise (fun x y=>lt y x=false)→(Zz l).Pairwise (fun x y=>lt x y=true)
  | [],_=>bW
  | [x],_=>by simp[Zz]
  | x :: y :: l,hl=>by
    obtain ⟨h1,h2⟩:=bi.1 hl
    unfold Zz
    split
    · exact Qbo h h2
    · rename_i hne
      refine bi.2 ⟨fun z hz=> ?_,Qbo h h2⟩
      rw[K7] at hz
      rcases h.tot x z with h3 | h3 | h3
      · exact h3
      · subst h3
        rcases aC.1 hz with h4 | h4
        · exact absurd h4 hne
        · have h5 := h1 y (ay ..)
          have h6:=(bi.1 h2).1 x h4
          rcases h.tot x y with h7 | h7 | h7
          · rw[h6] at h7; cases h7
          · exact absurd h7 hne
          · rw[h5] at h7; cases h7
      · have:=h1 z hz; rw[this] at h3; cases h3
theorem Ql8 (h:TO lt){s l:List α}(hs:s.Pairwise (fun x y=>lt y x=false))(hm:∀z,z∈s↔z∈l):Zz s=ofG lt l:=
  h.ext (Qbo h hs) (QY h l) fun z=>by rw[K7,hm,UN h]
theorem QdQ:∀{k:Nat} {l:List α},(∀j,j < k→∀y,l[j]? =some y→lt y x=true)→k≤l.length→(∀y,l[k]? =some y→lt y x=false∧y≠x)→Q2 lt x l=l.take k++x :: l.drop k
  | 0,[],_,_,_=>rfl
  | 0,y :: l,_,_,h2=>by
    obtain ⟨h3,h4⟩:=h2 y rfl
    unfold Q2
    rw[if_neg (by rw[h3]; decide),if_neg h4]; rfl
  | k+1,[],_,hk,_=>by simp at hk
  | k+1,y :: l,h1,hk,h2=>by
    unfold Q2
    rw[if_pos (h1 0 (by omega) y rfl),QdQ (k:=k) (fun j hj z hz=>h1 (j+1) (by omega) z (by simpa using hz)) (by simpa using hk) (fun z hz=>h2 z (by simpa using hz))]
    rfl
theorem JA:∀{k:Nat} {l:List α},(∀j,j < k→∀y,l[j]? =some y→lt y x=true)→l[k]? =some x→lt x x=false→Q2 lt x l=l
  | 0,[],_,h,_=>by simp at h
  | 0,y :: l,_,h,h3=>by
    simp only[bK,bk] at h
    subst h
    unfold Q2
    rw[if_neg (by rw[h3]; decide),if_pos rfl]
  | k+1,[],_,h,_=>by simp at h
  | k+1,y :: l,h1,h,h3=>by
    unfold Q2
    rw[if_pos (h1 0 (by omega) y rfl),JA (k:=k) (fun j hj z hz=>h1 (j+1) (by omega) z (by simpa using hz)) (by simpa using h) h3]
end
def ltI (x y:Int):Bool:=decide (x < y)
theorem Wq:TO ltI:=⟨fun x=>by simp[ltI],fun x y z h1 h2=>by simp only[ltI,aT] at*; omega,fun x y=>by simp only[ltI,aT]; omega⟩
end Go.Proofs.YtfkmmpfdncopdaaGreat
namespace Go.Proofs.YtfkmmpfdncopdaaGreat
open Go.RowKit
def ltB (x y:ByteArray):Bool:=Op.bytesLess x.toList y.toList
def fB (x:ByteArray):List UInt8:=x.data.toList
theorem QoO {x y:ByteArray}(h:fB x=fB y):x=y:=by
  cases x; cases y
  exact congrArg _ (Array.toList_inj.1 h)
theorem QnD:∀(x y:List UInt8),Op.bytesLess x y=decide (x < y)
  | [],[]=>by simp[Op.bytesLess]
  | _ :: _,[]=>by simp[Op.bytesLess]
  | [],_ :: _=>by simp[Op.bytesLess]
  | a :: x,b :: y=>by
    rw[Op.bytesLess,QnD x y]
    simp only[List.cons_lt_cons_iff]
    by_cases h1:a < b <;> by_cases h2:a=b <;> by_cases h3:x < y <;> simp[h1,h2,h3]
theorem Qai (x y:ByteArray):ltB x y=decide (fB x < fB y):=by unfold ltB; rw[aZ,aZ,QnD]; rfl
theorem QZ:TO ltB:=⟨fun x=>by rw[Qai]; simp[List.lt_irrefl],fun x y z h1 h2=>by rw[Qai,aT] at*; exact List.lt_trans h1 h2,fun x y=>by
  rw[Qai,Qai,aT,aT]
  by_cases h1:fB x < fB y
  · exact .inl h1
  · by_cases h2 : fB y < fB x
    · exact .inr (.inr h2)
    · exact .inr (.inl (QoO (List.le_antisymm (List.not_lt.1 h2) (List.not_lt.1 h1))))⟩
def Z5 (xs:List ByteArray):List ByteArray:=xs.mergeSort fun x y=> !ltB y x
theorem Kq (xs:List ByteArray):(Z5 xs).Perm xs:=List.mergeSort_perm ..
theorem Jy (xs:List ByteArray):(Z5 xs).length=xs.length:=(Kq xs).length_eq
theorem Qda (xs:List ByteArray):(Z5 xs).Pairwise fun x y=>ltB y x=false:=by
  have h:=List.pairwise_mergeSort (le:=fun x y:ByteArray=> !ltB y x) (fun a b c h1 h2=>by
    simp only[bD] at*
    cases e:ltB c a with
    | false=>rfl
    | true=>
      rcases QZ.tot a b with k | rfl | k
      · rw[QZ.tr _ _ _ e k] at h2; cases h2
      · rw[e] at h2; cases h2
      · rw[k] at h1; cases h1) (fun a b=>by
    cases e:ltB b a with
    | false=>rfl
    | true=>
      cases k:ltB a b with
      | false=>rfl
      | true=>have:=QZ.tr _ _ _ e k; rw[QZ.irr] at this; cases this) xs
  exact h.imp fun h=>by simpa using h
theorem QjG (xs:List ByteArray):(Z5 xs).map fB=(xs.map fB).mergeSort fun x y=>decide (x≤y):=
  List.map_mergeSort fun a _ b _=>by
    rw[Qai]
    by_cases h:fB b < fB a
    · have : ¬ fB a ≤ fB b := fun k => List.not_lt.2 k h
      simp[h,this]
    · have := List.not_lt.1 h
      simp[h,this]
theorem Qlc (x:ByteArray):encStr (fB x)= .string x:=by cases x; simp[encStr,fB]
theorem QcH {w:World}:∀{xs:List ByteArray} {fp:List Nat} {cs:List Value},OwnL (Own .str w) fp cs xs→fp=[]∧cs=(xs.map fB).map encStr∧∀x∈xs,x.size≤maxLen
  | [],fp,cs,h=>⟨h.1,h.2,fun x hx=>by cases hx⟩
  | x :: xs,fp,cs,h=>by
    obtain ⟨f1,f2,l,r,rfl,rfl,⟨rfl,rfl,h1⟩,h2⟩:=h
    obtain ⟨rfl,rfl,h3⟩:=QcH h2
    exact ⟨rfl,by rw[bg,bg,Qlc]; rfl,fun y hy=>by rcases aC.1 hy with rfl | hy; exact h1; exact h3 y hy⟩
theorem Qe4 {w:World}:∀{xs:List ByteArray},(∀x∈xs,x.size≤maxLen)→OwnL (Own .str w) [] ((xs.map fB).map encStr) xs
  | [],_=>⟨rfl,rfl⟩
  | x :: xs,h=>⟨[],[],[.string x],(xs.map fB).map encStr,rfl,by rw[bg,bg,Qlc]; rfl,⟨rfl,rfl,h x (ay ..)⟩,Qe4 fun y hy=>h y (ax _ hy)⟩
def QlE (P:Program)(f:FuncId):Prop:=∀(blk cap:Nat) (zs:List ByteArray) (w:World),Sort.Holds encStr w blk 0 (zs.map fB).toArray→blk < w.heap.size→zs.length < 4611686018427387904→
  Calls P f #[.slice (some ⟨blk,0,none⟩) zs.length cap] w fun e w'=>e= .returned (.tuple #[])∧∃n os,w'=Sort.grow (Sort.putRow encStr (Sort.ahead w n) blk 0 ((Z5 zs).map fB).toArray) os
theorem QlK {P:Program}{f:FuncId}{E:TypeId}(hS:QlE P f)(hN:QeO P f)(xs:List ByteArray)(hl:xs.length≤1000000000):FC P f [(false,[.ref 0])] [(0,some (.arr E .str xs))] 1 (Is (.tup []) [(0,some (.arr E .str (Z5 xs)))]):=fun gh w vs cx ha=>by
  obtain ⟨v,vs',rfl,⟨l,hl_,h1⟩,rfl⟩:=ha
  simp only[aI,and_true] at hl_
  subst hl_
  have hv:v=gh.h 0:=h1 ⟨_,rfl⟩
  subst hv
  have hO:Own (.sl E .str) w (gh.f 0) [gh.h 0] xs:=cx.en 0 _ rfl
  have alq:∀(y:List ByteArray) q,Tab.al [(0,some (Ent.arr E .str y))] q→q=0:=fun y q ⟨e,he⟩=>by
    rw[Qg] at he
    split at he
    · assumption
    · cases he
  rcases hO with ⟨hf,hc,hx⟩ | ⟨g,cap,cur,fps,hf,hc,hb,hn,hcap,hsz,hL⟩
  · simp only [aI, and_true] at hc
    subst hx
    rw[hc]
    refine Calls.mono (hN w) fun e w' he=> ?_
    obtain ⟨rfl,h2⟩:=he
    refine ⟨_,_,_,gh,rfl,⟨rfl,rfl⟩,⟨fun q e he=> ?_,fun q q' hq hq' hne=>absurd ((alq _ q hq).trans (alq _ q' hq').symm) hne,fun q hq=> ?_,fun q hq g hg=> ?_,fun g hg=>be (cx.nl g hg) h2.size⟩,⟨[],rfl,rfl⟩,
      ⟨h2.grw,fun g hg _=>Below.block h2 g hg,fun g hg=> .inl hg,fun q hq g hg=> ?_⟩,fun q _ _=>rfl⟩
    · rw [Qg] at he
      split at he
      · rename_i e0; subst e0; cases he
        exact .inl ⟨hf,by rw[hc],by simp[Z5]⟩
      · cases he
    · rw[alq _ q hq,hf]; exact bJ
    · rw[alq _ q hq,hf] at hg; cases hg
    · rw[alq _ q hq,hf] at hg; cases hg
  · simp only [aI, and_true] at hc
    rw[cP] at hL
    obtain ⟨rfl,ht,hr⟩:=QcH hL
    have hg:g < w.heap.size:=(bL.1 hb).1
    rw[hc]
    have hm:xs.length≤9223372036854775807:=by unfold maxLen at hcap; omega
    refine Calls.mono (hS g cap xs w (holds_of_block hb (by rw[aQ]; exact ht)) hg (by omega)) fun e w' he=> ?_
    obtain ⟨rfl,n,os,rfl⟩:=he
    obtain ⟨k1,k2,k3,k4,k5⟩:=grownBy_sorted (w:=w) (g:=g) (n:=n) (os:=os) ((Z5 xs).map fB).toArray
    have hlen:=Jy xs
    refine ⟨_,_,_,gh,rfl,⟨rfl,rfl⟩,⟨fun q e he=> ?_,fun q q' hq hq' hne=>absurd ((alq _ q hq).trans (alq _ q' hq').symm) hne,fun q hq=> ?_,fun q hq g' hg'=> ?_,fun g' hg'=>be (cx.nl g' hg') k4⟩,⟨[],rfl,rfl⟩,
      ⟨⟨k1,k2,k3,k4⟩,fun g' h1 h2=> ?_,fun g' h1=> .inl h1,fun q hq g' hg'=> ?_⟩,fun q _ _=>rfl⟩
    · rw [Qg] at he
      split at he
      · rename_i e0; subst e0; cases he
        refine .inr ⟨g,cap,_,[],hf,by rw[hc,hlen],heap_sorted _ hb,by omega,hcap,by simpa [Sort.putCells] using hsz, ?_⟩
        show OwnL (Own .str _) [] (List.take ((Z5 xs).length*1) _) (Z5 xs)
        have ht2:=take_putCells cur ((Z5 xs).map fB) (by rw[aQ]; have:cur.size=cap*1:=hsz; omega)
        rw[aQ] at ht2
        rw[cP,ht2]
        exact Qe4 fun x hx=>hr x ((Kq xs).mem_iff.1 hx)
      · cases he
    · rw[alq _ q hq]; exact cx.nd 0 ⟨_,rfl⟩
    · rw[alq _ q hq] at hg'; exact cx.no 0 ⟨_,rfl⟩ g' hg'
    · exact k5 g' h1 fun e0=>h2 0 ⟨_,rfl⟩ (by rw[hf]; cases e0; exact ay ..)
    · rw[alq _ q hq] at hg'; exact .inr ⟨0,⟨_,rfl⟩,hg'⟩
end Go.Proofs.YtfkmmpfdncopdaaGreat
namespace Go.Proofs.YtfkmmpfdncopdaaGreat
open Go.RowKit
def Qjx:Go.Shelf.Ren:=⟨fun | 190=>150 | 125=>240 | 258=>239 | 128=>302 | 129=>303 | 302=>293 | 303=>294 | 304=>295 | 305=>296 | 306=>297 | 307=>298 | 308=>299 | 309=>300 | 310=>301 | 333=>348 | 329=>349 | 330=>350 | 334=>351 | 335=>352 | 336=>353 | 344=>376 | n=>n,fun | 31=>25 | 9=>9 | 3=>3 | 46=>252 | 0=>0 | 51=>314 | 53=>91 | 4=>4 | 183=>308 | 182=>307 | 131=>66 | 5=>5 | 218=>341 | 222=>345 | 228=>360 | 229=>361 | n=>n,fun | n=>n⟩
theorem QnP:Go.Proofs.Lays.n190 Tryz.prog Qjx:={
  mixed:=by kernel_rfl,
  f125:=Tryz.func240.trans (congrArg some (by kernel_rfl)),
  f128:=Tryz.func302.trans (congrArg some (by kernel_rfl)),
  f129:=Tryz.func303.trans (congrArg some (by kernel_rfl)),
  f190:=Tryz.func150.trans (congrArg some (by kernel_rfl)),
  f258:=Tryz.func239.trans (congrArg some (by kernel_rfl)),
  f302:=Tryz.func293.trans (congrArg some (by kernel_rfl)),
  f303:=Tryz.func294.trans (congrArg some (by kernel_rfl)),
  f304:=Tryz.func295.trans (congrArg some (by kernel_rfl)),
  f305:=Tryz.func296.trans (congrArg some (by kernel_rfl)),
  f306:=Tryz.func297.trans (congrArg some (by kernel_rfl)),
  f307:=Tryz.func298.trans (congrArg some (by kernel_rfl)),
  f308:=Tryz.func299.trans (congrArg some (by kernel_rfl)),
  f309:=Tryz.func300.trans (congrArg some (by kernel_rfl)),
  f310:=Tryz.func301.trans (congrArg some (by kernel_rfl)),
  f329:=Tryz.func349.trans (congrArg some (by kernel_rfl)),
  f330:=Tryz.func350.trans (congrArg some (by kernel_rfl)),
  f333:=Tryz.func348.trans (congrArg some (by kernel_rfl)),
  f334:=Tryz.func351.trans (congrArg some (by kernel_rfl)),
  f335:=Tryz.func352.trans (congrArg some (by kernel_rfl)),
  f336:=Tryz.func353.trans (congrArg some (by kernel_rfl)),
  f344:=Tryz.func376.trans (congrArg some (by kernel_rfl)),
  t0:=Tryz.underlying0,
  a0:=Tryz.isAgg0,
  z0:=Tryz.sizeOf0,
  v0:=Tryz.zeroValue0,
  t3:=Tryz.underlying3,
  a3:=Tryz.isAgg3,
  z3:=Tryz.sizeOf3,
  v3:=Tryz.zeroValue3,
  t4:=Tryz.underlying4,
  a4:=Tryz.isAgg4,
  z4:=Tryz.sizeOf4,
  v4:=Tryz.zeroValue4,
  t5:=Tryz.underlying5,
  a5:=Tryz.isAgg5,
  z5:=Tryz.sizeOf5,
  v5:=Tryz.zeroValue5,
  t9:=Tryz.underlying9,
  a9:=Tryz.isAgg9,
  z9:=Tryz.sizeOf9,
  v9:=Tryz.zeroValue9,
  t31:=Tryz.underlying25,
  a31:=Tryz.isAgg25,
  z31:=Tryz.sizeOf25,
  v31:=Tryz.zeroValue25,
  t46:=Tryz.underlying252,
  a46:=Tryz.isAgg252,
  z46:=Tryz.sizeOf252,
  v46:=Tryz.zeroValue252,
  t51:=Tryz.underlying314,
  a51:=Tryz.isAgg314,
  z51:=Tryz.sizeOf314,
  v51:=Tryz.zeroValue314,
  t53:=Tryz.underlying91,
  a53:=Tryz.isAgg91,
  z53:=Tryz.sizeOf91,
  v53:=Tryz.zeroValue91,
  t131:=Tryz.underlying66,
  a131:=Tryz.isAgg66,
  z131:=Tryz.sizeOf66,
  v131:=Tryz.zeroValue66,
  t182:=Tryz.underlying307,
  a182:=Tryz.isAgg307,
  z182:=Tryz.sizeOf307,
  v182:=Tryz.zeroValue307,
  t183:=Tryz.underlying308,
  a183:=Tryz.isAgg308,
  z183:=Tryz.sizeOf308,
  v183:=Tryz.zeroValue308,
  t218:=Tryz.underlying341,
  a218:=Tryz.isAgg341,
  z218:=Tryz.sizeOf341,
  v218:=Tryz.zeroValue341,
  t222:=Tryz.underlying345,
  a222:=Tryz.isAgg345,
  z222:=Tryz.sizeOf345,
  v222:=Tryz.zeroValue345,
  t228:=Tryz.underlying360,
  a228:=Tryz.isAgg360,
  z228:=Tryz.sizeOf360,
  v228:=Tryz.zeroValue360,
  t229:=Tryz.underlying361,
  a229:=Tryz.isAgg361,
  z229:=Tryz.sizeOf361,
  v229:=Tryz.zeroValue361}
theorem QoY:QlE Tryz.prog 150:=fun blk cap zs w hH hb hl=>by
  have h:=calls_of_every_depth fun D=>AnyS.slices_Sort_string_in QnP D blk 0 cap (zs.map fB) w hH hb (by rw[aQ]; exact hl)
  rw[aQ,← QjG] at h
  exact h
theorem QjM:QeO Tryz.prog 150:=fun w=>Calls.mono (Any.slices_Sort_string_none QnP none 0 w) fun _ _ ⟨h1,h2⟩=>⟨h1,h2▸QL _⟩
theorem Qej (l:List ByteArray)(hl:l.length≤1000000000):FC Tryz.prog 150 [(false,[.ref 0])] [(0,some (.arr 9 .str l))] 1 (Is (.tup []) [(0,some (.arr 9 .str (Z5 l)))]):=QlK QoY QjM l hl
end Go.Proofs.YtfkmmpfdncopdaaGreat
namespace Go.Proofs.YtfkmmpfdncopdaaGreat
open Go.RowKit
set_option maxRecDepth 100000
set_option maxHeartbeats 4000000
theorem QX (n:Int)(low:Int)(high:Int):FC Tryz.prog 94 [(false,[dI n]),(false,[dI low]),(false,[dI high])] [] 0 (QU (lB (decide (low≤n∧n≤high)))):=by
 refine Qj Tryz.func94 rfl rfl Tryz.ntmps94 fun O_ hO w0_ N0_ X_ h0_ f0_=> ?_
 refine acI 0 fun hi1=> ?_
 refine acI 1 fun hi2=> ?_
 refine acI 2 fun hi3=> ?_
 iterate 8 refine w_ ?_
 cases hb4:(decide (low≤n))
 ·have hb4':=ab hb4
  iterate 6 refine w_ ?_
  refine Qb<|fqB hO ?_
  (rw[bP]; simp; omega)
 ·have hb4':=ae hb4
  iterate 6 refine w_ ?_
  refine Qb<|fqB hO ?_
  (simp_all; done)
theorem Z7 (n:Int)(lo:Int)(hi:Int):FC Tryz.prog 132 [(false,[dI n]),(false,[dI lo]),(false,[dI hi])] [] 0 (QU (lB (decide (lo≤n∧n≤hi)))):=by
 refine Qj Tryz.func132 rfl rfl Tryz.ntmps132 fun O_ hO w0_ N0_ X_ h0_ f0_=> ?_
 refine acI 0 fun hi1=> ?_
 refine acI 1 fun hi2=> ?_
 refine acI 2 fun hi3=> ?_
 iterate 8 refine w_ ?_
 cases hb4:(decide (lo≤n))
 ·have hb4':=ab hb4
  iterate 6 refine w_ ?_
  refine Qb<|fqB hO ?_
  (rw[bP]; simp; omega)
 ·have hb4':=ae hb4
  iterate 6 refine w_ ?_
  refine Qb<|fqB hO ?_
  (simp_all; done)
theorem U1 (l:List Int)(hl:l.length≤2000000):FC Tryz.prog 287 [(false,[.dat (.sl 3 .int) l])] [] 0 (Wv 3 .int l):=by
 refine Qj Tryz.func287 rfl rfl Tryz.ntmps287 fun O_ hO w0_ N0_ X_ h0_ f0_=> ?_
 iterate 4 refine w_ ?_
 refine lc (dBs 0 (e:= .int) Xy) ?_
 refine w_ ?_
 refine lc (Zh 1 (Qa rfl) rfl (Evl.rep (Qa rfl)) rfl Xg Wo (by first | omega | (simp only[ak,aQ,ap,aq,aD]; omega) | (simp only[ak,bh,ap,aq,aD]; omega)) rfl (Fresh.of rfl) (nlr rfl)) ?_
 iterate 2 refine w_ ?_
 refine Qb<|fo_ hO ?_
 rfl
theorem Qm7 {α:Type _}(f:α→Nat){xs:List α}{x:α}(h:x∈xs):f x≤(xs.map f).sum:=by
  induction xs with
  | nil=>cases h
  | cons y ys ih=>
    simp only[bg,List.sum_cons]
    rcases aC.1 h with rfl | h
    · omega
    · have:=ih h; omega
theorem QmD {n:YM}(hz:Ty.tot JI n≤2000000):n.2.length≤2000000:=by
  have:Ty.tot JI n=0+(n.2.length+(n.2.map (Ty.tot Q7)).sum):=rfl
  omega
theorem QcE {s:Zk}(hz:Ty.tot Hj s≤2000000):Ty.tot JI s.1≤2000000∧s.2.1.length≤2000000∧s.2.2.1.length≤2000000:=by
  have:Ty.tot Hj s=Ty.tot JI s.1+((s.2.1.length+(s.2.1.map (Ty.tot YF)).sum)+((s.2.2.1.length+(s.2.2.1.map (Ty.tot Qc4)).sum)+s.2.2.2.size)):=rfl
  omega
theorem QjJ {n:YM}(hz:Ty.tot JI n≤2000000):∀t∈n.2,t.1.length≤2000000∧t.2.length≤2000000:=fun t ht=>by
  have h1:Ty.tot JI n=0+(n.2.length+(n.2.map (Ty.tot Q7)).sum):=rfl
  have h2:=Qm7 (Ty.tot Q7) ht
  have h3:Ty.tot Q7 t=(t.1.length+(t.1.map (Ty.tot .int)).sum)+(t.2.length+(t.2.map (Ty.tot .int)).sum):=rfl
  omega
theorem QaP (n:Int×(List (List Int×List Int)))(hz:Ty.tot JI n≤2000000):FC Tryz.prog 377 [(true,[dI n.1, .dat (.sl 237 (.pr (.sl 3 .int) (.sl 3 .int))) n.2])] [] 0 (Is (ag [dI n.1, .ref 0]) [ar 0 237 (.pr (.sl 3 .int) (.sl 3 .int)) n.2]):=by
 have hm:=QmD hz
 have hp:=QjJ hz
 refine Qj Tryz.func377 rfl rfl Tryz.ntmps377 fun O_ hO w0_ N0_ X_ h0_ f0_=> ?_
 refine acG 0 0 fun hi1=> ?_
 refine w_ ?_
 refine xbx 0 ?_
 refine lc (xal 1 (.pr .int (.sl 237 (.pr (.sl 3 .int) (.sl 3 .int)))) JE) ?_
 iterate 4 refine w_ ?_
 refine lc (Qn Qc0 ⟨_,_,rfl,(Qm rfl),rfl⟩ (aw.1 rfl) rfl rfl)<|lc (xal 2 (.pr .int (.sl 237 (.pr (.sl 3 .int) (.sl 3 .int)))) JE) ?_
 iterate 6 refine w_ ?_
 refine alL 10 fun hl2=> ?_
 iterate 4 refine w_ ?_
 refine AC.wk (QB 3 (p:=2) (off:=1) 237 (.pr (.sl 3 .int) (.sl 3 .int)) rfl rfl (Fresh.of rfl) (nlr rfl)) ?_
 refine lp0 n.2.length (fun k=>⟨[(2,lP 1 0),(3,lP 2 0),(10,lf (.dat (.sl 237 (.pr (.sl 3 .int) (.sl 3 .int))) n.2)),(11,lI (n.2.length:Int)),(12,lI (k:Int))],[bx 1 80 [dI 0, .val (.slice none 0 0)],bx 2 80 [dI n.1, .ref 4],ar 4 237 (.pr (.sl 3 .int) (.sl 3 .int)) (n.2.take k)]⟩) ?_ fun k hk3=> ?_
 · exact Wk.of [(4,3)] rfl ⟨rfl,rfl,rfl,rfl,rfl,trivial⟩ ⟨rfl,rfl,(Qk (by first | rfl | simp)),trivial⟩ rfl rfl
 iterate 4 refine w_ ?_
 cases hb4:(decide ((k:Int) < (n.2.length:Int)))
 ·have hb4':=ab hb4
  refine w_ ?_
  refine Qi ?_
  refine (?_:AC _ _ _ _ _)
  iterate 4 refine w_ ?_
  refine Qb ?_
  exact fi_ [(0,4)] hO ⟨(Qk (by rw[ZG (by omega)])),trivial⟩
 ·have hb4':=ae hb4
  iterate 5 refine w_ ?_
  obtain ⟨x5,hx6⟩:∃z,n.2[k]? =some z:=⟨_,aa (by omega)⟩
  iterate 2 refine w_ ?_
  refine lc (xal 5 (.pr (.sl 3 .int) (.sl 3 .int)) Vp) ?_
  iterate 2 refine w_ ?_
  apply dV (i4 16 _ _ _ _ [⟨some 20,lR 6,[ar 6 3 .int x5.1]⟩,io 21 (lP 5 1),io 22 (lf (.dat (.sl 3 .int) x5.2)),⟨some 23,lR 7,[ar 7 3 .int x5.2]⟩,io 24 (ag [.ref 6, .ref 7]),⟨some 25,lR 8,[ar 8 237 (.pr (.sl 3 .int) (.sl 3 .int)) ([(x5.1,x5.2)]),(6,none),(7,none)]⟩,⟨some 26,lR 9,[ar 9 237 (.pr (.sl 3 .int) (.sl 3 .int)) ((n.2.take k)++([(x5.1,x5.2)])),(4,none),(8,none)]⟩,io 27 _,⟨none,lf (.val undef),[bx 2 80 [dI n.1, .ref 9]]⟩]) [0,0,3,3,3,31,31,3,3,3,0,0,0]
  iterate 4 refine z_ ?_
  refine zz (fun _ h_=>ac (dO 6 (U1 x5.1 (by have:=hp _ (ao ‹_›); omega)) QaN) rfl) ?_
  iterate 2 refine z_ ?_
  refine zz (fun _ h_=>ac (dO 7 (U1 x5.2 (by have:=hp _ (ao ‹_›); omega)) QaN) rfl) ?_
  refine zz (fun _ h_=>ac (Qn H4 ⟨_,_,rfl,(h_.w rfl),⟨_,_,rfl,(h_.w rfl),rfl⟩⟩ (aw.1 (by simp only[Q9,VM,bm,bI]; rw[(h_.en 6 rfl),(h_.en 7 rfl)]; rfl)) rfl rfl) rfl)<|zz (fun _ h_=>ac (XO 8 (e:=(.pr (.sl 3 .int) (.sl 3 .int))) JW UO Vp rfl ⟨_,_,rfl,(h_.w rfl),rfl⟩ (aw.1 (by simp only[Q9,VM,bm,bI]; rw[(h_.en 6 rfl),(h_.en 7 rfl)]; rfl)) ⟨_,_,_,_,rfl,⟨[.ref 6],[.ref 7],_,_,_,_,rfl,rfl,(.inl ⟨_,rfl,(h_.en 6 rfl),rfl⟩),(.inl ⟨_,rfl,(h_.en 7 rfl),rfl⟩),rfl⟩,⟨rfl,rfl⟩,rfl⟩ (by decide) rfl rfl (h_.fr 8 rfl) (nlr rfl)) rfl) ?_
  refine zz (fun _ h_=>ac (dA 9 H7) rfl) ?_
  refine z_ ?_
  refine zz (fun _ h_=>ac (Zy (h_.v rfl) (h_.en 2 rfl) (h_.w rfl) (by simp only[Q9,VM,bm,bI]; rw[(h_.en 9 rfl)]; rfl) Qj1 rfl) rfl) ?_
  exact zN
  refine (?_:AC _ _ _ _ _)
  iterate 3 refine w_ ?_
  refine Qd ?_
  refine l0_ ?_
  exact Wk.of [(4,9)] rfl ⟨rfl,rfl,rfl,rfl,rfl,trivial⟩ ⟨rfl,rfl,(Qk (by rw[Q0 hx6])),trivial⟩ rfl rfl
def Qfo (b:Int)(t:QO):QO:=(t.1.map fun x=>x+b,t.2.map fun x=>x+b)
end Go.Proofs.YtfkmmpfdncopdaaGreat
namespace Go.Proofs.YtfkmmpfdncopdaaGreat
open Go.RowKit
set_option maxRecDepth 100000
set_option maxHeartbeats 4000000
theorem QqR {us:List Value}(h:us.length=5):∃a0 a1 a2 a3 a4,us=[a0,a1,a2,a3,a4]:=by
  match us,h with
  | [a0,a1,a2,a3,a4],_=>exact ⟨_,_,_,_,_,rfl⟩
theorem KP {p:Prop}[Decidable p]{w:World}{e:Ending}{w':World}(h:RetB p w e w'):RetB (decide p=true) w e w':=by
  obtain ⟨b,h1,h2,h3⟩:=h
  exact ⟨b,h1,by rw[h2,aT],h3⟩
theorem Xd (s:Zk)[Decidable (StgOk s)]:FC Tryz.prog 141 [(true,leaves Hj s)] [] 0 (QU (lf (dB (decide (StgOk s))))):=QdS fun gh w vs h=>by
  obtain ⟨us,rfl,hr⟩:=h.agg1
  obtain ⟨a0,a1,a2,a3,a4,rfl⟩:=QqR hr.len
  exact (Qf4 a0 a1 a2 a3 a4 s w hr).mono fun _ _ h=>KP h
def Qre (ts:List QO)(a b:Nat)(p:Int):List QO:=(ts.modify a fun t=>(t.1,t.2++[p])).modify b fun t=>(t.1++[p],t.2)
def Yv (b:Bool):ByteArray:=⟨#[if b then 49 else 48]⟩
def JY (s:Zk)(o:Yq):Zk:=((s.1.1+1,Qre s.1.2 o.1.toNat o.2.1.toNat s.1.1),s.2.1,s.2.2.1,s.2.2.2++Yv o.2.2)
theorem Qec {ts:List QO}{i:Nat}{x:QO}(h:ts[i]? =some x):(Q8 Q7 ts)[i*2+1]? =some (.dat (.sl 3 .int) x.2)∧(Q8 Q7 ts)[i*2+0]? =some (.dat (.sl 3 .int) x.1):=
  ⟨Ko (e:=Q7) (j:=1) h rfl,Ko (e:=Q7) (j:=0) h rfl⟩
theorem QgK {ts:List QO}{i:Nat}{x:QO}{ys:List Int}(h:ts[i]? =some x):(Q8 Q7 ts).set (i*2+1) (.dat (.sl 3 .int) ys)=Q8 Q7 (ts.set i (x.1,ys)):=
  (Ku (e:=Q7) (j:=1) (x':=(x.1,ys)) h rfl (by decide)).symm
theorem QfF {ts:List QO}{i:Nat}{x:QO}{ys:List Int}(h:ts[i]? =some x):(Q8 Q7 ts).set (i*2+0) (.dat (.sl 3 .int) ys)=Q8 Q7 (ts.set i (ys,x.2)):=
  (Ku (e:=Q7) (j:=0) (x':=(ys,x.2)) h rfl (by decide)).symm
theorem QcU {s:Zk}(hz:Ty.tot Hj s≤2000000):s.2.2.2.size≤2000000:=by
  have:Ty.tot Hj s=Ty.tot JI s.1+((s.2.1.length+(s.2.1.map (Ty.tot YF)).sum)+((s.2.2.1.length+(s.2.2.1.map (Ty.tot Qc4)).sum)+s.2.2.2.size)):=rfl
  omega
theorem ZB (b:UInt8):(⟨#[b]⟩:ByteArray).size=1:=rfl
theorem Qq6 {a n:Nat}(h:a < n):a*2+1 < n*2:=by omega
theorem QqP {a n:Nat}(h:a < n):a*2+0 < n*2:=by omega
def K3:Zk:=((0,[]),[],[],ByteArray.empty)
def Qoz (s:Zk)[Decidable (StgOk s)]:Zk×Bool:=if StgOk s then (s,true) else (K3,false)
end Go.Proofs.YtfkmmpfdncopdaaGreat
namespace Go.Proofs.YtfkmmpfdncopdaaGreat
open Go.RowKit
set_option maxRecDepth 100000
set_option maxHeartbeats 4000000
def QjT (s:Zk)(o:Yq):Prop:=StgOk s∧(0≤o.1∧o.1 < s.1.2.length)∧(0≤o.2.1∧o.2.1 < s.1.2.length)∧o.1≠o.2.1
instance (s:Zk) (o:Yq) [Decidable (StgOk s)]:Decidable (QjT s o):=inferInstanceAs (Decidable (_∧_))
def Qpk (s:Zk)(o:Yq)[Decidable (StgOk s)][Decidable (StgOk (JY s o))]:Zk×Bool:=if QjT s o then Qoz (JY s o) else (K3,false)
def QrE (s:Zk)(o:Yq)[Decidable (StgOk s)][Decidable (StgOk (JY s o))]:Zk×Bool:=if QjT s o then (JY s o,decide (StgOk (JY s o))) else (K3,false)
section
variable {s:Zk}{o:Yq}[Decidable (StgOk s)][Decidable (StgOk (JY s o))]
end
end Go.Proofs.YtfkmmpfdncopdaaGreat
namespace Go.Proofs.YtfkmmpfdncopdaaGreat
open Go.RowKit
set_option maxRecDepth 100000
set_option maxHeartbeats 4000000
section
variable {α:Type _}(f:α→Int→α×Int)
def Qt:List α→Int→List α×Int
  | [],k=>([],k)
  | x :: xs,k=>((f x k).1 :: (Qt xs (f x k).2).1,(Qt xs (f x k).2).2)
def mkA (a:List α)(k:Int)(i:Nat):List α:=(Qt f (a.take i) k).1++a.drop i
def mkC (a:List α)(k:Int)(i:Nat):Int:=(Qt f (a.take i) k).2
variable {f}
end
@[reducible] def fI:Int→Int→Int×Int:=fun _ k=>(k,k+1)
@[reducible] def fL:Int×Bool→Int→(Int×Bool)×Int:=fun _ k=>((k,decide ((k+1) % 3=0)),k+2)
end Go.Proofs.YtfkmmpfdncopdaaGreat
namespace Go.Proofs.YtfkmmpfdncopdaaGreat
open Go.RowKit
set_option maxRecDepth 100000
set_option maxHeartbeats 4000000
@[reducible] def fT:List Int×List Int→Int→(List Int×List Int)×Int:=fun t k=>(((Qt fI t.1 k).1,(Qt fI t.2 (Qt fI t.1 k).2).1),(Qt fI t.2 (Qt fI t.1 k).2).2)
def cT (t:List Int×List Int):Nat:=t.1.length+t.2.length
def QrH (a:List (List Int×List Int)):Nat:=(a.map cT).sum
end Go.Proofs.YtfkmmpfdncopdaaGreat
namespace Go.Proofs.YtfkmmpfdncopdaaGreat
open Go.RowKit
set_option maxRecDepth 100000
set_option maxHeartbeats 4000000
def dg (k:Int):Nat→ByteArray
  | 0=>(⟨#[]⟩:ByteArray)
  | j+1=>(⟨#[UInt8.ofNat ((48+(k / 10 ^ j) % 10):Int).toNat]⟩:ByteArray)++dg k j
def mt (k:Int):Nat→Nat→ByteArray
  | 0,j=>dg k j
  | n+1,j=>if k / 10 ^ j≤0 then dg k j else mt k n (j+1)
def QpJ (k:Int):ByteArray:=if k≤0 then (⟨#[109,48]⟩:ByteArray) else (⟨#[109]⟩:ByteArray)++mt k 20 0
end Go.Proofs.YtfkmmpfdncopdaaGreat
namespace Go.Proofs.YtfkmmpfdncopdaaGreat
open Go.RowKit
set_option maxRecDepth 100000
set_option maxHeartbeats 4000000
@[reducible] def fS:ByteArray×Int→Int→(ByteArray×Int)×Int:=fun _ k=>((QpJ k,k+1),k+2)
def QrQ (s:Zk)(k:Int):Zk×Int:=(((s.1.1,(Qt fT s.1.2 k).1),(Qt fS s.2.1 (Qt fT s.1.2 k).2).1,(Qt fL s.2.2.1 (Qt fS s.2.1 (Qt fT s.1.2 k).2).2).1,s.2.2.2),(Qt fL s.2.2.1 (Qt fS s.2.1 (Qt fT s.1.2 k).2).2).2)
end Go.Proofs.YtfkmmpfdncopdaaGreat
namespace Go.Proofs.YtfkmmpfdncopdaaGreat
open Go.RowKit
set_option maxRecDepth 100000
set_option maxHeartbeats 4000000
section
variable [∀s,Decidable (StgOk s)]
def Qpq:Zk→List Yq→Zk×Bool
  | s,[]=>(s,true)
  | s,o :: os=>if (Qpk s o).2=true then Qpq (Qpk s o).1 os else (K3,false)
def QqJ (s:Zk)(l:List Yq):Zk×Bool:=if StgOk s∧l.length≤6 then Qpq s l else (K3,false)
end
@[reducible] def Qo3:(Yq)→Int→(Yq)×Int:=fun _ k=>((k,k+1,decide ((k+1+1) % 3=0)),k+1+1+1)
end Go.Proofs.YtfkmmpfdncopdaaGreat
namespace Go.Proofs.YtfkmmpfdncopdaaGreat
open Go.RowKit
set_option maxRecDepth 100000
set_option maxHeartbeats 4000000
def bAt (m:ByteArray)(p:Int):UInt8:=(m[p.toNat]?).getD 0
theorem Q3 {m:ByteArray}{p:Int}{c:UInt8}(h:m[p.toNat]? =some c):bAt m p=c:=by unfold bAt; rw[h]; rfl
theorem YV (m:ByteArray):m.toList.length=m.size:=by simp[aZ]
def Zb {α:Type _}(f:α→Bool)(l:List α):Int:=match l.findIdx? f with | some i=>i | none=> -1
def NoneTo {α:Type _}(f:α→Bool)(l:List α)(k:Nat):Prop:=∀j,j < k→∀x,l[j]? =some x→f x=false
section
variable {α:Type _}{f:α→Bool}{l:List α}{k:Nat}{x:α}
theorem NoneTo.zero:NoneTo f l 0:=fun j hj=>absurd hj (bc j)
theorem NoneTo.step (h:NoneTo f l k)(hx:l[k]? =some x)(hf:f x=false):NoneTo f l (k+1):=fun j hj y hy=>by
  by_cases e:j=k
  · subst e; rw[hx] at hy; cases hy; exact hf
  · exact h j (by omega) y hy
theorem NoneTo.at (h:NoneTo f l k)(hx:l[k]? =some x)(hf:f x=true):Zb f l=k:=by
  obtain ⟨h1,h2⟩:=aj.1 hx
  have:l.findIdx? f=some k:=bT.2 ⟨h1,by rw[h2]; exact hf,fun j hj=>by
    have:=h j hj _ (aa (by omega))
    simp[this]⟩
  unfold Zb
  rw[this]
theorem NoneTo.no (h:NoneTo f l k)(hk:l.length≤k):Zb f l= -1:=by
  have:l.findIdx? f=none:=cu.2 fun x hx=>by
    obtain ⟨j,hj⟩:=aM.1 hx
    have:=(aj.1 hj).1
    exact h j (by omega) x hj
  unfold Zb
  rw[this]
theorem NoneTo.any_no (h:NoneTo f l k)(hk:l.length≤k):l.any f=false:=cc.2 fun x hx=>by
  obtain ⟨j,hj⟩:=aM.1 hx
  have:=(aj.1 hj).1
  simp[h j (by omega) x hj]
theorem Qle (hx:l[k]? =some x)(hf:f x=true):l.any f=true:=bR.2 ⟨x,ao hx,hf⟩
theorem Xz (f:α→Bool)(l:List α):decide (0≤Zb f l)=l.any f:=by
  unfold Zb
  cases h:l.findIdx? f with
  | none=>
    have:=cu.1 h
    rw[bP]
    simp only[bR,aT]
    constructor
    · intro h; omega
    · rintro ⟨x,hx,hf⟩; rw[this x hx] at hf; cases hf
  | some i=>
    obtain ⟨h1,h2,_⟩:=bT.1 h
    have:l.any f=true:=bR.2 ⟨_,cN h1,h2⟩
    rw[this]
    simp
def Xc (f:α→Bool)(l:List α):Nat→List Int
  | 0=>[]
  | k+1=>Xc f l k++(match l[k]? with | some x=>if f x then [(k:Int)] else [] | none=>[])
theorem QiV (hx:l[k]? =some x)(hf:f x=true):Xc f l k++[(k:Int)]=Xc f l (k+1):=by simp[Xc,hx,hf]
theorem QlR (hx:l[k]? =some x)(hf:f x=false):Xc f l k=Xc f l (k+1):=by simp[Xc,hx,hf]
theorem Qcz (f:α→Bool)(l:List α)(k:Nat):(Xc f l k).length≤k:=by
  induction k with
  | zero=>simp[Xc]
  | succ k ih=>
    simp only[Xc,ak]
    split
    · split <;> simp <;> omega
    · simp; omega
theorem QjO {f:α→Bool}{l:List α}{k:Nat}{t:Int}(h:t∈Xc f l k):∃x,0≤t∧t < l.length∧t < k∧l[t.toNat]? =some x∧f x=true:=by
  induction k with
  | zero=>simp[Xc] at h
  | succ k ih=>
    simp only[Xc,aH] at h
    rcases h with h | h
    · obtain ⟨x,h1,h2,h3,h4⟩:=ih h; exact ⟨x,h1,h2,by omega,h4⟩
    · cases hx : l[k]? with
      | none=>rw[hx] at h; simp at h
      | some x=>
        rw[hx] at h
        cases hf:f x with
        | false=>simp[hf] at h
        | true=>
          simp only[hf,if_true,aE] at h
          subst h
          have:=(aj.1 hx).1
          exact ⟨x,by omega,by omega,by omega,by simpa using hx,hf⟩
theorem ZU {l:List α}{k:Nat}{x:α}(hx:l[k]? =some x):l.drop k=x :: l.drop (k+1):=by
  obtain ⟨h1,h2⟩:=aj.1 hx
  rw[List.drop_eq_getElem_cons h1,h2]
end
def Hv (m:ByteArray)(ps:List Int):Prop:=∀p∈ps,(0≤p∧p < m.size)∧(bAt m p=48∨bAt m p=49)
def enb (m:ByteArray)(t:QO):Bool:= !t.1.any fun p=>decide (bAt m p=48)
def VK (n:YM)(m:ByteArray):List Int:=Xc (enb m) n.2 n.2.length
def clr (l:List UInt8):List Int→List UInt8
  | []=>l
  | p :: ps=>clr (l.set p.toNat 48) ps
def Ui (l:List UInt8):List Int→Option (List UInt8)
  | []=>some l
  | p :: ps=>if l[p.toNat]? =some 49 then none else Ui (l.set p.toNat 49) ps
def Um (m:ByteArray)(t:QO):ByteArray×Bool:=match Ui (clr m.toList t.1) t.2 with
  | none=>(⟨#[]⟩,false)
  | some l=>(⟨l.toArray⟩,true)
def ZX (n:YM)(m:ByteArray)(t:Int):ByteArray×Bool:=match n.2[t.toNat]? with
  | none=>(⟨#[]⟩,false)
  | some x=>Um m x
def Qrr (n:YM)(m:ByteArray)(t:Int):ByteArray×Bool:=if 0≤t then (match n.2[t.toNat]? with
  | none=>(⟨#[]⟩,false)
  | some x=>if enb m x then Um m x else (⟨#[]⟩,false)) else (⟨#[]⟩,false)
section
variable {n:YM}{m:ByteArray}{t:Int}{x:QO}{l:List UInt8}{ps:List Int}{k:Nat}{p:Int}
theorem Qls (hx:ps[k]? =some p):clr l (ps.drop k)=clr (l.set p.toNat 48) (ps.drop (k+1)):=by rw[ZU hx,clr]
theorem Qnc (h:ps.length≤k):clr l (ps.drop k)=l:=by rw[bw h,clr]
theorem Qjh (hx:ps[k]? =some p){c:UInt8}(hc:l[p.toNat]? =some c)(hn:decide (c=49)=false):Ui l (ps.drop k)=Ui (l.set p.toNat 49) (ps.drop (k+1)):=by
  rw[ZU hx,Ui,if_neg]
  rw[hc]
  intro h
  cases h
  simp at hn
theorem Qhu (hx:ps[k]? =some p){c:UInt8}(hc:l[p.toNat]? =some c)(hn:decide (c=49)=true):Ui l (ps.drop k)=none:=by
  rw[ZU hx,Ui,if_pos]
  rw[hc,ae hn]
theorem Qfb (h:ps.length≤k):Ui l (ps.drop k)=some l:=by rw[bw h,Ui]
theorem Qmj (l:List UInt8)(ps:List Int):(clr l ps).length=l.length:=by
  induction ps generalizing l with
  | nil=>rfl
  | cons p ps ih=>rw[clr,ih,aA]
theorem QbP (h:Ui (clr m.toList x.1) x.2=none):Um m x=(⟨#[]⟩,false):=by unfold Um; rw[h]
theorem Qbl (h:Ui (clr m.toList x.1) x.2=some l):Um m x=(⟨l.toArray⟩,true):=by unfold Um; rw[h]
theorem HD (hx:n.2[t.toNat]? =some x):ZX n m t=Um m x:=by unfold ZX; rw[hx]
def J6 (n:YM)(m:ByteArray)(t:Int):Bool:=match n.2[t.toNat]? with
  | some x=>enb m x
  | none=>false
theorem Qab (hx:n.2[t.toNat]? =some x):J6 n m t=enb m x:=by unfold J6; rw[hx]
theorem QkH (h:Hv m x.1):enb m x=true↔∀p∈x.1,bAt m p=49:=by
  unfold enb
  simp only[bD,cc,aT]
  constructor
  · intro k p hp
    rcases (h p hp).2 with h1 | h1
    · exact absurd h1 (k p hp)
    · exact h1
  · intro k p hp h1
    rw[k p hp] at h1
    exact absurd h1 (by decide)
theorem QfS {c:UInt8}(hA:∀j,j < k→∀y,ps[j]? =some y→bAt m y=49)(hx:ps[k]? =some p)(hc:m[p.toNat]? =some c)(hb:(!decide (c=49))=false):∀j,j < k+1→∀y,ps[j]? =some y→bAt m y=49:=fun j hj y hy=>by
  by_cases e:j=k
  · subst e; rw [hx] at hy; cases hy
    rw[Q3 hc]
    simpa using hb
  · exact hA j (by omega) y hy
theorem Qk8 {c:UInt8}(hn:n.2[t.toNat]? =some x)(hp:Hv m x.1)(hx:x.1[k]? =some p)(hc:m[p.toNat]? =some c)(hb:(!decide (c=49))=true):J6 n m t=false:=by
  rw[Qab hn,cd]
  intro h
  have:=(QkH hp).1 h p (ao hx)
  rw[Q3 hc] at this
  simp[this] at hb
theorem Qjz (hn:n.2[t.toNat]? =some x)(hp:Hv m x.1)(hA:∀j,j < k→∀y,x.1[j]? =some y→bAt m y=49)(hk:x.1.length≤k):J6 n m t=true:=by
  rw[Qab hn]
  refine (QkH hp).2 fun p h=> ?_
  obtain ⟨j,hj⟩:=aM.1 h
  have:=(aj.1 hj).1
  exact hA j (by omega) p hj
theorem Qbh (hk:k < n.2.length)(h:J6 n m (k:Int)=true):Xc (enb m) n.2 k++[(k:Int)]=Xc (enb m) n.2 (k+1):=by
  have hx:=aa hk
  rw[Qab (t:=(k:Int)) (show n.2[((k:Int)).toNat]? =some _ from hx)] at h
  exact QiV hx h
theorem Qch (hk:k < n.2.length)(h:J6 n m (k:Int)=false):Xc (enb m) n.2 k=Xc (enb m) n.2 (k+1):=by
  have hx:=aa hk
  rw[Qab (t:=(k:Int)) (show n.2[((k:Int)).toNat]? =some _ from hx)] at h
  exact QlR hx h
end
theorem QaL (n:Int×(List (List Int×List Int)))(mark:ByteArray)(t:Int)(hnb:∀t∈n.2,Hv mark t.1∧Hv mark t.2)(ht:0≤t∧t < (n.2.length:Int)):FC Tryz.prog 290 [(true,[dI n.1, .dat (.sl 237 (.pr (.sl 3 .int) (.sl 3 .int))) n.2]),(false,[dS mark]),(false,[dI t])] [] 0 (QU (PV.tup [(false,[dS ((ZX n mark t).1)]),(false,[dB ((ZX n mark t).2)])])):=by
 have hml:=YV mark
 refine Qj Tryz.func290 rfl rfl Tryz.ntmps290 fun O_ hO w0_ N0_ X_ h0_ f0_=> ?_
 refine acG 0 0 fun hi1=> ?_
 refine acI 2 fun hi2=> ?_
 refine w_ ?_
 refine xbx 0 ?_
 iterate 5 refine w_ ?_
 refine lc (Qdb 1 (Qa rfl) QR Ua Qd0 rfl (Fresh.of rfl) (nlr rfl)) ?_
 iterate 7 refine w_ ?_
 obtain ⟨x,hx4⟩:∃z,n.2[(t).toNat]? =some z:=⟨_,aa (by omega)⟩
 have hx1:=(hnb _ (ao hx4)).1
 have hx2:=(hnb _ (ao hx4)).2
 iterate 3 refine w_ ?_
 refine alL 20 fun hl5=> ?_
 iterate 4 refine w_ ?_
 refine QE (fun m_ s_=>∃(k:Nat) (l:List UInt8),k≤x.1.length∧m_=x.1.length - k∧(clr mark.toList x.1=clr l (x.1.drop k))∧(l.length=mark.toList.length)∧s_=⟨[(2,lI t),(3,lP 0 0),(6,lf (dS (⟨#[]⟩:ByteArray))),(7,lB false),(8,lR 2),(20,lf (.dat (.sl 3 .int) x.1)),(21,lI (x.1.length:Int)),(22,lI (k:Int))],[bx 0 80 [dI n.1, .dat (.sl 237 (.pr (.sl 3 .int) (.sl 3 .int))) n.2],(2,some (.bys 5 l))]⟩) ⟨0,mark.toList,aS _,rfl,rfl,rfl,rfl⟩ ?_ ?_
 · exact Wk.of [(2,1)] rfl ⟨rfl,rfl,rfl,rfl,rfl,rfl,rfl,rfl,trivial⟩ ⟨rfl,rfl,trivial⟩ rfl rfl
 rintro m_ s_ ⟨k,l,hk6,hm7,hA,hL,rfl⟩
 iterate 4 refine w_ ?_
 cases hb8:(decide ((k:Int) < (x.1.length:Int)))
 ·have hb8':=ab hb8
  refine w_ ?_
  refine Qi ?_
  refine (?_:AC _ _ _ _ _)
  iterate 8 refine w_ ?_
  refine alL 35 fun hl9=> ?_
  iterate 4 refine w_ ?_
  refine QE (fun m_ s_=>∃(i:Nat) (l2:List UInt8),i≤x.2.length∧m_=x.2.length - i∧(Ui (clr mark.toList x.1) x.2=Ui l2 (x.2.drop i))∧(l2.length=mark.toList.length)∧s_=⟨[(8,lR 3),(35,lf (.dat (.sl 3 .int) x.2)),(36,lI (x.2.length:Int)),(37,lI (i:Int))],[(3,some (.bys 5 l2))]⟩) ⟨0,l,aS _,rfl,by rw[hA,Qnc (by omega)]; rfl,hL,rfl⟩ ?_ ?_
  · exact Wk.of [(3,2)] rfl ⟨rfl,rfl,rfl,rfl,trivial⟩ ⟨rfl,trivial⟩ rfl rfl
  rintro m_ s_ ⟨i,l2,hk10,hm11,hA2,hL2,rfl⟩
  iterate 4 refine w_ ?_
  cases hb12:(decide ((i:Int) < (x.2.length:Int)))
  ·have hb12':=ab hb12
   refine w_ ?_
   refine Qi ?_
   refine (?_:AC _ _ _ _ _)
   iterate 2 refine w_ ?_
   refine lc (Vk (ys:=l2) (Qkr (Qa rfl) rfl) Ua Qd0 QR rfl) ?_
   iterate 3 refine w_ ?_
   refine Qb ?_
   have e13:((⟨(l2).toArray⟩:ByteArray):ByteArray)=((ZX n mark t).1):=by
    first | (rw[HD (x:=x) (by assumption),Qbl (hA2.trans (Qfb (by omega)))]; done)
   have e14:(true:Bool)=((ZX n mark t).2):=by
    first | (rw[HD (x:=x) (by assumption),Qbl (hA2.trans (Qfb (by omega)))]; done)
   exact fr_ hO (e:=((congrArg (fun z_=>PV.tup [(false,[dS z_]),(false,[dB true])]) e13)).trans (congrArg (fun z_=>PV.tup [(false,[dS ((ZX n mark t).1)]),(false,[dB z_])]) e14))
  ·have hb12':=ae hb12
   iterate 5 refine w_ ?_
   obtain ⟨x15,hx16⟩:∃z,x.2[i]? =some z:=⟨_,aa (by omega)⟩
   have hrx15:=(hx2 _ (ao hx16)).1
   iterate 2 refine w_ ?_
   refine alI 40 fun hi17=> ?_
   iterate 6 refine w_ ?_
   refine lc (V2 (Qa rfl) rfl (Qa rfl) Ua Yy rfl (by omega) (by first | omega | (simp only[aA]; omega))) ?_
   obtain ⟨x18,hx19⟩:∃z,l2[(x15).toNat]? =some z:=⟨_,aa (by omega)⟩
   refine lc (QfB (Qa rfl) rfl hx19 Yy rfl)<|lc (Zw (Qa rfl) (QK 49 rfl) rfl) ?_
   refine w_ ?_
   cases hb20:(decide (x18=49))
   ·have hb20':=ab hb20
    iterate 5 refine w_ ?_
    refine lc (V2 (Qa rfl) rfl (Qa rfl) Ua Yy rfl (by omega) (by first | omega | (simp only[aA]; omega)))<|lc (J2 (Qa rfl) rfl (by first | omega | (simp only[aA]; omega)) (QK 49 rfl) Yy)<|Qd ?_
    refine (?_:AC _ _ _ _ _)
    iterate 3 refine w_ ?_
    refine Qd<|Q5 ⟨i+1,(l2.set ((x15).toNat) 49),by omega,rfl,hA2.trans (Qjh hx16 hx19 (by assumption)),by rw[aA]; exact hL2,rfl⟩ (by omega) ?_
    exact Wk.of [] rfl ⟨rfl,rfl,rfl,rfl,trivial⟩ ⟨(Qp5 (by first | rfl | simp)),trivial⟩ rfl rfl
   ·have hb20':=ae hb20
    iterate 5 refine w_ ?_
    refine Qb ?_
    have e21:((⟨#[]⟩:ByteArray):ByteArray)=((ZX n mark t).1):=by
     (rw[HD (x:=x) (by assumption),QbP (hA2.trans (Qhu hx16 hx19 (by assumption)))]; done)
    have e22:(false:Bool)=((ZX n mark t).2):=by
     (rw[HD (x:=x) (by assumption),QbP (hA2.trans (Qhu hx16 hx19 (by assumption)))]; done)
    exact fr_ hO (e:=((congrArg (fun z_=>PV.tup [(false,[dS z_]),(false,[dB false])]) e21)).trans (congrArg (fun z_=>PV.tup [(false,[dS ((ZX n mark t).1)]),(false,[dB z_])]) e22))
 ·have hb8':=ae hb8
  iterate 5 refine w_ ?_
  obtain ⟨x23,hx24⟩:∃z,x.1[k]? =some z:=⟨_,aa (by omega)⟩
  have hrx23:=(hx1 _ (ao hx24)).1
  iterate 2 refine w_ ?_
  refine alI 25 fun hi25=> ?_
  iterate 5 refine w_ ?_
  refine lc (V2 (Qa rfl) rfl (Qa rfl) Ua Yy rfl (by omega) (by first | omega | (simp only[aA]; omega)))<|lc (J2 (Qa rfl) rfl (by first | omega | (simp only[aA]; omega)) (QK 48 rfl) Yy)<|Qd ?_
  refine (?_:AC _ _ _ _ _)
  iterate 3 refine w_ ?_
  refine Qd<|Q5 ⟨k+1,(l.set ((x23).toNat) 48),by omega,rfl,hA.trans (Qls hx24),by rw[aA]; exact hL,rfl⟩ (by omega) ?_
  exact Wk.of [] rfl ⟨rfl,rfl,rfl,rfl,rfl,rfl,rfl,rfl,trivial⟩ ⟨rfl,(Qp5 (by first | rfl | simp)),trivial⟩ rfl rfl
theorem He (n:Int×(List (List Int×List Int)))(mark:ByteArray)(t:Int)(hnb:∀t∈n.2,Hv mark t.1∧Hv mark t.2)(ht:0≤t∧t < (n.2.length:Int)):FC Tryz.prog 338 [(true,[dI n.1, .dat (.sl 237 (.pr (.sl 3 .int) (.sl 3 .int))) n.2]),(false,[dS mark]),(false,[dI t])] [] 0 (QU (lB (J6 n mark t))):=by
 refine Qj Tryz.func338 rfl rfl Tryz.ntmps338 fun O_ hO w0_ N0_ X_ h0_ f0_=> ?_
 refine acG 0 0 fun hi1=> ?_
 refine acI 2 fun hi2=> ?_
 refine w_ ?_
 refine xbx 0 ?_
 iterate 7 refine w_ ?_
 obtain ⟨x,hx4⟩:∃z,n.2[(t).toNat]? =some z:=⟨_,aa (by omega)⟩
 have hx1:=(hnb _ (ao hx4)).1
 iterate 3 refine w_ ?_
 refine alL 14 fun hl5=> ?_
 iterate 4 refine w_ ?_
 refine lpK x.1.length (fun k=>∀j,j < k→∀y,x.1[j]? =some y→bAt mark y=49) (fun k=>⟨[(1,lf (dS mark)),(14,lf (.dat (.sl 3 .int) x.1)),(15,lI (x.1.length:Int)),(16,lI (k:Int))],[]⟩) (fun j hj=>absurd hj (bc j)) ?_ fun k hk6 hA=> ?_
 · exact Wk.of [] rfl ⟨rfl,rfl,rfl,rfl,trivial⟩ trivial rfl rfl
 iterate 4 refine w_ ?_
 cases hb7:(decide ((k:Int) < (x.1.length:Int)))
 ·have hb7':=ab hb7
  refine w_ ?_
  refine Qi ?_
  refine (?_:AC _ _ _ _ _)
  iterate 3 refine w_ ?_
  refine Qb<|fqB hO ?_
  first | exact (Qjz (by assumption) hx1 hA (by omega)).symm
 ·have hb7':=ae hb7
  iterate 5 refine w_ ?_
  obtain ⟨x8,hx9⟩:∃z,x.1[k]? =some z:=⟨_,aa (by omega)⟩
  have hrx8:=(hx1 _ (ao hx9)).1
  iterate 2 refine w_ ?_
  refine alI 19 fun hi10=> ?_
  iterate 5 refine w_ ?_
  obtain ⟨c11,hc12⟩:∃z,mark[(x8).toNat]? =some z:=⟨_,b5 _ _ (by omega)⟩
  refine w_ ?_
  refine lc (QF (Qa rfl) (QK 49 rfl) rfl) ?_
  refine w_ ?_
  cases hb13:(!decide (c11=49))
  ·have hb13':(c11=49):=Qz hb13
   refine w_ ?_
   refine AC.skip ?_
   refine (?_:AC _ _ _ _ _)
   iterate 3 refine w_ ?_
   refine Qd ?_
   refine lK_ (QfS hA hx9 (by assumption) (by assumption)) ?_
   exact Wk.of [] rfl ⟨rfl,rfl,rfl,rfl,trivial⟩ trivial rfl rfl
  ·have hb13':¬(c11=49):=QN hb13
   iterate 4 refine w_ ?_
   refine Qb<|fqB hO ?_
   exact (Qk8 (by assumption) hx1 hx9 (by assumption) (by assumption)).symm
theorem Jj (n:Int×(List (List Int×List Int)))(mark:ByteArray)(hnb:∀t∈n.2,Hv mark t.1∧Hv mark t.2)(hnl:n.2.length≤2000000):FC Tryz.prog 289 [(true,[dI n.1, .dat (.sl 237 (.pr (.sl 3 .int) (.sl 3 .int))) n.2]),(false,[dS mark])] [] 0 (Wv 3 .int (VK n mark)):=by
 refine Qj Tryz.func289 rfl rfl Tryz.ntmps289 fun O_ hO w0_ N0_ X_ h0_ f0_=> ?_
 refine acG 0 0 fun hi1=> ?_
 refine w_ ?_
 refine xbx 0 ?_
 iterate 9 refine w_ ?_
 refine alL 8 fun hl2=> ?_
 iterate 4 refine w_ ?_
 refine AC.wk (Wk.nilS 1 5 3 .int rfl (Fresh.of rfl) (nlr rfl)) ?_
 refine lp0 n.2.length (fun k=>⟨[(1,lf (dS mark)),(2,lP 0 0),(4,lf (.val (.slice none 0 0))),(5,lR 2),(9,lI (n.2.length:Int)),(10,lI (k:Int))],[bx 0 80 [dI n.1, .dat (.sl 237 (.pr (.sl 3 .int) (.sl 3 .int))) n.2],ar 2 3 .int (Xc (enb mark) n.2 k)]⟩) ?_ fun k hk3=> ?_
 · exact Wk.of [(2,1)] rfl ⟨rfl,rfl,rfl,rfl,rfl,rfl,trivial⟩ ⟨rfl,(Qk (by first | rfl | simp)),trivial⟩ rfl rfl
 have hpk:=Qcz (enb mark) n.2 k
 iterate 4 refine w_ ?_
 cases hb4:(decide ((k:Int) < (n.2.length:Int)))
 ·have hb4':=ab hb4
  refine w_ ?_
  refine Qi ?_
  refine (?_:AC _ _ _ _ _)
  iterate 4 refine w_ ?_
  refine Qb<|fo_ hO ?_
  rw[show k=n.2.length by omega]; rfl
 ·have hb4':=ae hb4
  iterate 12 refine w_ ?_
  refine lc (dK (He n mark (k:Int) hnb (by omega)) QgU) ?_
  refine w_ ?_
  cases hb5:(J6 n mark (k:Int))
  ·refine w_ ?_
   refine AC.skip ?_
   refine (?_:AC _ _ _ _ _)
   iterate 3 refine w_ ?_
   refine Qd ?_
   refine l0_ ?_
   exact Wk.of [] rfl ⟨rfl,rfl,rfl,rfl,rfl,rfl,trivial⟩ ⟨rfl,(Qk (by first | exact Qbh (by omega) (by assumption) | exact Qch (by omega) (by assumption))),trivial⟩ rfl rfl
  ·iterate 4 refine w_ ?_
   refine lc (dBs 3 (e:= .int) Xy) ?_
   refine lc (dA 4 Wo) ?_
   refine w_ ?_
   refine Qd ?_
   refine (?_:AC _ _ _ _ _)
   iterate 3 refine w_ ?_
   refine Qd ?_
   refine l0_ ?_
   exact Wk.of [(2,4)] rfl ⟨rfl,rfl,rfl,rfl,rfl,rfl,trivial⟩ ⟨rfl,(Qk (by first | exact Qbh (by omega) (by assumption) | exact Qch (by omega) (by assumption))),trivial⟩ rfl rfl
end Go.Proofs.YtfkmmpfdncopdaaGreat
