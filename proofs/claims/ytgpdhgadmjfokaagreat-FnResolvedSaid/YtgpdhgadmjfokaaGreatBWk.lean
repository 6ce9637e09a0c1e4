/- Sorted lists without repetition: put in one by one, or sorted and made compact. Plain lists; no program is named here. -/
import Derived.Test.YtgpdhgadmjfokaaGreatBAv
import Derived.Sort.OwnSorted
import Derived.Shelf.Sort.AssemblysIn
import Derived.Shelf.Lays
import Derived.Shelf.Slices.In.SortNone
import Derived.Test.YtgpdhgadmjfokaaGreatBAf
import Derived.Test.YtgpdhgadmjfokaaGreatBAi
import Derived.Test.YtgpdhgadmjfokaaGreatBApp
import Derived.Test.YtgpdhgadmjfokaaGreatBAk
import Derived.Test.YtgpdhgadmjfokaaGreatBStr
import Derived.Test.YtgpdhgadmjfokaaGreatProg
import Derived.KernelRfl
import Derived.Test.YtgpdhgadmjfokaaGreatBAl
set_option linter.unusedSimpArgs false
set_option linter.unusedVariables false
set_option linter.unusedSectionVars false
namespace Go.Proofs.YtgpdhgadmjfokaaGreat
structure TO {α:Type _} (lt:α→α→Bool):Prop where
  irr:∀x,lt x x=false
  tr:∀x y z,lt x y=true→lt y z=true→lt x z=true
  tot:∀x y,lt x y=true∨x=y∨lt y x=true
def Z9 {α:Type _}[DecidableEq α](lt:α→α→Bool)(x:α):List α→List α
 | []=>[x]
 | y :: l=>if lt y x=true then y :: Z9 lt x l else if y=x then y :: l else x :: y :: l
def Y3 {α:Type _}[DecidableEq α]:List α→List α
 | []=>[]
 | [x]=>[x]
 | x :: y :: l=>if x=y then Y3 (y :: l) else x :: Y3 (y :: l)
def ofG {α:Type _}[DecidableEq α](lt:α→α→Bool)(l:List α):List α:=l.foldl (fun s x=>Z9 lt x s) []
section
variable {α:Type _}[DecidableEq α]{lt:α→α→Bool}{l a b:List α}{x y z:α}{k:Nat}
omit [DecidableEq α] in
theorem TO.ext (h:TO lt):∀{a b:List α},a.Pairwise (fun x y=>lt x y=true)→b.Pairwise (fun x y=>lt x y=true)→(∀x,x∈a↔x∈b)→a=b
 | [],[],_,_,_=>rfl
 | [],y :: b,_,_,hm=>by have:=(hm y).2 (ax ..); cases this
 | x :: a,[],_,_,hm=>by have:=(hm x).1 (ax ..); cases this
 | x :: a,y :: b,ha,hb,hm=>by
  obtain ⟨g,j⟩:=bt.1 ha
  obtain ⟨i,m⟩:=bt.1 hb
  have f:x=y:=by
   rcases aD.1 ((hm x).1 (ax ..)) with c | c
   ·exact c
   ·rcases aD.1 ((hm y).2 (ax ..)) with e | e
    ·exact e.symm
    ·have:=h.tr _ _ _ (g _ e) (i _ c)
     rw[h.irr] at this; cases this
  subst f
  congr 1
  refine h.ext j m fun z=>⟨fun d=> ?_,fun d=> ?_⟩
  ·rcases aD.1 ((hm z).1 (aw _ d)) with c | c
   ·subst c; have:=g _ d; rw[h.irr] at this; cases this
   ·exact c
  ·rcases aD.1 ((hm z).2 (aw _ d)) with c | c
   ·subst c; have:=i _ d; rw[h.irr] at this; cases this
   ·exact c
theorem YB:z∈Z9 lt x l↔z=x∨z∈l:=by
 induction l with
 | nil=>simp[Z9]
 | cons y l c=>
  unfold Z9
  split
  ·rw[aD,c,aD]
   constructor
   ·rintro (h | h | h)
    ·exact .inr (.inl h)
    ·exact .inl h
    ·exact .inr (.inr h)
   ·rintro (h | h | h)
    ·exact .inr (.inl h)
    ·exact .inl h
    ·exact .inr (.inr h)
  ·split
   ·rename_i h; subst h
    rw[aD]
    exact ⟨fun h=>h.elim .inl fun h=> .inr (.inr h),fun h=>h.elim .inl id⟩
   ·rw[aD]
theorem Kh (h:TO lt)(f:l.Pairwise (fun x y=>lt x y=true)):(Z9 lt x l).Pairwise (fun x y=>lt x y=true):=by
 induction l with
 | nil=>simp[Z9]
 | cons y l n=>
  obtain ⟨j,m⟩:=bt.1 f
  unfold Z9
  split
  ·rename_i i
   refine bt.2 ⟨fun z c=> ?_,n m⟩
   rcases YB.1 c with rfl | c
   ·exact i
   ·exact j z c
  ·split
   ·exact f
   ·rename_i i g
    have e:lt x y=true:=by
     rcases h.tot x y with d | d | d
     ·exact d
     ·exact absurd d.symm g
     ·exact absurd d i
    refine bt.2 ⟨fun z c=> ?_,f⟩
    rcases aD.1 c with rfl | c
    ·exact e
    ·exact h.tr _ _ _ e (j z c)
theorem Qe0 (h:TO lt):∀(l s:List α),s.Pairwise (fun x y=>lt x y=true)→(l.foldl (fun s x=>Z9 lt x s) s).Pairwise (fun x y=>lt x y=true)∧∀z,z∈l.foldl (fun s x=>Z9 lt x s) s↔z∈s∨z∈l
 | [],s,hs=>⟨hs,fun z=>by simp⟩
 | x :: l,s,hs=>by
  obtain ⟨c,d⟩:=Qe0 h l _ (Kh (x:=x) h hs)
  refine ⟨c,fun z=> ?_⟩
  rw[aT,d,YB,aD]
  constructor
  ·rintro ((h | h) | h)
   ·exact .inr (.inl h)
   ·exact .inl h
   ·exact .inr (.inr h)
  ·rintro (h | h | h)
   ·exact .inl (.inr h)
   ·exact .inl (.inl h)
   ·exact .inr h
theorem QaV (h:TO lt)(l:List α):(ofG lt l).Pairwise (fun x y=>lt x y=true):=(Qe0 h l [] bF).1
theorem Kv (h:TO lt)(l:List α):z∈ofG lt l↔z∈l:=by
 have:=(Qe0 h l [] bF).2 z
 simpa [ofG] using this
theorem Jy:∀{l:List α},z∈Y3 l↔z∈l
 | []=>Iff.rfl
 | [x]=>Iff.rfl
 | x :: y :: l=>by
  unfold Y3
  split
  ·rename_i h; subst h
   rw[Jy]
   exact ⟨aw _,fun h=>(aD.1 h).elim (fun h=>by rw[h]; exact ax ..) id⟩
  ·rw[aD,Jy,aD (l:=y :: l)]
theorem Qfm (h:TO lt):∀{l:List α},l.Pairwise (fun x y=>lt y x=false)→(Y3 l).Pairwise (fun x y=>lt x y=true)
 | [],_=>bF
 | [x],_=>by simp[Y3]
 | x :: y :: l,hl=>by
  obtain ⟨j,f⟩:=bt.1 hl
  unfold Y3
  split
  ·exact Qfm h f
  ·rename_i e
   refine bt.2 ⟨fun z i=> ?_,Qfm h f⟩
   rw[Jy] at i
   rcases h.tot x z with d | d | d
   ·exact d
   ·subst d
    rcases aD.1 i with g | g
    ·exact absurd g e
    ·have m:=j y (ax ..)
     have n:=(bt.1 f).1 x g
     rcases h.tot x y with c | c | c
     ·rw[n] at c; cases c
     ·exact absurd c e
     ·rw[m] at c; cases c
   ·have:=j z i; rw[this] at d; cases d
theorem Qvm (h:TO lt){s l:List α}(d:s.Pairwise (fun x y=>lt y x=false))(c:∀z,z∈s↔z∈l):Y3 s=ofG lt l:=
 h.ext (Qfm h d) (QaV h l) fun z=>by rw[Jy,c,Kv h]
theorem Qm9:∀{k:Nat} {l:List α},(∀j,j < k→∀y,l[j]? =some y→lt y x=true)→k≤l.length→(∀y,l[k]? =some y→lt y x=false∧y≠x)→Z9 lt x l=l.take k++x :: l.drop k
 | 0,[],_,_,_=>rfl
 | 0,y :: l,_,_,h2=>by
  obtain ⟨d,e⟩:=h2 y rfl
  unfold Z9
  rw[if_neg (by rw[d]; decide),if_neg e]; rfl
 | k+1,[],_,hk,_=>by simp at hk
 | k+1,y :: l,h1,hk,h2=>by
  unfold Z9
  rw[if_pos (h1 0 (by omega) y rfl),Qm9 (k:=k) (fun j f z c=>h1 (j+1) (by omega) z (by simpa using c)) (by simpa using hk) (fun z c=>h2 z (by simpa using c))]
  rfl
theorem Qhb:∀{k:Nat} {l:List α},(∀j,j < k→∀y,l[j]? =some y→lt y x=true)→l[k]? =some x→lt x x=false→Z9 lt x l=l
 | 0,[],_,h,_=>by simp at h
 | 0,y :: l,_,h,h3=>by
  simp only[cd,bA] at h
  subst h
  unfold Z9
  rw[if_neg (by rw[h3]; decide),if_pos rfl]
 | k+1,[],_,h,_=>by simp at h
 | k+1,y :: l,h1,h,h3=>by
  unfold Z9
  rw[if_pos (h1 0 (by omega) y rfl),Qhb (k:=k) (fun j d z c=>h1 (j+1) (by omega) z (by simpa using c)) (by simpa using h) h3]
end
def ltI (x y:Int):Bool:=decide (x < y)
theorem Xb:TO ltI:=⟨fun x=>by simp[ltI],fun x y z c d=>by simp only[ltI,aU] at*; omega,fun x y=>by simp only[ltI,aU]; omega⟩
theorem QtT (l:List Int):Y3 (Vz l)=ofG ltI l:=Qvm Xb ((Qa3 l).imp fun h=>by simp only[ltI,bH]; omega) fun _=>Qb1
end Go.Proofs.YtgpdhgadmjfokaaGreat
namespace Go.Proofs.YtgpdhgadmjfokaaGreat
open Go.RowKit
def ltB (x y:ByteArray):Bool:=Op.bytesLess x.toList y.toList
def fB (x:ByteArray):List UInt8:=x.data.toList
theorem QxI {x y:ByteArray}(h:fB x=fB y):x=y:=by
 cases x; cases y
 exact congrArg _ (Array.toList_inj.1 h)
theorem Qvx:∀(x y:List UInt8),Op.bytesLess x y=decide (x < y)
 | [],[]=>by simp[Op.bytesLess]
 | _ :: _,[]=>by simp[Op.bytesLess]
 | [],_ :: _=>by simp[Op.bytesLess]
 | a :: x,b :: y=>by
  rw[Op.bytesLess,Qvx x y]
  simp only[List.cons_lt_cons_iff]
  by_cases c:a < b <;> by_cases d:a=b <;> by_cases e:x < y <;> simp[c,d,e]
theorem QeA (x y:ByteArray):ltB x y=decide (fB x < fB y):=by unfold ltB; rw[bw,bw,Qvx]; rfl
theorem Wx:TO ltB:=⟨fun x=>by rw[QeA]; simp[List.lt_irrefl],fun x y z a b=>by rw[QeA,aU] at*; exact List.lt_trans a b,fun x y=>by
 rw[QeA,QeA,aU,aU]
 by_cases a:fB x < fB y
 ·exact .inl a
 ·by_cases b:fB y < fB x
  ·exact .inr (.inr b)
  ·exact .inr (.inl (QxI (List.le_antisymm (List.not_lt.1 b) (List.not_lt.1 a))))⟩
def VZ (xs:List ByteArray):List ByteArray:=xs.mergeSort fun x y=> !ltB y x
theorem K0 (xs:List ByteArray):(VZ xs).Perm xs:=List.mergeSort_perm ..
theorem Qqz (xs:List ByteArray):(VZ xs).length=xs.length:=(K0 xs).length_eq
theorem QiF (xs:List ByteArray):(VZ xs).Pairwise fun x y=>ltB y x=false:=by
 have h:=List.pairwise_mergeSort (le:=fun x y:ByteArray=> !ltB y x) (fun a b c f d=>by
  simp only[bL] at*
  cases e:ltB c a with
  | false=>rfl
  | true=>
   rcases Wx.tot a b with k | rfl | k
   ·rw[Wx.tr _ _ _ e k] at d; cases d
   ·rw[e] at d; cases d
   ·rw[k] at f; cases f) (fun a b=>by
  cases e:ltB b a with
  | false=>rfl
  | true=>
   cases k:ltB a b with
   | false=>rfl
   | true=>have:=Wx.tr _ _ _ e k; rw[Wx.irr] at this; cases this) xs
 exact h.imp fun h=>by simpa using h
theorem Qsh {xs:List ByteArray}(c:xs.Nodup):(VZ xs).Pairwise fun x y=>ltB x y=true:=
 ((QiF xs).and ((K0 xs).nodup_iff.2 c)).imp fun {x y} ⟨a, b⟩ => by
  rcases Wx.tot x y with k | k | k
  ·exact k
  ·exact absurd k b
  ·rw[k] at a; cases a
theorem Qqk (xs:List ByteArray):(VZ xs).map fB=(xs.map fB).mergeSort fun x y=>decide (x≤y):=
 List.map_mergeSort fun a _ b _=>by
  rw[QeA]
  by_cases h:fB b < fB a
  ·have:¬fB a≤fB b:=fun k=>List.not_lt.2 k h
   simp[h,this]
  ·have:=List.not_lt.1 h
   simp[h,this]
theorem QsU (x:ByteArray):encStr (fB x)= .string x:=by cases x; simp[encStr,fB]
theorem Qge {w:World}:∀{xs:List ByteArray} {fp:List Nat} {cs:List Value},OwnL (Own .str w) fp cs xs→fp=[]∧cs=(xs.map fB).map encStr∧∀x∈xs,x.size≤maxLen
 | [],fp,cs,h=>⟨h.1,h.2,fun x e=>by cases e⟩
 | x :: xs,fp,cs,h=>by
  obtain ⟨f,g,l,r,rfl,rfl,⟨rfl,rfl,b⟩,c⟩:=h
  obtain ⟨rfl,rfl,d⟩:=Qge c
  exact ⟨rfl,by rw[be,be,QsU]; rfl,fun y a=>by rcases aD.1 a with rfl | a; exact b; exact d y a⟩
theorem Qj5 {w:World}:∀{xs:List ByteArray},(∀x∈xs,x.size≤maxLen)→OwnL (Own .str w) [] ((xs.map fB).map encStr) xs
 | [],_=>⟨rfl,rfl⟩
 | x :: xs,h=>⟨[],[],[.string x],(xs.map fB).map encStr,rfl,by rw[be,be,QsU]; rfl,⟨rfl,rfl,h x (ax ..)⟩,Qj5 fun y a=>h y (aw _ a)⟩
def QtA (P:Program)(f:FuncId):Prop:=∀(blk cap:Nat) (zs:List ByteArray) (w:World),Sort.Holds encStr w blk 0 (zs.map fB).toArray→blk < w.heap.size→zs.length < 4611686018427387904→
 Calls P f #[.slice (some ⟨blk,0,none⟩) zs.length cap] w fun e w'=>e= .returned (.tuple #[])∧∃n os,w'=Sort.grow (Sort.putRow encStr (Sort.ahead w n) blk 0 ((VZ zs).map fB).toArray) os
theorem Qso {P:Program}{f:FuncId}{E:TypeId}(R:QtA P f)(O:QbF P f)(xs:List ByteArray)(hl:xs.length≤1000000000):FC P f [(false,[.ref 0])] [(0,some (.arr E .str xs))] 1 (Is (.tup []) [(0,some (.arr E .str (VZ xs)))]):=fun A w vs u S=>by
 obtain ⟨v,a0,rfl,⟨l,D,B⟩,rfl⟩:=S
 simp only[aJ,and_true] at D
 subst D
 have V:v=A.h 0:=B ⟨_,rfl⟩
 subst V
 have Q:Own (.sl E .str) w (A.f 0) [A.h 0] xs:=u.en 0 _ rfl
 have a:∀(y:List ByteArray) q,Tab.al [(0,some (Ent.arr E .str y))] q→q=0:=fun y q ⟨e,b⟩=>by
  rw[Qf] at b
  split at b
  ·assumption
  ·cases b
 rcases Q with ⟨p,o,J⟩ | ⟨g,k,t,fps,p,o,I,hn,j,G,L⟩
 ·simp only[aJ,and_true] at o
  subst J
  rw[o]
  refine Calls.mono (O w) fun e w' b=> ?_
  obtain ⟨rfl,C⟩:=b
  refine ⟨_,_,_,A,rfl,⟨rfl,rfl⟩,⟨fun q e b=> ?_,fun q K d s r=>absurd ((a _ q d).trans (a _ K s).symm) r,fun q d=> ?_,fun q d g i=> ?_,fun g i=>bz (u.nl g i) C.size⟩,⟨[],rfl,rfl⟩,
   ⟨C.grw,fun g i _=>Below.block C g i,fun g i=> .inl i,fun q d g i=> ?_⟩,fun q _ _=>rfl⟩
  ·rw[Qf] at b
   split at b
   ·rename_i z; subst z; cases b
    exact .inl ⟨p,by rw[o],by simp[VZ]⟩
   ·cases b
  ·rw[a _ q d,p]; exact bI
  ·rw[a _ q d,p] at i; cases i
  ·rw[a _ q d,p] at i; cases i
 ·simp only[aJ,and_true] at o
  rw[cN] at L
  obtain ⟨rfl,U,T⟩:=Qge L
  have i:g < w.heap.size:=(bG.1 I).1
  rw[o]
  have hm:xs.length≤9223372036854775807:=by unfold maxLen at j; omega
  refine Calls.mono (R g k xs w (holds_of_block I (by rw[aC]; exact U)) i (by omega)) fun e w' b=> ?_
  obtain ⟨rfl,n,N,rfl⟩:=b
  obtain ⟨W,X,Y,M,Z⟩:=grownBy_sorted (w:=w) (g:=g) (n:=n) (os:=N) ((VZ xs).map fB).toArray
  have F:=Qqz xs
  refine ⟨_,_,_,A,rfl,⟨rfl,rfl⟩,⟨fun q e b=> ?_,fun q K d s r=>absurd ((a _ q d).trans (a _ K s).symm) r,fun q d=> ?_,fun q d m c=> ?_,fun m c=>bz (u.nl m c) M⟩,⟨[],rfl,rfl⟩,
   ⟨⟨W,X,Y,M⟩,fun m B C=> ?_,fun m B=> .inl B,fun q d m c=> ?_⟩,fun q _ _=>rfl⟩
  ·rw[Qf] at b
   split at b
   ·rename_i z; subst z; cases b
    refine .inr ⟨g,k,_,[],p,by rw[o,F],heap_sorted _ I,by omega,j,by simpa [Sort.putCells] using G, ?_⟩
    show OwnL (Own .str _) [] (List.take ((VZ xs).length*1) _) (VZ xs)
    have H:=take_putCells t ((VZ xs).map fB) (by rw[aC]; have:t.size=k*1:=G; omega)
    rw[aC] at H
    rw[cN,H]
    exact Qj5 fun x J=>T x ((K0 xs).mem_iff.1 J)
   ·cases b
  ·rw[a _ q d]; exact u.nd 0 ⟨_,rfl⟩
  ·rw[a _ q d] at c; exact u.no 0 ⟨_,rfl⟩ m c
  ·exact Z m B fun z=>C 0 ⟨_,rfl⟩ (by rw[p]; cases z; exact ax ..)
  ·rw[a _ q d] at c; exact .inr ⟨0,⟨_,rfl⟩,c⟩
end Go.Proofs.YtgpdhgadmjfokaaGreat
namespace Go.Proofs.YtgpdhgadmjfokaaGreat
open Go.RowKit
def Qpb:Go.Shelf.Ren:=⟨fun | 190=>111 | 125=>224 | 258=>223 | 128=>331 | 129=>332 | 302=>322 | 303=>323 | 304=>324 | 305=>325 | 306=>326 | 307=>327 | 308=>328 | 309=>329 | 310=>330 | 333=>412 | 329=>413 | 330=>414 | 334=>415 | 335=>416 | 336=>417 | 344=>459 | n=>n,fun | 31=>24 | 9=>9 | 3=>3 | 46=>228 | 0=>0 | 51=>305 | 53=>117 | 4=>4 | 183=>299 | 182=>298 | 131=>238 | 5=>5 | 218=>366 | 222=>370 | 228=>397 | 229=>398 | n=>n,fun | n=>n⟩
theorem QvP:Go.Proofs.Lays.n190 Tryz.prog Qpb:={
 mixed:=by kernel_rfl,
 f125:=Tryz.func224.trans (congrArg some (by kernel_rfl)),
 f128:=Tryz.func331.trans (congrArg some (by kernel_rfl)),
 f129:=Tryz.func332.trans (congrArg some (by kernel_rfl)),
 f190:=Tryz.func111.trans (congrArg some (by kernel_rfl)),
 f258:=Tryz.func223.trans (congrArg some (by kernel_rfl)),
 f302:=Tryz.func322.trans (congrArg some (by kernel_rfl)),
 f303:=Tryz.func323.trans (congrArg some (by kernel_rfl)),
 f304:=Tryz.func324.trans (congrArg some (by kernel_rfl)),
 f305:=Tryz.func325.trans (congrArg some (by kernel_rfl)),
 f306:=Tryz.func326.trans (congrArg some (by kernel_rfl)),
 f307:=Tryz.func327.trans (congrArg some (by kernel_rfl)),
 f308:=Tryz.func328.trans (congrArg some (by kernel_rfl)),
 f309:=Tryz.func329.trans (congrArg some (by kernel_rfl)),
 f310:=Tryz.func330.trans (congrArg some (by kernel_rfl)),
 f329:=Tryz.func413.trans (congrArg some (by kernel_rfl)),
 f330:=Tryz.func414.trans (congrArg some (by kernel_rfl)),
 f333:=Tryz.func412.trans (congrArg some (by kernel_rfl)),
 f334:=Tryz.func415.trans (congrArg some (by kernel_rfl)),
 f335:=Tryz.func416.trans (congrArg some (by kernel_rfl)),
 f336:=Tryz.func417.trans (congrArg some (by kernel_rfl)),
 f344:=Tryz.func459.trans (congrArg some (by kernel_rfl)),
 t0:=Tryz.underlying0,
 a0:=Tryz.isAgg0,
 z0:=Tryz.sizeOf0,
 v0:=Tryz.zeroValue0,
 t3:=Tryz.underlying3,
 a3:=Tryz.isAgg3,
 z3:=Tryz.sizeOf3,
 v3:=Tryz.zeroValue3,
 t4:=Tryz.underlying4,
 a4:=Tryz.isAgg4,
 z4:=Tryz.sizeOf4,
 v4:=Tryz.zeroValue4,
 t5:=Tryz.underlying5,
 a5:=Tryz.isAgg5,
 z5:=Tryz.sizeOf5,
 v5:=Tryz.zeroValue5,
 t9:=Tryz.underlying9,
 a9:=Tryz.isAgg9,
 z9:=Tryz.sizeOf9,
 v9:=Tryz.zeroValue9,
 t31:=Tryz.underlying24,
 a31:=Tryz.isAgg24,
 z31:=Tryz.sizeOf24,
 v31:=Tryz.zeroValue24,
 t46:=Tryz.underlying228,
 a46:=Tryz.isAgg228,
 z46:=Tryz.sizeOf228,
 v46:=Tryz.zeroValue228,
 t51:=Tryz.underlying305,
 a51:=Tryz.isAgg305,
 z51:=Tryz.sizeOf305,
 v51:=Tryz.zeroValue305,
 t53:=Tryz.underlying117,
 a53:=Tryz.isAgg117,
 z53:=Tryz.sizeOf117,
 v53:=Tryz.zeroValue117,
 t131:=Tryz.underlying238,
 a131:=Tryz.isAgg238,
 z131:=Tryz.sizeOf238,
 v131:=Tryz.zeroValue238,
 t182:=Tryz.underlying298,
 a182:=Tryz.isAgg298,
 z182:=Tryz.sizeOf298,
 v182:=Tryz.zeroValue298,
 t183:=Tryz.underlying299,
 a183:=Tryz.isAgg299,
 z183:=Tryz.sizeOf299,
 v183:=Tryz.zeroValue299,
 t218:=Tryz.underlying366,
 a218:=Tryz.isAgg366,
 z218:=Tryz.sizeOf366,
 v218:=Tryz.zeroValue366,
 t222:=Tryz.underlying370,
 a222:=Tryz.isAgg370,
 z222:=Tryz.sizeOf370,
 v222:=Tryz.zeroValue370,
 t228:=Tryz.underlying397,
 a228:=Tryz.isAgg397,
 z228:=Tryz.sizeOf397,
 v228:=Tryz.zeroValue397,
 t229:=Tryz.underlying398,
 a229:=Tryz.isAgg398,
 z229:=Tryz.sizeOf398,
 v229:=Tryz.zeroValue398}
theorem Qwv:QtA Tryz.prog 111:=fun a b f w c d e=>by
 have h:=calls_of_every_depth fun D=>AnyS.slices_Sort_string_in QvP D a 0 b (f.map fB) w c d (by rw[aC]; exact e)
 rw[aC,← Qqk] at h
 exact h
theorem Qqa:QbF Tryz.prog 111:=fun w=>Calls.mono (Any.slices_Sort_string_none QvP none 0 w) fun _ _ ⟨a,b⟩=>⟨a,b▸QW _⟩
theorem Qrj (l:List ByteArray)(a:l.length≤1000000000):FC Tryz.prog 111 [(false,[.ref 0])] [(0,some (.arr 9 .str l))] 1 (Is (.tup []) [(0,some (.arr 9 .str (VZ l)))]):=Qso Qwv Qqa l a
end Go.Proofs.YtgpdhgadmjfokaaGreat
namespace Go.Proofs.YtgpdhgadmjfokaaGreat
open Go.RowKit
set_option maxRecDepth 100000
set_option maxHeartbeats 4000000
theorem Zh (n:Int)(b:Int)(a:Int):FC Tryz.prog 107 [(false,[dI n]),(false,[dI b]),(false,[dI a])] [] 0 (Q7 (lB (decide (b≤n∧n≤a)))):=by
 refine Qt Tryz.func107 rfl rfl Tryz.ntmps107 fun j e i f k h g=> ?_
 refine acI 0 fun _=> ?_
 refine acI 1 fun _=> ?_
 refine acI 2 fun _=> ?_
 refine w8 ?_
 cases c:(decide (b≤n))
 have d:=aa c
 refine w6 ?_
 refine Qd<|fqB e ?_
 (rw[bQ]; simp; omega)
 have d:=ab c
 refine w6 ?_
 refine Qd<|fqB e ?_
 ·(simp_all; done)
theorem XD (n:Int)(lo:Int)(hi:Int):FC Tryz.prog 163 [(false,[dI n]),(false,[dI lo]),(false,[dI hi])] [] 0 (Q7 (lB (decide (lo≤n∧n≤hi)))):=by
 refine Qt Tryz.func163 rfl rfl Tryz.ntmps163 fun h c g d i f e=> ?_
 refine acI 0 fun _=> ?_
 refine acI 1 fun _=> ?_
 refine acI 2 fun _=> ?_
 refine w8 ?_
 cases a:(decide (lo≤n))
 have b:=aa a
 refine w6 ?_
 refine Qd<|fqB c ?_
 (rw[bQ]; simp; omega)
 have b:=ab a
 refine w6 ?_
 refine Qd<|fqB c ?_
 ·(simp_all; done)
theorem HL (l:List Int)(i:l.length≤2000000):FC Tryz.prog 435 [(false,[.dat QA l])] [] 0 (YJ 3 .int l):=by
 refine Qt Tryz.func435 rfl rfl Tryz.ntmps435 fun g d f a h c b=> ?_
 refine w4 ?_
 refine lc (dBs 0 (e:= .int) Yj) ?_
 refine w_ ?_
 refine lc (QU 1 (Qa rfl) rfl (Evl.rep (Qa rfl)) rfl Yg Y4 (by first | omega | (simp only[ae,aC,ap,aj,aA]; omega) | (simp only[ae,bo,ap,aj,aA]; omega)) rfl (Fresh.of rfl) (nlr rfl)) ?_
 refine w2 ?_
 refine Qd<|fo_ d ?_
 rfl
theorem Quj {α:Type _}(f:α→Nat){xs:List α}{x:α}(h:x∈xs):f x≤(xs.map f).sum:=by
 induction xs with
 | nil=>cases h
 | cons y b a=>
  simp only[be,List.sum_cons]
  rcases aD.1 h with rfl | h
  ·omega
  ·have:=a h; omega
theorem Qum {n:Xr}(a:Ty.tot Qcv n≤2000000):n.2.length≤2000000:=by
 have:Ty.tot Qcv n=0+(n.2.length+(n.2.map (Ty.tot Zq)).sum):=rfl
 omega
theorem Qgc {s:Q5}(a:Ty.tot Qdi s≤2000000):Ty.tot Qcv s.1≤2000000∧s.2.1.length≤2000000∧s.2.2.1.length≤2000000:=by
 have:Ty.tot Qdi s=Ty.tot Qcv s.1+((s.2.1.length+(s.2.1.map (Ty.tot XC)).sum)+((s.2.2.1.length+(s.2.2.1.map (Ty.tot Qb2)).sum)+s.2.2.2.size)):=rfl
 omega
theorem Qqr {n:Xr}(e:Ty.tot Qcv n≤2000000):∀t∈n.2,t.1.length≤2000000∧t.2.length≤2000000:=fun t a=>by
 have b:Ty.tot Qcv n=0+(n.2.length+(n.2.map (Ty.tot Zq)).sum):=rfl
 have c:=Quj (Ty.tot Zq) a
 have d:Ty.tot Zq t=(t.1.length+(t.1.map (Ty.tot .int)).sum)+(t.2.length+(t.2.map (Ty.tot .int)).sum):=rfl
 omega
theorem QeR (n:QpC)(h:Ty.tot Qcv n≤2000000):FC Tryz.prog 366 [(true,[dI n.1, .dat X7 n.2])] [] 0 (Is (ag [dI n.1, .ref 0]) [ar 0 245 Zs n.2]):=by
 have s:=Qum h
 have g:=Qqr h
 refine Qt Tryz.func366 rfl rfl Tryz.ntmps366 fun q m o i r l j=> ?_
 refine acG 0 0 fun _=> ?_
 refine w_ ?_
 refine xbx 0 ?_
 refine lc (xal 1 QrA QcI) ?_
 refine w4 ?_
 refine lc (Qg Qhk ⟨_,_,rfl,(Qo rfl),rfl⟩ (au.1 rfl) rfl rfl)<|lc (xal 2 QrA QcI) ?_
 refine w6 ?_
 refine alL 10 fun _=> ?_
 refine w4 ?_
 refine AC.wk (Qn 3 (p:=2) (off:=1) 245 Zs rfl rfl (Fresh.of rfl) (nlr rfl)) ?_
 refine lp0 n.2.length (fun k=>⟨[(2,lP 1 0),(3,lP 2 0),(10,lf (.dat X7 n.2)),(11,lI (n.2.length:Int)),(12,lI (k:Int))],[bx 1 59 [dI 0, .val (.slice none 0 0)],bx 2 59 [dI n.1, .ref 4],ar 4 245 Zs (n.2.take k)]⟩) ?_ fun k _=> ?_
 exact wp [(4,3)] ⟨rfl,rfl,(Qe (by first | rfl | simp)),trivial⟩
 refine w4 ?_
 cases c:(decide ((k:Int) < (n.2.length:Int)))
 have d:=aa c
 refine w8 ?_
 exact fi_ [(0,4)] m ⟨(Qe (by rw[QH (by omega)])),trivial⟩
 have d:=ab c
 refine w5 ?_
 obtain ⟨b,f⟩:=gx n.2 k
 refine w2 ?_
 refine lc (xal 5 Zs KN) ?_
 refine w2 ?_
 apply dV (i4 16 _ _ _ _ [⟨some 20,lR 6,[ar 6 3 .int b.1]⟩,io 21 (lP 5 1),io 22 (lf (.dat QA b.2)),⟨some 23,lR 7,[ar 7 3 .int b.2]⟩,io 24 (ag [.ref 6, .ref 7]),⟨some 25,lR 8,[ar 8 245 Zs ([(b.1,b.2)]),(6,none),(7,none)]⟩,⟨some 26,lR 9,[ar 9 245 Zs ((n.2.take k)++([(b.1,b.2)])),(4,none),(8,none)]⟩,io 27 _,⟨none,lf (.val undef),[bx 2 59 [dI n.1, .ref 9]]⟩]) [0,0,3,3,3,31,31,3,3,3,0,0,0]
 refine z4 ?_
 refine zz (fun _ a=>ac (dO 6 (HL b.1 (by have:=g _ (ah ‹_›); omega)) QeB) rfl) ?_
 refine z2 ?_
 refine zz (fun _ a=>ac (dO 7 (HL b.2 (by have:=g _ (ah ‹_›); omega)) QeB) rfl) ?_
 refine zz (fun _ a=>ac (Qg QdG ⟨_,_,rfl,(a.w rfl),⟨_,_,rfl,(a.w rfl),rfl⟩⟩ (au.1 (by simp only[QQ,Xz,aY,br]; rw[(a.en 6 rfl),(a.en 7 rfl)]; rfl)) rfl rfl) rfl)<|zz (fun _ a=>ac (Vp 8 (e:=Zs) QcH Hw KN rfl ⟨_,_,rfl,(a.w rfl),rfl⟩ (au.1 (by simp only[QQ,Xz,aY,br]; rw[(a.en 6 rfl),(a.en 7 rfl)]; rfl)) ⟨_,_,_,_,rfl,⟨[.ref 6],[.ref 7],_,_,_,_,rfl,rfl,(.inl ⟨_,rfl,(a.en 6 rfl),rfl⟩),(.inl ⟨_,rfl,(a.en 7 rfl),rfl⟩),rfl⟩,⟨rfl,rfl⟩,rfl⟩ (by decide) rfl rfl (a.fr 8 rfl) (nlr rfl)) rfl) ?_
 refine zz (fun _ a=>ac (dA 9 QdK) rfl) ?_
 refine z_ ?_
 refine zz (fun _ a=>ac (QO (a.v rfl) (a.en 2 rfl) (a.w rfl) (by simp only[QQ,Xz,aY,br]; rw[(a.en 9 rfl)]; rfl) Qq5 rfl) rfl) ?_
 exact zN
 refine w4 ?_
 refine Qb ?_
 refine l0_ ?_
 exact wp [(4,9)] ⟨rfl,rfl,(Qe (by rw[QG f])),trivial⟩
def Qme (b:Int)(t:QV):QV:=(t.1.map fun x=>x+b,t.2.map fun x=>x+b)
end Go.Proofs.YtgpdhgadmjfokaaGreat
namespace Go.Proofs.YtgpdhgadmjfokaaGreat
open Go.RowKit
set_option maxRecDepth 100000
set_option maxHeartbeats 4000000
theorem Qzy {us:List Value}(h:us.length=5):∃a b c d e,us=[a,b,c,d,e]:=by
 match us,h with
 | [a,b,c,d,e],_=>exact ⟨_,_,_,_,_,rfl⟩
theorem UY {p:Prop}[Decidable p]{w:World}{e:Ending}{w':World}(h:RetB p w e w'):RetB (decide p=true) w e w':=by
 obtain ⟨b,a,c,d⟩:=h
 exact ⟨b,a,by rw[c,aU],d⟩
theorem Ww (s:Q5)[Decidable (StgOk s)]:FC Tryz.prog 249 [(true,leaves Qdi s)] [] 0 (Q7 (lf (dB (decide (StgOk s))))):=QbW fun g w j h=>by
 obtain ⟨i,rfl,a⟩:=h.agg1
 obtain ⟨b,c,d,e,f,rfl⟩:=Qzy a.len
 exact (Qls b c d e f s w a).mono fun _ _ h=>UY h
def QzF (ts:List QV)(a b:Nat)(p:Int):List QV:=(ts.modify a fun t=>(t.1,t.2++[p])).modify b fun t=>(t.1++[p],t.2)
def Xw (b:Bool):ByteArray:=⟨#[if b then 49 else 48]⟩
def H6 (s:Q5)(o:QK):Q5:=((s.1.1+1,QzF s.1.2 o.1.toNat o.2.1.toNat s.1.1),s.2.1,s.2.2.1,s.2.2.2++Xw o.2.2)
theorem Qj3 {ts:List QV}{i:Nat}{x:QV}(h:ts[i]? =some x):(Zk Zq ts)[i*2+1]? =some (.dat QA x.2)∧(Zk Zq ts)[i*2+0]? =some (.dat QA x.1):=
 ⟨Qal (e:=Zq) (j:=1) h rfl,Qal (e:=Zq) (j:=0) h rfl⟩
theorem Qmf {ts:List QV}{i:Nat}{x:QV}{ys:List Int}(h:ts[i]? =some x):(Zk Zq ts).set (i*2+1) (.dat QA ys)=Zk Zq (ts.set i (x.1,ys)):=
 (Qay (e:=Zq) (j:=1) (x':=(x.1,ys)) h rfl (by decide)).symm
theorem QkJ {ts:List QV}{i:Nat}{x:QV}{ys:List Int}(h:ts[i]? =some x):(Zk Zq ts).set (i*2+0) (.dat QA ys)=Zk Zq (ts.set i (ys,x.2)):=
 (Qay (e:=Zq) (j:=0) (x':=(ys,x.2)) h rfl (by decide)).symm
theorem Qgq {s:Q5}(a:Ty.tot Qdi s≤2000000):s.2.2.2.size≤2000000:=by
 have:Ty.tot Qdi s=Ty.tot Qcv s.1+((s.2.1.length+(s.2.1.map (Ty.tot XC)).sum)+((s.2.2.1.length+(s.2.2.1.map (Ty.tot Qb2)).sum)+s.2.2.2.size)):=rfl
 omega
theorem Xt (b:UInt8):(⟨#[b]⟩:ByteArray).size=1:=rfl
theorem Qzk {a n:Nat}(h:a < n):a*2+1 < n*2:=by omega
theorem Qzu {a n:Nat}(h:a < n):a*2+0 < n*2:=by omega
theorem QiV (b:Bool):FC Tryz.prog 259 [(false,[dB b])] [] 0 (Q7 (lf (.dat .u8 (if b then 49 else 48)))):=by
 refine Qt Tryz.func259 rfl rfl Tryz.ntmps259 fun g a f c h e d=> ?_
 refine w_ ?_
 refine lc (Wy (Qw 0 rfl) rfl) ?_
 refine w5 ?_
 refine cb_ (fun _=> ?_) fun _=> ?_
 refine w2 ?_
 refine lc (Wy (Qw 48 rfl) rfl) ?_
 refine w_ ?_
 refine Qd<|fq_ a ?_
 simp_all
 refine w_ ?_
 refine lc (Wy (Qw 49 rfl) rfl) ?_
 refine w_ ?_
 refine Qd<|fq_ a ?_
 simp_all
def QbT:Q5:=((0,[]),[],[],ByteArray.empty)
def QwB (s:Q5)[Decidable (StgOk s)]:Q5×Bool:=if StgOk s then (s,true) else (QbT,false)
end Go.Proofs.YtgpdhgadmjfokaaGreat
namespace Go.Proofs.YtgpdhgadmjfokaaGreat
open Go.RowKit
set_option maxRecDepth 100000
set_option maxHeartbeats 4000000
def QsQ (s:Q5)(o:QK):Prop:=StgOk s∧(0≤o.1∧o.1 < s.1.2.length)∧(0≤o.2.1∧o.2.1 < s.1.2.length)∧o.1≠o.2.1
instance (s:Q5) (o:QK) [Decidable (StgOk s)]:Decidable (QsQ s o):=inferInstanceAs (Decidable (_∧_))
def Qtq (s:Q5)(o:QK)[Decidable (StgOk s)][Decidable (StgOk (H6 s o))]:Q5×Bool:=if QsQ s o then QwB (H6 s o) else (QbT,false)
def QzT (s:Q5)(o:QK)[Decidable (StgOk s)][Decidable (StgOk (H6 s o))]:Q5×Bool:=if QsQ s o then (H6 s o,decide (StgOk (H6 s o))) else (QbT,false)
section
variable {s:Q5}{o:QK}[Decidable (StgOk s)][Decidable (StgOk (H6 s o))]
end
end Go.Proofs.YtgpdhgadmjfokaaGreat
namespace Go.Proofs.YtgpdhgadmjfokaaGreat
open Go.RowKit
set_option maxRecDepth 100000
set_option maxHeartbeats 4000000
section
variable {α:Type _}(f:α→Int→α×Int)
def QI:List α→Int→List α×Int
 | [],k=>([],k)
 | x :: xs,k=>((f x k).1 :: (QI xs (f x k).2).1,(QI xs (f x k).2).2)
def mkA (a:List α)(k:Int)(i:Nat):List α:=(QI f (a.take i) k).1++a.drop i
def mkC (a:List α)(k:Int)(i:Nat):Int:=(QI f (a.take i) k).2
variable {f}
end
@[reducible] def fI:Int→Int→Int×Int:=fun _ k=>(k,k+1)
@[reducible] def fL:Int×Bool→Int→(Int×Bool)×Int:=fun _ k=>((k,decide ((k+1) % 3=0)),k+2)
end Go.Proofs.YtgpdhgadmjfokaaGreat
namespace Go.Proofs.YtgpdhgadmjfokaaGreat
open Go.RowKit
set_option maxRecDepth 100000
set_option maxHeartbeats 4000000
@[reducible] def fT:List Int×List Int→Int→(List Int×List Int)×Int:=fun t k=>(((QI fI t.1 k).1,(QI fI t.2 (QI fI t.1 k).2).1),(QI fI t.2 (QI fI t.1 k).2).2)
def cT (t:List Int×List Int):Nat:=t.1.length+t.2.length
def QzY (a:List (List Int×List Int)):Nat:=(a.map cT).sum
end Go.Proofs.YtgpdhgadmjfokaaGreat
namespace Go.Proofs.YtgpdhgadmjfokaaGreat
open Go.RowKit
set_option maxRecDepth 100000
set_option maxHeartbeats 4000000
def dg (k:Int):Nat→ByteArray
 | 0=>(⟨#[]⟩:ByteArray)
 | j+1=>(⟨#[UInt8.ofNat ((48+(k / 10 ^ j) % 10):Int).toNat]⟩:ByteArray)++dg k j
def mt (k:Int):Nat→Nat→ByteArray
 | 0,j=>dg k j
 | n+1,j=>if k / 10 ^ j≤0 then dg k j else mt k n (j+1)
def QvO (k:Int):ByteArray:=if k≤0 then (⟨#[109,48]⟩:ByteArray) else (⟨#[109]⟩:ByteArray)++mt k 20 0
end Go.Proofs.YtgpdhgadmjfokaaGreat
namespace Go.Proofs.YtgpdhgadmjfokaaGreat
open Go.RowKit
set_option maxRecDepth 100000
set_option maxHeartbeats 4000000
@[reducible] def fS:ByteArray×Int→Int→(ByteArray×Int)×Int:=fun _ k=>((QvO k,k+1),k+2)
def QzX (s:Q5)(k:Int):Q5×Int:=(((s.1.1,(QI fT s.1.2 k).1),(QI fS s.2.1 (QI fT s.1.2 k).2).1,(QI fL s.2.2.1 (QI fS s.2.1 (QI fT s.1.2 k).2).2).1,s.2.2.2),(QI fL s.2.2.1 (QI fS s.2.1 (QI fT s.1.2 k).2).2).2)
end Go.Proofs.YtgpdhgadmjfokaaGreat
namespace Go.Proofs.YtgpdhgadmjfokaaGreat
open Go.RowKit
set_option maxRecDepth 100000
set_option maxHeartbeats 4000000
section
variable [∀s,Decidable (StgOk s)]
def QxY:Q5→List QK→Q5×Bool
 | s,[]=>(s,true)
 | s,o :: os=>if (Qtq s o).2=true then QxY (Qtq s o).1 os else (QbT,false)
def Qze (s:Q5)(l:List QK):Q5×Bool:=if StgOk s∧l.length≤6 then QxY s l else (QbT,false)
end
@[reducible] def Qxm:(QK)→Int→(QK)×Int:=fun _ k=>((k,k+1,decide ((k+1+1) % 3=0)),k+1+1+1)
end Go.Proofs.YtgpdhgadmjfokaaGreat
namespace Go.Proofs.YtgpdhgadmjfokaaGreat
open Go.RowKit
set_option maxRecDepth 100000
set_option maxHeartbeats 4000000
def bAt (m:ByteArray)(p:Int):UInt8:=(m[p.toNat]?).getD 0
theorem Qv {m:ByteArray}{p:Int}{c:UInt8}(h:m[p.toNat]? =some c):bAt m p=c:=by unfold bAt; rw[h]; rfl
theorem X9 (m:ByteArray):m.toList.length=m.size:=by simp[bw]
def Zl {α:Type _}(f:α→Bool)(l:List α):Int:=match l.findIdx? f with | some i=>i | none=> -1
def NoneTo {α:Type _}(f:α→Bool)(l:List α)(k:Nat):Prop:=∀j,j < k→∀x,l[j]? =some x→f x=false
section
variable {α:Type _}{f:α→Bool}{l:List α}{k:Nat}{x:α}
theorem NoneTo.zero:NoneTo f l 0:=fun j a=>absurd a (bi j)
theorem NoneTo.step (h:NoneTo f l k)(c:l[k]? =some x)(b:f x=false):NoneTo f l (k+1):=fun j d y a=>by
 by_cases e:j=k
 ·subst e; rw[c] at a; cases a; exact b
 ·exact h j (by omega) y a
theorem NoneTo.at (h:NoneTo f l k)(e:l[k]? =some x)(c:f x=true):Zl f l=k:=by
 obtain ⟨a,b⟩:=ai.1 e
 have:l.findIdx? f=some k:=cA.2 ⟨a,by rw[b]; exact c,fun j d=>by
  have:=h j d _ (ak (by omega))
  simp[this]⟩
 unfold Zl
 rw[this]
theorem NoneTo.no (h:NoneTo f l k)(c:l.length≤k):Zl f l= -1:=by
 have:l.findIdx? f=none:=List.findIdx?_eq_none_iff.2 fun x b=>by
  obtain ⟨j,a⟩:=aM.1 b
  have:=(ai.1 a).1
  exact h j (by omega) x a
 unfold Zl
 rw[this]
theorem NoneTo.any_no (h:NoneTo f l k)(c:l.length≤k):l.any f=false:=cD.2 fun x b=>by
 obtain ⟨j,a⟩:=aM.1 b
 have:=(ai.1 a).1
 simp[h j (by omega) x a]
theorem Qtp (b:l[k]? =some x)(a:f x=true):l.any f=true:=ck.2 ⟨x,ah b,a⟩
theorem VQ (f:α→Bool)(l:List α):decide (0≤Zl f l)=l.any f:=by
 unfold Zl
 cases h:l.findIdx? f with
 | none=>
  have:=List.findIdx?_eq_none_iff.1 h
  rw[bQ]
  simp only[ck,aU]
  constructor
  ·intro h; omega
  ·rintro ⟨x,d,a⟩; rw[this x d] at a; cases a
 | some i=>
  obtain ⟨b,c,_⟩:=cA.1 h
  have:l.any f=true:=ck.2 ⟨_,cX b,c⟩
  rw[this]
  simp
def Wz (f:α→Bool)(l:List α):Nat→List Int
 | 0=>[]
 | k+1=>Wz f l k++(match l[k]? with | some x=>if f x then [(k:Int)] else [] | none=>[])
theorem QoU (b:l[k]? =some x)(a:f x=true):Wz f l k++[(k:Int)]=Wz f l (k+1):=by simp[Wz,b,a]
theorem Qq1 (b:l[k]? =some x)(a:f x=false):Wz f l k=Wz f l (k+1):=by simp[Wz,b,a]
theorem Qgu (f:α→Bool)(l:List α)(k:Nat):(Wz f l k).length≤k:=by
 induction k with
 | zero=>simp[Wz]
 | succ k a=>
  simp only[Wz,ae]
  split
  ·split <;> simp <;> omega
  ·simp; omega
theorem QoW {f:α→Bool}{l:List α}{k:Nat}{t:Int}(h:t∈Wz f l k):∃x,0≤t∧t < l.length∧t < k∧l[t.toNat]? =some x∧f x=true:=by
 induction k with
 | zero=>simp[Wz] at h
 | succ k g=>
  simp only[Wz,aE] at h
  rcases h with h | h
  ·obtain ⟨x,c,d,i,e⟩:=g h; exact ⟨x,c,d,by omega,e⟩
  ·cases a:l[k]? with
   | none=>rw[a] at h; simp at h
   | some x=>
    rw[a] at h
    cases b:f x with
    | false=>simp[b] at h
    | true=>
     simp only[b,if_true,aB] at h
     subst h
     have:=(ai.1 a).1
     exact ⟨x,by omega,by omega,by omega,by simpa using a,b⟩
theorem Yd {l:List α}{k:Nat}{x:α}(c:l[k]? =some x):l.drop k=x :: l.drop (k+1):=by
 obtain ⟨a,b⟩:=ai.1 c
 rw[List.drop_eq_getElem_cons a,b]
end
def Qc8 (m:ByteArray)(ps:List Int):Prop:=∀p∈ps,(0≤p∧p < m.size)∧(bAt m p=48∨bAt m p=49)
def enb (m:ByteArray)(t:QV):Bool:= !t.1.any fun p=>decide (bAt m p=48)
def Jj (n:Xr)(m:ByteArray):List Int:=Wz (enb m) n.2 n.2.length
def clr (l:List UInt8):List Int→List UInt8
 | []=>l
 | p :: ps=>clr (l.set p.toNat 48) ps
def JR (l:List UInt8):List Int→Option (List UInt8)
 | []=>some l
 | p :: ps=>if l[p.toNat]? =some 49 then none else JR (l.set p.toNat 49) ps
def JK (m:ByteArray)(t:QV):ByteArray×Bool:=match JR (clr m.toList t.1) t.2 with
 | none=>(⟨#[]⟩,false)
 | some l=>(⟨l.toArray⟩,true)
def YE (n:Xr)(m:ByteArray)(t:Int):ByteArray×Bool:=match n.2[t.toNat]? with
 | none=>(⟨#[]⟩,false)
 | some x=>JK m x
def QzP (n:Xr)(m:ByteArray)(t:Int):ByteArray×Bool:=if 0≤t then (match n.2[t.toNat]? with
 | none=>(⟨#[]⟩,false)
 | some x=>if enb m x then JK m x else (⟨#[]⟩,false)) else (⟨#[]⟩,false)
section
variable {n:Xr}{m:ByteArray}{t:Int}{x:QV}{l:List UInt8}{ps:List Int}{k:Nat}{p:Int}
theorem Qrl (a:ps[k]? =some p):clr l (ps.drop k)=clr (l.set p.toNat 48) (ps.drop (k+1)):=by rw[Yd a,clr]
theorem QtZ (h:ps.length≤k):clr l (ps.drop k)=l:=by rw[bJ h,clr]
theorem Qqx (d:ps[k]? =some p){c:UInt8}(a:l[p.toNat]? =some c)(b:decide (c=49)=false):JR l (ps.drop k)=JR (l.set p.toNat 49) (ps.drop (k+1)):=by
 rw[Yd d,JR,if_neg]
 rw[a]
 intro h
 cases h
 simp at b
theorem QnS (d:ps[k]? =some p){c:UInt8}(a:l[p.toNat]? =some c)(b:decide (c=49)=true):JR l (ps.drop k)=none:=by
 rw[Yd d,JR,if_pos]
 rw[a,ab b]
theorem Qkq (h:ps.length≤k):JR l (ps.drop k)=some l:=by rw[bJ h,JR]
theorem QuQ (l:List UInt8)(ps:List Int):(clr l ps).length=l.length:=by
 induction ps generalizing l with
 | nil=>rfl
 | cons p ps a=>rw[clr,a,az]
theorem Qgf (h:JR (clr m.toList x.1) x.2=none):JK m x=(⟨#[]⟩,false):=by unfold JK; rw[h]
theorem Qeq (h:JR (clr m.toList x.1) x.2=some l):JK m x=(⟨l.toArray⟩,true):=by unfold JK; rw[h]
theorem QdA (a:n.2[t.toNat]? =some x):YE n m t=JK m x:=by unfold YE; rw[a]
def QcW (n:Xr)(m:ByteArray)(t:Int):Bool:=match n.2[t.toNat]? with
 | some x=>enb m x
 | none=>false
theorem Qdq (a:n.2[t.toNat]? =some x):QcW n m t=enb m x:=by unfold QcW; rw[a]
theorem Qtm (h:Qc8 m x.1):enb m x=true↔∀p∈x.1,bAt m p=49:=by
 unfold enb
 simp only[bL,cD,aU]
 constructor
 ·intro k p b
  rcases (h p b).2 with a | a
  ·exact absurd a (k p b)
  ·exact a
 ·intro k p b a
  rw[k p b] at a
  exact absurd a (by decide)
theorem QkU {c:UInt8}(b:∀j,j < k→∀y,ps[j]? =some y→bAt m y=49)(g:ps[k]? =some p)(d:m[p.toNat]? =some c)(hb:(!decide (c=49))=false):∀j,j < k+1→∀y,ps[j]? =some y→bAt m y=49:=fun j h y a=>by
 by_cases e:j=k
 ·subst e; rw[g] at a; cases a
  rw[Qv d]
  simpa using hb
 ·exact b j (by omega) y a
theorem Qr5 {c:UInt8}(b:n.2[t.toNat]? =some x)(d:Qc8 m x.1)(e:x.1[k]? =some p)(a:m[p.toNat]? =some c)(hb:(!decide (c=49))=true):QcW n m t=false:=by
 rw[Qdq b,bR]
 intro h
 have:=(Qtm d).1 h p (ah e)
 rw[Qv a] at this
 simp[this] at hb
theorem Qo0 (c:n.2[t.toNat]? =some x)(d:Qc8 m x.1)(b:∀j,j < k→∀y,x.1[j]? =some y→bAt m y=49)(e:x.1.length≤k):QcW n m t=true:=by
 rw[Qdq c]
 refine (Qtm d).2 fun p h=> ?_
 obtain ⟨j,a⟩:=aM.1 h
 have:=(ai.1 a).1
 exact b j (by omega) p a
theorem QeH (b:k < n.2.length)(h:QcW n m (k:Int)=true):Wz (enb m) n.2 k++[(k:Int)]=Wz (enb m) n.2 (k+1):=by
 have a:=ak b
 rw[Qdq (t:=(k:Int)) (show n.2[((k:Int)).toNat]? =some _ from a)] at h
 exact QoU a h
theorem QgO (b:k < n.2.length)(h:QcW n m (k:Int)=false):Wz (enb m) n.2 k=Wz (enb m) n.2 (k+1):=by
 have a:=ak b
 rw[Qdq (t:=(k:Int)) (show n.2[((k:Int)).toNat]? =some _ from a)] at h
 exact Qq1 a h
end
theorem QeE (n:QpC)(a:ByteArray)(t:Int)(v:∀t∈n.2,Qc8 a t.1∧Qc8 a t.2)(ht:0≤t∧t < (n.2.length:Int)):FC Tryz.prog 358 [(true,[dI n.1, .dat X7 n.2]),(false,[dS a]),(false,[dI t])] [] 0 (Q7 (PV.tup [(false,[dS ((YE n a t).1)]),(false,[dB ((YE n a t).2)])])):=by
 have W:=X9 a
 refine Qt Tryz.func358 rfl rfl Tryz.ntmps358 fun Y O X R Z T S=> ?_
 refine acG 0 0 fun _=> ?_
 refine acI 2 fun _=> ?_
 refine w_ ?_
 refine xbx 0 ?_
 refine w5 ?_
 refine lc (QhM 1 (Qa rfl) Zf ZD Vl rfl (Fresh.of rfl) (nlr rfl)) ?_
 refine w7 ?_
 obtain ⟨x,w⟩:=gx n.2 ((t).toNat)
 have I:=(v _ (ah w)).1
 have J:=(v _ (ah w)).2
 refine w3 ?_
 refine alL 20 fun _=> ?_
 refine w4 ?_
 refine QL (fun y z=>∃(k:Nat) (l:List UInt8),k≤x.1.length∧y=x.1.length - k∧(clr a.toList x.1=clr l (x.1.drop k))∧(l.length=a.toList.length)∧z=⟨[(2,lI t),(3,lP 0 0),(6,lf (dS (⟨#[]⟩:ByteArray))),(7,lB false),(8,lR 2),(20,lf (.dat QA x.1)),(21,lI (x.1.length:Int)),(22,lI (k:Int))],[bx 0 59 [dI n.1, .dat X7 n.2],(2,some (.bys 5 l))]⟩) ⟨0,a.toList,aS _,rfl,rfl,rfl,rfl⟩ ?_ ?_
 exact wo [(2,1)]
 rintro y z ⟨k,l,U,V,M,N,rfl⟩
 refine w4 ?_
 cases s:(decide ((k:Int) < (x.1.length:Int)))
 have u:=aa s
 refine w11 ?_
 refine alL 35 fun _=> ?_
 refine w4 ?_
 refine QL (fun y z=>∃(i:Nat) (o:List UInt8),i≤x.2.length∧y=x.2.length - i∧(JR (clr a.toList x.1) x.2=JR o (x.2.drop i))∧(o.length=a.toList.length)∧z=⟨[(8,lR 3),(35,lf (.dat QA x.2)),(36,lI (x.2.length:Int)),(37,lI (i:Int))],[(3,some (.bys 5 o))]⟩) ⟨0,l,aS _,rfl,by rw[M,QtZ (by omega)]; rfl,N,rfl⟩ ?_ ?_
 exact wo [(3,2)]
 rintro y z ⟨i,o,P,Q,d,F,rfl⟩
 refine w4 ?_
 cases g:(decide ((i:Int) < (x.2.length:Int)))
 have q:=aa g
 refine w5 ?_
 refine lc (Zm (ys:=o) (QqP (Qa rfl) rfl) ZD Vl Zf rfl) ?_
 refine w4 ?_
 have B:((⟨(o).toArray⟩:ByteArray):ByteArray)=((YE n a t).1):=by
  first | (rw[QdA (x:=x) ‹_›,Qeq (d.trans (Qkq (by omega)))]; done)
 have C:(true:Bool)=((YE n a t).2):=by
  first | (rw[QdA (x:=x) ‹_›,Qeq (d.trans (Qkq (by omega)))]; done)
 exact fr_ O (e:=by rw[B,← C] <;> rfl)
 have q:=ab g
 refine w5 ?_
 obtain ⟨A,b⟩:=gx x.2 i
 have G:=(J _ (ah b)).1
 refine w2 ?_
 refine alI 40 fun _=> ?_
 refine w6 ?_
 refine lc (JI (Qa rfl) rfl (Qa rfl) ZD Zd rfl (by omega) (by first | omega | (simp only[az]; omega))) ?_
 obtain ⟨K,c⟩:=gx o ((A).toNat)
 refine lc (Qmo (Qa rfl) rfl c Zd rfl)<|lc (Qr (Qa rfl) (Qw 49 rfl) rfl) ?_
 refine w_ ?_
 cases h:(decide (K=49))
 have r:=aa h
 refine w5 ?_
 refine lc (JI (Qa rfl) rfl (Qa rfl) ZD Zd rfl (by omega) (by first | omega | (simp only[az]; omega)))<|lc (QcS (Qa rfl) rfl (by first | omega | (simp only[az]; omega)) (Qw 49 rfl) Zd)<|Qb ?_
 refine w4 ?_
 refine Qb<|Q2 ⟨i+1,(o.set ((A).toNat) 49),by omega,rfl,d.trans (Qqx b c ‹_›),by rw[az]; exact F,rfl⟩ (by omega) ?_
 exact wp [] ⟨(Qy1 (by first | rfl | simp)),trivial⟩
 have r:=ab h
 refine w6 ?_
 have D:((⟨#[]⟩:ByteArray):ByteArray)=((YE n a t).1):=by
  (rw[QdA (x:=x) ‹_›,Qgf (d.trans (QnS b c ‹_›))]; done)
 have E:(false:Bool)=((YE n a t).2):=by
  (rw[QdA (x:=x) ‹_›,Qgf (d.trans (QnS b c ‹_›))]; done)
 exact fr_ O (e:=by rw[D,← E] <;> rfl)
 have u:=ab s
 refine w5 ?_
 obtain ⟨L,j⟩:=gx x.1 k
 have H:=(I _ (ah j)).1
 refine w2 ?_
 refine alI 25 fun _=> ?_
 refine w5 ?_
 refine lc (JI (Qa rfl) rfl (Qa rfl) ZD Zd rfl (by omega) (by first | omega | (simp only[az]; omega)))<|lc (QcS (Qa rfl) rfl (by first | omega | (simp only[az]; omega)) (Qw 48 rfl) Zd)<|Qb ?_
 refine w4 ?_
 refine Qb<|Q2 ⟨k+1,(l.set ((L).toNat) 48),by omega,rfl,M.trans (Qrl j),by rw[az]; exact N,rfl⟩ (by omega) ?_
 exact wp [] ⟨rfl,(Qy1 (by first | rfl | simp)),trivial⟩
theorem Qdd (n:QpC)(a:ByteArray)(t:Int)(o:∀t∈n.2,Qc8 a t.1∧Qc8 a t.2)(G:0≤t∧t < (n.2.length:Int)):FC Tryz.prog 360 [(true,[dI n.1, .dat X7 n.2]),(false,[dS a]),(false,[dI t])] [] 0 (Q7 (lB (QcW n a t))):=by
 refine Qt Tryz.func360 rfl rfl Tryz.ntmps360 fun E s C w F A z=> ?_
 refine acG 0 0 fun _=> ?_
 refine acI 2 fun _=> ?_
 refine w_ ?_
 refine xbx 0 ?_
 refine w7 ?_
 obtain ⟨x,q⟩:=gx n.2 ((t).toNat)
 have e:=(o _ (ah q)).1
 refine w3 ?_
 refine alL 14 fun _=> ?_
 refine w4 ?_
 refine lpK x.1.length (fun k=>∀j,j < k→∀y,x.1[j]? =some y→bAt a y=49) (fun k=>⟨[(1,lf (dS a)),(14,lf (.dat QA x.1)),(15,lI (x.1.length:Int)),(16,lI (k:Int))],[]⟩) (fun j B=>absurd B (bi j)) ?_ fun k _ r=> ?_
 exact wo []
 refine w4 ?_
 cases h:(decide ((k:Int) < (x.1.length:Int)))
 have i:=aa h
 refine w6 ?_
 refine Qd<|fqB s ?_
 first | exact (Qo0 ‹_› e r (by omega)).symm
 have i:=ab h
 refine w5 ?_
 obtain ⟨D,g⟩:=gx x.1 k
 have v:=(e _ (ah g)).1
 refine w2 ?_
 refine alI 19 fun _=> ?_
 refine w5 ?_
 obtain ⟨c,u⟩:=gs a ((D).toNat)
 refine w_ ?_
 refine lc (Q4 (Qa rfl) (Qw 49 rfl) rfl) ?_
 refine w_ ?_
 cases b:(!decide (c=49))
 have d:(c=49):=QM b
 refine w6 ?_
 refine Qb ?_
 refine lK_ (QkU r g ‹_› ‹_›) ?_
 exact wo []
 have d:¬(c=49):=QS b
 refine w4 ?_
 refine Qd<|fqB s ?_
 exact (Qr5 ‹_› e g ‹_› ‹_›).symm
theorem QbM (n:QpC)(a:ByteArray)(d:∀t∈n.2,Qc8 a t.1∧Qc8 a t.2)(q:n.2.length≤2000000):FC Tryz.prog 251 [(true,[dI n.1, .dat X7 n.2]),(false,[dS a])] [] 0 (YJ 3 .int (Jj n a)):=by
 refine Qt Tryz.func251 rfl rfl Tryz.ntmps251 fun u j s g v i h=> ?_
 refine acG 0 0 fun _=> ?_
 refine w_ ?_
 refine xbx 0 ?_
 refine w9 ?_
 refine alL 8 fun _=> ?_
 refine w4 ?_
 refine AC.wk (Wk.nilS 1 5 3 .int rfl (Fresh.of rfl) (nlr rfl)) ?_
 refine lp0 n.2.length (fun k=>⟨[(1,lf (dS a)),(2,lP 0 0),(4,lf (.val (.slice none 0 0))),(5,lR 2),(9,lI (n.2.length:Int)),(10,lI (k:Int))],[bx 0 59 [dI n.1, .dat X7 n.2],ar 2 3 .int (Wz (enb a) n.2 k)]⟩) ?_ fun k _=> ?_
 exact wp [(2,1)] ⟨rfl,(Qe (by first | rfl | simp)),trivial⟩
 have r:=Qgu (enb a) n.2 k
 refine w4 ?_
 cases b:(decide ((k:Int) < (n.2.length:Int)))
 have c:=aa b
 refine w7 ?_
 refine Qd<|fo_ j ?_
 rw[show k=n.2.length by omega]; rfl
 have c:=ab b
 refine w12 ?_
 refine lc (dK (Qdd n a (k:Int) d (by omega)) Qmw) ?_
 refine w_ ?_
 cases o:(QcW n a (k:Int))
 refine w6 ?_
 refine Qb ?_
 refine l0_ ?_
 exact wp [] ⟨rfl,(Qe (by first | exact QeH (by omega) ‹_› | exact QgO (by omega) ‹_›)),trivial⟩
 refine w4 ?_
 refine lc (dBs 3 (e:= .int) Yj) ?_
 refine lc (dA 4 Y4) ?_
 refine w_ ?_
 refine Qb ?_
 refine w4 ?_
 refine Qb ?_
 refine l0_ ?_
 exact wp [(2,4)] ⟨rfl,(Qe (by first | exact QeH (by omega) ‹_› | exact QgO (by omega) ‹_›)),trivial⟩
end Go.Proofs.YtgpdhgadmjfokaaGreat
