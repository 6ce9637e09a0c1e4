/- Sorted lists without repetition: put in one by one, or sorted and made compact. Plain lists; no program is named here. -/
import Derived.Test.YtndabgcpnmeeoaaGreatOAv
import Derived.Sort.OwnSorted
import Derived.Shelf.Sort.AssemblysIn
import Derived.Shelf.Lays
import Derived.Shelf.Slices.In.SortNone
import Derived.Test.YtndabgcpnmeeoaaGreatOAf
import Derived.Test.YtndabgcpnmeeoaaGreatOAi
import Derived.Test.YtndabgcpnmeeoaaGreatOAs
import Derived.Test.YtndabgcpnmeeoaaGreatOAk
set_option linter.unusedSimpArgs false
set_option linter.unusedVariables false
set_option linter.unusedSectionVars false
namespace Go.Proofs.YtndabgcpnmeeoaaGreat
structure TO {α:Type _} (lt:α→α→Bool):Prop where
  irr:∀x,lt x x=false
  tr:∀x y z,lt x y=true→lt y z=true→lt x z=true
  tot:∀x y,lt x y=true∨x=y∨lt y x=true
def Zr {α:Type _}[DecidableEq α](lt:α→α→Bool)(x:α):List α→List α
 | []=>[x]
 | y :: l=>if lt y x=true then y :: Zr lt x l else if y=x then y :: l else x :: y :: l
def Yi {α:Type _}[DecidableEq α]:List α→List α
 | []=>[]
 | [x]=>[x]
 | x :: y :: l=>if x=y then Yi (y :: l) else x :: Yi (y :: l)
def ofG {α:Type _}[DecidableEq α](lt:α→α→Bool)(l:List α):List α:=l.foldl (fun s x=>Zr lt x s) []
section
variable {α:Type _}[DecidableEq α]{lt:α→α→Bool}{l a b:List α}{x y z:α}{k:Nat}
omit [DecidableEq α] in
theorem TO.ext (h:TO lt):∀{a b:List α},a.Pairwise (fun x y=>lt x y=true)→b.Pairwise (fun x y=>lt x y=true)→(∀x,x∈a↔x∈b)→a=b
 | [],[],_,_,_=>rfl
 | [],y :: b,_,_,hm=>by have:=(hm y).2 (aw ..); cases this
 | x :: a,[],_,_,hm=>by have:=(hm x).1 (aw ..); cases this
 | x :: a,y :: b,ha,hb,hm=>by
  obtain ⟨g,j⟩:=bm.1 ha
  obtain ⟨i,m⟩:=bm.1 hb
  have f:x=y:=by
   rcases aE.1 ((hm x).1 (aw ..)) with c | c
   ·exact c
   ·rcases aE.1 ((hm y).2 (aw ..)) with e | e
    ·exact e.symm
    ·have:=h.tr _ _ _ (g _ e) (i _ c)
     rw[h.irr] at this; cases this
  subst f
  congr 1
  refine h.ext j m fun z=>⟨fun d=> ?_,fun d=> ?_⟩
  ·rcases aE.1 ((hm z).1 (ax _ d)) with c | c
   ·subst c; have:=g _ d; rw[h.irr] at this; cases this
   ·exact c
  ·rcases aE.1 ((hm z).2 (ax _ d)) with c | c
   ·subst c; have:=i _ d; rw[h.irr] at this; cases this
   ·exact c
theorem Y3:z∈Zr lt x l↔z=x∨z∈l:=by
 induction l with
 | nil=>simp[Zr]
 | cons y l c=>
  unfold Zr
  split
  ·rw[aE,c,aE]
   constructor
   ·rintro (h | h | h)
    ·exact .inr (.inl h)
    ·exact .inl h
    ·exact .inr (.inr h)
   ·rintro (h | h | h)
    ·exact .inr (.inl h)
    ·exact .inl h
    ·exact .inr (.inr h)
  ·split
   ·rename_i h; subst h
    rw[aE]
    exact ⟨fun h=>h.elim .inl fun h=> .inr (.inr h),fun h=>h.elim .inl id⟩
   ·rw[aE]
theorem Ha (h:TO lt)(f:l.Pairwise (fun x y=>lt x y=true)):(Zr lt x l).Pairwise (fun x y=>lt x y=true):=by
 induction l with
 | nil=>simp[Zr]
 | cons y l n=>
  obtain ⟨j,m⟩:=bm.1 f
  unfold Zr
  split
  ·rename_i i
   refine bm.2 ⟨fun z c=> ?_,n m⟩
   rcases Y3.1 c with rfl | c
   ·exact i
   ·exact j z c
  ·split
   ·exact f
   ·rename_i i g
    have e:lt x y=true:=by
     rcases h.tot x y with d | d | d
     ·exact d
     ·exact absurd d.symm g
     ·exact absurd d i
    refine bm.2 ⟨fun z c=> ?_,f⟩
    rcases aE.1 c with rfl | c
    ·exact e
    ·exact h.tr _ _ _ e (j z c)
theorem Qfg (h:TO lt):∀(l s:List α),s.Pairwise (fun x y=>lt x y=true)→(l.foldl (fun s x=>Zr lt x s) s).Pairwise (fun x y=>lt x y=true)∧∀z,z∈l.foldl (fun s x=>Zr lt x s) s↔z∈s∨z∈l
 | [],s,hs=>⟨hs,fun z=>by simp⟩
 | x :: l,s,hs=>by
  obtain ⟨c,d⟩:=Qfg h l _ (Ha (x:=x) h hs)
  refine ⟨c,fun z=> ?_⟩
  rw[bh,d,Y3,aE]
  constructor
  ·rintro ((h | h) | h)
   ·exact .inr (.inl h)
   ·exact .inl h
   ·exact .inr (.inr h)
  ·rintro (h | h | h)
   ·exact .inl (.inr h)
   ·exact .inl (.inl h)
   ·exact .inr h
theorem HK (h:TO lt)(l:List α):(ofG lt l).Pairwise (fun x y=>lt x y=true):=(Qfg h l [] cj).1
theorem WC (h:TO lt)(l:List α):z∈ofG lt l↔z∈l:=by
 have:=(Qfg h l [] cj).2 z
 simpa [ofG] using this
theorem Qft:Zr lt x (ofG lt l)=ofG lt (l++[x]):=by unfold ofG; rw[bK]; rfl
theorem JN:∀{l:List α},z∈Yi l↔z∈l
 | []=>Iff.rfl
 | [x]=>Iff.rfl
 | x :: y :: l=>by
  unfold Yi
  split
  ·rename_i h; subst h
   rw[JN]
   exact ⟨ax _,fun h=>(aE.1 h).elim (fun h=>by rw[h]; exact aw ..) id⟩
  ·rw[aE,JN,aE (l:=y :: l)]
theorem Qep (h:TO lt):∀{l:List α},l.Pairwise (fun x y=>lt y x=false)→(Yi l).Pairwise (fun x y=>lt x y=true)
 | [],_=>cj
 | [x],_=>by simp[Yi]
 | x :: y :: l,hl=>by
  obtain ⟨j,f⟩:=bm.1 hl
  unfold Yi
  split
  ·exact Qep h f
  ·rename_i e
   refine bm.2 ⟨fun z i=> ?_,Qep h f⟩
   rw[JN] at i
   rcases h.tot x z with d | d | d
   ·exact d
   ·subst d
    rcases aE.1 i with g | g
    ·exact absurd g e
    ·have m:=j y (aw ..)
     have n:=(bm.1 f).1 x g
     rcases h.tot x y with c | c | c
     ·rw[n] at c; cases c
     ·exact absurd c e
     ·rw[m] at c; cases c
   ·have:=j z i; rw[this] at d; cases d
theorem Qnr (h:TO lt){s l:List α}(d:s.Pairwise (fun x y=>lt y x=false))(c:∀z,z∈s↔z∈l):Yi s=ofG lt l:=
 h.ext (Qep h d) (HK h l) fun z=>by rw[JN,c,WC h]
theorem QdV:∀{k:Nat} {l:List α},(∀j,j < k→∀y,l[j]? =some y→lt y x=true)→k≤l.length→(∀y,l[k]? =some y→lt y x=false∧y≠x)→Zr lt x l=l.take k++x :: l.drop k
 | 0,[],_,_,_=>rfl
 | 0,y :: l,_,_,h2=>by
  obtain ⟨d,e⟩:=h2 y rfl
  unfold Zr
  rw[if_neg (by rw[d]; decide),if_neg e]; rfl
 | k+1,[],_,hk,_=>by simp at hk
 | k+1,y :: l,h1,hk,h2=>by
  unfold Zr
  rw[if_pos (h1 0 (by omega) y rfl),QdV (k:=k) (fun j f z c=>h1 (j+1) (by omega) z (by simpa using c)) (by simpa using hk) (fun z c=>h2 z (by simpa using c))]
  rfl
theorem HS:∀{k:Nat} {l:List α},(∀j,j < k→∀y,l[j]? =some y→lt y x=true)→l[k]? =some x→lt x x=false→Zr lt x l=l
 | 0,[],_,h,_=>by simp at h
 | 0,y :: l,_,h,h3=>by
  simp only[bD,bC] at h
  subst h
  unfold Zr
  rw[if_neg (by rw[h3]; decide),if_pos rfl]
 | k+1,[],_,h,_=>by simp at h
 | k+1,y :: l,h1,h,h3=>by
  unfold Zr
  rw[if_pos (h1 0 (by omega) y rfl),HS (k:=k) (fun j d z c=>h1 (j+1) (by omega) z (by simpa using c)) (by simpa using h) h3]
end
def ltI (x y:Int):Bool:=decide (x < y)
theorem X4:TO ltI:=⟨fun x=>by simp[ltI],fun x y z c d=>by simp only[ltI,aS] at*; omega,fun x y=>by simp only[ltI,aS]; omega⟩
theorem Qu0 (l:List Int):Yi (VE l)=ofG ltI l:=Qnr X4 ((Qbz l).imp fun h=>by simp only[ltI,decide_eq_false_iff_not]; omega) fun _=>Qcx
end Go.Proofs.YtndabgcpnmeeoaaGreat
namespace Go.Proofs.YtndabgcpnmeeoaaGreat
open Go.RowKit
def ltB (x y:ByteArray):Bool:=Op.bytesLess x.toList y.toList
def fB (x:ByteArray):List UInt8:=x.data.toList
theorem Qv0 {x y:ByteArray}(h:fB x=fB y):x=y:=by
 cases x; cases y
 exact congrArg _ (Array.toList_inj.1 h)
theorem Qvf:∀(x y:List UInt8),Op.bytesLess x y=decide (x < y)
 | [],[]=>by simp[Op.bytesLess]
 | _ :: _,[]=>by simp[Op.bytesLess]
 | [],_ :: _=>by simp[Op.bytesLess]
 | a :: x,b :: y=>by
  rw[Op.bytesLess,Qvf x y]
  simp only[List.cons_lt_cons_iff]
  by_cases c:a < b <;> by_cases d:a=b <;> by_cases e:x < y <;> simp[c,d,e]
theorem Qfp (x y:ByteArray):ltB x y=decide (fB x < fB y):=by unfold ltB; rw[bB,bB,Qvf]; rfl
theorem W2:TO ltB:=⟨fun x=>by rw[Qfp]; simp[List.lt_irrefl],fun x y z a b=>by rw[Qfp,aS] at*; exact List.lt_trans a b,fun x y=>by
 rw[Qfp,Qfp,aS,aS]
 by_cases a:fB x < fB y
 ·exact .inl a
 ·by_cases b:fB y < fB x
  ·exact .inr (.inr b)
  ·exact .inr (.inl (Qv0 (List.le_antisymm (List.not_lt.1 b) (List.not_lt.1 a))))⟩
def Us (xs:List ByteArray):List ByteArray:=xs.mergeSort fun x y=> !ltB y x
theorem Jb (xs:List ByteArray):(Us xs).Perm xs:=List.mergeSort_perm ..
theorem Qp0 (xs:List ByteArray):(Us xs).length=xs.length:=(Jb xs).length_eq
theorem Qiz (xs:List ByteArray):(Us xs).Pairwise fun x y=>ltB y x=false:=by
 have h:=List.pairwise_mergeSort (le:=fun x y:ByteArray=> !ltB y x) (fun a b c f d=>by
  simp only[bQ] at*
  cases e:ltB c a with
  | false=>rfl
  | true=>
   rcases W2.tot a b with k | rfl | k
   ·rw[W2.tr _ _ _ e k] at d; cases d
   ·rw[e] at d; cases d
   ·rw[k] at f; cases f) (fun a b=>by
  cases e:ltB b a with
  | false=>rfl
  | true=>
   cases k:ltB a b with
   | false=>rfl
   | true=>have:=W2.tr _ _ _ e k; rw[W2.irr] at this; cases this) xs
 exact h.imp fun h=>by simpa using h
theorem QsT {xs:List ByteArray}(c:xs.Nodup):(Us xs).Pairwise fun x y=>ltB x y=true:=
 ((Qiz xs).and ((Jb xs).nodup_iff.2 c)).imp fun {x y} ⟨a, b⟩ => by
  rcases W2.tot x y with k | k | k
  ·exact k
  ·exact absurd k b
  ·rw[k] at a; cases a
theorem Qp1 (xs:List ByteArray):(Us xs).map fB=(xs.map fB).mergeSort fun x y=>decide (x≤y):=
 List.map_mergeSort fun a _ b _=>by
  rw[Qfp]
  by_cases h:fB b < fB a
  ·have:¬fB a≤fB b:=fun k=>List.not_lt.2 k h
   simp[h,this]
  ·have:=List.not_lt.1 h
   simp[h,this]
theorem Qrr (x:ByteArray):encStr (fB x)= .string x:=by cases x; simp[encStr,fB]
theorem Qhd {w:World}:∀{xs:List ByteArray} {fp:List Nat} {cs:List Value},OwnL (Own .str w) fp cs xs→fp=[]∧cs=(xs.map fB).map encStr∧∀x∈xs,x.size≤maxLen
 | [],fp,cs,h=>⟨h.1,h.2,fun x e=>by cases e⟩
 | x :: xs,fp,cs,h=>by
  obtain ⟨f,g,l,r,rfl,rfl,⟨rfl,rfl,b⟩,c⟩:=h
  obtain ⟨rfl,rfl,d⟩:=Qhd c
  exact ⟨rfl,by rw[aU,aU,Qrr]; rfl,fun y a=>by rcases aE.1 a with rfl | a; exact b; exact d y a⟩
theorem Qj1 {w:World}:∀{xs:List ByteArray},(∀x∈xs,x.size≤maxLen)→OwnL (Own .str w) [] ((xs.map fB).map encStr) xs
 | [],_=>⟨rfl,rfl⟩
 | x :: xs,h=>⟨[],[],[.string x],(xs.map fB).map encStr,rfl,by rw[aU,aU,Qrr]; rfl,⟨rfl,rfl,h x (aw ..)⟩,Qj1 fun y a=>h y (ax _ a)⟩
def QqG (P:Program)(f:FuncId):Prop:=∀(blk cap:Nat) (zs:List ByteArray) (w:World),Sort.Holds encStr w blk 0 (zs.map fB).toArray→blk < w.heap.size→zs.length < 4611686018427387904→
 Calls P f #[.slice (some ⟨blk,0,none⟩) zs.length cap] w fun e w'=>e= .returned (.tuple #[])∧∃n os,w'=Sort.grow (Sort.putRow encStr (Sort.ahead w n) blk 0 ((Us zs).map fB).toArray) os
theorem Qqz {P:Program}{f:FuncId}{E:TypeId}(R:QqG P f)(O:Qa3 P f)(xs:List ByteArray)(hl:xs.length≤1000000000):FC P f [(false,[.ref 0])] [(0,some (.arr E .str xs))] 1 (Is (.tup []) [(0,some (.arr E .str (Us xs)))]):=fun A w vs u S=>by
 obtain ⟨v,a0,rfl,⟨l,D,B⟩,rfl⟩:=S
 simp only[aD,and_true] at D
 subst D
 have V:v=A.h 0:=B ⟨_,rfl⟩
 subst V
 have Q:Own (.sl E .str) w (A.f 0) [A.h 0] xs:=u.en 0 _ rfl
 have a:∀(y:List ByteArray) q,Tab.al [(0,some (Ent.arr E .str y))] q→q=0:=fun y q ⟨e,b⟩=>by
  rw[Qd] at b
  split at b
  ·assumption
  ·cases b
 rcases Q with ⟨p,o,J⟩ | ⟨g,k,t,fps,p,o,I,hn,j,G,L⟩
 ·simp only[aD,and_true] at o
  subst J
  rw[o]
  refine Calls.mono (O w) fun e w' b=> ?_
  obtain ⟨rfl,C⟩:=b
  refine ⟨_,_,_,A,rfl,⟨rfl,rfl⟩,⟨fun q e b=> ?_,fun q K d s r=>absurd ((a _ q d).trans (a _ K s).symm) r,fun q d=> ?_,fun q d g i=> ?_,fun g i=>bq (u.nl g i) C.size⟩,⟨[],rfl,rfl⟩,
   ⟨C.grw,fun g i _=>Below.block C g i,fun g i=> .inl i,fun q d g i=> ?_⟩,fun q _ _=>rfl⟩
  ·rw[Qd] at b
   split at b
   ·rename_i z; subst z; cases b
    exact .inl ⟨p,by rw[o],by simp[Us]⟩
   ·cases b
  ·rw[a _ q d,p]; exact bL
  ·rw[a _ q d,p] at i; cases i
  ·rw[a _ q d,p] at i; cases i
 ·simp only[aD,and_true] at o
  rw[cr] at L
  obtain ⟨rfl,U,T⟩:=Qhd L
  have i:g < w.heap.size:=(bA.1 I).1
  rw[o]
  have hm:xs.length≤9223372036854775807:=by unfold maxLen at j; omega
  refine Calls.mono (R g k xs w (holds_of_block I (by rw[aB]; exact U)) i (by omega)) fun e w' b=> ?_
  obtain ⟨rfl,n,N,rfl⟩:=b
  obtain ⟨W,X,Y,M,Z⟩:=grownBy_sorted (w:=w) (g:=g) (n:=n) (os:=N) ((Us xs).map fB).toArray
  have F:=Qp0 xs
  refine ⟨_,_,_,A,rfl,⟨rfl,rfl⟩,⟨fun q e b=> ?_,fun q K d s r=>absurd ((a _ q d).trans (a _ K s).symm) r,fun q d=> ?_,fun q d m c=> ?_,fun m c=>bq (u.nl m c) M⟩,⟨[],rfl,rfl⟩,
   ⟨⟨W,X,Y,M⟩,fun m B C=> ?_,fun m B=> .inl B,fun q d m c=> ?_⟩,fun q _ _=>rfl⟩
  ·rw[Qd] at b
   split at b
   ·rename_i z; subst z; cases b
    refine .inr ⟨g,k,_,[],p,by rw[o,F],heap_sorted _ I,by omega,j,by simpa [Sort.putCells] using G, ?_⟩
    show OwnL (Own .str _) [] (List.take ((Us xs).length*1) _) (Us xs)
    have H:=take_putCells t ((Us xs).map fB) (by rw[aB]; have:t.size=k*1:=G; omega)
    rw[aB] at H
    rw[cr,H]
    exact Qj1 fun x J=>T x ((Jb xs).mem_iff.1 J)
   ·cases b
  ·rw[a _ q d]; exact u.nd 0 ⟨_,rfl⟩
  ·rw[a _ q d] at c; exact u.no 0 ⟨_,rfl⟩ m c
  ·exact Z m B fun z=>C 0 ⟨_,rfl⟩ (by rw[p]; cases z; exact aw ..)
  ·rw[a _ q d] at c; exact .inr ⟨0,⟨_,rfl⟩,c⟩
end Go.Proofs.YtndabgcpnmeeoaaGreat
namespace Go.Proofs.YtndabgcpnmeeoaaGreat
open Go.RowKit
def QpU:Go.Shelf.Ren:=⟨fun | 190=>269 | 125=>249 | 258=>388 | 128=>372 | 129=>373 | 302=>480 | 303=>481 | 304=>482 | 305=>483 | 306=>484 | 307=>485 | 308=>486 | 309=>487 | 310=>488 | 333=>542 | 329=>468 | 330=>469 | 334=>543 | 335=>544 | 336=>545 | 344=>572 | n=>n,fun | 31=>25 | 9=>9 | 3=>3 | 46=>279 | 0=>0 | 51=>406 | 53=>132 | 4=>4 | 183=>400 | 182=>399 | 131=>40 | 5=>5 | 218=>465 | 222=>469 | 228=>513 | 229=>514 | n=>n,fun | n=>n⟩
theorem Qvv:Go.Proofs.Lays.n190 Tryz.prog QpU:={
 mixed:=by kernel_rfl,
 f125:=Tryz.func249.trans (congrArg some (by kernel_rfl)),
 f128:=Tryz.func372.trans (congrArg some (by kernel_rfl)),
 f129:=Tryz.func373.trans (congrArg some (by kernel_rfl)),
 f190:=Tryz.func269.trans (congrArg some (by kernel_rfl)),
 f258:=Tryz.func388.trans (congrArg some (by kernel_rfl)),
 f302:=Tryz.func480.trans (congrArg some (by kernel_rfl)),
 f303:=Tryz.func481.trans (congrArg some (by kernel_rfl)),
 f304:=Tryz.func482.trans (congrArg some (by kernel_rfl)),
 f305:=Tryz.func483.trans (congrArg some (by kernel_rfl)),
 f306:=Tryz.func484.trans (congrArg some (by kernel_rfl)),
 f307:=Tryz.func485.trans (congrArg some (by kernel_rfl)),
 f308:=Tryz.func486.trans (congrArg some (by kernel_rfl)),
 f309:=Tryz.func487.trans (congrArg some (by kernel_rfl)),
 f310:=Tryz.func488.trans (congrArg some (by kernel_rfl)),
 f329:=Tryz.func468.trans (congrArg some (by kernel_rfl)),
 f330:=Tryz.func469.trans (congrArg some (by kernel_rfl)),
 f333:=Tryz.func542.trans (congrArg some (by kernel_rfl)),
 f334:=Tryz.func543.trans (congrArg some (by kernel_rfl)),
 f335:=Tryz.func544.trans (congrArg some (by kernel_rfl)),
 f336:=Tryz.func545.trans (congrArg some (by kernel_rfl)),
 f344:=Tryz.func572.trans (congrArg some (by kernel_rfl)),
 t0:=Tryz.underlying0,
 a0:=Tryz.isAgg0,
 z0:=Tryz.sizeOf0,
 v0:=Tryz.zeroValue0,
 t3:=Tryz.underlying3,
 a3:=Tryz.isAgg3,
 z3:=Tryz.sizeOf3,
 v3:=Tryz.zeroValue3,
 t4:=Tryz.underlying4,
 a4:=Tryz.isAgg4,
 z4:=Tryz.sizeOf4,
 v4:=Tryz.zeroValue4,
 t5:=Tryz.underlying5,
 a5:=Tryz.isAgg5,
 z5:=Tryz.sizeOf5,
 v5:=Tryz.zeroValue5,
 t9:=Tryz.underlying9,
 a9:=Tryz.isAgg9,
 z9:=Tryz.sizeOf9,
 v9:=Tryz.zeroValue9,
 t31:=Tryz.underlying25,
 a31:=Tryz.isAgg25,
 z31:=Tryz.sizeOf25,
 v31:=Tryz.zeroValue25,
 t46:=Tryz.underlying279,
 a46:=Tryz.isAgg279,
 z46:=Tryz.sizeOf279,
 v46:=Tryz.zeroValue279,
 t51:=Tryz.underlying406,
 a51:=Tryz.isAgg406,
 z51:=Tryz.sizeOf406,
 v51:=Tryz.zeroValue406,
 t53:=Tryz.underlying132,
 a53:=Tryz.isAgg132,
 z53:=Tryz.sizeOf132,
 v53:=Tryz.zeroValue132,
 t131:=Tryz.underlying40,
 a131:=Tryz.isAgg40,
 z131:=Tryz.sizeOf40,
 v131:=Tryz.zeroValue40,
 t182:=Tryz.underlying399,
 a182:=Tryz.isAgg399,
 z182:=Tryz.sizeOf399,
 v182:=Tryz.zeroValue399,
 t183:=Tryz.underlying400,
 a183:=Tryz.isAgg400,
 z183:=Tryz.sizeOf400,
 v183:=Tryz.zeroValue400,
 t218:=Tryz.underlying465,
 a218:=Tryz.isAgg465,
 z218:=Tryz.sizeOf465,
 v218:=Tryz.zeroValue465,
 t222:=Tryz.underlying469,
 a222:=Tryz.isAgg469,
 z222:=Tryz.sizeOf469,
 v222:=Tryz.zeroValue469,
 t228:=Tryz.underlying513,
 a228:=Tryz.isAgg513,
 z228:=Tryz.sizeOf513,
 v228:=Tryz.zeroValue513,
 t229:=Tryz.underlying514,
 a229:=Tryz.isAgg514,
 z229:=Tryz.sizeOf514,
 v229:=Tryz.zeroValue514}
theorem QwM:QqG Tryz.prog 269:=fun a b f w c d e=>by
 have h:=calls_of_every_depth fun D=>AnyS.slices_Sort_string_in Qvv D a 0 b (f.map fB) w c d (by rw[aB]; exact e)
 rw[aB,← Qp1] at h
 exact h
theorem QpV:Qa3 Tryz.prog 269:=fun w=>Calls.mono (Any.slices_Sort_string_none Qvv none 0 w) fun _ _ ⟨a,b⟩=>⟨a,b▸QM _⟩
theorem QrB (l:List ByteArray)(a:l.length≤1000000000):FC Tryz.prog 269 [(false,[.ref 0])] [(0,some (.arr 9 .str l))] 1 (Is (.tup []) [(0,some (.arr 9 .str (Us l)))]):=Qqz QwM QpV l a
end Go.Proofs.YtndabgcpnmeeoaaGreat
namespace Go.Proofs.YtndabgcpnmeeoaaGreat
open Go.RowKit
set_option maxRecDepth 100000
set_option maxHeartbeats 4000000
theorem QP (n:Int)(b:Int)(a:Int):FC Tryz.prog 107 [(false,[dI n]),(false,[dI b]),(false,[dI a])] [] 0 (Za (lB (decide (b≤n∧n≤a)))):=by
 refine Qn Tryz.func107 rfl rfl Tryz.ntmps107 fun j e i f k h g=> ?_
 refine acI 0 fun _=> ?_
 refine acI 1 fun _=> ?_
 refine acI 2 fun _=> ?_
 refine w8 ?_
 cases c:(decide (b≤n))
 have d:=aa c
 refine w6 ?_
 refine Qe<|fqB e ?_
 (rw[cF]; simp; omega)
 have d:=ab c
 refine w6 ?_
 refine Qe<|fqB e ?_
 ·(simp_all; done)
theorem Zo (n:Int)(lo:Int)(hi:Int):FC Tryz.prog 215 [(false,[dI n]),(false,[dI lo]),(false,[dI hi])] [] 0 (Za (lB (decide (lo≤n∧n≤hi)))):=by
 refine Qn Tryz.func215 rfl rfl Tryz.ntmps215 fun h c g d i f e=> ?_
 refine acI 0 fun _=> ?_
 refine acI 1 fun _=> ?_
 refine acI 2 fun _=> ?_
 refine w8 ?_
 cases a:(decide (lo≤n))
 have b:=aa a
 refine w6 ?_
 refine Qe<|fqB c ?_
 (rw[cF]; simp; omega)
 have b:=ab a
 refine w6 ?_
 refine Qe<|fqB c ?_
 ·(simp_all; done)
theorem Vc (l:List Int)(a:Int)(q:l.length≤2000000)(hb:∀x∈l,(-9223372036854775808≤x∧x≤9223372036854775807)→ -9223372036854775808≤x+a∧x+a≤9223372036854775807):FC Tryz.prog 532 [(false,[.dat Qm l]),(false,[dI a])] [] 0 (XB 3 .int (l.map fun x=>x+a)):=by
 refine Qn Tryz.func532 rfl rfl Tryz.ntmps532 fun o j m g p i h=> ?_
 refine acI 1 fun _=> ?_
 refine w4 ?_
 refine lc (dBs 0 (e:= .int) Zq) ?_
 refine w5 ?_
 refine alL 9 fun _=> ?_
 refine w4 ?_
 refine lp0 l.length (fun k=>⟨[(1,lI a),(4,lf (.val (.slice none 0 0))),(5,lR 1),(9,lf (.dat Qm l)),(10,lI (l.length:Int)),(11,lI (k:Int))],[ar 1 3 .int ((l.take k).map fun x=>x+a)]⟩) ?_ fun k _=> ?_
 exact wp [(1,0)] ⟨(Qh (by first | rfl | simp)),trivial⟩
 refine w4 ?_
 cases b:(decide ((k:Int) < (l.length:Int)))
 have c:=aa b
 refine w7 ?_
 refine Qe<|fo_ j ?_
 rw[Q8 (by omega)]
 have c:=ab b
 refine w5 ?_
 obtain ⟨n,f⟩:=gx l k
 have d:=hb n (ai f)
 refine w2 ?_
 refine alI 14 fun _=> ?_
 refine w6 ?_
 refine lc (Wm (Qa rfl) (Qa rfl) rfl (by first | omega | (have:=d (by omega); omega))) ?_
 refine lc (dBs 2 (e:= .int) Zq) ?_
 refine lc (dA 3 YO) ?_
 refine w_ ?_
 refine Qf ?_
 refine w2 ?_
 refine lc (Wm (Qa rfl) (Qr rfl) rfl (by first | omega | (have:=d (by omega); omega))) ?_
 refine w_ ?_
 refine Qf ?_
 refine l0_ ?_
 exact wp [(1,3)] ⟨(Qh (by rw[Qs f]; simp)),trivial⟩
theorem Qac (l:List Int)(i:l.length≤2000000):FC Tryz.prog 478 [(false,[.dat Qm l])] [] 0 (XB 3 .int l):=by
 refine Qn Tryz.func478 rfl rfl Tryz.ntmps478 fun g d f a h c b=> ?_
 refine w4 ?_
 refine lc (dBs 0 (e:= .int) Zq) ?_
 refine w_ ?_
 refine lc (QI 1 (Qa rfl) rfl (Evl.rep (Qa rfl)) rfl ZZ YO (by first | omega | (simp only[ae,aB,ao,aq,az]; omega) | (simp only[ae,aW,ao,aq,az]; omega)) rfl (Fresh.of rfl) (nlr rfl)) ?_
 refine w2 ?_
 refine Qe<|fo_ d ?_
 rfl
theorem Qos {α:Type _}(f:α→Nat){xs:List α}{x:α}(h:x∈xs):f x≤(xs.map f).sum:=by
 induction xs with
 | nil=>cases h
 | cons y b a=>
  simp only[aU,List.sum_cons]
  rcases aE.1 h with rfl | h
  ·omega
  ·have:=a h; omega
theorem Qie {n:Yh}(a:Ty.tot Uz n≤2000000):n.2.length≤2000000:=by
 have:Ty.tot Uz n=0+(n.2.length+(n.2.map (Ty.tot QS)).sum):=rfl
 omega
theorem KC {s:Qy}(a:Ty.tot Zl s≤2000000):Ty.tot Uz s.1≤2000000∧s.2.1.length≤2000000∧s.2.2.1.length≤2000000:=by
 have:Ty.tot Zl s=Ty.tot Uz s.1+((s.2.1.length+(s.2.1.map (Ty.tot Ye)).sum)+((s.2.2.1.length+(s.2.2.1.map (Ty.tot XP)).sum)+s.2.2.2.size)):=rfl
 omega
theorem HI {n:Yh}(e:Ty.tot Uz n≤2000000):∀t∈n.2,t.1.length≤2000000∧t.2.length≤2000000:=fun t a=>by
 have b:Ty.tot Uz n=0+(n.2.length+(n.2.map (Ty.tot QS)).sum):=rfl
 have c:=Qos (Ty.tot QS) a
 have d:Ty.tot QS t=(t.1.length+(t.1.map (Ty.tot .int)).sum)+(t.2.length+(t.2.map (Ty.tot .int)).sum):=rfl
 omega
theorem J0 (n:Qcd)(h:Ty.tot Uz n≤2000000):FC Tryz.prog 385 [(true,[dI n.1, .dat QF n.2])] [] 0 (Is (ag [dI n.1, .ref 0]) [ar 0 275 QD n.2]):=by
 have s:=Qie h
 have g:=HI h
 refine Qn Tryz.func385 rfl rfl Tryz.ntmps385 fun q m o i r l j=> ?_
 refine acG 0 0 fun _=> ?_
 refine w_ ?_
 refine xbx 0 ?_
 refine lc (xal 1 Qkv Jk) ?_
 refine w4 ?_
 refine lc (Qj Qb7 ⟨_,_,rfl,(Ql rfl),rfl⟩ (av.1 rfl) rfl rfl)<|lc (xal 2 Qkv Jk) ?_
 refine w6 ?_
 refine alL 10 fun _=> ?_
 refine w4 ?_
 refine AC.wk (Qq 3 (p:=2) (off:=1) 275 QD rfl rfl (Fresh.of rfl) (nlr rfl)) ?_
 refine lp0 n.2.length (fun k=>⟨[(2,lP 1 0),(3,lP 2 0),(10,lf (.dat QF n.2)),(11,lI (n.2.length:Int)),(12,lI (k:Int))],[bx 1 48 [dI 0, .val (.slice none 0 0)],bx 2 48 [dI n.1, .ref 4],ar 4 275 QD (n.2.take k)]⟩) ?_ fun k _=> ?_
 exact wp [(4,3)] ⟨rfl,rfl,(Qh (by first | rfl | simp)),trivial⟩
 refine w4 ?_
 cases c:(decide ((k:Int) < (n.2.length:Int)))
 have d:=aa c
 refine w8 ?_
 exact fi_ [(0,4)] m ⟨(Qh (by rw[Q8 (by omega)])),trivial⟩
 have d:=ab c
 refine w5 ?_
 obtain ⟨b,f⟩:=gx n.2 k
 refine w2 ?_
 refine lc (xal 5 QD X1) ?_
 refine w2 ?_
 apply dV (i4 16 _ _ _ _ [⟨some 20,lR 6,[ar 6 3 .int b.1]⟩,io 21 (lP 5 1),io 22 (lf (.dat Qm b.2)),⟨some 23,lR 7,[ar 7 3 .int b.2]⟩,io 24 (ag [.ref 6, .ref 7]),⟨some 25,lR 8,[ar 8 275 QD ([(b.1,b.2)]),(6,none),(7,none)]⟩,⟨some 26,lR 9,[ar 9 275 QD ((n.2.take k)++([(b.1,b.2)])),(4,none),(8,none)]⟩,io 27 _,⟨none,lf (.val undef),[bx 2 48 [dI n.1, .ref 9]]⟩]) [0,0,3,3,3,31,31,3,3,3,0,0,0]
 refine z4 ?_
 refine zz (fun _ a=>ac (dO 6 (Qac b.1 (by have:=g _ (ai ‹_›); omega)) QeX) rfl) ?_
 refine z2 ?_
 refine zz (fun _ a=>ac (dO 7 (Qac b.2 (by have:=g _ (ai ‹_›); omega)) QeX) rfl) ?_
 refine zz (fun _ a=>ac (Qj Hp ⟨_,_,rfl,(a.w rfl),⟨_,_,rfl,(a.w rfl),rfl⟩⟩ (av.1 (by simp only[QW,XG,bd,bt]; rw[(a.en 6 rfl),(a.en 7 rfl)]; rfl)) rfl rfl) rfl)<|zz (fun _ a=>ac (Yp 8 (e:=QD) WD Xd X1 rfl ⟨_,_,rfl,(a.w rfl),rfl⟩ (av.1 (by simp only[QW,XG,bd,bt]; rw[(a.en 6 rfl),(a.en 7 rfl)]; rfl)) ⟨_,_,_,_,rfl,⟨[.ref 6],[.ref 7],_,_,_,_,rfl,rfl,(.inl ⟨_,rfl,(a.en 6 rfl),rfl⟩),(.inl ⟨_,rfl,(a.en 7 rfl),rfl⟩),rfl⟩,⟨rfl,rfl⟩,rfl⟩ (by decide) rfl rfl (a.fr 8 rfl) (nlr rfl)) rfl) ?_
 refine zz (fun _ a=>ac (dA 9 Hv) rfl) ?_
 refine z_ ?_
 refine zz (fun _ a=>ac (Q6 (a.v rfl) (a.en 2 rfl) (a.w rfl) (by simp only[QW,XG,bd,bt]; rw[(a.en 9 rfl)]; rfl) QiK rfl) rfl) ?_
 exact zN
 refine w4 ?_
 refine Qf ?_
 refine l0_ ?_
 exact wp [(4,9)] ⟨rfl,rfl,(Qh (by rw[Qs f])),trivial⟩
theorem Qgf (s:YA)(h:Ty.tot Zl s≤2000000):FC Tryz.prog 265 [(true,[dI s.1.1, .dat QF s.1.2, .dat Qo s.2.1, .dat Qw s.2.2.1,dS s.2.2.2])] [] 0 (Is (ag [dI s.1.1, .ref 0, .ref 1, .ref 2,dS s.2.2.2]) [ar 0 275 QD s.1.2,ar 1 77 QE s.2.1,ar 2 75 QL s.2.2.1]):=by
 obtain ⟨b,i,j⟩:=KC h
 refine Qn Tryz.func265 rfl rfl Tryz.ntmps265 fun l g k c m f d=> ?_
 refine acG 0 0 fun _=> ?_
 refine w_ ?_
 refine xbx 0 ?_
 refine lc (xal 1 YM Q5) ?_
 refine w_ ?_
 apply dW (i2 3 _ _ [⟨some 5,ag [dI s.1.1, .ref 2],[ar 2 275 QD s.1.2]⟩,⟨some 6,lR 3,[ar 3 77 QE ([])]⟩,io 7 (lP 0 2),io 8 (lf (.dat Qo s.2.1)),⟨some 9,lR 4,[ar 4 77 QE (([])++s.2.1),(3,none)]⟩,⟨some 10,lR 5,[ar 5 75 QL ([])]⟩,io 11 (lP 0 3),io 12 (lf (.dat Qw s.2.2.1)),⟨some 13,lR 6,[ar 6 75 QL (([])++s.2.2.1),(5,none)]⟩,io 14 (lP 0 4),io 15 (lf (dS s.2.2.2)),io 16 (ag [dI s.1.1, .ref 2, .ref 4, .ref 6,dS s.2.2.2]),⟨none,lf (.val undef),[bx 1 51 [dI s.1.1, .ref 2, .ref 4, .ref 6,dS s.2.2.2]]⟩]) [0,0,0,7,15,15,0,127,255,255,0,2047,2047,0,0]
 refine z2 ?_
 refine zz (fun _ a=>ac (dG 2 (J0 s.1 b) QeS) rfl) ?_
 refine zz (fun _ a=>ac (dBs 3 (e:=QE) Hg) rfl) ?_
 refine z2 ?_
 refine zz (fun _ a=>ac (QI 4 (a.v rfl) (a.en 3 rfl) (Evl.rep (a.v rfl)) rfl Jf Qau (by simp only[az]; omega) rfl (a.fr 4 rfl) (nlr rfl)) rfl) ?_
 refine zz (fun _ a=>ac (dBs 5 (e:=QL) Xy) rfl) ?_
 refine z2 ?_
 refine zz (fun _ a=>ac (QI 6 (a.v rfl) (a.en 5 rfl) (Evl.rep (a.v rfl)) rfl Qf2 Qat (by simp only[az]; omega) rfl (a.fr 6 rfl) (nlr rfl)) rfl) ?_
 refine z2 ?_
 refine zz (fun _ a=>ac (Qj Xj ⟨_,_,rfl,(a.w rfl),⟨_,_,rfl,(a.w rfl),⟨_,_,rfl,(a.w rfl),⟨_,_,rfl,(a.w rfl),rfl⟩⟩⟩⟩ (av.1 (by simp only[QW,XG,bd,bt]; rw[(a.en 2 rfl),(a.en 4 rfl),(a.en 6 rfl)]; rfl)) rfl rfl) rfl)<|zz (fun _ a=>ac (Q6 (a.v rfl) (a.en 1 rfl) (a.w rfl) (by simp only[QW,XG,bd,bt]; rw[(a.en 2 rfl),(a.en 4 rfl),(a.en 6 rfl)]; rfl) Q3 rfl) rfl) ?_
 exact zN
 refine w_ ?_
 exact fi_ [(0,2),(1,4),(2,6)] g ⟨rfl,(Qh (by rfl)),(Qh (by rfl)),trivial⟩
def Qf0 (b:Int)(t:Qt):Qt:=(t.1.map fun x=>x+b,t.2.map fun x=>x+b)
theorem Qbk (a:Qcd)(b:Qcd)(u:Ty.tot Uz a≤2000000)(q:Ty.tot Uz b≤2000000)(H: -9223372036854775808≤a.1+b.1∧a.1+b.1≤9223372036854775807)(hb:∀t∈b.2,(∀x∈t.1, -9223372036854775808≤x+a.1∧x+a.1≤9223372036854775807)∧∀x∈t.2, -9223372036854775808≤x+a.1∧x+a.1≤9223372036854775807):FC Tryz.prog 477 [(true,[dI a.1, .dat QF a.2]),(true,[dI b.1, .dat QF b.2])] [] 0 (Is (ag [dI (a.1+b.1), .ref 0]) [ar 0 275 QD (a.2++b.2.map (Qf0 a.1))]):=by
 have G:=Qie u
 have s:=HI u
 have C:=Qie q
 have o:=HI q
 refine Qn Tryz.func477 rfl rfl Tryz.ntmps477 fun E B D y F A z=> ?_
 refine acG 0 0 fun _=> ?_
 refine acG 1 0 fun _=> ?_
 refine w_ ?_
 refine xbx 0 ?_
 refine xbx 1 ?_
 refine lc (xal 2 Qkv Jk) ?_
 refine w7 ?_
 refine lc (Qj Qb7 ⟨_,_,rfl,(Ql rfl),rfl⟩ (av.1 rfl) rfl rfl)<|lc (xal 3 Qkv Jk) ?_
 refine w6 ?_
 refine alL 17 fun _=> ?_
 refine w4 ?_
 refine AC.wk (Qq 4 (p:=3) (off:=1) 275 QD rfl rfl (Fresh.of rfl) (nlr rfl)) ?_
 refine lp0 a.2.length (fun k=>⟨[(2,lP 0 0),(3,lP 1 0),(4,lP 2 0),(5,lP 3 0),(17,lf (.dat QF a.2)),(18,lI (a.2.length:Int)),(19,lI (k:Int))],[bx 0 48 [dI a.1, .dat QF a.2],bx 1 48 [dI b.1, .dat QF b.2],bx 2 48 [dI 0, .val (.slice none 0 0)],bx 3 48 [dI (a.1+b.1), .ref 5],ar 5 275 QD (a.2.take k)]⟩) ?_ fun k _=> ?_
 exact wp [(5,4)] ⟨rfl,rfl,rfl,rfl,(Qh (by first | rfl | simp)),trivial⟩
 refine w4 ?_
 cases j:(decide ((k:Int) < (a.2.length:Int)))
 have l:=aa j
 refine w7 ?_
 refine alL 37 fun _=> ?_
 refine w4 ?_
 refine lp0 b.2.length (fun k=>⟨[(2,lP 0 0),(4,lP 2 0),(5,lP 3 0),(37,lf (.dat QF b.2)),(38,lI (b.2.length:Int)),(39,lI (k:Int))],[bx 0 48 [dI a.1, .dat QF a.2],bx 2 48 [dI 0, .val (.slice none 0 0)],bx 3 48 [dI (a.1+b.1), .ref 6],ar 6 275 QD (a.2++(b.2.take k).map (Qf0 a.1))]⟩) ?_ fun k _=> ?_
 exact wp [(6,5)] ⟨rfl,rfl,rfl,(Qh (by rw[Q8 (by omega)]; simp)),trivial⟩
 refine w4 ?_
 cases m:(decide ((k:Int) < (b.2.length:Int)))
 have n:=aa m
 refine w8 ?_
 exact fi_ [(0,6)] B ⟨(Qh (by rw[Q8 (by omega)])),trivial⟩
 have n:=ab m
 refine w5 ?_
 obtain ⟨i,f⟩:=gx b.2 k
 refine w2 ?_
 refine lc (xal 7 QD X1) ?_
 refine w2 ?_
 apply dV (i6 43 _ _ _ _ _ _ [⟨some 49,lR 8,[ar 8 3 .int (i.1.map fun x=>x+a.1)]⟩,io 50 (lP 7 1),io 51 (lf (.dat Qm i.2)),io 52 (lP 0 0),io 53 (lI a.1),⟨some 54,lR 9,[ar 9 3 .int (i.2.map fun x=>x+a.1)]⟩,io 55 (ag [.ref 8, .ref 9]),⟨some 56,lR 10,[ar 10 275 QD ([(i.1.map fun x=>x+a.1,i.2.map fun x=>x+a.1)]),(8,none),(9,none)]⟩,⟨some 57,lR 11,[ar 11 275 QD ((a.2++(b.2.take k).map (Qf0 a.1))++([(i.1.map fun x=>x+a.1,i.2.map fun x=>x+a.1)])),(6,none),(10,none)]⟩,io 58 _,⟨none,lf (.val undef),[bx 3 48 [dI (a.1+b.1), .ref 11]]⟩]) [0,0,3,3,15,15,3,127,127,511,511,3,3,3,0,0,0]
 refine z6 ?_
 refine zz (fun _ c=>ac (dO 8 (Vc i.1 a.1 (o _ (ai f)).1 (fun x r _=>(hb _ (ai f)).1 x r)) KZ) rfl) ?_
 refine z4 ?_
 refine zz (fun _ c=>ac (dO 9 (Vc i.2 a.1 (o _ (ai f)).2 (fun x r _=>(hb _ (ai f)).2 x r)) KZ) rfl) ?_
 refine zz (fun _ c=>ac (Qj Hp ⟨_,_,rfl,(c.w rfl),⟨_,_,rfl,(c.w rfl),rfl⟩⟩ (av.1 (by simp only[QW,XG,bd,bt]; rw[(c.en 8 rfl),(c.en 9 rfl)]; rfl)) rfl rfl) rfl)<|zz (fun _ c=>ac (Yp 10 (e:=QD) WD Xd X1 rfl ⟨_,_,rfl,(c.w rfl),rfl⟩ (av.1 (by simp only[QW,XG,bd,bt]; rw[(c.en 8 rfl),(c.en 9 rfl)]; rfl)) ⟨_,_,_,_,rfl,⟨[.ref 8],[.ref 9],_,_,_,_,rfl,rfl,(.inl ⟨_,rfl,(c.en 8 rfl),rfl⟩),(.inl ⟨_,rfl,(c.en 9 rfl),rfl⟩),rfl⟩,⟨rfl,rfl⟩,rfl⟩ (by decide) rfl rfl (c.fr 10 rfl) (nlr rfl)) rfl) ?_
 refine zz (fun _ c=>ac (dA 11 Hv (hb:=by simp only[ae,aB,ao,aq,az]; omega)) rfl) ?_
 refine z_ ?_
 refine zz (fun _ c=>ac (Q6 (c.v rfl) (c.en 3 rfl) (c.w rfl) (by simp only[QW,XG,bd,bt]; rw[(c.en 11 rfl)]; rfl) QiK rfl) rfl) ?_
 exact zN
 refine w4 ?_
 refine Qf ?_
 refine l0_ ?_
 exact wp [(6,11)] ⟨rfl,rfl,rfl,(Qh (by rw[Qs f]; simp[Qf0])),trivial⟩
 have l:=ab j
 refine w5 ?_
 obtain ⟨d,g⟩:=gx a.2 k
 refine w2 ?_
 refine lc (xal 12 QD X1) ?_
 refine w2 ?_
 apply dV (i4 23 _ _ _ _ [⟨some 27,lR 13,[ar 13 3 .int (d.1.map fun x=>x+0)]⟩,io 28 (lP 12 1),io 29 (lf (.dat Qm d.2)),⟨some 30,lR 14,[ar 14 3 .int (d.2.map fun x=>x+0)]⟩,io 31 (ag [.ref 13, .ref 14]),⟨some 32,lR 15,[ar 15 275 QD ([(d.1.map fun x=>x+0,d.2.map fun x=>x+0)]),(13,none),(14,none)]⟩,⟨some 33,lR 16,[ar 16 275 QD ((a.2.take k)++([(d.1.map fun x=>x+0,d.2.map fun x=>x+0)])),(5,none),(15,none)]⟩,io 34 _,⟨none,lf (.val undef),[bx 3 48 [dI (a.1+b.1), .ref 16]]⟩]) [0,0,3,3,3,31,31,3,3,3,0,0,0]
 refine z4 ?_
 refine zz (fun _ c=>ac (dO 13 (Vc d.1 0 (s _ (ai g)).1 (fun x _ h=>by simpa using h)) KZ) rfl) ?_
 refine z2 ?_
 refine zz (fun _ c=>ac (dO 14 (Vc d.2 0 (s _ (ai g)).2 (fun x _ h=>by simpa using h)) KZ) rfl) ?_
 refine zz (fun _ c=>ac (Qj Hp ⟨_,_,rfl,(c.w rfl),⟨_,_,rfl,(c.w rfl),rfl⟩⟩ (av.1 (by simp only[QW,XG,bd,bt]; rw[(c.en 13 rfl),(c.en 14 rfl)]; rfl)) rfl rfl) rfl)<|zz (fun _ c=>ac (Yp 15 (e:=QD) WD Xd X1 rfl ⟨_,_,rfl,(c.w rfl),rfl⟩ (av.1 (by simp only[QW,XG,bd,bt]; rw[(c.en 13 rfl),(c.en 14 rfl)]; rfl)) ⟨_,_,_,_,rfl,⟨[.ref 13],[.ref 14],_,_,_,_,rfl,rfl,(.inl ⟨_,rfl,(c.en 13 rfl),rfl⟩),(.inl ⟨_,rfl,(c.en 14 rfl),rfl⟩),rfl⟩,⟨rfl,rfl⟩,rfl⟩ (by decide) rfl rfl (c.fr 15 rfl) (nlr rfl)) rfl) ?_
 refine zz (fun _ c=>ac (dA 16 Hv (hb:=by simp only[ae,aB,ao,aq,az]; omega)) rfl) ?_
 refine z_ ?_
 refine zz (fun _ c=>ac (Q6 (c.v rfl) (c.en 3 rfl) (c.w rfl) (by simp only[QW,XG,bd,bt]; rw[(c.en 16 rfl)]; rfl) QiK rfl) rfl) ?_
 exact zN
 refine w4 ?_
 refine Qf ?_
 refine l0_ ?_
 exact wp [(5,16)] ⟨rfl,rfl,rfl,rfl,(Qh (by rw[Qs g]; simp)),trivial⟩
theorem Qdc (n:Qcd)(g:Ty.tot Uz n≤2000000):FC Tryz.prog 384 [(true,[dI n.1, .dat QF n.2])] [] 0 (Is (ag [dI n.1, .ref 0]) [ar 0 275 QD n.2]):=by
 refine Qn Tryz.func384 rfl rfl Tryz.ntmps384 fun i f h b j e d=> ?_
 refine acG 0 0 fun a=> ?_
 refine w_ ?_
 refine xbx 0 ?_
 refine lc (xal 1 Qkv Jk) ?_
 refine w3 ?_
 refine lc (Qj Qb7 rfl (av.1 rfl) rfl rfl)<|lc (Qd6 2 (Qbk n (0,([]:(QF:Ty).Den)) g (by decide) (by simpa using a) (by simp)) Qmj ⟨_,_,rfl,(Ql rfl),⟨_,_,rfl,(Ev.nils (Ql rfl) ⟨_,_,rfl, .inl rfl,⟨_,_,rfl, .inr ⟨_,_,rfl,rfl⟩,rfl⟩⟩),rfl⟩⟩ rfl rfl ⟨Fresh.of rfl,trivial⟩ (nlr rfl)) ?_
 refine w3 ?_
 have c:(n.1+(0,([]:(QF:Ty).Den)).1:Int)=n.1:=by
  simp
 exact fi_ [(0,2)] f ⟨(Qh (by simp)),trivial⟩ (h0:=by rw[c] <;> rfl)
theorem Qdd (s:YA)(h:Ty.tot Zl s≤2000000):FC Tryz.prog 264 [(true,[dI s.1.1, .dat QF s.1.2, .dat Qo s.2.1, .dat Qw s.2.2.1,dS s.2.2.2])] [] 0 (Is (ag [dI s.1.1, .ref 0, .ref 1, .ref 2,dS s.2.2.2]) [ar 0 275 QD s.1.2,ar 1 77 QE s.2.1,ar 2 75 QL s.2.2.1]):=by
 obtain ⟨b,i,j⟩:=KC h
 refine Qn Tryz.func264 rfl rfl Tryz.ntmps264 fun l g k c m f d=> ?_
 refine acG 0 0 fun _=> ?_
 refine w_ ?_
 refine xbx 0 ?_
 refine lc (xal 1 YM Q5) ?_
 refine w_ ?_
 apply dW (i2 3 _ _ [⟨some 5,ag [dI s.1.1, .ref 2],[ar 2 275 QD s.1.2]⟩,⟨some 6,lR 3,[ar 3 77 QE ([])]⟩,io 7 (lP 0 2),io 8 (lf (.dat Qo s.2.1)),⟨some 9,lR 4,[ar 4 77 QE (([])++s.2.1),(3,none)]⟩,⟨some 10,lR 5,[ar 5 75 QL ([])]⟩,io 11 (lP 0 3),io 12 (lf (.dat Qw s.2.2.1)),⟨some 13,lR 6,[ar 6 75 QL (([])++s.2.2.1),(5,none)]⟩,io 14 (lP 0 4),io 15 (lf (dS s.2.2.2)),io 16 (ag [dI s.1.1, .ref 2, .ref 4, .ref 6,dS s.2.2.2]),⟨none,lf (.val undef),[bx 1 51 [dI s.1.1, .ref 2, .ref 4, .ref 6,dS s.2.2.2]]⟩]) [0,0,0,7,15,15,0,127,255,255,0,2047,2047,0,0]
 refine z2 ?_
 refine zz (fun _ a=>ac (dG 2 (Qdc s.1 b) Ql6) rfl) ?_
 refine zz (fun _ a=>ac (dBs 3 (e:=QE) Hg) rfl) ?_
 refine z2 ?_
 refine zz (fun _ a=>ac (QI 4 (a.v rfl) (a.en 3 rfl) (Evl.rep (a.v rfl)) rfl Jf Qau (by simp only[az]; omega) rfl (a.fr 4 rfl) (nlr rfl)) rfl) ?_
 refine zz (fun _ a=>ac (dBs 5 (e:=QL) Xy) rfl) ?_
 refine z2 ?_
 refine zz (fun _ a=>ac (QI 6 (a.v rfl) (a.en 5 rfl) (Evl.rep (a.v rfl)) rfl Qf2 Qat (by simp only[az]; omega) rfl (a.fr 6 rfl) (nlr rfl)) rfl) ?_
 refine z2 ?_
 refine zz (fun _ a=>ac (Qj Xj ⟨_,_,rfl,(a.w rfl),⟨_,_,rfl,(a.w rfl),⟨_,_,rfl,(a.w rfl),⟨_,_,rfl,(a.w rfl),rfl⟩⟩⟩⟩ (av.1 (by simp only[QW,XG,bd,bt]; rw[(a.en 2 rfl),(a.en 4 rfl),(a.en 6 rfl)]; rfl)) rfl rfl) rfl)<|zz (fun _ a=>ac (Q6 (a.v rfl) (a.en 1 rfl) (a.w rfl) (by simp only[QW,XG,bd,bt]; rw[(a.en 2 rfl),(a.en 4 rfl),(a.en 6 rfl)]; rfl) Q3 rfl) rfl) ?_
 exact zN
 refine w_ ?_
 exact fi_ [(0,2),(1,4),(2,6)] g ⟨rfl,(Qh (by rfl)),(Qh (by rfl)),trivial⟩
end Go.Proofs.YtndabgcpnmeeoaaGreat
namespace Go.Proofs.YtndabgcpnmeeoaaGreat
open Go.RowKit
set_option maxRecDepth 100000
set_option maxHeartbeats 4000000
theorem QxY {us:List Value}(h:us.length=5):∃a b c d e,us=[a,b,c,d,e]:=by
 match us,h with
 | [a,b,c,d,e],_=>exact ⟨_,_,_,_,_,rfl⟩
theorem Hb {p:Prop}[Decidable p]{w:World}{e:Ending}{w':World}(h:RetB p w e w'):RetB (decide p=true) w e w':=by
 obtain ⟨b,a,c,d⟩:=h
 exact ⟨b,a,by rw[c,aS],d⟩
theorem YU (s:Qy)[Decidable (StgOk s)]:FC Tryz.prog 123 [(true,leaves Zl s)] [] 0 (Za (lf (dB (decide (StgOk s))))):=Qef fun g w j h=>by
 obtain ⟨i,rfl,a⟩:=h.agg1
 obtain ⟨b,c,d,e,f,rfl⟩:=QxY a.len
 exact (Qeh b c d e f s w a).mono fun _ _ h=>Hb h
theorem Z0 (s:Qy)[Decidable (StgOk s)]:FC Tryz.prog 253 [(true,leaves Zl s)] [] 0 (Za (lf (dB (decide (StgOk s))))):=Qef fun g w j h=>by
 obtain ⟨i,rfl,a⟩:=h.agg1
 obtain ⟨b,c,d,e,f,rfl⟩:=QxY a.len
 exact (Qmx b c d e f s w a).mono fun _ _ h=>Hb h
def WF (ts:List Qt)(a b:Nat)(p:Int):List Qt:=(ts.modify a fun t=>(t.1,t.2++[p])).modify b fun t=>(t.1++[p],t.2)
def YF (b:Bool):ByteArray:=⟨#[if b then 49 else 48]⟩
def QC (s:Qy)(o:Qp):Qy:=((s.1.1+1,WF s.1.2 o.1.toNat o.2.1.toNat s.1.1),s.2.1,s.2.2.1,s.2.2.2++YF o.2.2)
theorem U9 {ts:List Qt}{i:Nat}{x:Qt}(h:ts[i]? =some x):(QR QS ts)[i*2+1]? =some (.dat Qm x.2)∧(QR QS ts)[i*2+0]? =some (.dat Qm x.1):=
 ⟨KN (e:=QS) (j:=1) h rfl,KN (e:=QS) (j:=0) h rfl⟩
theorem Qas {ts:List Qt}{i:Nat}{x:Qt}{ys:List Int}(h:ts[i]? =some x):(QR QS ts).set (i*2+1) (.dat Qm ys)=QR QS (ts.set i (x.1,ys)):=
 (KO (e:=QS) (j:=1) (x':=(x.1,ys)) h rfl (by decide)).symm
theorem Qar {ts:List Qt}{i:Nat}{x:Qt}{ys:List Int}(h:ts[i]? =some x):(QR QS ts).set (i*2+0) (.dat Qm ys)=QR QS (ts.set i (ys,x.2)):=
 (KO (e:=QS) (j:=0) (x':=(ys,x.2)) h rfl (by decide)).symm
theorem Qjg {ts:List Qt}{a b:Nat}{x y:Qt}{p:Int}(e:ts[a]? =some x)(f:ts[b]? =some y)(hab:a≠b):(ts.set a (x.1,x.2++[p])).set b (y.1++[p],y.2)=WF ts a b p:=by
 unfold WF
 apply bF
 intro i
 have g:=(ah.1 e).1
 have h:=(ah.1 f).1
 rw[cp,cp]
 by_cases c:b=i
 ·subst c
  rw[aX (by simpa using h)]
  simp[f,hab]
 ·rw[aZ c]
  by_cases d:a=i
  ·subst d
   rw[aX g]
   simp[e,c]
  ·rw[aZ d]
   simp[c,d]
theorem QbS {s:Qy}(b:Ty.tot Zl s≤2000000){i:Nat}{x:Qt}(a:s.1.2[i]? =some x):x.1.length≤2000000∧x.2.length≤2000000:=HI (KC b).1 x (ai a)
theorem HV {s:Qy}(a:Ty.tot Zl s≤2000000):s.2.2.2.size≤2000000:=by
 have:Ty.tot Zl s=Ty.tot Uz s.1+((s.2.1.length+(s.2.1.map (Ty.tot Ye)).sum)+((s.2.2.1.length+(s.2.2.1.map (Ty.tot XP)).sum)+s.2.2.2.size)):=rfl
 omega
theorem Yy (b:UInt8):(⟨#[b]⟩:ByteArray).size=1:=rfl
theorem Qzn {α:Type _}{c:List α}{p q:Nat}(h:p≠q)(a b d e x y:α):(((((c.set p a).set q b).set p d).set q e).set p x).set q y=(c.set p x).set q y:=by
 apply bF
 intro i
 simp only[aV,au]
 split <;> split <;> simp_all
theorem QwF {a n:Nat}(h:a < n):a*2+1 < n*2:=by omega
theorem QwE {a n:Nat}(h:a < n):a*2+0 < n*2:=by omega
theorem JT (b:Bool):FC Tryz.prog 182 [(false,[dB b])] [] 0 (Za (lf (.dat .u8 (if b then 49 else 48)))):=by
 refine Qn Tryz.func182 rfl rfl Tryz.ntmps182 fun g a f c h e d=> ?_
 refine w_ ?_
 refine lc (Wn (Q0 0 rfl) rfl) ?_
 refine w5 ?_
 refine cb_ (fun _=> ?_) fun _=> ?_
 refine w2 ?_
 refine lc (Wn (Q0 48 rfl) rfl) ?_
 refine w_ ?_
 refine Qe<|fq_ a ?_
 simp_all
 refine w_ ?_
 refine lc (Wn (Q0 49 rfl) rfl) ?_
 refine w_ ?_
 refine Qe<|fq_ a ?_
 simp_all
theorem Qde (s:YA)(o:Qo6)(k:Ty.tot Zl s≤2000000)(J:0≤o.1∧o.1 < s.1.2.length)(K:0≤o.2.1∧o.2.1 < s.1.2.length)(C:o.1≠o.2.1)(L:1≤s.1.1∧s.1.1≤30):FC Tryz.prog 125 [(true,[dI s.1.1, .dat QF s.1.2, .dat Qo s.2.1, .dat Qw s.2.2.1,dS s.2.2.2]),(true,[dI o.1,dI o.2.1,dB o.2.2])] [] 0 (Is (ag [dI (((QC s o).1).1), .ref 0, .ref 1, .ref 2,dS ((QC s o).2.2.2)]) [ar 0 275 QD (((QC s o).1).2),ar 1 77 QE ((QC s o).2.1),ar 2 75 QL ((QC s o).2.2.1)]):=by
 obtain ⟨x,i⟩:∃z,s.1.2[o.1.toNat]? =some z:=⟨_,ap (by omega)⟩
 obtain ⟨y,j⟩:∃z,s.1.2[o.2.1.toNat]? =some z:=⟨_,ap (by omega)⟩
 have h:o.1.toNat≠o.2.1.toNat:=by omega
 have c:=(U9 i).1
 have d:=(U9 j).2
 have f:o.1.toNat*2+1 < (QR QD s.1.2).length:=by rw[Yz]; exact QwF (by omega)
 have g:o.2.1.toNat*2+0 < (QR QD s.1.2).length:=by rw[Yz]; exact QwE (by omega)
 have b:o.1.toNat*2+1≠o.2.1.toNat*2+0:=by omega
 have E:=(QbS k i).2
 have F:=(QbS k j).1
 have D:=HV k
 refine Qn Tryz.func125 rfl rfl Tryz.ntmps125 fun H B G l I A u=> ?_
 refine acG 0 0 fun _=> ?_
 refine acG 1 0 fun _=> ?_
 refine acG 1 1 fun _=> ?_
 refine w_ ?_
 refine xbx 0 ?_
 refine xbx 1 ?_
 refine lc (xal 2 YM Q5) ?_
 refine w_ ?_
 apply dW [io 9 _,⟨some 10,ag [dI s.1.1, .ref 3, .ref 4, .ref 5,dS s.2.2.2],[ar 3 275 QD s.1.2,ar 4 77 QE s.2.1,ar 5 75 QL s.2.2.1]⟩,io 11 (lP 0 0),io 12 (lP 0 0),io 13 (lI s.1.1),⟨some 5,lP 6 0,[bx 6 51 [dI 0, .val (.slice none 0 0), .val (.slice none 0 0), .val (.slice none 0 0),dS ByteArray.empty]]⟩,⟨none,lf (.val undef),[bx 6 51 [dI s.1.1, .ref 3, .ref 4, .ref 5,dS s.2.2.2]]⟩,io 6 _] [0,0,3,3,3,31,28,0]
 refine z_ ?_
 refine zz (fun _ a=>ac (dG 3 (Qdd s k) QlC) rfl) ?_
 refine z3 ?_
 refine zz (fun _ a=>ac (YP 6 YM Q5 rfl rfl (a.fr 6 rfl) (nlr rfl)) rfl)<|zz (fun _ a=>ac (Q6 (a.v rfl) (a.en 6 rfl) (a.w rfl) (by simp only[QW,XG,bd,bt]; rw[(a.en 3 rfl),(a.en 4 rfl),(a.en 5 rfl)]; rfl) Q3 rfl) rfl) ?_
 exact y1
 refine AC.wk (KK (q:=3) rfl (by omega))<|AC.wk (XC 7 (q:=3) (p:=(o.1).toNat*2+1) (E':=3) (e':= .int) (ys:=x.2) rfl (c) (Fresh.of rfl) (aA rfl)) ?_
 refine AC.wk (XC 8 (q:=3) (p:=(o.2.1).toNat*2+0) (E':=3) (e':= .int) (ys:=y.1) rfl (by simp only[ovr,aV,au,f,g,b,b.symm,c,d,cB,if_true,if_false,↓reduceIte]) (Fresh.of rfl) (aA rfl)) ?_
 apply dW (i5 14 _ _ _ _ _ (io 19 (lf (.ept 3 2 ((o.1).toNat) 0)) :: i5 20 _ _ _ _ _ (io 25 (lf (.ept 3 2 ((o.2.1).toNat) 0)) :: i2 7 _ _ []))) [0,0,0,7,7,0,63,63,63,511,511,63,4032,0]
 refine z5 ?_
 refine zz (fun _ a=>ac (Zc (a.v rfl) (a.en 3 rfl) (a.v rfl) WD Xd rfl (by omega) (by omega)) rfl) ?_
 refine z5 ?_
 refine zz (fun _ a=>ac (Zc (a.v rfl) (a.en 3 rfl) (a.v rfl) WD Xd rfl (by omega) (by omega)) rfl) ?_
 exact y2
 apply dW (i3 26 _ _ _ [io 29 (lf (.ept 3 2 ((o.1).toNat) 0)),io 30 (lf (.ept 3 2 ((o.1).toNat) 1)),io 31 (lR 7),io 32 _,⟨some 33,lR 9,[ar 9 3 .int ([s.1.1])]⟩,⟨some 34,lR 10,[ar 10 3 .int (x.2++([s.1.1])),(7,none),(9,none)]⟩,io 35 (lf (.ept 3 2 ((o.2.1).toNat) 0)),io 36 (lf (.ept 3 2 ((o.2.1).toNat) 0)),io 37 (lf (.ept 3 2 ((o.2.1).toNat) 0)),io 38 (lR 8),io 39 (lI s.1.1),⟨some 40,lR 11,[ar 11 3 .int ([s.1.1])]⟩,⟨some 41,lR 12,[ar 12 3 .int (y.1++([s.1.1])),(8,none),(11,none)]⟩,io 42 (lf (.ept 3 2 ((o.1).toNat) 0)),io 43 (lf (.ept 3 2 ((o.1).toNat) 1)),⟨none,lf (.val undef),[(3,some (.obx 275 2 ((s.1.2).length) (QR QD (s.1.2)) [((o.1).toNat*2+1, .ref 10),((o.2.1).toNat*2+0, .ref 8),((o.1).toNat*2+1, .ref 7)]))]⟩,io 44 (lf (.ept 3 2 ((o.2.1).toNat) 0)),io 45 (lf (.ept 3 2 ((o.2.1).toNat) 0)),⟨none,lf (.val undef),[(3,some (.obx 275 2 ((s.1.2).length) (QR QD (s.1.2)) [((o.2.1).toNat*2+0, .ref 12),((o.1).toNat*2+1, .ref 10),((o.2.1).toNat*2+0, .ref 8),((o.1).toNat*2+1, .ref 7)]))]⟩]) [0,1,3,3,3,3,63,63,3,511,511,511,511,8191,8191,3,2,2,2,0,0,0]
 refine z3 ?_
 refine zz (fun _ a=>ac (X7 (a.v rfl) (by rw[(a.en 3 rfl)]; rfl) rfl) rfl)<|zz (fun _ a=>ac (QT (a.v rfl) VZ (by rw[(a.en 3 rfl)]; rfl) rfl) rfl) ?_
 refine zz (fun _ a=>ac (YR (a.v rfl) (a.en 3 rfl) (by simp only[ovr,aV,au,f,g,b,b.symm,c,d,cB,if_true,if_false,↓reduceIte]) (a.en 7 rfl) QX rfl) rfl) ?_
 refine z_ ?_
 refine zz (fun _ a=>ac (dBs 9 (e:= .int) Zq) rfl) ?_
 refine zz (fun _ a=>ac (dA 10 YO) rfl) ?_
 refine z_ ?_
 refine zz (fun _ a=>ac (X7 (a.v rfl) (by rw[(a.en 3 rfl)]; rfl) rfl) rfl)<|zz (fun _ a=>ac (QT (a.v rfl) VY (by rw[(a.en 3 rfl)]; rfl) rfl) rfl) ?_
 refine zz (fun _ a=>ac (YR (a.v rfl) (a.en 3 rfl) (by simp only[ovr,aV,au,f,g,b,b.symm,c,d,cB,if_true,if_false,↓reduceIte]) (a.en 8 rfl) QX rfl) rfl) ?_
 refine z_ ?_
 refine zz (fun _ a=>ac (dBs 11 (e:= .int) Zq) rfl) ?_
 refine zz (fun _ a=>ac (dA 12 YO) rfl) ?_
 refine zz (fun _ a=>ac (X7 (a.v rfl) (by rw[(a.en 3 rfl)]; rfl) rfl) rfl)<|zz (fun _ a=>ac (QT (a.v rfl) VZ (by rw[(a.en 3 rfl)]; rfl) rfl) rfl) ?_
 refine zz (fun _ a=>ac (Ys (t:=7) (a.v rfl) (a.en 3 rfl) (by simp only[ovr,aV,au,f,g,b,b.symm,c,d,cB,if_true,if_false,↓reduceIte]) (a.v rfl) (a.en 10 rfl) QX) rfl) ?_
 refine zz (fun _ a=>ac (X7 (a.v rfl) (by rw[(a.en 3 rfl)]; rfl) rfl) rfl)<|zz (fun _ a=>ac (QT (a.v rfl) VY (by rw[(a.en 3 rfl)]; rfl) rfl) rfl) ?_
 refine zz (fun _ a=>ac (Ys (t:=8) (a.v rfl) (a.en 3 rfl) (by simp only[ovr,aV,au,f,g,b,b.symm,c,d,cB,if_true,if_false,↓reduceIte]) (a.v rfl) (a.en 12 rfl) QX) rfl) ?_
 exact zN
 refine Yg ?_
 refine AC.wk (Wo (q:=3) (t:=10) (p:=(o.1).toNat*2+1) rfl (by simp only[ovr,aV,au,f,g,b,b.symm,c,d,cB,if_true,if_false,↓reduceIte]) rfl) ?_
 refine AC.wk (Wo (q:=3) (t:=12) (p:=(o.2.1).toNat*2+0) rfl (by simp only[ovr,aV,au,f,g,b,b.symm,c,d,cB,if_true,if_false,↓reduceIte]) rfl) ?_
 refine AC.wk (V9 (q:=3) (e:=QD) (WF s.1.2 (o.1).toNat (o.2.1).toNat s.1.1) rfl (by simp[WF]) (by simp only[ovr]; rw[Qzn b,Qas i,Qar (by rw[aZ h]; exact j),Qjg i j h])) ?_
 refine w9 ?_
 apply dW (i4 52 _ _ _ _ [io 56 (lf (.dat .u8 (if o.2.2 then 49 else 48))),⟨some 57,lR 13,[ar 13 5 .u8 ([if o.2.2 then 49 else 48])]⟩,io 58 (lf (dS (⟨#[if o.2.2 then 49 else 48]⟩:ByteArray))),io 59 (lf (dS (s.2.2.2++(⟨#[if o.2.2 then 49 else 48]⟩:ByteArray)))),io 60 _,⟨none,lf (.val undef),[bx 6 51 [dI (s.1.1+1), .ref 3, .ref 4, .ref 5,dS (s.2.2.2++(⟨#[if o.2.2 then 49 else 48]⟩:ByteArray))]]⟩]) [0,0,3,3,3,3,3,0,0,0]
 refine z4 ?_
 refine zz (fun _ a=>ac (dK (JT o.2.2) Qay) rfl) ?_
 refine zz (fun _ a=>ac (dBs 13 (e:= .u8) Qkz) rfl) ?_
 refine zz (fun _ a=>ac (XA (ys:=[if o.2.2 then 49 else 48]) (U1 (a.v rfl) (a.n 13 rfl)) YN QbT ZN rfl) rfl)<|zz (fun _ a=>ac (Q7 (a.v rfl) (a.v rfl) rfl (by simp only[Yy]; omega)) rfl) ?_
 exact y2
 refine w5 ?_
 have m:(s.1.1+1:Int)=(((QC s o).1).1):=by
  rfl
 have r:(s.2.2.2++(⟨#[if o.2.2 then 49 else 48]⟩:ByteArray):ByteArray)=((QC s o).2.2.2):=by
  rfl
 exact fi_ [(0,3),(1,4),(2,5)] B ⟨(Qh (by rfl)),(Qh (by rfl)),(Qh (by rfl)),trivial⟩ (h0:=by rw[m,r] <;> rfl)
def X2:Qy:=((0,[]),[],[],ByteArray.empty)
def ZG (s:Qy)[Decidable (StgOk s)]:Qy×Bool:=if StgOk s then (s,true) else (X2,false)
theorem V5 {s:Qy}[Decidable (StgOk s)](h:decide (StgOk s)=true):ZG s=(s,true):=if_pos (ab h)
theorem KB {s:Qy}[Decidable (StgOk s)](h:decide (StgOk s)=false):ZG s=(X2,false):=if_neg (aa h)
theorem Qge (s:YA)[Decidable (StgOk s)]:FC Tryz.prog 124 [(true,[dI s.1.1, .ref 0, .ref 1, .ref 2,dS s.2.2.2])] [ar 0 275 QD s.1.2,ar 1 77 QE s.2.1,ar 2 75 QL s.2.2.1] 0 (Is (PV.tup [(true,[dI ((((ZG s).1).1).1), .ref 0, .ref 1, .ref 2,dS (((ZG s).1).2.2.2)]),(false,[dB ((ZG s).2)])]) [ar 0 275 QD ((((ZG s).1).1).2),ar 1 77 QE (((ZG s).1).2.1),ar 2 75 QL (((ZG s).1).2.2.1)]):=by
 refine Qn Tryz.func124 rfl rfl Tryz.ntmps124 fun n c m d o l k=> ?_
 refine acG 0 0 fun _=> ?_
 refine w_ ?_
 refine xbx 3 ?_
 refine lc (xal 4 YM Q5) ?_
 refine w5 ?_
 refine lc (YQ (YU s) KW ⟨_,_,rfl,(Jl (Ql rfl) ⟨_,_,rfl, .inl rfl,⟨_,_,rfl, .inr ⟨_,_,_,_,rfl,rfl,rfl⟩,⟨_,_,rfl, .inr ⟨_,_,_,_,rfl,rfl,rfl⟩,⟨_,_,rfl, .inr ⟨_,_,_,_,rfl,rfl,rfl⟩,⟨_,_,rfl, .inl rfl,rfl⟩⟩⟩⟩⟩),rfl⟩ rfl rfl rfl) ?_
 refine w2 ?_
 cases a:(decide (StgOk s))
 have b:=aa a
 refine w2 ?_
 refine lc (Qj Xj rfl (av.1 rfl) rfl rfl) ?_
 refine w3 ?_
 refine AC.wk (Qq 5 (p:=4) (off:=1) 275 QD rfl rfl (Fresh.of rfl) (nlr rfl))<|AC.wk (Qq 6 (p:=4) (off:=2) 77 QE rfl rfl (Fresh.of rfl) (nlr rfl))<|AC.wk (Qq 7 (p:=4) (off:=3) 75 QL rfl rfl (Fresh.of rfl) (nlr rfl))<|Qe ?_
 have e:(0:Int)=((((ZG s).1).1).1):=by
  (rw[KB ‹_›]; rfl)
 have f:(ByteArray.empty:ByteArray)=(((ZG s).1).2.2.2):=by
  (rw[KB ‹_›]; rfl)
 have g:(false:Bool)=((ZG s).2):=by
  (rw[KB ‹_›]; done)
 exact fi_ [(0,5),(1,6),(2,7)] c ⟨(Qh (by (rw[KB ‹_›]; rfl))),(Qh (by (rw[KB ‹_›]; rfl))),(Qh (by (rw[KB ‹_›]; rfl))),trivial⟩ (h0:=(((congrArg (fun z_=>PV.tup [(true,[dI z_, .ref 5, .ref 6, .ref 7,dS ByteArray.empty]),(false,[dB false])]) e)).trans (congrArg (fun z_=>PV.tup [(true,[dI ((((ZG s).1).1).1), .ref 5, .ref 6, .ref 7,dS z_]),(false,[dB false])]) f)).trans (congrArg (fun z_=>PV.tup [(true,[dI ((((ZG s).1).1).1), .ref 5, .ref 6, .ref 7,dS (((ZG s).1).2.2.2)]),(false,[dB z_])]) g))
 have b:=ab a
 refine w8 ?_
 have h:(s.1.1:Int)=((((ZG s).1).1).1):=by
  (rw[V5 ‹_›]; done)
 have i:(s.2.2.2:ByteArray)=(((ZG s).1).2.2.2):=by
  (rw[V5 ‹_›]; done)
 have j:(true:Bool)=((ZG s).2):=by
  (rw[V5 ‹_›]; done)
 exact fi_ [] c ⟨(Qh (by (rw[V5 ‹_›]; done))),(Qh (by (rw[V5 ‹_›]; done))),(Qh (by (rw[V5 ‹_›]; done))),trivial⟩ (h0:=by rw[h,i,← j] <;> rfl)
end Go.Proofs.YtndabgcpnmeeoaaGreat
