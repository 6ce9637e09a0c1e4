/- Abstract states: slices of numbers that the library sorts in place. No program is named here. -/
import Derived.Test.YtjfpbcmfbnnooaaGreatGAl
import Derived.Test.YtjfpbcmfbnnooaaGreatGAf
import Derived.Sort.EveryDepth
import Derived.Sort.OwnSortedInts
import Derived.Shelf.Sort.AssemblyIn
import Derived.Sort.OwnSorted
import Derived.Shelf.Sort.AssemblysIn
import Derived.Shelf.Lays
import Derived.Shelf.Slices.In.SortNone
import Derived.Test.YtjfpbcmfbnnooaaGreatGAi
import Derived.Test.YtjfpbcmfbnnooaaGreatGFb
import Derived.Test.YtjfpbcmfbnnooaaGreatGApp
import Derived.Test.YtjfpbcmfbnnooaaGreatGStr
import Derived.Test.YtjfpbcmfbnnooaaGreatProg
import Derived.KernelRfl
set_option linter.unusedSimpArgs false
set_option linter.unusedVariables false
set_option linter.unusedSectionVars false
namespace Go.Proofs.YtjfpbcmfbnnooaaGreat
open Go.RowKit
def QfF (xs:List Int):List Int:=xs.mergeSort fun x y=>decide (x≤y)
theorem QaG (xs:List Int):(QfF xs).Perm xs:=List.mergeSort_perm ..
theorem QpH (xs:List Int):(QfF xs).length=xs.length:=(QaG xs).length_eq
theorem QpI {xs:List Int}{x:Int}:x∈QfF xs↔x∈xs:=(QaG xs).mem_iff
theorem Qip (xs:List Int):(QfF xs).Pairwise fun x y=>x≤y:=by
 have h:=List.pairwise_mergeSort (le:=fun x y:Int=>decide (x≤y)) (fun a b c d e=>by simp only[aU] at*;omega) (fun a b=>by simp only[ci,aU];omega) xs
 exact h.imp fun h=>by simpa using h
def QAK (P:Program)(f:FuncId):Prop:=∀(blk cap:Nat) (zs:List Int) (w:World),Sort.Holds (Value.int .i64) w blk 0 zs.toArray→blk<w.heap.size→zs.length<4611686018427387904→
 Calls P f #[.slice (some ⟨blk,0,none⟩) zs.length cap] w fun e w'=>e= .returned (.tuple #[])∧∃n os,w'=Sort.grow (Sort.putRow (Value.int .i64) (Sort.ahead w n) blk 0 (QfF zs).toArray) os
def Qjq (P:Program)(f:FuncId):Prop:=∀w:World,Calls P f #[.slice none 0 0] w fun e w'=>e= .returned (.tuple #[])∧Nw w w'
end Go.Proofs.YtjfpbcmfbnnooaaGreat
namespace Go.Proofs.YtjfpbcmfbnnooaaGreat
structure TO {α:Type _} (lt:α→α→Bool):Prop where
  irr:∀x,lt x x=false
  tr:∀x y z,lt x y=true→lt y z=true→lt x z=true
  tot:∀x y,lt x y=true∨x=y∨lt y x=true
def Zg {α:Type _}[DecidableEq α](lt:α→α→Bool)(x:α):List α→List α
 | []=>[x]
 | y::l=>if lt y x=true then y::Zg lt x l else if y=x then y::l else x::y::l
def Zp {α:Type _}[DecidableEq α]:List α→List α
 | []=>[]
 | [x]=>[x]
 | x::y::l=>if x=y then Zp (y::l) else x::Zp (y::l)
def ofG {α:Type _}[DecidableEq α](lt:α→α→Bool)(l:List α):List α:=l.foldl (fun s x=>Zg lt x s) []
section
variable {α:Type _}[DecidableEq α]{lt:α→α→Bool}{l a b:List α}{x y z:α}{k:Nat}
omit [DecidableEq α] in
theorem TO.ext (h:TO lt):∀{a b:List α},a.Pairwise (fun x y=>lt x y=true)→b.Pairwise (fun x y=>lt x y=true)→(∀x,x∈a↔x∈b)→a=b
 | [],[],_,_,_=>rfl
 | [],y::b,_,_,hm=>by have:=(hm y).2 (aB ..);cases this
 | x::a,[],_,_,hm=>by have:=(hm x).1 (aB ..);cases this
 | x::a,y::b,ha,hb,hm=>by
  obtain ⟨g,j⟩:=bA.1 ha
  obtain ⟨i,m⟩:=bA.1 hb
  have f:x=y:=by
   rcases aJ.1 ((hm x).1 (aB ..)) with c|c
   ·exact c
   ·rcases aJ.1 ((hm y).2 (aB ..)) with e|e
    ·exact e.symm
    ·have:=h.tr _ _ _ (g _ e) (i _ c)
     rw[h.irr] at this;cases this
  subst f
  congr 1
  refine h.ext j m fun z=>⟨fun d=> ?_,fun d=> ?_⟩
  ·rcases aJ.1 ((hm z).1 (aA _ d)) with c|c
   ·subst c;have:=g _ d;rw[h.irr] at this;cases this
   ·exact c
  ·rcases aJ.1 ((hm z).2 (aA _ d)) with c|c
   ·subst c;have:=i _ d;rw[h.irr] at this;cases this
   ·exact c
theorem Yg:z∈Zg lt x l↔z=x∨z∈l:=by
 induction l with
 | nil=>simp[Zg]
 | cons y l c=>
  unfold Zg
  split
  ·rw[aJ,c,aJ]
   constructor
   ·rintro (h|h|h)
    ·exact .inr (.inl h)
    ·exact .inl h
    ·exact .inr (.inr h)
   ·rintro (h|h|h)
    ·exact .inr (.inl h)
    ·exact .inl h
    ·exact .inr (.inr h)
  ·split
   ·rename_i h;subst h
    rw[aJ]
    exact ⟨fun h=>h.elim .inl fun h=> .inr (.inr h),fun h=>h.elim .inl id⟩
   ·rw[aJ]
theorem J5 (h:TO lt)(f:l.Pairwise (fun x y=>lt x y=true)):(Zg lt x l).Pairwise (fun x y=>lt x y=true):=by
 induction l with
 | nil=>simp[Zg]
 | cons y l n=>
  obtain ⟨j,m⟩:=bA.1 f
  unfold Zg
  split
  ·rename_i i
   refine bA.2 ⟨fun z c=> ?_,n m⟩
   rcases Yg.1 c with rfl|c
   ·exact i
   ·exact j z c
  ·split
   ·exact f
   ·rename_i i g
    have e:lt x y=true:=by
     rcases h.tot x y with d|d|d
     ·exact d
     ·exact absurd d.symm g
     ·exact absurd d i
    refine bA.2 ⟨fun z c=> ?_,f⟩
    rcases aJ.1 c with rfl|c
    ·exact e
    ·exact h.tr _ _ _ e (j z c)
theorem QfB (h:TO lt):∀(l s:List α),s.Pairwise (fun x y=>lt x y=true)→(l.foldl (fun s x=>Zg lt x s) s).Pairwise (fun x y=>lt x y=true)∧∀z,z∈l.foldl (fun s x=>Zg lt x s) s↔z∈s∨z∈l
 | [],s,hs=>⟨hs,fun z=>by simp⟩
 | x::l,s,hs=>by
  obtain ⟨c,d⟩:=QfB h l _ (J5 (x:=x) h hs)
  refine ⟨c,fun z=> ?_⟩
  rw[bC,d,Yg,aJ]
  constructor
  ·rintro ((h|h)|h)
   ·exact .inr (.inl h)
   ·exact .inl h
   ·exact .inr (.inr h)
  ·rintro (h|h|h)
   ·exact .inl (.inr h)
   ·exact .inl (.inl h)
   ·exact .inr h
theorem WM (h:TO lt)(l:List α):(ofG lt l).Pairwise (fun x y=>lt x y=true):=(QfB h l [] cC).1
theorem WL (h:TO lt)(l:List α):z∈ofG lt l↔z∈l:=by
 have:=(QfB h l [] cC).2 z
 simpa [ofG] using this
theorem Qj8:Zg lt x (ofG lt l)=ofG lt (l++[x]):=by unfold ofG;rw[cP];rfl
theorem Qbd:∀{l:List α},z∈Zp l↔z∈l
 | []=>Iff.rfl
 | [x]=>Iff.rfl
 | x::y::l=>by
  unfold Zp
  split
  ·rename_i h;subst h
   rw[Qbd]
   exact ⟨aA _,fun h=>(aJ.1 h).elim (fun h=>by rw[h];exact aB ..) id⟩
  ·rw[aJ,Qbd,aJ (l:=y::l)]
theorem QeA (h:TO lt):∀{l:List α},l.Pairwise (fun x y=>lt y x=false)→(Zp l).Pairwise (fun x y=>lt x y=true)
 | [],_=>cC
 | [x],_=>by simp[Zp]
 | x::y::l,hl=>by
  obtain ⟨j,f⟩:=bA.1 hl
  unfold Zp
  split
  ·exact QeA h f
  ·rename_i e
   refine bA.2 ⟨fun z i=> ?_,QeA h f⟩
   rw[Qbd] at i
   rcases h.tot x z with d|d|d
   ·exact d
   ·subst d
    rcases aJ.1 i with g|g
    ·exact absurd g e
    ·have m:=j y (aB ..)
     have n:=(bA.1 f).1 x g
     rcases h.tot x y with c|c|c
     ·rw[n] at c;cases c
     ·exact absurd c e
     ·rw[m] at c;cases c
   ·have:=j z i;rw[this] at d;cases d
theorem Qib (h:TO lt){s l:List α}(d:s.Pairwise (fun x y=>lt y x=false))(c:∀z,z∈s↔z∈l):Zp s=ofG lt l:=
 h.ext (QeA h d) (WM h l) fun z=>by rw[Qbd,c,WL h]
theorem QiL:∀{k:Nat} {l:List α},(∀j,j<k→∀y,l[j]? =some y→lt y x=true)→k≤l.length→(∀y,l[k]? =some y→lt y x=false∧y≠x)→Zg lt x l=l.take k++x::l.drop k
 | 0,[],_,_,_=>rfl
 | 0,y::l,_,_,h2=>by
  obtain ⟨d,e⟩:=h2 y rfl
  unfold Zg
  rw[if_neg (by rw[d];decide),if_neg e];rfl
 | k+1,[],_,hk,_=>by simp at hk
 | k+1,y::l,h1,hk,h2=>by
  unfold Zg
  rw[if_pos (h1 0 (by omega) y rfl),QiL (k:=k) (fun j f z c=>h1 (j+1) (by omega) z (by simpa using c)) (by simpa using hk) (fun z c=>h2 z (by simpa using c))]
  rfl
theorem QcD:∀{k:Nat} {l:List α},(∀j,j<k→∀y,l[j]? =some y→lt y x=true)→l[k]? =some x→lt x x=false→Zg lt x l=l
 | 0,[],_,h,_=>by simp at h
 | 0,y::l,_,h,h3=>by
  simp only[cw,bp] at h
  subst h
  unfold Zg
  rw[if_neg (by rw[h3];decide),if_pos rfl]
 | k+1,[],_,h,_=>by simp at h
 | k+1,y::l,h1,h,h3=>by
  unfold Zg
  rw[if_pos (h1 0 (by omega) y rfl),QcD (k:=k) (fun j d z c=>h1 (j+1) (by omega) z (by simpa using c)) (by simpa using h) h3]
end
def ltI (x y:Int):Bool:=decide (x<y)
theorem Uc:TO ltI:=⟨fun x=>by simp[ltI],fun x y z c d=>by simp only[ltI,aU] at*;omega,fun x y=>by simp only[ltI,aU];omega⟩
end Go.Proofs.YtjfpbcmfbnnooaaGreat
namespace Go.Proofs.YtjfpbcmfbnnooaaGreat
open Go.RowKit
def ltB (x y:ByteArray):Bool:=Op.bytesLess x.toList y.toList
def fB (x:ByteArray):List UInt8:=x.data.toList
theorem Qmn {x y:ByteArray}(h:fB x=fB y):x=y:=by
 cases x;cases y
 exact congrArg _ (Array.toList_inj.1 h)
theorem Qv1:∀(x y:List UInt8),Op.bytesLess x y=decide (x<y)
 | [],[]=>by simp[Op.bytesLess]
 | _::_,[]=>by simp[Op.bytesLess]
 | [],_::_=>by simp[Op.bytesLess]
 | a::x,b::y=>by
  rw[Op.bytesLess,Qv1 x y]
  simp only[List.cons_lt_cons_iff]
  by_cases c:a<b <;> by_cases d:a=b <;> by_cases e:x<y <;> simp[c,d,e]
theorem QfO (x y:ByteArray):ltB x y=decide (fB x<fB y):=by unfold ltB;rw[bm,bm,Qv1];rfl
theorem Yb:TO ltB:=⟨fun x=>by rw[QfO];simp[List.lt_irrefl],fun x y z a b=>by rw[QfO,aU] at*;exact List.lt_trans a b,fun x y=>by
 rw[QfO,QfO,aU,aU]
 by_cases a:fB x<fB y
 ·exact .inl a
 ·by_cases b:fB y<fB x
  ·exact .inr (.inr b)
  ·exact .inr (.inl (Qmn (List.le_antisymm (List.not_lt.1 b) (List.not_lt.1 a))))⟩
def Zd (xs:List ByteArray):List ByteArray:=xs.mergeSort fun x y=> !ltB y x
theorem Xp (xs:List ByteArray):(Zd xs).Perm xs:=List.mergeSort_perm ..
theorem Z8 (xs:List ByteArray):(Zd xs).length=xs.length:=(Xp xs).length_eq
theorem K3 (xs:List ByteArray):(Zd xs).Pairwise fun x y=>ltB y x=false:=by
 have h:=List.pairwise_mergeSort (le:=fun x y:ByteArray=> !ltB y x) (fun a b c f d=>by
  simp only[bT] at*
  cases e:ltB c a with
  | false=>rfl
  | true=>
   rcases Yb.tot a b with k|rfl|k
   ·rw[Yb.tr _ _ _ e k] at d;cases d
   ·rw[e] at d;cases d
   ·rw[k] at f;cases f) (fun a b=>by
  cases e:ltB b a with
  | false=>rfl
  | true=>
   cases k:ltB a b with
   | false=>rfl
   | true=>have:=Yb.tr _ _ _ e k;rw[Yb.irr] at this;cases this) xs
 exact h.imp fun h=>by simpa using h
theorem Qqe (xs:List ByteArray):(Zd xs).map fB=(xs.map fB).mergeSort fun x y=>decide (x≤y):=
 List.map_mergeSort fun a _ b _=>by
  rw[QfO]
  by_cases h:fB b<fB a
  ·have:¬fB a≤fB b:=fun k=>List.not_lt.2 k h
   simp[h,this]
  ·have:=List.not_lt.1 h
   simp[h,this]
theorem QrF (x:ByteArray):encStr (fB x)= .string x:=by cases x;simp[encStr,fB]
theorem Qhv {w:World}:∀{xs:List ByteArray} {fp:List Nat} {cs:List Value},OwnL (Own .str w) fp cs xs→fp=[]∧cs=(xs.map fB).map encStr∧∀x∈xs,x.size≤maxLen
 | [],fp,cs,h=>⟨h.1,h.2,fun x e=>by cases e⟩
 | x::xs,fp,cs,h=>by
  obtain ⟨f,g,l,r,rfl,rfl,⟨rfl,rfl,b⟩,c⟩:=h
  obtain ⟨rfl,rfl,d⟩:=Qhv c
  exact ⟨rfl,by rw[bf,bf,QrF];rfl,fun y a=>by rcases aJ.1 a with rfl|a;exact b;exact d y a⟩
theorem Qj9 {w:World}:∀{xs:List ByteArray},(∀x∈xs,x.size≤maxLen)→OwnL (Own .str w) [] ((xs.map fB).map encStr) xs
 | [],_=>⟨rfl,rfl⟩
 | x::xs,h=>⟨[],[],[.string x],(xs.map fB).map encStr,rfl,by rw[bf,bf,QrF];rfl,⟨rfl,rfl,h x (aB ..)⟩,Qj9 fun y a=>h y (aA _ a)⟩
def QqM (P:Program)(f:FuncId):Prop:=∀(blk cap:Nat) (zs:List ByteArray) (w:World),Sort.Holds encStr w blk 0 (zs.map fB).toArray→blk<w.heap.size→zs.length<4611686018427387904→
 Calls P f #[.slice (some ⟨blk,0,none⟩) zs.length cap] w fun e w'=>e= .returned (.tuple #[])∧∃n os,w'=Sort.grow (Sort.putRow encStr (Sort.ahead w n) blk 0 ((Zd zs).map fB).toArray) os
theorem QqH {P:Program}{f:FuncId}{E:TypeId}(R:QqM P f)(O:Qjq P f)(xs:List ByteArray)(hl:xs.length≤1000000000):FC P f [(false,[.ref 0])] [(0,some (.arr E .str xs))] 1 (Is (.tup []) [(0,some (.arr E .str (Zd xs)))]):=fun A w vs u S=>by
 obtain ⟨v,a0,rfl,⟨l,D,B⟩,rfl⟩:=S
 simp only[aI,and_true] at D
 subst D
 have V:v=A.h 0:=B ⟨_,rfl⟩
 subst V
 have Q:Own (.sl E .str) w (A.f 0) [A.h 0] xs:=u.en 0 _ rfl
 have a:∀(y:List ByteArray) q,Tab.al [(0,some (Ent.arr E .str y))] q→q=0:=fun y q ⟨e,b⟩=>by
  rw[Qg] at b
  split at b
  ·assumption
  ·cases b
 rcases Q with ⟨p,o,J⟩|⟨g,k,t,fps,p,o,I,hn,j,G,L⟩
 ·simp only[aI,and_true] at o
  subst J
  rw[o]
  refine Calls.mono (O w) fun e w' b=> ?_
  obtain ⟨rfl,C⟩:=b
  refine ⟨_,_,_,A,rfl,⟨rfl,rfl⟩,⟨fun q e b=> ?_,fun q K d s r=>absurd ((a _ q d).trans (a _ K s).symm) r,fun q d=> ?_,fun q d g i=> ?_,fun g i=>ba (u.nl g i) C.size⟩,⟨[],rfl,rfl⟩,
   ⟨C.grw,fun g i _=>Below.block C g i,fun g i=> .inl i,fun q d g i=> ?_⟩,fun q _ _=>rfl⟩
  ·rw[Qg] at b
   split at b
   ·rename_i z;subst z;cases b
    exact .inl ⟨p,by rw[o],by simp[Zd]⟩
   ·cases b
  ·rw[a _ q d,p];exact bG
  ·rw[a _ q d,p] at i;cases i
  ·rw[a _ q d,p] at i;cases i
 ·simp only[aI,and_true] at o
  rw[dh] at L
  obtain ⟨rfl,U,T⟩:=Qhv L
  have i:g<w.heap.size:=(bX.1 I).1
  rw[o]
  have hm:xs.length≤9223372036854775807:=by unfold maxLen at j;omega
  refine Calls.mono (R g k xs w (holds_of_block I (by rw[aH];exact U)) i (by omega)) fun e w' b=> ?_
  obtain ⟨rfl,n,N,rfl⟩:=b
  obtain ⟨W,X,Y,M,Z⟩:=grownBy_sorted (w:=w) (g:=g) (n:=n) (os:=N) ((Zd xs).map fB).toArray
  have F:=Z8 xs
  refine ⟨_,_,_,A,rfl,⟨rfl,rfl⟩,⟨fun q e b=> ?_,fun q K d s r=>absurd ((a _ q d).trans (a _ K s).symm) r,fun q d=> ?_,fun q d m c=> ?_,fun m c=>ba (u.nl m c) M⟩,⟨[],rfl,rfl⟩,
   ⟨⟨W,X,Y,M⟩,fun m B C=> ?_,fun m B=> .inl B,fun q d m c=> ?_⟩,fun q _ _=>rfl⟩
  ·rw[Qg] at b
   split at b
   ·rename_i z;subst z;cases b
    refine .inr ⟨g,k,_,[],p,by rw[o,F],heap_sorted _ I,by omega,j,by simpa [Sort.putCells] using G,?_⟩
    show OwnL (Own .str _) [] (List.take ((Zd xs).length*1) _) (Zd xs)
    have H:=take_putCells t ((Zd xs).map fB) (by rw[aH];have:t.size=k*1:=G;omega)
    rw[aH] at H
    rw[dh,H]
    exact Qj9 fun x J=>T x ((Xp xs).mem_iff.1 J)
   ·cases b
  ·rw[a _ q d];exact u.nd 0 ⟨_,rfl⟩
  ·rw[a _ q d] at c;exact u.no 0 ⟨_,rfl⟩ m c
  ·exact Z m B fun z=>C 0 ⟨_,rfl⟩ (by rw[p];cases z;exact aB ..)
  ·rw[a _ q d] at c;exact .inr ⟨0,⟨_,rfl⟩,c⟩
def Qp8:Go.Shelf.Ren:=⟨fun|190=>217|125=>270|258=>269|128=>323|129=>324|302=>314|303=>315|304=>316|305=>317|306=>318|307=>319|308=>320|309=>321|310=>322|333=>342|329=>343|330=>344|334=>345|335=>346|336=>347|344=>352|n=>n,fun|31=>25|9=>9|3=>3|46=>263|0=>0|51=>305|53=>84|4=>4|183=>333|182=>332|131=>195|5=>5|218=>355|222=>359|228=>364|229=>365|n=>n,fun|n=>n⟩
theorem Qwq:Go.Proofs.Lays.n190 Tryz.prog Qp8:={
 mixed:=by kernel_rfl,
 f125:=Tryz.func270.trans (congrArg some (by kernel_rfl)),
 f128:=Tryz.func323.trans (congrArg some (by kernel_rfl)),
 f129:=Tryz.func324.trans (congrArg some (by kernel_rfl)),
 f190:=Tryz.func217.trans (congrArg some (by kernel_rfl)),
 f258:=Tryz.func269.trans (congrArg some (by kernel_rfl)),
 f302:=Tryz.func314.trans (congrArg some (by kernel_rfl)),
 f303:=Tryz.func315.trans (congrArg some (by kernel_rfl)),
 f304:=Tryz.func316.trans (congrArg some (by kernel_rfl)),
 f305:=Tryz.func317.trans (congrArg some (by kernel_rfl)),
 f306:=Tryz.func318.trans (congrArg some (by kernel_rfl)),
 f307:=Tryz.func319.trans (congrArg some (by kernel_rfl)),
 f308:=Tryz.func320.trans (congrArg some (by kernel_rfl)),
 f309:=Tryz.func321.trans (congrArg some (by kernel_rfl)),
 f310:=Tryz.func322.trans (congrArg some (by kernel_rfl)),
 f329:=Tryz.func343.trans (congrArg some (by kernel_rfl)),
 f330:=Tryz.func344.trans (congrArg some (by kernel_rfl)),
 f333:=Tryz.func342.trans (congrArg some (by kernel_rfl)),
 f334:=Tryz.func345.trans (congrArg some (by kernel_rfl)),
 f335:=Tryz.func346.trans (congrArg some (by kernel_rfl)),
 f336:=Tryz.func347.trans (congrArg some (by kernel_rfl)),
 f344:=Tryz.func352.trans (congrArg some (by kernel_rfl)),
 t0:=Tryz.underlying0,
 a0:=Tryz.isAgg0,
 z0:=Tryz.sizeOf0,
 v0:=Tryz.zeroValue0,
 t3:=Tryz.underlying3,
 a3:=Tryz.isAgg3,
 z3:=Tryz.sizeOf3,
 v3:=Tryz.zeroValue3,
 t4:=Tryz.underlying4,
 a4:=Tryz.isAgg4,
 z4:=Tryz.sizeOf4,
 v4:=Tryz.zeroValue4,
 t5:=Tryz.underlying5,
 a5:=Tryz.isAgg5,
 z5:=Tryz.sizeOf5,
 v5:=Tryz.zeroValue5,
 t9:=Tryz.underlying9,
 a9:=Tryz.isAgg9,
 z9:=Tryz.sizeOf9,
 v9:=Tryz.zeroValue9,
 t31:=Tryz.underlying25,
 a31:=Tryz.isAgg25,
 z31:=Tryz.sizeOf25,
 v31:=Tryz.zeroValue25,
 t46:=Tryz.underlying263,
 a46:=Tryz.isAgg263,
 z46:=Tryz.sizeOf263,
 v46:=Tryz.zeroValue263,
 t51:=Tryz.underlying305,
 a51:=Tryz.isAgg305,
 z51:=Tryz.sizeOf305,
 v51:=Tryz.zeroValue305,
 t53:=Tryz.underlying84,
 a53:=Tryz.isAgg84,
 z53:=Tryz.sizeOf84,
 v53:=Tryz.zeroValue84,
 t131:=Tryz.underlying195,
 a131:=Tryz.isAgg195,
 z131:=Tryz.sizeOf195,
 v131:=Tryz.zeroValue195,
 t182:=Tryz.underlying332,
 a182:=Tryz.isAgg332,
 z182:=Tryz.sizeOf332,
 v182:=Tryz.zeroValue332,
 t183:=Tryz.underlying333,
 a183:=Tryz.isAgg333,
 z183:=Tryz.sizeOf333,
 v183:=Tryz.zeroValue333,
 t218:=Tryz.underlying355,
 a218:=Tryz.isAgg355,
 z218:=Tryz.sizeOf355,
 v218:=Tryz.zeroValue355,
 t222:=Tryz.underlying359,
 a222:=Tryz.isAgg359,
 z222:=Tryz.sizeOf359,
 v222:=Tryz.zeroValue359,
 t228:=Tryz.underlying364,
 a228:=Tryz.isAgg364,
 z228:=Tryz.sizeOf364,
 v228:=Tryz.zeroValue364,
 t229:=Tryz.underlying365,
 a229:=Tryz.isAgg365,
 z229:=Tryz.sizeOf365,
 v229:=Tryz.zeroValue365}
theorem QxS:QqM Tryz.prog 217:=fun a b f w c d e=>by
 have h:=calls_of_every_depth fun D=>AnyS.slices_Sort_string_in Qwq D a 0 b (f.map fB) w c d (by rw[aH];exact e)
 rw[aH,← Qqe] at h
 exact h
theorem Qp9:Qjq Tryz.prog 217:=fun w=>Calls.mono (Any.slices_Sort_string_none Qwq none 0 w) fun _ _ ⟨a,b⟩=>⟨a,b▸QX _⟩
theorem JQ (l:List ByteArray)(a:l.length≤1000000000):FC Tryz.prog 217 [(false,[.ref 0])] [(0,some (.arr 9 .str l))] 1 (Is (.tup []) [(0,some (.arr 9 .str (Zd l)))]):=QqH QxS Qp9 l a
end Go.Proofs.YtjfpbcmfbnnooaaGreat
namespace Go.Proofs.YtjfpbcmfbnnooaaGreat
open Go.RowKit
set_option maxRecDepth 100000
set_option maxHeartbeats 4000000
theorem Q7 (n:Int)(b:Int)(a:Int):FC Tryz.prog 65 [(false,[dI n]),(false,[dI b]),(false,[dI a])] [] 0 (QK (lB (decide (b≤n∧n≤a)))):=by
 refine Qj Tryz.func65 rfl rfl Tryz.ntmps65 fun j e i f k h g=> ?_
 refine acI 0 fun _=> ?_
 refine acI 1 fun _=> ?_
 refine acI 2 fun _=> ?_
 refine w8 ?_
 cases c:(decide (b≤n))
 have d:=aa c
 refine w6 ?_
 refine Qe<|fqB e ?_
 (rw[cj];simp;omega)
 have d:=ab c
 refine w6 ?_
 refine Qe<|fqB e ?_
 ·(simp_all;done)
theorem YA (n:Int)(lo:Int)(hi:Int):FC Tryz.prog 104 [(false,[dI n]),(false,[dI lo]),(false,[dI hi])] [] 0 (QK (lB (decide (lo≤n∧n≤hi)))):=by
 refine Qj Tryz.func104 rfl rfl Tryz.ntmps104 fun h c g d i f e=> ?_
 refine acI 0 fun _=> ?_
 refine acI 1 fun _=> ?_
 refine acI 2 fun _=> ?_
 refine w8 ?_
 cases a:(decide (lo≤n))
 have b:=aa a
 refine w6 ?_
 refine Qe<|fqB c ?_
 (rw[cj];simp;omega)
 have b:=ab a
 refine w6 ?_
 refine Qe<|fqB c ?_
 ·(simp_all;done)
theorem H3 (l:List Int)(i:l.length≤2000000):FC Tryz.prog 349 [(false,[.dat Qs l])] [] 0 (Xv 3 .int l):=by
 refine Qj Tryz.func349 rfl rfl Tryz.ntmps349 fun g d f a h c b=> ?_
 refine w4 ?_
 refine lc (dBs 0 (e:= .int) Xt) ?_
 refine w_ ?_
 refine lc (Zi 1 (Qa rfl) rfl (Evl.rep (Qa rfl)) rfl YV Vh (by first|omega|(simp only[ah,aH,ap,av,aC];omega)|(simp only[ah,aX,ap,av,aC];omega)) rfl (Fresh.of rfl) (nlr rfl)) ?_
 refine w2 ?_
 refine Qe<|fo_ d ?_
 rfl
theorem QvJ {α:Type _}(f:α→Nat){xs:List α}{x:α}(h:x∈xs):f x≤(xs.map f).sum:=by
 induction xs with
 | nil=>cases h
 | cons y b a=>
  simp only[bf,List.sum_cons]
  rcases aJ.1 h with rfl|h
  ·omega
  ·have:=a h;omega
theorem Qvg {n:XG}(a:Ty.tot QcG n≤2000000):n.2.length≤2000000:=by
 have:Ty.tot QcG n=0+(n.2.length+(n.2.map (Ty.tot Zt)).sum):=rfl
 omega
theorem QhO {s:ZG}(a:Ty.tot Qdu s≤2000000):Ty.tot QcG s.1≤2000000∧s.2.1.length≤2000000∧s.2.2.1.length≤2000000:=by
 have:Ty.tot Qdu s=Ty.tot QcG s.1+((s.2.1.length+(s.2.1.map (Ty.tot Y6)).sum)+((s.2.2.1.length+(s.2.2.1.map (Ty.tot QiT)).sum)+s.2.2.2.size)):=rfl
 omega
theorem QpN {n:XG}(e:Ty.tot QcG n≤2000000):∀t∈n.2,t.1.length≤2000000∧t.2.length≤2000000:=fun t a=>by
 have b:Ty.tot QcG n=0+(n.2.length+(n.2.map (Ty.tot Zt)).sum):=rfl
 have c:=QvJ (Ty.tot Zt) a
 have d:Ty.tot Zt t=(t.1.length+(t.1.map (Ty.tot .int)).sum)+(t.2.length+(t.2.map (Ty.tot .int)).sum):=rfl
 omega
theorem Qfv (n:Qo5)(h:Ty.tot QcG n≤2000000):FC Tryz.prog 337 [(true,[dI n.1,.dat XZ n.2])] [] 0 (Is (ag [dI n.1,.ref 0]) [ar 0 290 Zu n.2]):=by
 have s:=Qvg h
 have g:=QpN h
 refine Qj Tryz.func337 rfl rfl Tryz.ntmps337 fun q m o i r l j=> ?_
 refine acG 0 0 fun _=> ?_
 refine w_ ?_
 refine xbx 0 ?_
 refine lc (xal 1 Qtw HI) ?_
 refine w4 ?_
 refine lc (Qk QdD ⟨_,_,rfl,(Qn rfl),rfl⟩ (au.1 rfl) rfl rfl)<|lc (xal 2 Qtw HI) ?_
 refine w6 ?_
 refine alL 10 fun _=> ?_
 refine w4 ?_
 refine AC.wk (Qr 3 (p:=2) (off:=1) 290 Zu rfl rfl (Fresh.of rfl) (nlr rfl)) ?_
 refine lp0 n.2.length (fun k=>⟨[(2,lP 1 0),(3,lP 2 0),(10,lf (.dat XZ n.2)),(11,lI (n.2.length:Int)),(12,lI (k:Int))],[bx 1 161 [dI 0,.val (.slice none 0 0)],bx 2 161 [dI n.1,.ref 4],ar 4 290 Zu (n.2.take k)]⟩) ?_ fun k _=> ?_
 exact wp [(4,3)] ⟨rfl,rfl,(Qm (by first|rfl|simp)),trivial⟩
 refine w4 ?_
 cases c:(decide ((k:Int)<(n.2.length:Int)))
 have d:=aa c
 refine w8 ?_
 exact fi_ [(0,4)] m ⟨(Qm (by rw[ZD (by omega)])),trivial⟩
 have d:=ab c
 refine w5 ?_
 obtain ⟨b,f⟩:=gx n.2 k
 refine w2 ?_
 refine lc (xal 5 Zu K6) ?_
 refine w2 ?_
 apply dV (i4 16 _ _ _ _ [⟨some 20,lR 6,[ar 6 3 .int b.1]⟩,io 21 (lP 5 1),io 22 (lf (.dat Qs b.2)),⟨some 23,lR 7,[ar 7 3 .int b.2]⟩,io 24 (ag [.ref 6,.ref 7]),⟨some 25,lR 8,[ar 8 290 Zu ([(b.1,b.2)]),(6,none),(7,none)]⟩,⟨some 26,lR 9,[ar 9 290 Zu ((n.2.take k)++([(b.1,b.2)])),(4,none),(8,none)]⟩,io 27 _,⟨none,lf (.val undef),[bx 2 161 [dI n.1,.ref 9]]⟩]) [0,0,3,3,3,31,31,3,3,3,0,0,0]
 refine z4 ?_
 refine zz (fun _ a=>ac (dO 6 (H3 b.1 (by have:=g _ (ae ‹_›);omega)) Qfl) rfl) ?_
 refine z2 ?_
 refine zz (fun _ a=>ac (dO 7 (H3 b.2 (by have:=g _ (ae ‹_›);omega)) Qfl) rfl) ?_
 refine zz (fun _ a=>ac (Qk QdH ⟨_,_,rfl,(a.w rfl),⟨_,_,rfl,(a.w rfl),rfl⟩⟩ (au.1 (by simp only[Zj,Kq,bt,bW];rw[(a.en 6 rfl),(a.en 7 rfl)];rfl)) rfl rfl) rfl)<|zz (fun _ a=>ac (W6 8 (e:=Zu) HG HE K6 rfl ⟨_,_,rfl,(a.w rfl),rfl⟩ (au.1 (by simp only[Zj,Kq,bt,bW];rw[(a.en 6 rfl),(a.en 7 rfl)];rfl)) ⟨_,_,_,_,rfl,⟨[.ref 6],[.ref 7],_,_,_,_,rfl,rfl,(.inl ⟨_,rfl,(a.en 6 rfl),rfl⟩),(.inl ⟨_,rfl,(a.en 7 rfl),rfl⟩),rfl⟩,⟨rfl,rfl⟩,rfl⟩ (by decide) rfl rfl (a.fr 8 rfl) (nlr rfl)) rfl) ?_
 refine zz (fun _ a=>ac (dA 9 QdO) rfl) ?_
 refine z_ ?_
 refine zz (fun _ a=>ac (ZA (a.v rfl) (a.en 2 rfl) (a.w rfl) (by simp only[Zj,Kq,bt,bW];rw[(a.en 9 rfl)];rfl) QoF rfl) rfl) ?_
 exact zN
 refine w4 ?_
 refine Qd ?_
 refine l0_ ?_
 exact wp [(4,9)] ⟨rfl,rfl,(Qm (by rw[QE f])),trivial⟩
def Qm2 (b:Int)(t:Q0):Q0:=(t.1.map fun x=>x+b,t.2.map fun x=>x+b)
theorem QBb {us:List Value}(h:us.length=5):∃a b c d e,us=[a,b,c,d,e]:=by
 match us,h with
 | [a,b,c,d,e],_=>exact ⟨_,_,_,_,_,rfl⟩
theorem QbJ {p:Prop}[Decidable p]{w:World}{e:Ending}{w':World}(h:RetB p w e w'):RetB (decide p=true) w e w':=by
 obtain ⟨b,a,c,d⟩:=h
 exact ⟨b,a,by rw[c,aU],d⟩
theorem Wf (s:ZG)[Decidable (StgOk s)]:FC Tryz.prog 254 [(true,leaves Qdu s)] [] 0 (QK (lf (dB (decide (StgOk s))))):=QhY fun g w j h=>by
 obtain ⟨i,rfl,a⟩:=h.agg1
 obtain ⟨b,c,d,e,f,rfl⟩:=QBb a.len
 exact (QmA b c d e f s w a).mono fun _ _ h=>QbJ h
def QAM (ts:List Q0)(a b:Nat)(p:Int):List Q0:=(ts.modify a fun t=>(t.1,t.2++[p])).modify b fun t=>(t.1++[p],t.2)
def Xb (b:Bool):ByteArray:=⟨#[if b then 49 else 48]⟩
def Qb0 (s:ZG)(o:YZ):ZG:=((s.1.1+1,QAM s.1.2 o.1.toNat o.2.1.toNat s.1.1),s.2.1,s.2.2.1,s.2.2.2++Xb o.2.2)
theorem QjA {ts:List Q0}{i:Nat}{x:Q0}(h:ts[i]? =some x):(Zr Zt ts)[i*2+1]? =some (.dat Qs x.2)∧(Zr Zt ts)[i*2+0]? =some (.dat Qs x.1):=
 ⟨Qaj (e:=Zt) (j:=1) h rfl,Qaj (e:=Zt) (j:=0) h rfl⟩
theorem QkT {ts:List Q0}{i:Nat}{x:Q0}{ys:List Int}(h:ts[i]? =some x):(Zr Zt ts).set (i*2+1) (.dat Qs ys)=Zr Zt (ts.set i (x.1,ys)):=
 (Qak (e:=Zt) (j:=1) (x':=(x.1,ys)) h rfl (by decide)).symm
theorem QkS {ts:List Q0}{i:Nat}{x:Q0}{ys:List Int}(h:ts[i]? =some x):(Zr Zt ts).set (i*2+0) (.dat Qs ys)=Zr Zt (ts.set i (ys,x.2)):=
 (Qak (e:=Zt) (j:=0) (x':=(ys,x.2)) h rfl (by decide)).symm
theorem QhP {s:ZG}(a:Ty.tot Qdu s≤2000000):s.2.2.2.size≤2000000:=by
 have:Ty.tot Qdu s=Ty.tot QcG s.1+((s.2.1.length+(s.2.1.map (Ty.tot Y6)).sum)+((s.2.2.1.length+(s.2.2.1.map (Ty.tot QiT)).sum)+s.2.2.2.size)):=rfl
 omega
theorem Q4 (b:UInt8):(⟨#[b]⟩:ByteArray).size=1:=rfl
theorem QBm {a n:Nat}(h:a<n):a*2+1<n*2:=by omega
theorem QBl {a n:Nat}(h:a<n):a*2+0<n*2:=by omega
theorem QjM (b:Bool):FC Tryz.prog 69 [(false,[dB b])] [] 0 (QK (lf (.dat .u8 (if b then 49 else 48)))):=by
 refine Qj Tryz.func69 rfl rfl Tryz.ntmps69 fun g a f c h e d=> ?_
 refine w_ ?_
 refine lc (Wa (QJ 0 rfl) rfl) ?_
 refine w5 ?_
 refine cb_ (fun _=> ?_) fun _=> ?_
 refine w2 ?_
 refine lc (Wa (QJ 48 rfl) rfl) ?_
 refine w_ ?_
 refine Qe<|fq_ a ?_
 simp_all
 refine w_ ?_
 refine lc (Wa (QJ 49 rfl) rfl) ?_
 refine w_ ?_
 refine Qe<|fq_ a ?_
 simp_all
def QbS:ZG:=((0,[]),[],[],ByteArray.empty)
def QxW (s:ZG)[Decidable (StgOk s)]:ZG×Bool:=if StgOk s then (s,true) else (QbS,false)
def QqI (s:ZG)(o:YZ):Prop:=StgOk s∧(0≤o.1∧o.1<s.1.2.length)∧(0≤o.2.1∧o.2.1<s.1.2.length)∧o.1≠o.2.1
instance (s:ZG) (o:YZ) [Decidable (StgOk s)]:Decidable (QqI s o):=inferInstanceAs (Decidable (_∧_))
def Qyl (s:ZG)(o:YZ)[Decidable (StgOk s)][Decidable (StgOk (Qb0 s o))]:ZG×Bool:=if QqI s o then QxW (Qb0 s o) else (QbS,false)
def QB2 (s:ZG)(o:YZ)[Decidable (StgOk s)][Decidable (StgOk (Qb0 s o))]:ZG×Bool:=if QqI s o then (Qb0 s o,decide (StgOk (Qb0 s o))) else (QbS,false)
section
variable {s:ZG}{o:YZ}[Decidable (StgOk s)][Decidable (StgOk (Qb0 s o))]
end
section
variable {α:Type _}(f:α→Int→α×Int)
def QH:List α→Int→List α×Int
 | [],k=>([],k)
 | x::xs,k=>((f x k).1::(QH xs (f x k).2).1,(QH xs (f x k).2).2)
def mkA (a:List α)(k:Int)(i:Nat):List α:=(QH f (a.take i) k).1++a.drop i
def mkC (a:List α)(k:Int)(i:Nat):Int:=(QH f (a.take i) k).2
variable {f}
end
@[reducible] def fI:Int→Int→Int×Int:=fun _ k=>(k,k+1)
@[reducible] def fL:Int×Bool→Int→(Int×Bool)×Int:=fun _ k=>((k,decide ((k+1) % 3=0)),k+2)
@[reducible] def fT:List Int×List Int→Int→(List Int×List Int)×Int:=fun t k=>(((QH fI t.1 k).1,(QH fI t.2 (QH fI t.1 k).2).1),(QH fI t.2 (QH fI t.1 k).2).2)
def cT (t:List Int×List Int):Nat:=t.1.length+t.2.length
def QB8 (a:List (List Int×List Int)):Nat:=(a.map cT).sum
def dg (k:Int):Nat→ByteArray
 | 0=>(⟨#[]⟩:ByteArray)
 | j+1=>(⟨#[UInt8.ofNat ((48+(k / 10 ^ j) % 10):Int).toNat]⟩:ByteArray)++dg k j
def mt (k:Int):Nat→Nat→ByteArray
 | 0,j=>dg k j
 | n+1,j=>if k / 10 ^ j≤0 then dg k j else mt k n (j+1)
def Qzo (k:Int):ByteArray:=if k≤0 then (⟨#[109,48]⟩:ByteArray) else (⟨#[109]⟩:ByteArray)++mt k 20 0
@[reducible] def fS:ByteArray×Int→Int→(ByteArray×Int)×Int:=fun _ k=>((Qzo k,k+1),k+2)
def QB3 (s:ZG)(k:Int):ZG×Int:=(((s.1.1,(QH fT s.1.2 k).1),(QH fS s.2.1 (QH fT s.1.2 k).2).1,(QH fL s.2.2.1 (QH fS s.2.1 (QH fT s.1.2 k).2).2).1,s.2.2.2),(QH fL s.2.2.1 (QH fS s.2.1 (QH fT s.1.2 k).2).2).2)
section
variable [∀s,Decidable (StgOk s)]
def Qyn:ZG→List YZ→ZG×Bool
 | s,[]=>(s,true)
 | s,o::os=>if (Qyl s o).2=true then Qyn (Qyl s o).1 os else (QbS,false)
def QAQ (s:ZG)(l:List YZ):ZG×Bool:=if StgOk s∧l.length≤6 then Qyn s l else (QbS,false)
end
@[reducible] def QwY:(YZ)→Int→(YZ)×Int:=fun _ k=>((k,k+1,decide ((k+1+1) % 3=0)),k+1+1+1)
def bAt (m:ByteArray)(p:Int):UInt8:=(m[p.toNat]?).getD 0
theorem QY {m:ByteArray}{p:Int}{c:UInt8}(h:m[p.toNat]? =some c):bAt m p=c:=by unfold bAt;rw[h];rfl
theorem Ww (m:ByteArray):m.toList.length=m.size:=by simp[bm]
def Zf {α:Type _}(f:α→Bool)(l:List α):Int:=match l.findIdx? f with|some i=>i|none=> -1
def NoneTo {α:Type _}(f:α→Bool)(l:List α)(k:Nat):Prop:=∀j,j<k→∀x,l[j]? =some x→f x=false
section
variable {α:Type _}{f:α→Bool}{l:List α}{k:Nat}{x:α}
theorem NoneTo.zero:NoneTo f l 0:=fun j a=>absurd a (aV j)
theorem NoneTo.step (h:NoneTo f l k)(c:l[k]? =some x)(b:f x=false):NoneTo f l (k+1):=fun j d y a=>by
 by_cases e:j=k
 ·subst e;rw[c] at a;cases a;exact b
 ·exact h j (by omega) y a
theorem NoneTo.at (h:NoneTo f l k)(e:l[k]? =some x)(c:f x=true):Zf f l=k:=by
 obtain ⟨a,b⟩:=ai.1 e
 have:l.findIdx? f=some k:=cy.2 ⟨a,by rw[b];exact c,fun j d=>by
  have:=h j d _ (ao (by omega))
  simp[this]⟩
 unfold Zf
 rw[this]
theorem NoneTo.no (h:NoneTo f l k)(c:l.length≤k):Zf f l= -1:=by
 have:l.findIdx? f=none:=List.findIdx?_eq_none_iff.2 fun x b=>by
  obtain ⟨j,a⟩:=aK.1 b
  have:=(ai.1 a).1
  exact h j (by omega) x a
 unfold Zf
 rw[this]
theorem NoneTo.any_no (h:NoneTo f l k)(c:l.length≤k):l.any f=false:=cr.2 fun x b=>by
 obtain ⟨j,a⟩:=aK.1 b
 have:=(ai.1 a).1
 simp[h j (by omega) x a]
theorem Qq1 (b:l[k]? =some x)(a:f x=true):l.any f=true:=bu.2 ⟨x,ae b,a⟩
theorem Xm (f:α→Bool)(l:List α):decide (0≤Zf f l)=l.any f:=by
 unfold Zf
 cases h:l.findIdx? f with
 | none=>
  have:=List.findIdx?_eq_none_iff.1 h
  rw[cj]
  simp only[bu,aU]
  constructor
  ·intro h;omega
  ·rintro ⟨x,d,a⟩;rw[this x d] at a;cases a
 | some i=>
  obtain ⟨b,c,_⟩:=cy.1 h
  have:l.any f=true:=bu.2 ⟨_,cH b,c⟩
  rw[this]
  simp
def Wh (f:α→Bool)(l:List α):Nat→List Int
 | 0=>[]
 | k+1=>Wh f l k++(match l[k]? with|some x=>if f x then [(k:Int)] else []|none=>[])
theorem QpW (b:l[k]? =some x)(a:f x=true):Wh f l k++[(k:Int)]=Wh f l (k+1):=by simp[Wh,b,a]
theorem QsN (b:l[k]? =some x)(a:f x=false):Wh f l k=Wh f l (k+1):=by simp[Wh,b,a]
theorem QhA (f:α→Bool)(l:List α)(k:Nat):(Wh f l k).length≤k:=by
 induction k with
 | zero=>simp[Wh]
 | succ k a=>
  simp only[Wh,ah]
  split
  ·split <;> simp <;> omega
  ·simp;omega
theorem QpV {f:α→Bool}{l:List α}{k:Nat}{t:Int}(h:t∈Wh f l k):∃x,0≤t∧t<l.length∧t<k∧l[t.toNat]? =some x∧f x=true:=by
 induction k with
 | zero=>simp[Wh] at h
 | succ k g=>
  simp only[Wh,aQ] at h
  rcases h with h|h
  ·obtain ⟨x,c,d,i,e⟩:=g h;exact ⟨x,c,d,by omega,e⟩
  ·cases a:l[k]? with
   | none=>rw[a] at h;simp at h
   | some x=>
    rw[a] at h
    cases b:f x with
    | false=>simp[b] at h
    | true=>
     simp only[b,if_true,aF] at h
     subst h
     have:=(ai.1 a).1
     exact ⟨x,by omega,by omega,by omega,by simpa using a,b⟩
theorem Yr {l:List α}{k:Nat}{x:α}(c:l[k]? =some x):l.drop k=x::l.drop (k+1):=by
 obtain ⟨a,b⟩:=ai.1 c
 rw[bI a,b]
end
def Qc4 (m:ByteArray)(ps:List Int):Prop:=∀p∈ps,(0≤p∧p<m.size)∧(bAt m p=48∨bAt m p=49)
def enb (m:ByteArray)(t:Q0):Bool:= !t.1.any fun p=>decide (bAt m p=48)
def Jj (n:XG)(m:ByteArray):List Int:=Wh (enb m) n.2 n.2.length
def clr (l:List UInt8):List Int→List UInt8
 | []=>l
 | p::ps=>clr (l.set p.toNat 48) ps
def J4 (l:List UInt8):List Int→Option (List UInt8)
 | []=>some l
 | p::ps=>if l[p.toNat]? =some 49 then none else J4 (l.set p.toNat 49) ps
def JY (m:ByteArray)(t:Q0):ByteArray×Bool:=match J4 (clr m.toList t.1) t.2 with
 | none=>(⟨#[]⟩,false)
 | some l=>(⟨l.toArray⟩,true)
def YB (n:XG)(m:ByteArray)(t:Int):ByteArray×Bool:=match n.2[t.toNat]? with
 | none=>(⟨#[]⟩,false)
 | some x=>JY m x
def QBG (n:XG)(m:ByteArray)(t:Int):ByteArray×Bool:=if 0≤t then (match n.2[t.toNat]? with
 | none=>(⟨#[]⟩,false)
 | some x=>if enb m x then JY m x else (⟨#[]⟩,false)) else (⟨#[]⟩,false)
section
variable {n:XG}{m:ByteArray}{t:Int}{x:Q0}{l:List UInt8}{ps:List Int}{k:Nat}{p:Int}
theorem Qro (a:ps[k]? =some p):clr l (ps.drop k)=clr (l.set p.toNat 48) (ps.drop (k+1)):=by rw[Yr a,clr]
theorem Qug (h:ps.length≤k):clr l (ps.drop k)=l:=by rw[bR h,clr]
theorem QpY (d:ps[k]? =some p){c:UInt8}(a:l[p.toNat]? =some c)(b:decide (c=49)=false):J4 l (ps.drop k)=J4 (l.set p.toNat 49) (ps.drop (k+1)):=by
 rw[Yr d,J4,if_neg]
 rw[a]
 intro h
 cases h
 simp at b
theorem Qop (d:ps[k]? =some p){c:UInt8}(a:l[p.toNat]? =some c)(b:decide (c=49)=true):J4 l (ps.drop k)=none:=by
 rw[Yr d,J4,if_pos]
 rw[a,ab b]
theorem Qkh (h:ps.length≤k):J4 l (ps.drop k)=some l:=by rw[bR h,J4]
theorem Quh (l:List UInt8)(ps:List Int):(clr l ps).length=l.length:=by
 induction ps generalizing l with
 | nil=>rfl
 | cons p ps a=>rw[clr,a,aD]
theorem Qhe (h:J4 (clr m.toList x.1) x.2=none):JY m x=(⟨#[]⟩,false):=by unfold JY;rw[h]
theorem Qfz (h:J4 (clr m.toList x.1) x.2=some l):JY m x=(⟨l.toArray⟩,true):=by unfold JY;rw[h]
theorem QdS (a:n.2[t.toNat]? =some x):YB n m t=JY m x:=by unfold YB;rw[a]
def QcT (n:XG)(m:ByteArray)(t:Int):Bool:=match n.2[t.toNat]? with
 | some x=>enb m x
 | none=>false
theorem QdP (a:n.2[t.toNat]? =some x):QcT n m t=enb m x:=by unfold QcT;rw[a]
theorem QrE (h:Qc4 m x.1):enb m x=true↔∀p∈x.1,bAt m p=49:=by
 unfold enb
 simp only[bT,cr,aU]
 constructor
 ·intro k p b
  rcases (h p b).2 with a|a
  ·exact absurd a (k p b)
  ·exact a
 ·intro k p b a
  rw[k p b] at a
  exact absurd a (by decide)
theorem QmW {c:UInt8}(b:∀j,j<k→∀y,ps[j]? =some y→bAt m y=49)(g:ps[k]? =some p)(d:m[p.toNat]? =some c)(hb:(!decide (c=49))=false):∀j,j<k+1→∀y,ps[j]? =some y→bAt m y=49:=fun j h y a=>by
 by_cases e:j=k
 ·subst e;rw[g] at a;cases a
  rw[QY d]
  simpa using hb
 ·exact b j (by omega) y a
theorem QsW {c:UInt8}(b:n.2[t.toNat]? =some x)(d:Qc4 m x.1)(e:x.1[k]? =some p)(a:m[p.toNat]? =some c)(hb:(!decide (c=49))=true):QcT n m t=false:=by
 rw[QdP b,cD]
 intro h
 have:=(QrE d).1 h p (ae e)
 rw[QY a] at this
 simp[this] at hb
theorem Qp2 (c:n.2[t.toNat]? =some x)(d:Qc4 m x.1)(b:∀j,j<k→∀y,x.1[j]? =some y→bAt m y=49)(e:x.1.length≤k):QcT n m t=true:=by
 rw[QdP c]
 refine (QrE d).2 fun p h=> ?_
 obtain ⟨j,a⟩:=aK.1 h
 have:=(ai.1 a).1
 exact b j (by omega) p a
theorem QfZ (b:k<n.2.length)(h:QcT n m (k:Int)=true):Wh (enb m) n.2 k++[(k:Int)]=Wh (enb m) n.2 (k+1):=by
 have a:=ao b
 rw[QdP (t:=(k:Int)) (show n.2[((k:Int)).toNat]? =some _ from a)] at h
 exact QpW a h
theorem Qhz (b:k<n.2.length)(h:QcT n m (k:Int)=false):Wh (enb m) n.2 k=Wh (enb m) n.2 (k+1):=by
 have a:=ao b
 rw[QdP (t:=(k:Int)) (show n.2[((k:Int)).toNat]? =some _ from a)] at h
 exact QsN a h
end
theorem Qfu (n:Qo5)(a:ByteArray)(t:Int)(v:∀t∈n.2,Qc4 a t.1∧Qc4 a t.2)(ht:0≤t∧t<(n.2.length:Int)):FC Tryz.prog 301 [(true,[dI n.1,.dat XZ n.2]),(false,[dS a]),(false,[dI t])] [] 0 (QK (PV.tup [(false,[dS ((YB n a t).1)]),(false,[dB ((YB n a t).2)])])):=by
 have W:=Ww a
 refine Qj Tryz.func301 rfl rfl Tryz.ntmps301 fun Y O X R Z T S=> ?_
 refine acG 0 0 fun _=> ?_
 refine acI 2 fun _=> ?_
 refine w_ ?_
 refine xbx 0 ?_
 refine w5 ?_
 refine lc (QhW 1 (Qa rfl) Zo He QkB rfl (Fresh.of rfl) (nlr rfl)) ?_
 refine w7 ?_
 obtain ⟨x,w⟩:=gx n.2 ((t).toNat)
 have I:=(v _ (ae w)).1
 have J:=(v _ (ae w)).2
 refine w3 ?_
 refine alL 20 fun _=> ?_
 refine w4 ?_
 refine Qu (fun y z=>∃(k:Nat) (l:List UInt8),k≤x.1.length∧y=x.1.length - k∧(clr a.toList x.1=clr l (x.1.drop k))∧(l.length=a.toList.length)∧z=⟨[(2,lI t),(3,lP 0 0),(6,lf (dS (⟨#[]⟩:ByteArray))),(7,lB false),(8,lR 2),(20,lf (.dat Qs x.1)),(21,lI (x.1.length:Int)),(22,lI (k:Int))],[bx 0 161 [dI n.1,.dat XZ n.2],(2,some (.bys 5 l))]⟩) ⟨0,a.toList,aL _,rfl,rfl,rfl,rfl⟩ ?_ ?_
 exact wo [(2,1)]
 rintro y z ⟨k,l,U,V,M,N,rfl⟩
 refine w4 ?_
 cases s:(decide ((k:Int)<(x.1.length:Int)))
 have u:=aa s
 refine w11 ?_
 refine alL 35 fun _=> ?_
 refine w4 ?_
 refine Qu (fun y z=>∃(i:Nat) (o:List UInt8),i≤x.2.length∧y=x.2.length - i∧(J4 (clr a.toList x.1) x.2=J4 o (x.2.drop i))∧(o.length=a.toList.length)∧z=⟨[(8,lR 3),(35,lf (.dat Qs x.2)),(36,lI (x.2.length:Int)),(37,lI (i:Int))],[(3,some (.bys 5 o))]⟩) ⟨0,l,aL _,rfl,by rw[M,Qug (by omega)];rfl,N,rfl⟩ ?_ ?_
 exact wo [(3,2)]
 rintro y z ⟨i,o,P,Q,d,F,rfl⟩
 refine w4 ?_
 cases g:(decide ((i:Int)<(x.2.length:Int)))
 have q:=aa g
 refine w5 ?_
 refine lc (KA (ys:=o) (QqB (Qa rfl) rfl) He QkB Zo rfl) ?_
 refine w4 ?_
 have B:((⟨(o).toArray⟩:ByteArray):ByteArray)=((YB n a t).1):=by
  first|(rw[QdS (x:=x) ‹_›,Qfz (d.trans (Qkh (by omega)))];done)
 have C:(true:Bool)=((YB n a t).2):=by
  first|(rw[QdS (x:=x) ‹_›,Qfz (d.trans (Qkh (by omega)))];done)
 exact fr_ O (e:=by rw[B,← C] <;> rfl)
 have q:=ab g
 refine w5 ?_
 obtain ⟨A,b⟩:=gx x.2 i
 have G:=(J _ (ae b)).1
 refine w2 ?_
 refine alI 40 fun _=> ?_
 refine w6 ?_
 refine lc (Jx (Qa rfl) rfl (Qa rfl) He Xs rfl (by omega) (by first|omega|(simp only[aD];omega))) ?_
 obtain ⟨K,c⟩:=gx o ((A).toNat)
 refine lc (QkE (Qa rfl) rfl c Xs rfl)<|lc (Q8 (Qa rfl) (QJ 49 rfl) rfl) ?_
 refine w_ ?_
 cases h:(decide (K=49))
 have r:=aa h
 refine w5 ?_
 refine lc (Jx (Qa rfl) rfl (Qa rfl) He Xs rfl (by omega) (by first|omega|(simp only[aD];omega)))<|lc (QcO (Qa rfl) rfl (by first|omega|(simp only[aD];omega)) (QJ 49 rfl) Xs)<|Qd ?_
 refine w4 ?_
 refine Qd<|QV ⟨i+1,(o.set ((A).toNat) 49),by omega,rfl,d.trans (QpY b c ‹_›),by rw[aD];exact F,rfl⟩ (by omega) ?_
 exact wp [] ⟨(QyV (by first|rfl|simp)),trivial⟩
 have r:=ab h
 refine w6 ?_
 have D:((⟨#[]⟩:ByteArray):ByteArray)=((YB n a t).1):=by
  (rw[QdS (x:=x) ‹_›,Qhe (d.trans (Qop b c ‹_›))];done)
 have E:(false:Bool)=((YB n a t).2):=by
  (rw[QdS (x:=x) ‹_›,Qhe (d.trans (Qop b c ‹_›))];done)
 exact fr_ O (e:=by rw[D,← E] <;> rfl)
 have u:=ab s
 refine w5 ?_
 obtain ⟨L,j⟩:=gx x.1 k
 have H:=(I _ (ae j)).1
 refine w2 ?_
 refine alI 25 fun _=> ?_
 refine w5 ?_
 refine lc (Jx (Qa rfl) rfl (Qa rfl) He Xs rfl (by omega) (by first|omega|(simp only[aD];omega)))<|lc (QcO (Qa rfl) rfl (by first|omega|(simp only[aD];omega)) (QJ 48 rfl) Xs)<|Qd ?_
 refine w4 ?_
 refine Qd<|QV ⟨k+1,(l.set ((L).toNat) 48),by omega,rfl,M.trans (Qro j),by rw[aD];exact N,rfl⟩ (by omega) ?_
 exact wp [] ⟨rfl,(QyV (by first|rfl|simp)),trivial⟩
theorem Qdh (n:Qo5)(a:ByteArray)(t:Int)(o:∀t∈n.2,Qc4 a t.1∧Qc4 a t.2)(G:0≤t∧t<(n.2.length:Int)):FC Tryz.prog 340 [(true,[dI n.1,.dat XZ n.2]),(false,[dS a]),(false,[dI t])] [] 0 (QK (lB (QcT n a t))):=by
 refine Qj Tryz.func340 rfl rfl Tryz.ntmps340 fun E s C w F A z=> ?_
 refine acG 0 0 fun _=> ?_
 refine acI 2 fun _=> ?_
 refine w_ ?_
 refine xbx 0 ?_
 refine w7 ?_
 obtain ⟨x,q⟩:=gx n.2 ((t).toNat)
 have e:=(o _ (ae q)).1
 refine w3 ?_
 refine alL 14 fun _=> ?_
 refine w4 ?_
 refine lpK x.1.length (fun k=>∀j,j<k→∀y,x.1[j]? =some y→bAt a y=49) (fun k=>⟨[(1,lf (dS a)),(14,lf (.dat Qs x.1)),(15,lI (x.1.length:Int)),(16,lI (k:Int))],[]⟩) (fun j B=>absurd B (aV j)) ?_ fun k _ r=> ?_
 exact wo []
 refine w4 ?_
 cases h:(decide ((k:Int)<(x.1.length:Int)))
 have i:=aa h
 refine w6 ?_
 refine Qe<|fqB s ?_
 first|exact (Qp2 ‹_› e r (by omega)).symm
 have i:=ab h
 refine w5 ?_
 obtain ⟨D,g⟩:=gx x.1 k
 have v:=(e _ (ae g)).1
 refine w2 ?_
 refine alI 19 fun _=> ?_
 refine w5 ?_
 obtain ⟨c,u⟩:=gs a ((D).toNat)
 refine w_ ?_
 refine lc (QP (Qa rfl) (QJ 49 rfl) rfl) ?_
 refine w_ ?_
 cases b:(!decide (c=49))
 have d:(c=49):=Qz b
 refine w6 ?_
 refine Qd ?_
 refine lK_ (QmW r g ‹_› ‹_›) ?_
 exact wo []
 have d:¬(c=49):=QG b
 refine w4 ?_
 refine Qe<|fqB s ?_
 exact (QsW ‹_› e g ‹_› ‹_›).symm
theorem Qbu (n:Qo5)(a:ByteArray)(d:∀t∈n.2,Qc4 a t.1∧Qc4 a t.2)(q:n.2.length≤2000000):FC Tryz.prog 300 [(true,[dI n.1,.dat XZ n.2]),(false,[dS a])] [] 0 (Xv 3 .int (Jj n a)):=by
 refine Qj Tryz.func300 rfl rfl Tryz.ntmps300 fun u j s g v i h=> ?_
 refine acG 0 0 fun _=> ?_
 refine w_ ?_
 refine xbx 0 ?_
 refine w9 ?_
 refine alL 8 fun _=> ?_
 refine w4 ?_
 refine AC.wk (Wk.nilS 1 5 3 .int rfl (Fresh.of rfl) (nlr rfl)) ?_
 refine lp0 n.2.length (fun k=>⟨[(1,lf (dS a)),(2,lP 0 0),(4,lf (.val (.slice none 0 0))),(5,lR 2),(9,lI (n.2.length:Int)),(10,lI (k:Int))],[bx 0 161 [dI n.1,.dat XZ n.2],ar 2 3 .int (Wh (enb a) n.2 k)]⟩) ?_ fun k _=> ?_
 exact wp [(2,1)] ⟨rfl,(Qm (by first|rfl|simp)),trivial⟩
 have r:=QhA (enb a) n.2 k
 refine w4 ?_
 cases b:(decide ((k:Int)<(n.2.length:Int)))
 have c:=aa b
 refine w7 ?_
 refine Qe<|fo_ j ?_
 rw[show k=n.2.length by omega];rfl
 have c:=ab b
 refine w12 ?_
 refine lc (dK (Qdh n a (k:Int) d (by omega)) Qmi) ?_
 refine w_ ?_
 cases o:(QcT n a (k:Int))
 refine w6 ?_
 refine Qd ?_
 refine l0_ ?_
 exact wp [] ⟨rfl,(Qm (by first|exact QfZ (by omega) ‹_› | exact Qhz (by omega) ‹_›)),trivial⟩
 refine w4 ?_
 refine lc (dBs 3 (e:= .int) Xt) ?_
 refine lc (dA 4 Vh) ?_
 refine w_ ?_
 refine Qd ?_
 refine w4 ?_
 refine Qd ?_
 refine l0_ ?_
 exact wp [(2,4)] ⟨rfl,(Qm (by first|exact QfZ (by omega) ‹_› | exact Qhz (by omega) ‹_›)),trivial⟩
end Go.Proofs.YtjfpbcmfbnnooaaGreat
