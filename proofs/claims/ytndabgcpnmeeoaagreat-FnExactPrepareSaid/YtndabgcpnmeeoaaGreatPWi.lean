/- Abstract states: shifts and bits of numbers; parts of one's own slices, read. No program is named here. -/
import Derived.Test.YtndabgcpnmeeoaaGreatPAg
import Derived.Laws.Shifts
import Derived.Laws.BitsAllLaws
import Derived.Test.YtndabgcpnmeeoaaGreatPAf
import Derived.Test.YtndabgcpnmeeoaaGreatPAt
import Derived.Test.YtndabgcpnmeeoaaGreatPAk
import Derived.Sort.EveryDepth
import Derived.Sort.OwnSortedInts
import Derived.Shelf.Sort.AssemblyIn
import Derived.Test.YtndabgcpnmeeoaaGreatPAi
import Derived.Test.YtndabgcpnmeeoaaGreatPApp
set_option linter.unusedSimpArgs false
set_option linter.unusedVariables false
set_option linter.unusedSectionVars false
namespace Go.Proofs.YtndabgcpnmeeoaaGreat
open Go.RowKit
section
variable {A:Amb}{P:Program}{s:St}{x y:Operand}{d:Nat}{T T' ty:TypeId}{pos:String}{af:Array Edge}{g:Option (Nat×Bool)}
theorem QkR (a:BinOp)(b:a= .and∨a= .or)(m n:Nat)(h:m < 9223372036854775808)(i:n < 9223372036854775808):bits a .i64 (m:Int) (n:Int)=((if a= .and then m &&& n else m ||| n:Nat):Int):=by
 have c:(BitVec.ofInt 64 (m:Int)).toNat=m:=by rw[BitVec.ofInt_natCast,BitVec.toNat_ofNat]; exact cy (by omega)
 have e:(BitVec.ofInt 64 (n:Int)).toNat=n:=by rw[BitVec.ofInt_natCast,BitVec.toNat_ofNat]; exact cy (by omega)
 rcases b with rfl | rfl
 ·have f:m &&& n < 2 ^ 63:=Nat.and_lt_two_pow _ (by omega)
  show IntKind.i64.wrap ((BitVec.ofInt 64 (m:Int) &&& BitVec.ofInt 64 (n:Int)).toNat:Int)=_
  rw[BitVec.toNat_and,c,e,IntWalk.i64_in _ (by omega)]
  rfl
 ·have f:m ||| n < 2 ^ 63:=Nat.or_lt_two_pow (by omega) (by omega)
  show IntKind.i64.wrap ((BitVec.ofInt 64 (m:Int) ||| BitVec.ofInt 64 (n:Int)).toNat:Int)=_
  rw[BitVec.toNat_or,c,e,IntWalk.i64_in _ (by omega)]
  rfl
theorem J5 {m n:Int}(f:Evl A s x (dI m))(h:Evl A s y (dI n))(o:Nat.blt d A.n=true)(h0:0≤m)(c:0≤n):Does A P ⟨some d, .binOp .and T x y T',ty,pos,af,g⟩ s (s.put d (lf (dI ((m.toNat &&& n.toNat:Nat):Int)))):=
 Qq rfl o fun e a w r=>by
  have j:=f.i r
  have k:=h.i r
  have q:=(LVR.int (f e a w r)).2
  have t:=(LVR.int (h e a w r)).2
  have b:=QkR .and (.inl rfl) m.toNat n.toNat (by omega) (by omega)
  rw[cF h0,cF c] at b
  have b:bits .and .i64 m n=((m.toNat &&& n.toNat:Nat):Int):=b
  have l:Op.intBits .and .i64 m n=pure (.int .i64 ((m.toNat &&& n.toNat:Nat):Int)):=by rw[← b]; rfl
  have p:m.toNat &&& n.toNat≤m.toNat:=Nat.and_le_left
  refine ⟨.int .i64 ((m.toNat &&& n.toNat:Nat):Int), ?_,_,rfl,Yb (by omega)⟩
  simp only[execOp,j,k,eqGuard_at_int,binOp,l]
  simp
theorem QtP {m n:Int}(f:Evl A s x (dI m))(h:Evl A s y (dI n))(o:Nat.blt d A.n=true)(h0:0≤m)(c:0≤n):Does A P ⟨some d, .binOp .or T x y T',ty,pos,af,g⟩ s (s.put d (lf (dI ((m.toNat ||| n.toNat:Nat):Int)))):=
 Qq rfl o fun e a w r=>by
  have j:=f.i r
  have k:=h.i r
  have q:=(LVR.int (f e a w r)).2
  have t:=(LVR.int (h e a w r)).2
  have b:=QkR .or (.inr rfl) m.toNat n.toNat (by omega) (by omega)
  rw[cF h0,cF c] at b
  have b:bits .or .i64 m n=((m.toNat ||| n.toNat:Nat):Int):=b
  have l:Op.intBits .or .i64 m n=pure (.int .i64 ((m.toNat ||| n.toNat:Nat):Int)):=by rw[← b]; rfl
  have p:m.toNat ||| n.toNat < 2 ^ 63:=Nat.or_lt_two_pow (by omega) (by omega)
  refine ⟨.int .i64 ((m.toNat ||| n.toNat:Nat):Int), ?_,_,rfl,Yb (by omega)⟩
  simp only[execOp,j,k,eqGuard_at_int,binOp,l]
  simp
theorem Qj6 {m n:Int}(j:Evl A s x (dI m))(k:Evl A s y (dI n))(h:Nat.blt d A.n=true)(h0:0≤n∧n≤62)(f: -9223372036854775808≤m*2 ^ n.toNat∧m*2 ^ n.toNat≤9223372036854775807):Does A P ⟨some d, .binOp .shl T x y T',ty,pos,af,g⟩ s (s.put d (lf (dI (m*2 ^ n.toNat)))):=
 Qq rfl h fun l a w r=>by
  have b:=j.i r
  have c:=k.i r
  have e:Op.shift .shl .i64 m .i64 n=pure (.int .i64 (m*2 ^ n.toNat)):=by
   rw[shift_shl_any _ _ _ _ h0.1,show IntKind.i64.bits=64 from rfl,cu (by omega),IntWalk.i64_in _ (by omega)]
  refine ⟨.int .i64 (m*2 ^ n.toNat), ?_,_,rfl,Yb f⟩
  simp only[execOp,b,c,eqGuard_at_int,binOp,e]
  simp
theorem Ha {m n:Int}(c:Evl A s x (dI m))(l:Evl A s y (dI n))(k:Nat.blt d A.n=true)(h0:0≤n∧n≤62)(b:0≤m):Does A P ⟨some d, .binOp .shr T x y T',ty,pos,af,g⟩ s (s.put d (lf (dI (m / 2 ^ n.toNat)))):=
 Qq rfl k fun e a w r=>by
  have f:=c.i r
  have h:=l.i r
  have q:=(LVR.int (c e a w r)).2
  have j:Op.shift .shr .i64 m .i64 n=pure (.int .i64 (m / 2 ^ n.toNat)):=by
   rw[shift_shr_any _ _ _ _ h0.1,show IntKind.i64.bits=64 from rfl,cu (by omega)]
  have o:0≤m / 2 ^ n.toNat:=bB b (bz (by decide))
  have p:m / 2 ^ n.toNat≤m:=Int.ediv_le_self _ b
  refine ⟨.int .i64 (m / 2 ^ n.toNat), ?_,_,rfl,Yb (by omega)⟩
  simp only[execOp,f,h,eqGuard_at_int,binOp,j]
  simp
end
end Go.Proofs.YtndabgcpnmeeoaaGreat
namespace Go.Proofs.YtndabgcpnmeeoaaGreat
open Go.RowKit
theorem Qbc:EqT Tryz.prog 2 75 true (.pr .int .bool):=EqT.struct Tryz.underlying75 (by kernel_rfl) (EqFs.cons (by decide) rfl Y6 (fun _=>rfl) (EqT.int Qiz) (EqFs.one (by decide) rfl QcK (fun _=>rfl) (EqT.bool JU)))
theorem Qbb:(Tryz.prog.eqGuardType Tryz.prog.depth 75=false)∧2≤10000:=⟨by kernel_rfl,by decide⟩
theorem QsF:KeyL Tryz.prog 9 false .str:=KeyL.str Z7
theorem Qvw:ZeroV Tryz.prog 3 false .int:=⟨_,Yk,rfl⟩
end Go.Proofs.YtndabgcpnmeeoaaGreat
namespace Go.Proofs.YtndabgcpnmeeoaaGreat
open Go.RowKit
def VR (xs:List Int):List Int:=xs.mergeSort fun x y=>decide (x≤y)
theorem Qbs (xs:List Int):(VR xs).Perm xs:=List.mergeSort_perm ..
theorem Qdm (xs:List Int):(VR xs).length=xs.length:=(Qbs xs).length_eq
theorem Qdn {xs:List Int}{x:Int}:x∈VR xs↔x∈xs:=(Qbs xs).mem_iff
theorem Qcj (xs:List Int):(VR xs).Pairwise fun x y=>x≤y:=by
 have h:=List.pairwise_mergeSort (le:=fun x y:Int=>decide (x≤y)) (fun a b c d e=>by simp only[aQ] at*; omega) (fun a b=>by simp only[bU,aQ]; omega) xs
 exact h.imp fun h=>by simpa using h
theorem Qdv {w:World}:∀{xs:List Int} {fp:List Nat} {cs:List Value},OwnL (Own .int w) fp cs xs→fp=[]∧cs=xs.map (Value.int .i64)∧∀x∈xs, -9223372036854775808≤x∧x≤9223372036854775807
 | [],fp,cs,h=>⟨h.1,h.2,fun x e=>by cases e⟩
 | x :: xs,fp,cs,h=>by
  obtain ⟨f,g,l,r,rfl,rfl,⟨rfl,rfl,b⟩,c⟩:=h
  obtain ⟨rfl,rfl,d⟩:=Qdv c
  exact ⟨rfl,rfl,fun y a=>by rcases aK.1 a with rfl | a; exact b; exact d y a⟩
theorem Qjs {w:World}:∀{xs:List Int},(∀x∈xs, -9223372036854775808≤x∧x≤9223372036854775807)→OwnL (Own .int w) [] (xs.map (Value.int .i64)) xs
 | [],_=>⟨rfl,rfl⟩
 | x :: xs,h=>⟨[],[],[.int .i64 x],xs.map (Value.int .i64),rfl,rfl,⟨rfl,rfl,h x (az ..)⟩,Qjs fun y a=>h y (ay _ a)⟩
def QrF (P:Program)(f:FuncId):Prop:=∀(blk cap:Nat) (zs:List Int) (w:World),Sort.Holds (Value.int .i64) w blk 0 zs.toArray→blk < w.heap.size→zs.length < 4611686018427387904→
 Calls P f #[.slice (some ⟨blk,0,none⟩) zs.length cap] w fun e w'=>e= .returned (.tuple #[])∧∃n os,w'=Sort.grow (Sort.putRow (Value.int .i64) (Sort.ahead w n) blk 0 (VR zs).toArray) os
def Qkc (P:Program)(f:FuncId):Prop:=∀w:World,Calls P f #[.slice none 0 0] w fun e w'=>e= .returned (.tuple #[])∧Nw w w'
theorem Qrx {P:Program}{f:FuncId}{E:TypeId}(Q:QrF P f)(N:Qkc P f)(xs:List Int)(hl:xs.length≤1000000000):FC P f [(false,[.ref 0])] [(0,some (.arr E .int xs))] 1 (Is (.tup []) [(0,some (.arr E .int (VR xs)))]):=fun A w vs u R=>by
 obtain ⟨v,Z,rfl,⟨l,D,B⟩,rfl⟩:=R
 simp only[aC,and_true] at D
 subst D
 have U:v=A.h 0:=B ⟨_,rfl⟩
 subst U
 have O:Own (.sl E .int) w (A.f 0) [A.h 0] xs:=u.en 0 _ rfl
 have a:∀(y:List Int) q,Tab.al [(0,some (Ent.arr E .int y))] q→q=0:=fun y q ⟨e,b⟩=>by
  rw[Qj] at b
  split at b
  ·assumption
  ·cases b
 rcases O with ⟨p,o,I⟩ | ⟨g,k,t,fps,p,o,H,hn,j,G,K⟩
 ·simp only[aC,and_true] at o
  subst I
  rw[o]
  refine Calls.mono (N w) fun e w' b=> ?_
  obtain ⟨rfl,C⟩:=b
  refine ⟨_,_,_,A,rfl,⟨rfl,rfl⟩,⟨fun q e b=> ?_,fun q J d s r=>absurd ((a _ q d).trans (a _ J s).symm) r,fun q d=> ?_,fun q d g i=> ?_,fun g i=>bp (u.nl g i) C.size⟩,⟨[],rfl,rfl⟩,
   ⟨C.grw,fun g i _=>Below.block C g i,fun g i=> .inl i,fun q d g i=> ?_⟩,fun q _ _=>rfl⟩
  ·rw[Qj] at b
   split at b
   ·rename_i z; subst z; cases b
    exact .inl ⟨p,by rw[o],by simp[VR]⟩
   ·cases b
  ·rw[a _ q d,p]; exact bL
  ·rw[a _ q d,p] at i; cases i
  ·rw[a _ q d,p] at i; cases i
 ·simp only[aC,and_true] at o
  rw[cD] at K
  obtain ⟨rfl,T,S⟩:=Qdv K
  have i:g < w.heap.size:=(bR.1 H).1
  rw[o]
  have hm:xs.length≤9223372036854775807:=by unfold maxLen at j; omega
  refine Calls.mono (Q g k xs w (holds_of_blockI H T) i (by omega)) fun e w' b=> ?_
  obtain ⟨rfl,n,M,rfl⟩:=b
  obtain ⟨V,W,X,L,Y⟩:=grownBy_sortedI (w:=w) (g:=g) (n:=n) (os:=M) (VR xs).toArray
  have F:=Qdm xs
  refine ⟨_,_,_,A,rfl,⟨rfl,rfl⟩,⟨fun q e b=> ?_,fun q J d s r=>absurd ((a _ q d).trans (a _ J s).symm) r,fun q d=> ?_,fun q d m c=> ?_,fun m c=>bp (u.nl m c) L⟩,⟨[],rfl,rfl⟩,
   ⟨⟨V,W,X,L⟩,fun m B C=> ?_,fun m B=> .inl B,fun q d m c=> ?_⟩,fun q _ _=>rfl⟩
  ·rw[Qj] at b
   split at b
   ·rename_i z; subst z; cases b
    refine .inr ⟨g,k,_,[],p,by rw[o,F],heap_sortedI _ H,by omega,j,by simpa [Sort.putCells] using G, ?_⟩
    show OwnL (Own .int _) [] (List.take ((VR xs).length*1) _) (VR xs)
    rw[cD,take_putCellsI t (VR xs) (by have:t.size=k*1:=G; omega)]
    exact Qjs fun x I=>S x (Qdn.1 I)
   ·cases b
  ·rw[a _ q d]; exact u.nd 0 ⟨_,rfl⟩
  ·rw[a _ q d] at c; exact u.no 0 ⟨_,rfl⟩ m c
  ·exact Y m B fun z=>C 0 ⟨_,rfl⟩ (by rw[p]; cases z; exact az ..)
  ·rw[a _ q d] at c; exact .inr ⟨0,⟨_,rfl⟩,c⟩
end Go.Proofs.YtndabgcpnmeeoaaGreat
namespace Go.Proofs.YtndabgcpnmeeoaaGreat
structure TO {α:Type _} (lt:α→α→Bool):Prop where
  irr:∀x,lt x x=false
  tr:∀x y z,lt x y=true→lt y z=true→lt x z=true
  tot:∀x y,lt x y=true∨x=y∨lt y x=true
def XH {α:Type _}[DecidableEq α](lt:α→α→Bool)(x:α):List α→List α
 | []=>[x]
 | y :: l=>if lt y x=true then y :: XH lt x l else if y=x then y :: l else x :: y :: l
def Y5 {α:Type _}[DecidableEq α]:List α→List α
 | []=>[]
 | [x]=>[x]
 | x :: y :: l=>if x=y then Y5 (y :: l) else x :: Y5 (y :: l)
def ofG {α:Type _}[DecidableEq α](lt:α→α→Bool)(l:List α):List α:=l.foldl (fun s x=>XH lt x s) []
section
variable {α:Type _}[DecidableEq α]{lt:α→α→Bool}{l a b:List α}{x y z:α}{k:Nat}
omit [DecidableEq α] in
theorem TO.ext (h:TO lt):∀{a b:List α},a.Pairwise (fun x y=>lt x y=true)→b.Pairwise (fun x y=>lt x y=true)→(∀x,x∈a↔x∈b)→a=b
 | [],[],_,_,_=>rfl
 | [],y :: b,_,_,hm=>by have:=(hm y).2 (az ..); cases this
 | x :: a,[],_,_,hm=>by have:=(hm x).1 (az ..); cases this
 | x :: a,y :: b,ha,hb,hm=>by
  obtain ⟨g,j⟩:=bH.1 ha
  obtain ⟨i,m⟩:=bH.1 hb
  have f:x=y:=by
   rcases aK.1 ((hm x).1 (az ..)) with c | c
   ·exact c
   ·rcases aK.1 ((hm y).2 (az ..)) with e | e
    ·exact e.symm
    ·have:=h.tr _ _ _ (g _ e) (i _ c)
     rw[h.irr] at this; cases this
  subst f
  congr 1
  refine h.ext j m fun z=>⟨fun d=> ?_,fun d=> ?_⟩
  ·rcases aK.1 ((hm z).1 (ay _ d)) with c | c
   ·subst c; have:=g _ d; rw[h.irr] at this; cases this
   ·exact c
  ·rcases aK.1 ((hm z).2 (ay _ d)) with c | c
   ·subst c; have:=i _ d; rw[h.irr] at this; cases this
   ·exact c
theorem WD:z∈XH lt x l↔z=x∨z∈l:=by
 induction l with
 | nil=>simp[XH]
 | cons y l c=>
  unfold XH
  split
  ·rw[aK,c,aK]
   constructor
   ·rintro (h | h | h)
    ·exact .inr (.inl h)
    ·exact .inl h
    ·exact .inr (.inr h)
   ·rintro (h | h | h)
    ·exact .inr (.inl h)
    ·exact .inl h
    ·exact .inr (.inr h)
  ·split
   ·rename_i h; subst h
    rw[aK]
    exact ⟨fun h=>h.elim .inl fun h=> .inr (.inr h),fun h=>h.elim .inl id⟩
   ·rw[aK]
theorem QgL (h:TO lt)(f:l.Pairwise (fun x y=>lt x y=true)):(XH lt x l).Pairwise (fun x y=>lt x y=true):=by
 induction l with
 | nil=>simp[XH]
 | cons y l n=>
  obtain ⟨j,m⟩:=bH.1 f
  unfold XH
  split
  ·rename_i i
   refine bH.2 ⟨fun z c=> ?_,n m⟩
   rcases WD.1 c with rfl | c
   ·exact i
   ·exact j z c
  ·split
   ·exact f
   ·rename_i i g
    have e:lt x y=true:=by
     rcases h.tot x y with d | d | d
     ·exact d
     ·exact absurd d.symm g
     ·exact absurd d i
    refine bH.2 ⟨fun z c=> ?_,f⟩
    rcases aK.1 c with rfl | c
    ·exact e
    ·exact h.tr _ _ _ e (j z c)
theorem Qgk (h:TO lt):∀(l s:List α),s.Pairwise (fun x y=>lt x y=true)→(l.foldl (fun s x=>XH lt x s) s).Pairwise (fun x y=>lt x y=true)∧∀z,z∈l.foldl (fun s x=>XH lt x s) s↔z∈s∨z∈l
 | [],s,hs=>⟨hs,fun z=>by simp⟩
 | x :: l,s,hs=>by
  obtain ⟨c,d⟩:=Qgk h l _ (QgL (x:=x) h hs)
  refine ⟨c,fun z=> ?_⟩
  rw[aW,d,WD,aK]
  constructor
  ·rintro ((h | h) | h)
   ·exact .inr (.inl h)
   ·exact .inl h
   ·exact .inr (.inr h)
  ·rintro (h | h | h)
   ·exact .inl (.inr h)
   ·exact .inl (.inl h)
   ·exact .inr h
theorem QeM (h:TO lt)(l:List α):(ofG lt l).Pairwise (fun x y=>lt x y=true):=(Qgk h l [] bZ).1
theorem Qcz (h:TO lt)(l:List α):z∈ofG lt l↔z∈l:=by
 have:=(Qgk h l [] bZ).2 z
 simpa [ofG] using this
theorem Hm:∀{l:List α},z∈Y5 l↔z∈l
 | []=>Iff.rfl
 | [x]=>Iff.rfl
 | x :: y :: l=>by
  unfold Y5
  split
  ·rename_i h; subst h
   rw[Hm]
   exact ⟨ay _,fun h=>(aK.1 h).elim (fun h=>by rw[h]; exact az ..) id⟩
  ·rw[aK,Hm,aK (l:=y :: l)]
theorem Qfr (h:TO lt):∀{l:List α},l.Pairwise (fun x y=>lt y x=false)→(Y5 l).Pairwise (fun x y=>lt x y=true)
 | [],_=>bZ
 | [x],_=>by simp[Y5]
 | x :: y :: l,hl=>by
  obtain ⟨j,f⟩:=bH.1 hl
  unfold Y5
  split
  ·exact Qfr h f
  ·rename_i e
   refine bH.2 ⟨fun z i=> ?_,Qfr h f⟩
   rw[Hm] at i
   rcases h.tot x z with d | d | d
   ·exact d
   ·subst d
    rcases aK.1 i with g | g
    ·exact absurd g e
    ·have m:=j y (az ..)
     have n:=(bH.1 f).1 x g
     rcases h.tot x y with c | c | c
     ·rw[n] at c; cases c
     ·exact absurd c e
     ·rw[m] at c; cases c
   ·have:=j z i; rw[this] at d; cases d
theorem Quh (h:TO lt){s l:List α}(d:s.Pairwise (fun x y=>lt y x=false))(c:∀z,z∈s↔z∈l):Y5 s=ofG lt l:=
 h.ext (Qfr h d) (QeM h l) fun z=>by rw[Hm,c,Qcz h]
theorem QpD:∀{k:Nat} {l:List α},(∀j,j < k→∀y,l[j]? =some y→lt y x=true)→k≤l.length→(∀y,l[k]? =some y→lt y x=false∧y≠x)→XH lt x l=l.take k++x :: l.drop k
 | 0,[],_,_,_=>rfl
 | 0,y :: l,_,_,h2=>by
  obtain ⟨d,e⟩:=h2 y rfl
  unfold XH
  rw[if_neg (by rw[d]; decide),if_neg e]; rfl
 | k+1,[],_,hk,_=>by simp at hk
 | k+1,y :: l,h1,hk,h2=>by
  unfold XH
  rw[if_pos (h1 0 (by omega) y rfl),QpD (k:=k) (fun j f z c=>h1 (j+1) (by omega) z (by simpa using c)) (by simpa using hk) (fun z c=>h2 z (by simpa using c))]
  rfl
theorem Qil:∀{k:Nat} {l:List α},(∀j,j < k→∀y,l[j]? =some y→lt y x=true)→l[k]? =some x→lt x x=false→XH lt x l=l
 | 0,[],_,h,_=>by simp at h
 | 0,y :: l,_,h,h3=>by
  simp only[bk,bi] at h
  subst h
  unfold XH
  rw[if_neg (by rw[h3]; decide),if_pos rfl]
 | k+1,[],_,h,_=>by simp at h
 | k+1,y :: l,h1,h,h3=>by
  unfold XH
  rw[if_pos (h1 0 (by omega) y rfl),Qil (k:=k) (fun j d z c=>h1 (j+1) (by omega) z (by simpa using c)) (by simpa using h) h3]
end
def ltI (x y:Int):Bool:=decide (x < y)
theorem VG:TO ltI:=⟨fun x=>by simp[ltI],fun x y z c d=>by simp only[ltI,aQ] at*; omega,fun x y=>by simp only[ltI,aQ]; omega⟩
theorem Qu6 (l:List Int):Y5 (VR l)=ofG ltI l:=Quh VG ((Qcj l).imp fun h=>by simp only[ltI,bE]; omega) fun _=>Qdn
end Go.Proofs.YtndabgcpnmeeoaaGreat
namespace Go.Proofs.YtndabgcpnmeeoaaGreat
open Go.RowKit
set_option maxRecDepth 100000
set_option maxHeartbeats 4000000
theorem Zm (n:Int)(b:Int)(a:Int):FC Tryz.prog 107 [(false,[dI n]),(false,[dI b]),(false,[dI a])] [] 0 (QY (lB (decide (b≤n∧n≤a)))):=by
 refine Qv Tryz.func107 rfl rfl Tryz.ntmps107 fun j e i f k h g=> ?_
 refine acI 0 fun _=> ?_
 refine acI 1 fun _=> ?_
 refine acI 2 fun _=> ?_
 refine w8 ?_
 cases c:(decide (b≤n))
 have d:=aa c
 refine w6 ?_
 refine Qd<|fqB e ?_
 (rw[bP]; simp; omega)
 have d:=ab c
 refine w6 ?_
 refine Qd<|fqB e ?_
 ·(simp_all; done)
theorem XG (n:Int)(lo:Int)(hi:Int):FC Tryz.prog 215 [(false,[dI n]),(false,[dI lo]),(false,[dI hi])] [] 0 (QY (lB (decide (lo≤n∧n≤hi)))):=by
 refine Qv Tryz.func215 rfl rfl Tryz.ntmps215 fun h c g d i f e=> ?_
 refine acI 0 fun _=> ?_
 refine acI 1 fun _=> ?_
 refine acI 2 fun _=> ?_
 refine w8 ?_
 cases a:(decide (lo≤n))
 have b:=aa a
 refine w6 ?_
 refine Qd<|fqB c ?_
 (rw[bP]; simp; omega)
 have b:=ab a
 refine w6 ?_
 refine Qd<|fqB c ?_
 ·(simp_all; done)
def Qx1 (b:Int)(t:QG):QG:=(t.1.map fun x=>x+b,t.2.map fun x=>x+b)
end Go.Proofs.YtndabgcpnmeeoaaGreat
namespace Go.Proofs.YtndabgcpnmeeoaaGreat
open Go.RowKit
set_option maxRecDepth 100000
set_option maxHeartbeats 4000000
theorem Qxc {us:List Value}(h:us.length=5):∃a b c d e,us=[a,b,c,d,e]:=by
 match us,h with
 | [a,b,c,d,e],_=>exact ⟨_,_,_,_,_,rfl⟩
theorem K3 {p:Prop}[Decidable p]{w:World}{e:Ending}{w':World}(h:RetB p w e w'):RetB (decide p=true) w e w':=by
 obtain ⟨b,a,c,d⟩:=h
 exact ⟨b,a,by rw[c,aQ],d⟩
theorem Qbe (s:Yz)[Decidable (StgOk s)]:FC Tryz.prog 123 [(true,leaves QcI s)] [] 0 (QY (lf (dB (decide (StgOk s))))):=QcM fun g w j h=>by
 obtain ⟨i,rfl,a⟩:=h.agg1
 obtain ⟨b,c,d,e,f,rfl⟩:=Qxc a.len
 exact (Qfb b c d e f s w a).mono fun _ _ h=>K3 h
theorem Qf8 (s:Yz)[Decidable (StgOk s)]:FC Tryz.prog 253 [(true,leaves QcI s)] [] 0 (QY (lf (dB (decide (StgOk s))))):=QcM fun g w j h=>by
 obtain ⟨i,rfl,a⟩:=h.agg1
 obtain ⟨b,c,d,e,f,rfl⟩:=Qxc a.len
 exact (QnZ b c d e f s w a).mono fun _ _ h=>K3 h
def QxI (ts:List QG)(a b:Nat)(p:Int):List QG:=(ts.modify a fun t=>(t.1,t.2++[p])).modify b fun t=>(t.1++[p],t.2)
def Xo (b:Bool):ByteArray:=⟨#[if b then 49 else 48]⟩
def QcS (s:Yz)(o:VZ):Yz:=((s.1.1+1,QxI s.1.2 o.1.toNat o.2.1.toNat s.1.1),s.2.1,s.2.2.1,s.2.2.2++Xo o.2.2)
theorem Qkq {ts:List QG}{i:Nat}{x:QG}(h:ts[i]? =some x):(Zh QN ts)[i*2+1]? =some (.dat Qz x.2)∧(Zh QN ts)[i*2+0]? =some (.dat Qz x.1):=
 ⟨QaP (e:=QN) (j:=1) h rfl,QaP (e:=QN) (j:=0) h rfl⟩
theorem QlV {ts:List QG}{i:Nat}{x:QG}{ys:List Int}(h:ts[i]? =some x):(Zh QN ts).set (i*2+1) (.dat Qz ys)=Zh QN (ts.set i (x.1,ys)):=
 (QaQ (e:=QN) (j:=1) (x':=(x.1,ys)) h rfl (by decide)).symm
theorem QlU {ts:List QG}{i:Nat}{x:QG}{ys:List Int}(h:ts[i]? =some x):(Zh QN ts).set (i*2+0) (.dat Qz ys)=Zh QN (ts.set i (ys,x.2)):=
 (QaQ (e:=QN) (j:=0) (x':=(ys,x.2)) h rfl (by decide)).symm
theorem Jc (b:UInt8):(⟨#[b]⟩:ByteArray).size=1:=rfl
theorem QxN {a n:Nat}(h:a < n):a*2+1 < n*2:=by omega
theorem QxM {a n:Nat}(h:a < n):a*2+0 < n*2:=by omega
theorem Ht (b:Bool):FC Tryz.prog 182 [(false,[dB b])] [] 0 (QY (lf (.dat .u8 (if b then 49 else 48)))):=by
 refine Qv Tryz.func182 rfl rfl Tryz.ntmps182 fun g a f c h e d=> ?_
 refine w_ ?_
 refine lc (Wt (QC 0 rfl) rfl) ?_
 refine w5 ?_
 refine cb_ (fun _=> ?_) fun _=> ?_
 refine w2 ?_
 refine lc (Wt (QC 48 rfl) rfl) ?_
 refine w_ ?_
 refine Qd<|fq_ a ?_
 simp_all
 refine w_ ?_
 refine lc (Wt (QC 49 rfl) rfl) ?_
 refine w_ ?_
 refine Qd<|fq_ a ?_
 simp_all
def QjR:Yz:=((0,[]),[],[],ByteArray.empty)
def Qww (s:Yz)[Decidable (StgOk s)]:Yz×Bool:=if StgOk s then (s,true) else (QjR,false)
end Go.Proofs.YtndabgcpnmeeoaaGreat
namespace Go.Proofs.YtndabgcpnmeeoaaGreat
open Go.RowKit
set_option maxRecDepth 100000
set_option maxHeartbeats 4000000
def Qrz (s:Yz)(o:VZ):Prop:=StgOk s∧(0≤o.1∧o.1 < s.1.2.length)∧(0≤o.2.1∧o.2.1 < s.1.2.length)∧o.1≠o.2.1
instance (s:Yz) (o:VZ) [Decidable (StgOk s)]:Decidable (Qrz s o):=inferInstanceAs (Decidable (_∧_))
def QxX (s:Yz)(o:VZ)[Decidable (StgOk s)][Decidable (StgOk (QcS s o))]:Yz×Bool:=if Qrz s o then Qww (QcS s o) else (QjR,false)
def Qx0 (s:Yz)(o:VZ)[Decidable (StgOk s)][Decidable (StgOk (QcS s o))]:Yz×Bool:=if Qrz s o then (QcS s o,decide (StgOk (QcS s o))) else (QjR,false)
section
variable {s:Yz}{o:VZ}[Decidable (StgOk s)][Decidable (StgOk (QcS s o))]
end
end Go.Proofs.YtndabgcpnmeeoaaGreat
namespace Go.Proofs.YtndabgcpnmeeoaaGreat
open Go.RowKit
set_option maxRecDepth 100000
set_option maxHeartbeats 4000000
section
variable {α:Type _}(f:α→Int→α×Int)
def Qs:List α→Int→List α×Int
 | [],k=>([],k)
 | x :: xs,k=>((f x k).1 :: (Qs xs (f x k).2).1,(Qs xs (f x k).2).2)
theorem YS (xs:List α)(k:Int):(Qs f xs k).1.length=xs.length:=by
 induction xs generalizing k with
 | nil=>rfl
 | cons x xs a=>simp[Qs,a]
theorem Qdr (xs ys:List α)(k:Int):Qs f (xs++ys) k=((Qs f xs k).1++(Qs f ys (Qs f xs k).2).1,(Qs f ys (Qs f xs k).2).2):=by
 induction xs generalizing k with
 | nil=>rfl
 | cons x xs a=>simp[Qs,a]
def mkA (a:List α)(k:Int)(i:Nat):List α:=(Qs f (a.take i) k).1++a.drop i
def mkC (a:List α)(k:Int)(i:Nat):Int:=(Qs f (a.take i) k).2
theorem Jy (a:List α)(k:Int)(i:Nat):(mkA f a k i).length=a.length:=by
 simp[mkA,YS]; omega
theorem Qh8 (a:List α)(k:Int):mkA f a k 0=a:=by simp[mkA,Qs]
theorem Qcx (a:List α)(k:Int):mkC f a k 0=k:=by simp[mkC,Qs]
theorem Qac {a:List α}{k:Int}{i:Nat}(h:a.length≤i):mkA f a k i=(Qs f a k).1:=by simp[mkA,bj h,bn h]
theorem VX {a:List α}{k:Int}{i:Nat}(h:a.length≤i):mkC f a k i=(Qs f a k).2:=by simp[mkC,bj h]
variable {f}
theorem Qpk {a:List α}{k:Int}{i:Nat}{x:α}(h:a[i]? =some x):(mkA f a k i)[i]? =some x:=by
 have c:=(ai.1 h).1
 have b:(Qs f (a.take i) k).1.length=i:=by simp[YS]; omega
 unfold mkA
 rw[bd (by omega),b,cK,co]
 exact h
theorem KS {a:List α}{k:Int}{i:Nat}{x:α}(h:(mkA f a k i)[i]? =some x):a[i]? =some x:=by
 have b:=(ai.1 h).1
 rw[Jy] at b
 have c:=Qpk (f:=f) (k:=k) (ae b)
 rw[h] at c
 rw[ae b,← c]
theorem QgW {a:List α}{i:Nat}{x:α}(h:a[i]? =some x):a.take (i+1)=a.take i++[x]:=by
 obtain ⟨b,c⟩:=ai.1 h
 rw[bD b,c]
theorem Ur {a:List α}{k:Int}{i:Nat}{x:α}(h:a[i]? =some x):mkC f a k (i+1)=(f x (mkC f a k i)).2:=by
 unfold mkC
 rw[QgW h,Qdr]
 rfl
theorem Jz {a:List α}{k:Int}{i:Nat}{x:α}(h:a[i]? =some x):(mkA f a k i).set i (f x (mkC f a k i)).1=mkA f a k (i+1):=by
 obtain ⟨b,d⟩:=ai.1 h
 have c:(Qs f (a.take i) k).1.length=i:=by simp[YS]; omega
 unfold mkA mkC
 rw[QgW h,Qdr,cV _ _ (by omega),c,cK,cI b]
 simp only[List.set_cons_zero,Qs,aO]
 rfl
theorem JA (c:α→Nat)(b:∀x k,(f x k).2=k+c x)(a:List α)(k:Int):(Qs f a k).2=k+((a.map c).sum:Nat):=by
 induction a generalizing k with
 | nil=>simp[Qs]
 | cons x e d=>simp only[Qs,d,b,br,List.sum_cons]; omega
theorem Qdt (c:α→Nat)(b:∀x k,(f x k).2=k+c x)(a:List α)(k:Int)(i:Nat):k≤mkC f a k i∧mkC f a k i≤k+((a.map c).sum:Nat):=by
 unfold mkC
 rw[JA c b]
 have:((a.take i).map c).sum≤(a.map c).sum:=by
  conv=>rhs; rw[← bI i a,bl,List.sum_append]
  omega
 omega
theorem QsK {a:List α}{k:Int}{i:Nat}{x:α}(h:a[i]? =some x):(Qs f a k).1[i]? =some (f x (mkC f a k i)).1:=by
 have e:=Jz (f:=f) (k:=k) h
 have c:=(ai.1 h).1
 have d:(Qs f (a.take i) k).1.length=i:=by simp[YS]; omega
 conv=>lhs; rw[← bI i a,Qdr]
 simp only
 rw[bd (by omega),d,cK,cI c]
 obtain ⟨_,b⟩:=ai.1 h
 simp[Qs,mkC,b]
end
@[reducible] def fI:Int→Int→Int×Int:=fun _ k=>(k,k+1)
theorem Qw7:∀(x k:Int),(fI x k).2=k+((fun _=>1:Int→Nat) x:Nat):=fun _ _=>rfl
theorem QpM {α:Type _}(a:List α):(a.map fun _=>1).sum=a.length:=by
 induction a with
 | nil=>rfl
 | cons x c b=>simp[b]; omega
theorem Qwc (a:List Int)(k:Int)(i:Nat):k≤mkC fI a k i∧mkC fI a k i≤k+a.length:=by
 have:=Qdt _ Qw7 a k i
 rw[QpM] at this
 exact this
theorem KB (a:List Int)(k:Int)(s:0≤k∧k+a.length≤1000000000):FC Tryz.prog 418 [(false,[.ref 0]),(false,[dI k])] [ar 0 3 .int a] 1 (Is (lI ((Qs fI a k).2)) [ar 0 3 .int ((Qs fI a k).1)]):=by
 refine Qv Tryz.func418 rfl rfl Tryz.ntmps418 fun q m p g r l j=> ?_
 refine acI 1 fun _=> ?_
 refine w8 ?_
 refine lp0 a.length (fun i=>⟨[(0,lR 0),(1,lI (mkC fI a k i)),(4,lI 0),(5,lI (i:Int))],[ar 0 3 .int (mkA fI a k i)]⟩) ?_ fun i _=> ?_
 exact Wk.of [] rfl ⟨rfl,(show some (lI k)=some (lI (mkC fI a k 0)) from congrArg (fun z_=>some (lI z_)) (by rw[Qcx])),rfl,rfl,trivial⟩ ⟨(Qe (Qh8 fI a k)),trivial⟩ rfl rfl
 have o:=Jy fI a k i
 have n:=Qwc a k i
 refine w7 ?_
 cases c:(decide ((i:Int) < ((mkA fI a k i).length:Int)))
 have d:=aa c
 refine w8 ?_
 have h:(mkC fI a k i:Int)=((Qs fI a k).2):=by
  (rw[VX _ (by omega)]; done)
 exact fi_ [] m ⟨(Qe (by (rw[Qac _ (by omega)]; done))),trivial⟩ (h0:=by rw[h] <;> rfl)
 have d:=ab c
 refine w9 ?_
 obtain ⟨t,b⟩:=gx (mkA fI a k i) i
 refine lc (QA (e:= .int) (z':=mkC fI a k i) (Qa rfl) rfl b rfl (Qk rfl) rfl Y6 rfl rfl) ?_
 refine w5 ?_
 refine Qb ?_
 refine w5 ?_
 refine Qb ?_
 refine l0_ ?_
 exact Wk.of [] rfl ⟨rfl,(show some (lI ((mkC fI a k i)+1))=some (lI (mkC fI a k (i+1))) from congrArg (fun z_=>some (lI z_)) (by rw[Ur (KS b)])),rfl,rfl,trivial⟩ ⟨(Qe (Jz (KS b))),trivial⟩ rfl rfl
theorem Jv {α:Type _}{f:α→Int→α×Int}{a l:List α}{k:Int}{i:Nat}{x:α}(d:a=(Qs f l k).1)(h:a[i]? =some x):∃y,l[i]? =some y∧x=(f y (mkC f l k i)).1:=by
 subst d
 have c:=(ai.1 h).1
 rw[YS] at c
 have b:=ae c
 rw[QsK b] at h
 exact ⟨_,b,(cC h).symm⟩
@[reducible] def fL:Int×Bool→Int→(Int×Bool)×Int:=fun _ k=>((k,decide ((k+1) % 3=0)),k+2)
theorem Qw8:∀(x:Int×Bool) (k:Int),(fL x k).2=k+((fun _=>2:Int×Bool→Nat) x:Nat):=fun _ _=>rfl
theorem QeQ {α:Type _}(a:List α):(a.map fun _=>2).sum=2*a.length:=by
 induction a with
 | nil=>rfl
 | cons x c b=>simp[b]; omega
theorem Qwd (a:List (Int×Bool))(k:Int)(i:Nat):k≤mkC fL a k i∧mkC fL a k i≤k+2*a.length:=by
 have:=Qdt _ Qw8 a k i
 rw[QeQ] at this
 omega
theorem QsO {l:List (Int×Bool)}{k:Int}{i:Nat}(h:i < l.length):mkC fL l k i+1+1=mkC fL l k (i+1):=by rw[Ur (ae h)]; simp only[fL]; omega
theorem Qbl (a:List (Int×Bool))(k:Int)(t:0≤k∧k+2*a.length≤1000000000):FC Tryz.prog 161 [(false,[.ref 0]),(false,[dI k])] [ar 0 75 QF a] 1 (Is (lI ((Qs fL a k).2)) [ar 0 75 QF ((Qs fL a k).1)]):=by
 refine Qv Tryz.func161 rfl rfl Tryz.ntmps161 fun r n q h s m l=> ?_
 refine acI 1 fun _=> ?_
 refine w8 ?_
 refine lp0 a.length (fun i=>⟨[(0,lR 0),(1,lI (mkC fL a k i)),(4,lI 0),(5,lI (i:Int))],[ar 0 75 QF (mkA fL a k i)]⟩) ?_ fun i _=> ?_
 exact Wk.of [] rfl ⟨rfl,(show some (lI k)=some (lI (mkC fL a k 0)) from congrArg (fun z_=>some (lI z_)) (by rw[Qcx])),rfl,rfl,trivial⟩ ⟨(Qe (Qh8 fL a k)),trivial⟩ rfl rfl
 have p:=Jy fL a k i
 have o:=Qwd a k i
 refine w7 ?_
 cases b:(decide ((i:Int) < ((mkA fL a k i).length:Int)))
 have c:=aa b
 refine w8 ?_
 have j:(mkC fL a k i:Int)=((Qs fL a k).2):=by
  (rw[VX _ (by omega)]; done)
 exact fi_ [] n ⟨(Qe (by (rw[Qac _ (by omega)]; done))),trivial⟩ (h0:=by rw[j] <;> rfl)
 have c:=ab b
 refine w10 ?_
 obtain ⟨g,d⟩:=gx (mkA fL a k i) i
 refine lc (QA (e:=QF) (z':=(mkC fL a k i,g.2)) (Qa rfl) rfl d rfl (Qk rfl) rfl Y6 rfl rfl) ?_
 refine w10 ?_
 refine lc (J9 (Qa rfl) (Qy rfl) rfl (by omega) (by omega)) ?_
 refine w3 ?_
 refine lc (QA (e:=QF) (z':=((mkC fL a k i,g.2).1,decide ((((mkC fL a k i)+1) % 3)=0))) (Qa rfl) rfl (aM (by first | omega | (simp only[ap]; omega))) rfl (Qk rfl) rfl QcK rfl rfl) ?_
 refine w5 ?_
 refine Qb ?_
 refine w5 ?_
 refine Qb ?_
 refine l0_ ?_
 exact Wk.of [] rfl ⟨rfl,(show some (lI (((mkC fL a k i)+1)+1))=some (lI (mkC fL a k (i+1))) from congrArg (fun z_=>some (lI z_)) (QsO (by omega))),rfl,rfl,trivial⟩ ⟨(Qe (by rw[cA]; exact Jz (f:=fL) (KS d))),trivial⟩ rfl rfl
end Go.Proofs.YtndabgcpnmeeoaaGreat
namespace Go.Proofs.YtndabgcpnmeeoaaGreat
open Go.RowKit
set_option maxRecDepth 100000
set_option maxHeartbeats 4000000
@[reducible] def fT:List Int×List Int→Int→(List Int×List Int)×Int:=fun t k=>(((Qs fI t.1 k).1,(Qs fI t.2 (Qs fI t.1 k).2).1),(Qs fI t.2 (Qs fI t.1 k).2).2)
def cT (t:List Int×List Int):Nat:=t.1.length+t.2.length
theorem Qn6 (l:List Int)(k:Int):(Qs fI l k).2=k+l.length:=by rw[JA _ Qw7,QpM]
theorem QvR:∀(x:List Int×List Int) (k:Int),(fT x k).2=k+(cT x:Nat):=fun x k=>by simp only[fT,Qn6,cT]; omega
def Qhr (a:List (List Int×List Int)):Nat:=(a.map cT).sum
theorem QsR (a:List (List Int×List Int))(k:Int)(i:Nat):k≤mkC fT a k i∧mkC fT a k i≤k+Qhr a:=Qdt _ QvR a k i
theorem Qwf {a:List (List Int×List Int)}{k:Int}{i:Nat}{x:List Int×List Int}(h:a[i]? =some x):mkC fT a k i+x.1.length+x.2.length≤k+Qhr a:=by
 have b:=(QsR a k (i+1)).2
 rw[Ur h,QvR] at b
 simp only[cT] at b
 omega
theorem Qty {ts:List QG}{i:Nat}{x:QG}(c:ts[i]? =some x)(a b:LV)(ys zs:List Int):((((Zh QN ts).set (i*2+0) a).set (i*2+0) (.dat Qz ys)).set (i*2+1) b).set (i*2+1) (.dat Qz zs)=Zh QN (ts.set i (ys,zs)):=by
 rw[cA,cA,QlU c,QlV (x:=(ys,x.2)) (by rw[aM (ai.1 c).1]),cA]
theorem KC (a:List (List Int×List Int))(k:Int)(F:(0≤k∧k+Qhr a≤1000000000)∧a.length≤1000000000):FC Tryz.prog 300 [(false,[.ref 0]),(false,[dI k])] [ar 0 275 JT a] 1 (Is (lI ((Qs fT a k).2)) [ar 0 275 JT ((Qs fT a k).1)]):=by
 refine Qv Tryz.func300 rfl rfl Tryz.ntmps300 fun D v C o E u s=> ?_
 refine acI 1 fun _=> ?_
 refine w8 ?_
 refine lp0 a.length (fun i=>⟨[(0,lR 0),(1,lI (mkC fT a k i)),(4,lI 0),(5,lI (i:Int))],[ar 0 275 JT (mkA fT a k i)]⟩) ?_ fun i _=> ?_
 exact Wk.of [] rfl ⟨rfl,(show some (lI k)=some (lI (mkC fT a k 0)) from congrArg (fun z_=>some (lI z_)) (by rw[Qcx])),rfl,rfl,trivial⟩ ⟨(Qe (Qh8 fT a k)),trivial⟩ rfl rfl
 have A:=Jy fT a k i
 have z:=QsR a k i
 refine w7 ?_
 cases l:(decide ((i:Int) < ((mkA fT a k i).length:Int)))
 have m:=aa l
 refine w8 ?_
 have r:(mkC fT a k i:Int)=((Qs fT a k).2):=by
  (rw[VX _ (by omega)]; done)
 exact fi_ [] v ⟨(Qe (by (rw[Qac _ (by omega)]; done))),trivial⟩ (h0:=by rw[r] <;> rfl)
 have m:=ab l
 refine w4 ?_
 refine XM ?_
 obtain ⟨x,n⟩:=gx a i
 have j:(mkA fT a k i)[i]? =some x:=Qpk n
 have c:=(Qkq j).2
 have d:=(Qkq j).1
 have B:=Qwf (k:=k) n
 have g:i*2+0 < (Zh JT (mkA fT a k i)).length:=by rw[Ui]; exact QxM (by omega)
 have h:i*2+1 < (Zh JT (mkA fT a k i)).length:=by rw[Ui]; exact QxN (by omega)
 have b:i*2+0≠i*2+1:=by omega
 have w:=Qn6 x.1 (mkC fT a k i)
 have y:=Qn6 x.2 (Qs fI x.1 (mkC fT a k i)).2
 refine AC.wk (QiF (q:=0) rfl (by omega))<|AC.wk (H0 1 (q:=0) (p:=i*2+0) (E':=3) (e':= .int) (ys:=x.1) rfl (c) (Fresh.of rfl) (aD rfl)) ?_
 refine w3 ?_
 refine lc (Wa (Qa rfl) rfl (Qa rfl) QtF QpP rfl (by omega) (by omega)) ?_
 refine w_ ?_
 refine lc (K7 (Qa rfl) rfl (show (ovr _ _)[i*2+0]? =some (.ref 1) from by simp only[ovr,bN,ap,g,h,b,b.symm,c,d,eq_self,if_true,if_false,↓reduceIte]) rfl Xh rfl) ?_
 refine w_ ?_
 refine lc (dP 2 [(0,1)] (KB x.1 (mkC fT a k i) (by omega)) QfP) ?_
 refine w2 ?_
 refine AC.wk (QbH (q:=0) (t:=1) (p:=i*2+0) rfl (by simp only[ovr,bN,ap,g,h,b,b.symm,c,d,eq_self,if_true,if_false,↓reduceIte]) rfl) ?_
 refine AC.wk (H0 3 (q:=0) (p:=i*2+1) (E':=3) (e':= .int) (ys:=x.2) rfl (by simp only[ovr,bN,ap,g,h,b,b.symm,c,d,eq_self,if_true,if_false,↓reduceIte]) (Fresh.of rfl) (aD rfl)) ?_
 refine w3 ?_
 refine lc (Wa (Qa rfl) rfl (Qa rfl) QtF QpP rfl (by omega) (by omega)) ?_
 refine w_ ?_
 refine lc (K7 (Qa rfl) rfl (show (ovr _ _)[i*2+1]? =some (.ref 3) from by simp only[ovr,bN,ap,g,h,b,b.symm,c,d,eq_self,if_true,if_false,↓reduceIte]) rfl Xh rfl) ?_
 refine w_ ?_
 refine lc (dP 4 [(0,3)] (KB x.2 ((Qs fI x.1 (mkC fT a k i)).2) (by omega)) QfP) ?_
 refine w_ ?_
 refine Qb ?_
 refine w_ ?_
 refine AC.wk (QbH (q:=0) (t:=3) (p:=i*2+1) rfl (by simp only[ovr,bN,ap,g,h,b,b.symm,c,d,eq_self,if_true,if_false,↓reduceIte]) rfl) ?_
 refine AC.wk (Qfg (q:=0) (e:=JT) ((mkA fT a k i).set i ((Qs fI x.1 (mkC fT a k i)).1,(Qs fI x.2 (Qs fI x.1 (mkC fT a k i)).2).1)) rfl (by simp only[ap]) (by simp only[ovr]; exact Qty j _ _ _ _)) ?_
 refine w4 ?_
 refine Qb ?_
 refine l0_ ?_
 exact Wk.of [] rfl ⟨rfl,(show some (lI ((Qs fI x.2 ((Qs fI x.1 (mkC fT a k i)).2)).2))=some (lI (mkC fT a k (i+1))) from congrArg (fun z_=>some (lI z_)) ((Ur (f:=fT) n).symm)),rfl,rfl,trivial⟩ ⟨(Qe (Jz (f:=fT) n)),trivial⟩ rfl rfl
end Go.Proofs.YtndabgcpnmeeoaaGreat
namespace Go.Proofs.YtndabgcpnmeeoaaGreat
open Go.RowKit
set_option maxRecDepth 100000
set_option maxHeartbeats 4000000
def dg (k:Int):Nat→ByteArray
 | 0=>(⟨#[]⟩:ByteArray)
 | j+1=>(⟨#[UInt8.ofNat ((48+(k / 10 ^ j) % 10):Int).toNat]⟩:ByteArray)++dg k j
theorem QbP (k:Int)(j:Nat):(dg k j).size=j:=by
 induction j with
 | zero=>rfl
 | succ j a=>rw[dg,cw,a]; show 1+j=_; omega
def mt (k:Int):Nat→Nat→ByteArray
 | 0,j=>dg k j
 | n+1,j=>if k / 10 ^ j≤0 then dg k j else mt k n (j+1)
def WN (k:Int):ByteArray:=if k≤0 then (⟨#[109,48]⟩:ByteArray) else (⟨#[109]⟩:ByteArray)++mt k 20 0
theorem Qxe (k:Int)(j:Nat):k / 10 ^ j / 10=k / 10 ^ (j+1):=by
 rw[Int.pow_succ,Int.ediv_ediv_of_nonneg (bz (by decide))]
theorem Qul {k:Int}(h:k≤9223372036854775807)(h0:0≤k):k / 10 ^ 20=0:=Int.ediv_eq_zero_of_lt h0 (by omega)
theorem QuN {k:Int}{n j:Nat}(h:k / 10 ^ j≤0):mt k n j=dg k j:=by
 cases n with
 | zero=>rfl
 | succ n=>rw[mt,if_pos h]
theorem QvM {k:Int}(h0:0≤k)(j:Nat):0≤k / 10 ^ j∧k / 10 ^ j≤k:=⟨bB h0 (bz (by decide)),Int.ediv_le_self _ h0⟩
theorem XF (k:Int):FC Tryz.prog 301 [(false,[dI k])] [] 0 (QY (lf (dS (WN k)))):=by
 refine Qv Tryz.func301 rfl rfl Tryz.ntmps301 fun p c o g q l i=> ?_
 refine acI 0 fun _=> ?_
 refine w8 ?_
 refine cd_ (fun _ _=> ?_) fun _ _=> ?_
 refine w6 ?_
 refine lpK 20 (fun j=>mt k (20 - j) j=mt k 20 0) (fun j=>⟨[(0,lI (k / 10 ^ j)),(2,lf (dS (⟨#[]⟩:ByteArray))),(3,lf (dS (dg k j)))],[]⟩) (rfl) ?_ fun j _ d=> ?_
 exact Wk.of [] rfl ⟨(show some (lI k)=some (lI (k / 10 ^ 0)) from congrArg (fun z_=>some (lI z_)) (by simp)),rfl,(show some (lf (dS (⟨#[]⟩:ByteArray)))=some (lf (dS (dg k 0))) from congrArg (fun z_=>some (lf (dS z_))) (rfl)),trivial⟩ trivial rfl rfl
 have m:=QvM (k:=k) (by omega) j
 have n:=QbP k j
 have f:j=20→k / 10 ^ j=0:=fun h=>by subst h; exact Qul (by omega) (by omega)
 refine w5 ?_
 cases a:(decide (0 < (k / 10 ^ j)))
 have b:=aa a
 refine w5 ?_
 refine lc (YN (Evl.str rfl) (Qa rfl) rfl (by first | (simp only[Jc]; omega) | (rw[QbP]; simp only[Jc]; omega) | (rw[QbP]; show 1+_≤_; omega))) ?_
 refine w2 ?_
 refine Qd<|fqS c ?_
 (rw[WN,if_neg (by omega),← d,QuN (by omega)])
 have b:=ab a
 refine w5 ?_
 refine lc (J9 (Qa rfl) (Qy rfl) rfl (by omega) (by omega)) ?_
 refine w_ ?_
 refine lc (QhA (Qa rfl) Qiz Wq (by omega) (by omega) rfl) ?_
 refine lc (dBs 0 (e:= .u8) QaL) ?_
 refine lc (Q7 (ys:=[UInt8.ofNat (48+((k / 10 ^ j) % 10)).toNat]) (YA (Qa rfl) rfl) Za Wq Z7 rfl) ?_
 refine w_ ?_
 refine lc (YN (Qa rfl) (Qa rfl) rfl (by first | (simp only[Jc]; omega) | (rw[QbP]; simp only[Jc]; omega) | (rw[QbP]; show 1+_≤_; omega))) ?_
 refine w4 ?_
 refine lc (Qe6 (Qa rfl) (Qy rfl) rfl (by omega) (by omega)) ?_
 refine w_ ?_
 refine Qb ?_
 refine lK_ (by rw[← d,show 20 - j=(20 - (j+1))+1 by omega,mt,if_neg (by omega)]) ?_
 exact Wk.of [] rfl ⟨(show some (lI ((k / 10 ^ j) / 10))=some (lI (k / 10 ^ (j+1))) from congrArg (fun z_=>some (lI z_)) (Qxe k j)),rfl,(show some (lf (dS ((⟨#[UInt8.ofNat (48+((k / 10 ^ j) % 10)).toNat]⟩:ByteArray)++(dg k j))))=some (lf (dS (dg k (j+1)))) from congrArg (fun z_=>some (lf (dS z_))) (rfl)),trivial⟩ trivial rfl rfl
 refine w3 ?_
 refine Qd<|fqS c ?_
 ·(rw[WN,if_pos (by omega)]; done)
end Go.Proofs.YtndabgcpnmeeoaaGreat
namespace Go.Proofs.YtndabgcpnmeeoaaGreat
open Go.RowKit
set_option maxRecDepth 100000
set_option maxHeartbeats 4000000
@[reducible] def fS:ByteArray×Int→Int→(ByteArray×Int)×Int:=fun _ k=>((WN k,k+1),k+2)
theorem Qw9:∀(x:ByteArray×Int) (k:Int),(fS x k).2=k+((fun _=>2:ByteArray×Int→Nat) x:Nat):=fun _ _=>rfl
theorem QsP (a:List (ByteArray×Int))(k:Int)(i:Nat):k≤mkC fS a k i∧mkC fS a k i≤k+2*a.length:=by
 have:=Qdt _ Qw9 a k i
 rw[QeQ] at this
 omega
theorem Qk6 {l:List (ByteArray×Int)}{k:Int}{i:Nat}(h:i < l.length):mkC fS l k i+1+1=mkC fS l k (i+1):=by rw[Ur (ae h)]; simp only[fS]; omega
theorem VQ (a:Ql2)(k:Int)(t:0≤k∧k+2*a.length≤1000000000):FC Tryz.prog 160 [(false,[.ref 0]),(false,[dI k])] [ar 0 77 QE a] 1 (Is (lI ((Qs fS a k).2)) [ar 0 77 QE ((Qs fS a k).1)]):=by
 refine Qv Tryz.func160 rfl rfl Tryz.ntmps160 fun r n q h s m l=> ?_
 refine acI 1 fun _=> ?_
 refine w8 ?_
 refine lp0 a.length (fun i=>⟨[(0,lR 0),(1,lI (mkC fS a k i)),(4,lI 0),(5,lI (i:Int))],[ar 0 77 QE (mkA fS a k i)]⟩) ?_ fun i _=> ?_
 exact Wk.of [] rfl ⟨rfl,(show some (lI k)=some (lI (mkC fS a k 0)) from congrArg (fun z_=>some (lI z_)) (by rw[Qcx])),rfl,rfl,trivial⟩ ⟨(Qe (Qh8 fS a k)),trivial⟩ rfl rfl
 have p:=Jy fS a k i
 have o:=QsP a k i
 refine w7 ?_
 cases b:(decide ((i:Int) < ((mkA fS a k i).length:Int)))
 have c:=aa b
 refine w8 ?_
 have j:(mkC fS a k i:Int)=((Qs fS a k).2):=by
  (rw[VX _ (by omega)]; done)
 exact fi_ [] n ⟨(Qe (by (rw[Qac _ (by omega)]; done))),trivial⟩ (h0:=by rw[j] <;> rfl)
 have c:=ab b
 refine w8 ?_
 refine lc (dK (XF (mkC fS a k i)) Jh) ?_
 refine w2 ?_
 obtain ⟨g,d⟩:=gx (mkA fS a k i) i
 refine lc (QA (e:=QE) (z':=(WN (mkC fS a k i),g.2)) (Qa rfl) rfl d rfl (Qk rfl) rfl VS rfl rfl) ?_
 refine w12 ?_
 refine lc (QA (e:=QE) (z':=((WN (mkC fS a k i),g.2).1,(mkC fS a k i)+1)) (Qa rfl) rfl (aM (by first | omega | (simp only[ap]; omega))) rfl (Qk rfl) rfl Y6 rfl rfl) ?_
 refine w5 ?_
 refine Qb ?_
 refine w5 ?_
 refine Qb ?_
 refine l0_ ?_
 exact Wk.of [] rfl ⟨rfl,(show some (lI (((mkC fS a k i)+1)+1))=some (lI (mkC fS a k (i+1))) from congrArg (fun z_=>some (lI z_)) (Qk6 (by omega))),rfl,rfl,trivial⟩ ⟨(Qe (by rw[cA]; exact Jz (f:=fS) (KS d))),trivial⟩ rfl rfl
theorem Qar (a:Ql2)(k:Int)(l:Ql2)(o:a=(Qs fS l k).1)(A:0≤k∧k+2*a.length≤1000000000):FC Tryz.prog 164 [(false,[.dat Ql a]),(false,[dI k])] [] 0 (QY (lI ((Qs fS l k).2))):=by
 have u:a.length=l.length:=by rw[o,YS]
 refine Qv Tryz.func164 rfl rfl Tryz.ntmps164 fun x n w r y t s=> ?_
 refine acI 1 fun _=> ?_
 refine w8 ?_
 refine lp0 a.length (fun i=>⟨[(0,lf (.dat Ql a)),(1,lI (mkC fS l k i)),(5,lI (i:Int))],[]⟩) ?_ fun i _=> ?_
 exact Wk.of [] rfl ⟨rfl,(show some (lI k)=some (lI (mkC fS l k 0)) from congrArg (fun z_=>some (lI z_)) (by rw[Qcx])),rfl,trivial⟩ trivial rfl rfl
 have v:=QsP l k i
 refine w4 ?_
 refine alL 7 fun _=> ?_
 refine w3 ?_
 cases e:(decide ((i:Int) < (a.length:Int)))
 have f:=aa e
 refine w7 ?_
 refine Qd<|fqI n ?_
 ·(rw[VX _ (by omega)]; done)
 have f:=ab e
 refine w5 ?_
 obtain ⟨c,m⟩:=gx a i
 have p:c.1=WN (mkC fS l k i):=by obtain ⟨_,_,h⟩:=Jv o m; rw[h]
 have q:c.2=mkC fS l k i+1:=by obtain ⟨_,_,h⟩:=Jv o m; rw[h]
 apply dW (i6 12 _ _ _ _ _ _ [io 18 (lf (dS (WN (mkC fS l k i)))),io 19 _]) [0,1,0,0,0,31,31,0]
 refine z6 ?_
 refine zz (fun _ z=>ac (dK (XF (mkC fS l k i)) Jh) rfl) ?_
 exact y1
 cases g:(!decide (c.1=(WN (mkC fS l k i))))
 have j:(c.1=(WN (mkC fS l k i))):=QK g
 refine w14 ?_
 refine alI 26 fun _=> ?_
 refine w3 ?_
 cases b:(!decide (c.2=((mkC fS l k i)+1)))
 have d:(c.2=((mkC fS l k i)+1)):=QK b
 refine w6 ?_
 refine Qb ?_
 refine w5 ?_
 refine Qb ?_
 refine l0_ ?_
 exact Wk.of [] rfl ⟨rfl,(show some (lI (((mkC fS l k i)+1)+1))=some (lI (mkC fS l k (i+1))) from congrArg (fun z_=>some (lI z_)) (Qk6 (by omega))),rfl,trivial⟩ trivial rfl rfl
 have d:¬(c.2=((mkC fS l k i)+1)):=QR b
 refine w4 ?_
 refine Qd<|fqI n ?_
 (exfalso; omega)
 have j:¬(c.1=(WN (mkC fS l k i))):=QR g
 refine w4 ?_
 refine Qd<|fqI n ?_
 ·(exfalso; simp_all; done)
theorem Qd9 (a:Qqf)(k:Int)(f:(0≤k∧k+Qhr a.2≤1000000000)∧a.2.length≤1000000000):FC Tryz.prog 159 [(true,[dI a.1, .ref 0]),(false,[dI k])] [ar 0 275 JT a.2] 1 (Is (lI ((Qs fT a.2 k).2)) [ar 0 275 JT ((Qs fT a.2 k).1)]):=by
 refine Qv Tryz.func159 rfl rfl Tryz.ntmps159 fun h e g b i d c=> ?_
 refine acG 0 0 fun _=> ?_
 refine acI 1 fun _=> ?_
 refine w_ ?_
 refine xbx 1 ?_
 refine w6 ?_
 refine lc (dP 2 [] (KC a.2 k f) QmG) ?_
 refine w7 ?_
 exact fi_ [] e ⟨rfl,trivial⟩
theorem QsJ (l:List (List Int×List Int))(k:Int):(Qs fT l k).2=k+Qhr l:=JA _ QvR l k
theorem QgA (l:List (ByteArray×Int))(k:Int):(Qs fS l k).2=k+2*l.length:=by rw[JA _ Qw9,QeQ]; omega
theorem Qv9 (l:List (Int×Bool))(k:Int):(Qs fL l k).2=k+2*l.length:=by rw[JA _ Qw8,QeQ]; omega
def Qk3 (s:Yz)(k:Int):Yz×Int:=(((s.1.1,(Qs fT s.1.2 k).1),(Qs fS s.2.1 (Qs fT s.1.2 k).2).1,(Qs fL s.2.2.1 (Qs fS s.2.1 (Qs fT s.1.2 k).2).2).1,s.2.2.2),(Qs fL s.2.2.1 (Qs fS s.2.1 (Qs fT s.1.2 k).2).2).2)
theorem Qea (a:QcY)(k:Int)(m:(0≤k∧k+Qhr a.1.2+2*a.2.1.length+2*a.2.2.1.length≤1000000000)∧a.1.2.length≤1000000000):FC Tryz.prog 47 [(true,[dI a.1.1, .ref 0, .ref 1, .ref 2,dS a.2.2.2]),(false,[dI k])] [ar 0 275 JT a.1.2,ar 1 77 QE a.2.1,ar 2 75 QF a.2.2.1] 3 (Is (lI ((Qk3 a k).2)) [ar 0 275 JT ((Qk3 a k).1.1.2),ar 1 77 QE ((Qk3 a k).1.2.1),ar 2 75 QF ((Qk3 a k).1.2.2.1)]):=by
 have g:=QsJ a.1.2 k
 have h:=QgA a.2.1 (Qs fT a.1.2 k).2
 refine Qv Tryz.func47 rfl rfl Tryz.ntmps47 fun j f i b l e d=> ?_
 refine acG 0 0 fun _=> ?_
 refine acI 1 fun _=> ?_
 refine w_ ?_
 refine xbx 3 ?_
 refine w6 ?_
 refine lc (dP 4 [] (Qd9 a.1 k (by omega)) Qma) ?_
 refine w6 ?_
 refine lc (dP 5 [(0,1)] (VQ a.2.1 ((Qs fT a.1.2 k).2) (by omega)) QfB) ?_
 refine w6 ?_
 refine lc (dP 6 [(0,2)] (Qbl a.2.2.1 ((Qs fS a.2.1 ((Qs fT a.1.2 k).2)).2) (by omega)) Qmb) ?_
 refine w7 ?_
 have c:((Qs fL a.2.2.1 ((Qs fS a.2.1 ((Qs fT a.1.2 k).2)).2)).2:Int)=((Qk3 a k).2):=by
  rfl
 exact fi_ [] f ⟨(Qe (by rfl)),(Qe (by rfl)),(Qe (by rfl)),trivial⟩ (h0:=by rw[c] <;> rfl)
end Go.Proofs.YtndabgcpnmeeoaaGreat
namespace Go.Proofs.YtndabgcpnmeeoaaGreat
open Go.RowKit
set_option maxRecDepth 100000
set_option maxHeartbeats 4000000
theorem Qsm (x:Yz)(left:Int)(h0:0≤left)(a:left≤1048576):FC Tryz.prog 41 [(true,leaves Qco x),(false,[dI left])] [] 0 (QY (lf (dI (szv left (Ty.tot Qco x))))):=
 Qrw (fun h w b=>by
  obtain ⟨c,d,e,f,g,rfl⟩:=KR b.len
  exact Qrb c d e f g x left w b h0 a) h0 a
theorem Qca (x:Yz)(l:Ty.tot Qco x≤1048576):FC Tryz.prog 43 [(true,leaves Qco x)] [] 0 (Is (ag (oL QcI x 0)) (oT QcI x 0)):=
 QpY fun n w m a=>by
  obtain ⟨t,m,rfl,b,a⟩:=a.agg_cons
  obtain rfl:=a.nil_
  obtain ⟨c,d,f,g,h,rfl⟩:=KR b.len
  refine Calls.mono (Qrd c d f g h x w b l) fun e u k=> ?_
  obtain ⟨o,p,q,r,s,rfl,i,j⟩:=k
  exact ⟨_,rfl,i,j⟩
theorem Qsl (x y:Yz)(h:x=y):FC Tryz.prog 46 [(true,leaves QcI x),(true,leaves QcI y)] [] 0 (QY (lf (dB true))):=
 Qj8 h fun n o w a b=>by
  obtain ⟨c,d,e,f,g,rfl⟩:=KR a.len
  obtain ⟨i,j,k,l,m,rfl⟩:=KR b.len
  exact QnK c d e f g i j k l m x w a b
end Go.Proofs.YtndabgcpnmeeoaaGreat
namespace Go.Proofs.YtndabgcpnmeeoaaGreat
open Go.RowKit
set_option maxRecDepth 100000
set_option maxHeartbeats 4000000
theorem QwB (t:QG):Ty.tot QN t=cT t:=by
 have:Ty.tot QN t=(t.1.length+(t.1.map (Ty.tot .int)).sum)+(t.2.length+(t.2.map (Ty.tot .int)).sum):=rfl
 rw[this,VW t.1 (Ty.tot .int) (fun _=>rfl),VW t.2 (Ty.tot .int) (fun _=>rfl)]
 simp[cT]
theorem Qu7 (n:V8):Ty.tot QdB n=n.2.length+Qhr n.2:=by
 have:Ty.tot QdB n=0+(n.2.length+(n.2.map (Ty.tot QN)).sum):=rfl
 rw[this,List.map_congr_left (g:=cT) fun t _=>QwB t,Qhr]
 omega
theorem Qu8 (s:Yz):Ty.tot QcI s=Ty.tot QdB s.1+((s.2.1.length+(s.2.1.map (Ty.tot ZG)).sum)+((s.2.2.1.length+(s.2.2.1.map (Ty.tot Yv)).sum)+s.2.2.2.size)):=rfl
theorem QuK {s:Yz}(h:Ty.tot QcI s≤100000000):(0≤(1:Int)∧(1:Int)+Qhr s.1.2+2*s.2.1.length+2*s.2.2.1.length≤1000000000)∧s.1.2.length≤1000000000:=by
 rw[Qu8,Qu7] at h
 omega
theorem QsI (s:Yz)(k:Int):(Qk3 s k).2=k+Qhr s.1.2+2*s.2.1.length+2*s.2.2.1.length:=by
 simp only[Qk3,Qv9,QgA,QsJ]
end Go.Proofs.YtndabgcpnmeeoaaGreat
