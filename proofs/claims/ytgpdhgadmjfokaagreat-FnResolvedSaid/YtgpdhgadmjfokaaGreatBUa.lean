/- slices.Sort and slices.Compact of numbers, by the library's contracts. -/
import Derived.Test.YtgpdhgadmjfokaaGreatBWk
import Derived.Test.YtgpdhgadmjfokaaGreatBAy
import Derived.Shelf.Lays
import Derived.Shelf.Lays2
import Derived.Shelf.Slices.In.SortNone
import Derived.Shelf.Slices.In.CompactI
import Derived.Test.YtgpdhgadmjfokaaGreatBApp
import Derived.Shelf.SlSortCmp.NoneTotal
import Derived.Shelf.SlLaysF
set_option linter.unusedSimpArgs false
set_option linter.unusedVariables false
set_option linter.unusedSectionVars false
namespace Go.Proofs.YtgpdhgadmjfokaaGreat
open Go.RowKit
section
variable {α:Type}[DecidableEq α][Inhabited α]
omit [Inhabited α] in
theorem QgJ (y:α):∀l:List α,Y3 (l++[y])=Y3 l++(if l.getLast? =some y then [] else [y])
 | []=>by simp[Y3]
 | [x]=>by
  by_cases h:x=y
  ·simp[Y3,h]
  ·simp[Y3,h]
 | x :: z :: l=>by
  have b:=QgJ y (z :: l)
  have a:(x :: z :: l).getLast? =(z :: l).getLast? :=by simp
  rw[a]
  show (if x=z then Y3 ((z :: l)++[y]) else x :: Y3 ((z :: l)++[y]))=(if x=z then Y3 (z :: l) else x :: Y3 (z :: l))++_
  rw[b]
  split <;> simp
theorem Qby (zs:List α):∀m,m≤zs.length→Lib.compactUpTo zs.toArray m=Y3 (zs.take m)
 | 0,_=>by simp[Lib.compactUpTo,Y3]
 | m+1,hm=>by
  have d:zs[m]? =some zs[m]:=ak (by omega)
  have c:(zs.toArray)[m]! =zs[m]:=by rw[getElem!_pos _ m (by simp; omega)]; simp
  rw[Lib.compactUpTo_succ,Qby zs m (by omega),QG d,QgJ,c]
  refine congrArg _ ?_
  cases m with
  | zero=>simp[Lib.keeps]
  | succ k=>
   have a:(zs.toArray)[k]! =zs[k]:=by rw[getElem!_pos _ k (by simp; omega)]; simp
   have f:(zs.take (k+1)).getLast? =some zs[k]:=by
    rw[List.getLast?_eq_getElem?,ap,show min (k+1) zs.length - 1=k by omega,List.getElem?_take_of_lt (by omega)]
    exact ak (by omega)
   rw[f]
   have b:Lib.keeps zs.toArray (k+1)= !decide (zs[k]=zs[k+1]):=by
    unfold Lib.keeps
    rw[c,show k+1 - 1=k from rfl,a]
    by_cases e:zs[k]=zs[k+1]
    ·simp[e]
    ·simp[e,Ne.symm e]
   rw[b]
   by_cases e:zs[k]=zs[k+1]
   ·simp[e]
   ·simp[e]
theorem Qmu (zs:List α):Lib.compact zs=Y3 zs:=by
 have:=Qby zs zs.length (aO _)
 rw[List.take_length] at this
 exact this
omit [Inhabited α] in
theorem Qj1:∀l:List α,(Y3 l).length≤l.length
 | []=>aO _
 | [_]=>aO _
 | x :: y :: l=>by
  have:=Qj1 (y :: l)
  unfold Y3
  split
  ·simp only[aj] at*; omega
  ·simp only[aj] at*; omega
end
def QqT (P:Program)(f:FuncId):Prop:=∀(blk cap:Nat) (zs:List Int) (w:World),Sort.Holds (Value.int .i64) w blk 0 zs.toArray→zs.length≤9223372036854775807→zs.length≤cap→
 Calls P f #[.slice (some ⟨blk,0,none⟩) zs.length cap] w fun e w'=>e= .returned (.slice (some ⟨blk,0,none⟩) (Y3 zs).length cap)∧∃q,w'=Sort.putRow (Value.int .i64) (Sort.ahead w q) blk 0 (Y3 zs++List.replicate (zs.length - (Y3 zs).length) 0).toArray
def QjR (P:Program)(f:FuncId):Prop:=∀w:World,Calls P f #[.slice none 0 0] w fun e w'=>e= .returned (.slice none 0 0)∧w'=w
theorem Qr1 {P:Program}{f:FuncId}{E:TypeId}(U:QqT P f)(R:QjR P f)(xs:List Int)(hl:xs.length≤1000000000):FC P f [(false,[.ref 0])] [(0,some (.arr E .int xs))] 0 (YJ E .int (Y3 xs)):=fun u w vs A V=>by
 obtain ⟨v,a0,rfl,⟨l,D,C⟩,rfl⟩:=V
 simp only[aJ,and_true] at D
 subst D
 have hv:v=u.h 0:=C ⟨_,rfl⟩
 subst hv
 have S:Own (.sl E .int) w (u.f 0) [u.h 0] xs:=A.en 0 _ rfl
 have a:∀(y:List Int) q,Tab.al [(0,some (Ent.arr E .int y))] q→q=0:=fun y q ⟨e,b⟩=>by
  rw[Qf] at b
  split at b
  ·assumption
  ·cases b
 rcases S with ⟨p,o,G⟩ | ⟨g,j,z,fps,p,o,H,Y,k,F,K⟩
 ·simp only[aJ,and_true] at o
  subst G
  rw[o]
  refine Calls.mono (R w) fun e w' b=> ?_
  obtain ⟨rfl,rfl⟩:=b
  refine ⟨_,_,_,u,rfl,⟨rfl,rfl⟩,⟨fun q e b=> ?_,fun q J d t s=>absurd ((a _ q d).trans (a _ J t).symm) s,fun q d=> ?_,fun q d g i=> ?_,fun g i=>A.nl g i⟩,⟨_,rfl,fun _=>o.symm⟩,
   ⟨Q9 _,fun _ _ _=>rfl,fun g i=> .inl i,fun q d g i=> ?_⟩,fun q h _=>absurd h (bi _)⟩
  ·rw[Qf] at b
   split at b
   ·rename_i B; subst B; cases b
    exact .inl ⟨p,by rw[o],rfl⟩
   ·cases b
  ·rw[a _ q d,p]; exact bI
  ·rw[a _ q d,p] at i; cases i
  ·rw[a _ q d,p] at i; cases i
 ·simp only[aJ,and_true] at o
  rw[cN] at K
  obtain ⟨rfl,ht,Z⟩:=Qcd K
  have i:g < w.heap.size:=(bG.1 H).1
  rw[o]
  have X:xs.length≤9223372036854775807:=by unfold maxLen at k; omega
  refine Calls.mono (U g j xs w (holds_of_blockI H ht) X Y) fun e w' b=> ?_
  obtain ⟨rfl,n,rfl⟩:=b
  have W:=Qj1 xs
  have L:(Y3 xs++List.replicate (xs.length - (Y3 xs).length) (0:Int)).length=xs.length:=by simp; omega
  generalize T:Y3 xs++List.replicate (xs.length - (Y3 xs).length) (0:Int)=row at*
  have r:Sort.putRow (Value.int .i64) (Sort.ahead w n) g 0 row.toArray=Sort.grow (Sort.putRow (Value.int .i64) (Sort.ahead w n) g 0 row.toArray) #[]:=(Sort.grow_empty _).symm
  rw[r]
  obtain ⟨k1,k2,k3,M,k5⟩:=grownBy_sortedI (w:=w) (g:=g) (n:=n) (os:= #[]) row.toArray
  have O:∀x:Int,x∈Y3 xs→x∈xs:=fun x G=>Jy.1 G
  refine ⟨_,_,_,⟨fun _=> .slice (some ⟨g,0,none⟩) (Y3 xs).length j,u.f,u.N⟩,rfl,⟨rfl,rfl⟩,⟨fun q e b=> ?_,fun q J d t s=>absurd ((a _ q d).trans (a _ J t).symm) s,fun q d=> ?_,fun q d m c=> ?_,fun m c=>bz (A.nl m c) M⟩,⟨_,rfl,fun _=>rfl⟩,
   ⟨⟨k1,k2,k3,M⟩,fun m C Q=> ?_,fun m C=> .inl C,fun q d m c=> ?_⟩,fun q h _=>absurd h (bi _)⟩
  ·rw[Qf] at b
   split at b
   ·rename_i B; subst B; cases b
    refine .inr ⟨g,j,_,[],p,rfl,heap_sortedI _ H,by omega,k,by simpa [Sort.putCells] using F, ?_⟩
    show OwnL (Own .int _) [] (List.take ((Y3 xs).length*1) _) (Y3 xs)
    have I:=take_putCellsI z row (by have:z.size=j*1:=F; omega)
    rw[cN,show (Y3 xs).length=min (Y3 xs).length row.length by omega,← List.take_take,I,← List.map_take,← T,List.take_left' rfl]
    exact QiE fun x G=>Z x (O x G)
   ·cases b
  ·rw[a _ q d]; exact A.nd 0 ⟨_,rfl⟩
  ·rw[a _ q d] at c; exact A.no 0 ⟨_,rfl⟩ m c
  ·exact k5 m C fun B=>Q 0 ⟨_,rfl⟩ (by rw[p]; cases B; exact ax ..)
  ·rw[a _ q d] at c; exact .inr ⟨0,⟨_,rfl⟩,c⟩
def Qqh:Go.Shelf.Ren:=⟨fun | 189=>221 | 125=>224 | 257=>321 | 128=>331 | 129=>332 | 294=>403 | 295=>404 | 296=>405 | 297=>406 | 298=>407 | 299=>408 | 216=>409 | 300=>410 | 301=>411 | 328=>456 | 329=>413 | 330=>414 | 331=>457 | 332=>458 | 215=>355 | 343=>477 | n=>n,fun | 28=>32 | 3=>3 | 46=>228 | 0=>0 | 51=>305 | 53=>117 | 4=>4 | 183=>299 | 182=>298 | 131=>238 | 5=>5 | 9=>9 | 218=>366 | 222=>370 | 228=>397 | 229=>398 | n=>n,fun | n=>n⟩
theorem QvM:Go.Proofs.Lays.n189 Tryz.prog Qqh:={
 mixed:=by kernel_rfl,
 f125:=Tryz.func224.trans (congrArg some (by kernel_rfl)),
 f128:=Tryz.func331.trans (congrArg some (by kernel_rfl)),
 f129:=Tryz.func332.trans (congrArg some (by kernel_rfl)),
 f189:=Tryz.func221.trans (congrArg some (by kernel_rfl)),
 f215:=Tryz.func355.trans (congrArg some (by kernel_rfl)),
 f216:=Tryz.func409.trans (congrArg some (by kernel_rfl)),
 f257:=Tryz.func321.trans (congrArg some (by kernel_rfl)),
 f294:=Tryz.func403.trans (congrArg some (by kernel_rfl)),
 f295:=Tryz.func404.trans (congrArg some (by kernel_rfl)),
 f296:=Tryz.func405.trans (congrArg some (by kernel_rfl)),
 f297:=Tryz.func406.trans (congrArg some (by kernel_rfl)),
 f298:=Tryz.func407.trans (congrArg some (by kernel_rfl)),
 f299:=Tryz.func408.trans (congrArg some (by kernel_rfl)),
 f300:=Tryz.func410.trans (congrArg some (by kernel_rfl)),
 f301:=Tryz.func411.trans (congrArg some (by kernel_rfl)),
 f328:=Tryz.func456.trans (congrArg some (by kernel_rfl)),
 f329:=Tryz.func413.trans (congrArg some (by kernel_rfl)),
 f330:=Tryz.func414.trans (congrArg some (by kernel_rfl)),
 f331:=Tryz.func457.trans (congrArg some (by kernel_rfl)),
 f332:=Tryz.func458.trans (congrArg some (by kernel_rfl)),
 f343:=Tryz.func477.trans (congrArg some (by kernel_rfl)),
 t0:=Tryz.underlying0,
 a0:=Tryz.isAgg0,
 z0:=Tryz.sizeOf0,
 v0:=Tryz.zeroValue0,
 t3:=Tryz.underlying3,
 a3:=Tryz.isAgg3,
 z3:=Tryz.sizeOf3,
 v3:=Tryz.zeroValue3,
 t4:=Tryz.underlying4,
 a4:=Tryz.isAgg4,
 z4:=Tryz.sizeOf4,
 v4:=Tryz.zeroValue4,
 t5:=Tryz.underlying5,
 a5:=Tryz.isAgg5,
 z5:=Tryz.sizeOf5,
 v5:=Tryz.zeroValue5,
 t9:=Tryz.underlying9,
 a9:=Tryz.isAgg9,
 z9:=Tryz.sizeOf9,
 v9:=Tryz.zeroValue9,
 t28:=Tryz.underlying32,
 a28:=Tryz.isAgg32,
 z28:=Tryz.sizeOf32,
 v28:=Tryz.zeroValue32,
 t46:=Tryz.underlying228,
 a46:=Tryz.isAgg228,
 z46:=Tryz.sizeOf228,
 v46:=Tryz.zeroValue228,
 t51:=Tryz.underlying305,
 a51:=Tryz.isAgg305,
 z51:=Tryz.sizeOf305,
 v51:=Tryz.zeroValue305,
 t53:=Tryz.underlying117,
 a53:=Tryz.isAgg117,
 z53:=Tryz.sizeOf117,
 v53:=Tryz.zeroValue117,
 t131:=Tryz.underlying238,
 a131:=Tryz.isAgg238,
 z131:=Tryz.sizeOf238,
 v131:=Tryz.zeroValue238,
 t182:=Tryz.underlying298,
 a182:=Tryz.isAgg298,
 z182:=Tryz.sizeOf298,
 v182:=Tryz.zeroValue298,
 t183:=Tryz.underlying299,
 a183:=Tryz.isAgg299,
 z183:=Tryz.sizeOf299,
 v183:=Tryz.zeroValue299,
 t218:=Tryz.underlying366,
 a218:=Tryz.isAgg366,
 z218:=Tryz.sizeOf366,
 v218:=Tryz.zeroValue366,
 t222:=Tryz.underlying370,
 a222:=Tryz.isAgg370,
 z222:=Tryz.sizeOf370,
 v222:=Tryz.zeroValue370,
 t228:=Tryz.underlying397,
 a228:=Tryz.isAgg397,
 z228:=Tryz.sizeOf397,
 v228:=Tryz.zeroValue397,
 t229:=Tryz.underlying398,
 a229:=Tryz.isAgg398,
 z229:=Tryz.sizeOf398,
 v229:=Tryz.zeroValue398}
theorem Qxa:Qto Tryz.prog 221:=fun a b f w c d e=>calls_of_every_depth fun D=>AnyS.slices_Sort_int_in QvM D a 0 b f w c d e
theorem Qs4:QbF Tryz.prog 221:=fun w=>Calls.mono (Any.slices_Sort_int_none QvM none 0 w) fun _ _ ⟨a,b⟩=>⟨a,b▸QW _⟩
theorem QuA (l:List Int)(a:l.length≤1000000000):FC Tryz.prog 221 [(false,[.ref 0])] [(0,some (.arr 3 .int l))] 1 (Is (.tup []) [(0,some (.arr 3 .int (Vz l)))]):=QrY Qxa Qs4 l a
def Qhs:Go.Shelf.Ren:=⟨fun | 20=>222 | n=>n,fun | 22=>32 | 3=>3 | 4=>4 | 0=>0 | n=>n,fun | n=>n⟩
theorem QjQ:Go.Proofs.Lays2.n20 Tryz.prog Qhs:={
 mixed:=by kernel_rfl,
 f20:=Tryz.func222.trans (congrArg some (by kernel_rfl)),
 t0:=Tryz.underlying0,
 a0:=Tryz.isAgg0,
 z0:=Tryz.sizeOf0,
 v0:=Tryz.zeroValue0,
 t3:=Tryz.underlying3,
 a3:=Tryz.isAgg3,
 z3:=Tryz.sizeOf3,
 v3:=Tryz.zeroValue3,
 t4:=Tryz.underlying4,
 a4:=Tryz.isAgg4,
 z4:=Tryz.sizeOf4,
 v4:=Tryz.zeroValue4,
 t22:=Tryz.underlying32,
 a22:=Tryz.isAgg32,
 z22:=Tryz.sizeOf32,
 v22:=Tryz.zeroValue32,
 i3:=by kernel_rfl}
theorem Qxn:QqT Tryz.prog 222:=fun a b f w e c d=>by
 have h:=calls_of_every_depth fun D=>AnyS.slices_Compact_int_in QjQ D a 0 b f w e c d
 rw[Qmu] at h
 exact h
theorem Qrq:QjR Tryz.prog 222:=fun w=>calls_of_every_depth fun D=>AnyS.slices_Compact_int_empty_in QjQ D none 0 w
theorem Qm0 (l:List Int)(a:l.length≤1000000000):FC Tryz.prog 222 [(false,[.ref 0])] [(0,some (.arr 3 .int l))] 0 (YJ 3 .int (Y3 l)):=Qr1 Qxn Qrq l a
end Go.Proofs.YtgpdhgadmjfokaaGreat
namespace Go.Proofs.YtgpdhgadmjfokaaGreat
open Go.RowKit
section
variable {E:TypeId}{e:Ty}{w:World}{f:Hdr→List e.Den}
theorem QfT:∀{l vs:List Hdr},l.Sublist vs→∀{fp:List Nat},OwnL (Own (.sl E e) w) fp (vs.map hdV) (vs.map f)→∃b,b.Sublist fp∧OwnL (Own (.sl E e) w) b (l.map hdV) (l.map f)
 | _,_, .slnil,fp,h=>⟨[],List.nil_sublist _,⟨rfl,rfl⟩⟩
 | _,_, .cons a s,fp,h=>by
  obtain ⟨k,p,c1,c2,rfl,i,j,m⟩:=h
  obtain ⟨z,rfl⟩:=QdT j
  simp only[be,cq,ci,aJ] at i
  obtain ⟨_,rfl⟩:=i
  obtain ⟨b,n,o⟩:=QfT s m
  exact ⟨b,n.trans (List.sublist_append_right ..),o⟩
 | _,_, .cons_cons a s,fp,h=>by
  obtain ⟨k,p,c1,c2,rfl,i,j,m⟩:=h
  obtain ⟨z,rfl⟩:=QdT j
  simp only[be,cq,ci,aJ] at i
  obtain ⟨q,rfl⟩:=i
  obtain ⟨b,n,o⟩:=QfT s m
  exact ⟨k++b,(List.Sublist.refl _).append n,⟨k,b,[hdV z],_,rfl,by rw[be,q]; rfl,j,o⟩⟩
end
section
variable {A:Amb}{P:Program}{s:St}{Q:Exit→St→Prop}{c:Code}
theorem Qy9 {x:Operand}{p:Nat}{E:TypeId}{e:Ty}{vs:List Hdr}{f:Hdr→List e.Den}{v:Hdr}(o:Evl A s x (.dat .vl v))(h:s.tab.ent p=some (.pl true (.sl E e) vs f))(hv:v∈vs):EvB A s x (false,[.dat (.sl E e) (f v)]):=fun b a w r=>by
 obtain ⟨_,l⟩:=r.cx.en p _ h
 have j:Rd b.N .vl w [a.eval x] v:=o b a w r
 have k:[a.eval x]=[hdV v]:=j.rep
 obtain ⟨i,q,t⟩:=Qbd l v hv
 refine ⟨_,rfl, ?_⟩
 have m:Own (.sl E e) w i [a.eval x] (f v):=by rw[k]; exact q
 exact m.rd fun g n=>r.cx.lt ⟨_,h⟩ g (t g n)
end
section
variable {A:Amb}{P:Program}{s:St}{f:FuncId}{xs:List Operand}{tys:Array TypeId}{args:List (Bool×List LV)}{d:Nat}{ty:TypeId}{pos:String}{af:Array Edge}{g:Option (Nat×Bool)}{pv:PV}
end
end Go.Proofs.YtgpdhgadmjfokaaGreat
namespace Go.Proofs.YtgpdhgadmjfokaaGreat
open Go.RowKit
def ltP:List Int→List Int→Bool
 | [],[]=>false
 | [],_ :: _=>true
 | _ :: _,[]=>false
 | x :: a,y :: b=>if x < y then true else if y < x then false else ltP a b
def QyR (x y:Int):Int:=if x < y then -1 else if y < x then 1 else 0
def Qyc:List Int→List Int→Int
 | [],[]=>0
 | [],_ :: _=> -1
 | _ :: _,[]=>1
 | x :: a,y :: b=>if QyR x y=0 then Qyc a b else QyR x y
end Go.Proofs.YtgpdhgadmjfokaaGreat
namespace Go.Proofs.YtgpdhgadmjfokaaGreat
open Go.RowKit Go.Sort Go.Shelf Go.Lib
def QzI (xs:List (List Int)):List (List Int):=xs.mergeSort fun a b=> !ltP b a
section
variable {α:Type}[Inhabited α]{enc:α→Value}{w:World}{g n:Nat}{os:Array Obj}
end
def QzC (P:Program)(f g:FuncId):Prop:=∀(α:Type) [Inhabited α] (enc:α→Value),(∀x,(enc x).oneCell'=true)→∀cf:α→α→Int,SWO (ltOf cf)→∀(blk cap:Nat) (d:Array α) (w:World),CmpLays1 P g #[] enc cf blk 0 d.size w→Holds enc w blk 0 d→
 blk < w.heap.size→d.size < 4611686018427387904→Calls P f #[.slice (some ⟨blk,0,none⟩) d.size cap, .func (.func g) #[] #[]] w fun e w'=>e= .returned (.tuple #[])∧∃d' n os,PermIn 0 d.size d d'∧SortedIn (ltOf cf) 0 d.size d'∧w'=sortWorld enc w blk 0 n d' os
def QxN (P:Program)(f:FuncId):Prop:=∀(p:Option Addr) (cap:Nat) (fv:Value) (w:World),Calls P f #[.slice p 0 cap,fv] w fun e w'=>e= .returned (.tuple #[])∧w'=w
def Qx5 (P:Program)(g:FuncId)(E:TypeId):Prop:=∀(u v:Value) (a b:List Int) (w:World),Rep (.sl E .int) w [u] a→Rep (.sl E .int) w [v] b→Calls P g #[u,v] w fun e w'=>e= .returned (.int .i64 (Qyc a b))∧w'=w
def QwY:Go.Shelf.Ren:=⟨fun | 6=>125 | 15=>224 | 14=>244 | 28=>331 | 29=>332 | 20=>347 | 21=>348 | 22=>349 | 23=>350 | 24=>351 | 25=>352 | 26=>353 | 27=>354 | 46=>426 | 47=>413 | 48=>414 | 49=>427 | 50=>428 | 57=>463 | n=>n,fun | 22=>67 | 24=>32 | 25=>154 | 3=>3 | 39=>228 | 0=>0 | 53=>305 | 55=>117 | 4=>4 | 46=>299 | 45=>298 | 50=>238 | 5=>5 | 9=>9 | 66=>366 | 70=>370 | 76=>397 | 77=>398 | n=>n,fun | n=>n⟩
end Go.Proofs.YtgpdhgadmjfokaaGreat
namespace Go.Proofs.YtgpdhgadmjfokaaGreat
open Go.RowKit
section
variable {N:Nat→Prop}{w:World}{e:Ty}
theorem FzL.len:∀{vs:List Hdr} {xs:List e.Den},FzL N w e vs xs→vs.length=xs.length
 | [],xs,h=>by rw[show xs=[] from h]; rfl
 | v :: vs,_,⟨x,r,h1,_,h3⟩=>by rw[h1,aj,aj,FzL.len h3]
theorem FzL.app:∀{vs:List Hdr} {xs:List e.Den} {a:List Hdr} {ys:List e.Den},FzL N w e vs xs→FzL N w e a ys→FzL N w e (vs++a) (xs++ys)
 | [],_,_,_,h,k=>by rw[show _=[] from h]; exact k
 | v :: vs,_,_,_,⟨x,r,h1,h2,h3⟩,k=>⟨x,r++_,by rw[h1]; rfl,h2,FzL.app h3 k⟩
theorem FzL.at:∀{vs:List Hdr} {xs:List e.Den} {j:Nat} {y:e.Den},FzL N w e vs xs→xs[j]? =some y→∃z,vs[j]? =some z∧Rd N e w [hdV z] y
 | [],_,_,_,h,hy=>by rw[show _=[] from h] at hy; cases hy
 | v :: vs,_,0,y,⟨x,r,h1,h2,h3⟩,hy=>by subst h1; cases hy; exact ⟨v,rfl,h2⟩
 | v :: vs,_,j+1,y,⟨x,r,h1,h2,h3⟩,hy=>by subst h1; exact FzL.at (j:=j) h3 hy
theorem FzL.mem:∀{vs:List Hdr} {xs:List e.Den},FzL N w e vs xs→∀v∈vs,∃x,Rd N e w [hdV v] x
 | [],_,_,_,hv=>by cases hv
 | u :: vs,_,⟨x,r,_,h2,h3⟩,v,hv=>by
  rcases aD.1 hv with rfl | hv
  ·exact ⟨x,h2⟩
  ·exact FzL.mem h3 v hv
theorem FzL.of {f:Hdr→e.Den}:∀{vs:List Hdr},(∀v∈vs,Rd N e w [hdV v] (f v))→FzL N w e vs (vs.map f)
 | [],_=>rfl
 | v :: vs,h=>⟨f v,vs.map f,rfl,h v (ax ..),FzL.of fun u a=>h u (aw _ a)⟩
theorem QxA {E:TypeId}{e:Ty}:∀{vs:List Hdr} {xs:List (List e.Den)},FzL N w (.sl E e) vs xs→vs.map (rdF E e w)=xs∧∀v∈vs,Rd N (.sl E e) w [hdV v] (rdF E e w v)
 | [],_,h=>⟨by rw[show _=[] from h]; rfl,fun _ h=>by cases h⟩
 | v :: vs,_,⟨x,r,h1,h2,h3⟩=>by
  obtain ⟨c,f⟩:=QxA h3
  have b:rdF E e w v=x:=Qew h2.rep
  refine ⟨by rw[be,c,b,h1],fun u a=> ?_⟩
  rcases aD.1 a with rfl | a
  ·rw[b]; exact h2
  ·exact f u a
end
section
variable {A:Amb}{P:Program}{s:St}
end
section
variable {A:Amb}{P:Program}{s:St}{x y:Operand}{d:Nat}{T ty:TypeId}{pos:String}{af:Array Edge}{g:Option (Nat×Bool)}
@[reducible] def Qzx (s:St) (d t:Nat) (used:List Nat) (E:TypeId) (e:Ty) (xs:List e.Den):St:=⟨(d,lf (.ref t)) :: s.tm,(t,some (.fz E e xs)) :: (K9 used++s.tab)⟩
end
end Go.Proofs.YtgpdhgadmjfokaaGreat
namespace Go.Proofs.YtgpdhgadmjfokaaGreat
open Go.RowKit
set_option maxRecDepth 100000
set_option maxHeartbeats 4000000
def swL (as_:List DAr)(l:Int×Bool):List Int:=(as_.filter fun a=>decide (a.2.1=l.1∧a.2.2.1=l.2)).map fun a=>a.2.2.2
def X8 (c:DSg)(sig:Int):Bool:=decide (0≤sig)&&decide (((c.1[sig.toNat]?).getD (ByteArray.empty,0)).2=1)
def Z3 (l:List QD)(k:Nat):List Int:=((List.range k).filter fun i=> !decide (((l[i]?).getD (ByteArray.empty,0)).2=1)).map fun i=>((i:Nat):Int)
def Yn (c:DSg):ByteArray:=if Zl (fun x:QD=>decide (x.1=(⟨#[122,48]⟩:ByteArray))) c.1 < 0 then ⟨#[122,48]⟩ else if Zl (fun x:QD=>decide (x.1=(⟨#[122,49]⟩:ByteArray))) c.1 < 0 then ⟨#[122,49]⟩ else ⟨#[122,50]⟩
section
variable {c:DSg}{l:List Int}{as_:List DAr}{a:DAr}{p:Int×Bool}{k:Nat}{n m y sig:Int}{x:QD}{ss:List QD}
theorem Qwh (p r:Int×Bool):Ty.beq Qy p r=decide (p=r):=by rw[bQ,Ty.beq_iff,decide_eq_true_iff]
theorem Qab {p r:Int×Bool}(h:Ty.beq Qy p r=true):p.1=r.1∧p.2=r.2:=by rw[(Ty.beq_iff _ _ _).1 h]; exact ⟨rfl,rfl⟩
theorem QlB {p r:Int×Bool}(h:Ty.beq Qy p r=false):¬(p.1=r.1∧p.2=r.2):=fun g=>by
 have:p=r:=dH g.1 g.2
 rw[(Ty.beq_iff _ _ _).2 this] at h; cases h
theorem Qqc {A B C:Prop}{p r:Int×Bool}[Decidable (((A∧B)∧C)∧¬p=r)](b:A)(d:B)(e:C):(!Ty.beq Qy p r)=decide (((A∧B)∧C)∧¬p=r):=by
 rw[Qwh]
 by_cases h:p=r <;> simp[h,b,d,e]
theorem Qou (e:as_[k]? =some a)(b:a.2.1=p.1)(d:a.2.2.1=p.2):swL (as_.take k) p++[a.2.2.2]=swL (as_.take (k+1)) p:=by
 unfold swL
 rw[QG e,bf,bj]; simp[b,d]
theorem QqJ (b:as_[k]? =some a)(h:¬(a.2.1=p.1∧a.2.2.1=p.2)):swL (as_.take k) p=swL (as_.take (k+1)) p:=by
 unfold swL
 rw[QG b,bf,bj]; simp[h]
theorem QuX:(swL as_ p).length≤as_.length:=by unfold swL; rw[aC]; exact bX ..
theorem UV (b:ss[k]? =some x)(h:¬x.2=1):Z3 ss k++[(k:Int)]=Z3 ss (k+1):=by
 unfold Z3
 rw[ce,bf,bj]; simp[b,h]
theorem Qbg (b:ss[k]? =some x)(h:x.2=1):Z3 ss k=Z3 ss (k+1):=by
 unfold Z3
 rw[ce,bf,bj]; simp[b,h]
theorem QbX:(Z3 ss k).length≤k:=by unfold Z3; rw[aC]; exact bl (bX ..) (by simp)
theorem U5:y∈Z3 ss k↔∃i:Nat,y=(i:Int)∧i < k∧¬((ss[i]?).getD (ByteArray.empty,0)).2=1:=by
 unfold Z3
 simp only[aR,bO,cr,bL,bH]
 constructor
 ·rintro ⟨i,⟨b,d⟩,rfl⟩; exact ⟨i,rfl,b,d⟩
 ·rintro ⟨i,rfl,b,d⟩; exact ⟨i,⟨b,d⟩,rfl⟩
theorem QhW (h:¬0≤sig):false=X8 c sig:=by unfold X8; rw[aH h]; rfl
theorem Qh0 (h:0≤sig)(b:c.1[sig.toNat]? =some x):decide (x.2=1)=X8 c sig:=by unfold X8; rw[aQ h,b]; rfl
theorem QwP (b:∀j:Nat,(j:Int) < m→∀y,l[j]? =some y→y < n)(h:l[m.toNat]? =some n):l=Z9 ltI n l:=
 (Qhb (k:=m.toNat) (fun j e y d=>by have:=b j (by omega) y d; simp[ltI,this]) h (by simp[ltI])).symm
theorem Qwo (d:∀j:Nat,(j:Int) < m→∀y,l[j]? =some y→y < n)(h0:0≤m)(e:m≤(l.length:Int))(h:∀y,l[m.toNat]? =some y→¬y < n∧y≠n):l.take m.toNat++n :: l.drop m.toNat=Z9 ltI n l:=
 (Qm9 (k:=m.toNat) (fun j f y b=>by have:=d j (by omega) y b; simp[ltI,this]) (by omega) fun y b=>by have:=h y b; simp[ltI,this]).symm
theorem Qor (d:∀j:Nat,(j:Int) < m→∀y,l[j]? =some y→y < n)(h0:0≤m)(b:m≤(l.length:Int))(h:∀y,l[m.toNat]? =some y→¬y < n∧y≠n):
 (([]++(l.take (0+m.toNat)).drop 0)++[n])++(l.take (m.toNat+(l.length - m.toNat))).drop m.toNat=Z9 ltI n l:=by
 rw[← Qwo d h0 b h,show m.toNat+(l.length - m.toNat)=l.length by omega,List.take_length]
 simp
abbrev QeV:List ByteArray:=[(⟨#[122,48]⟩:ByteArray),(⟨#[122,49]⟩:ByteArray)]
theorem Qjq {y:ByteArray}(d:∀j,j < k→∀y,QeV[j]? =some y→¬Zl (fun x:QD=>decide (x.1=y)) c.1 < 0)(b:QeV[k]? =some y)(h:Zl (fun x:QD=>decide (x.1=y)) c.1 < 0):y=Yn c:=by
 unfold Yn
 match k,b with
 | 0,b=>cases b; rw[if_pos h]
 | 1,b=>
  cases b
  rw[if_neg (d 0 (by omega) _ rfl),if_pos h]
theorem Qjr (b:∀j,j < k→∀y,QeV[j]? =some y→¬Zl (fun x:QD=>decide (x.1=y)) c.1 < 0)(d:¬(k:Int) < (QeV.length:Int)):(⟨#[122,50]⟩:ByteArray)=Yn c:=by
 have d:2≤k:=by simp only[QeV,aj,aA] at d; omega
 unfold Yn
 rw[if_neg (b 0 (by omega) _ rfl),if_neg (b 1 (by omega) _ rfl)]
end
theorem KW (l:List Int)(j:l.length≤1000000):FC Tryz.prog 110 [(false,[.ref 0])] [ar 0 3 .int l] 0 (YJ 3 .int (ofG ltI l)):=by
 refine Qt Tryz.func110 rfl rfl Tryz.ntmps110 fun h f g b i e d=> ?_
 refine w5 ?_
 refine lc (dP 1 [] (QuA l (by omega)) QmI) ?_
 refine w3 ?_
 refine lc (dP 2 [] (Qm0 (Vz l) (by rw[QcJ]; omega)) QmC) ?_
 refine w2 ?_
 refine Qd<|fo_ f ?_
 exact QtT _
theorem QcE (c:ZB)(p:KO)(B:c.2.2.length≤100000):FC Tryz.prog 478 [(true,[.dat Ql c.1, .dat Qm c.2.1, .dat Qu c.2.2]),(true,[dI p.1,dB p.2])] [] 0 (YJ 3 .int (ofG ltI (swL c.2.2 p))):=by
 refine Qt Tryz.func478 rfl rfl Tryz.ntmps478 fun z r v i A o j=> ?_
 refine acG 1 0 fun _=> ?_
 refine w_ ?_
 refine xbx 0 ?_
 refine xbx 1 ?_
 refine w3 ?_
 refine lc (dBs 2 (e:= .int) Yj) ?_
 refine w6 ?_
 refine alL 10 fun _=> ?_
 refine w4 ?_
 refine lp0 c.2.2.length (fun k=>⟨[(3,lP 1 0),(4,lf (.val (.slice none 0 0))),(5,lR 3),(10,lf (.dat Qu c.2.2)),(11,lI (c.2.2.length:Int)),(12,lI (k:Int))],[bx 1 86 [dI p.1,dB p.2],ar 3 3 .int (swL (c.2.2.take k) p)]⟩) ?_ fun k _=> ?_
 exact wp [(3,2)] ⟨rfl,(Qe (by first | rfl | simp)),trivial⟩
 have t:=QuX (as_:=c.2.2.take k) (p:=p)
 have u:(c.2.2.take k).length≤c.2.2.length:=by simp only[ap]; omega
 refine w4 ?_
 cases f:(decide ((k:Int) < (c.2.2.length:Int)))
 have g:=aa f
 refine w5 ?_
 refine lc (dP 4 [(0,3)] (KW (swL (c.2.2.take k) p) (by omega)) H7) ?_
 refine w2 ?_
 refine Qd<|fo_ r ?_
 rw[QH (by omega)]
 have g:=ab f
 refine w5 ?_
 obtain ⟨d,b⟩:=gx c.2.2 k
 refine w2 ?_
 refine lc (xal 5 Qs Zg) ?_
 refine w2 ?_
 apply dW [io 16 _,io 17 (ag [dI d.2.1,dB d.2.2.1]),io 18 _,io 19 (lB (Ty.beq Qy (d.2.1,d.2.2.1) p))] [0,0,3,0]
 refine z_ ?_
 refine zz (fun _ h=>ac (dK (Q8 d) YH) rfl) ?_
 refine z_ ?_
 refine zz (fun _ h=>ac (J2 K7 Qar (h.w rfl) (h.w rfl) (p:=(d.2.1,d.2.2.1)) (q:=p) rfl rfl rfl) rfl) ?_
 exact zN
 cases s:(Ty.beq Qy (d.2.1,d.2.2.1) p)
 refine w6 ?_
 refine Qb ?_
 refine l0_ ?_
 exact wp [] ⟨rfl,(Qe (by first | exact Qou b (Qab ‹_›).1 (Qab ‹_›).2 | exact QqJ b (QlB ‹_›))),trivial⟩
 refine w5 ?_
 refine alI 22 fun _=> ?_
 refine lc (dBs 6 (e:= .int) Yj) ?_
 refine lc (dA 7 Y4) ?_
 refine w_ ?_
 refine Qb ?_
 refine w4 ?_
 refine Qb ?_
 refine l0_ ?_
 exact wp [(3,7)] ⟨rfl,(Qe (by first | exact Qou b (Qab ‹_›).1 (Qab ‹_›).2 | exact QqJ b (QlB ‹_›))),trivial⟩
theorem UD (a:Qf5)(s:Int)(up:Bool):FC Tryz.prog 422 [(true,[dI a.1,dI a.2.1,dB a.2.2.1,dI a.2.2.2]),(false,[dI s]),(false,[dB up])] [] 0 (Q7 (lB (decide (a.2.1=s∧a.2.2.1=up)))):=by
 refine Qt Tryz.func422 rfl rfl Tryz.ntmps422 fun j e i f o h g=> ?_
 refine acG 0 0 fun _=> ?_
 refine acG 0 1 fun _=> ?_
 refine acG 0 3 fun _=> ?_
 refine acI 1 fun _=> ?_
 refine w_ ?_
 refine xbx 0 ?_
 refine w8 ?_
 cases b:(decide (a.2.1=s))
 have d:=aa b
 refine w7 ?_
 refine Qd<|fqB e ?_
 ·(cases a.2.2.1 <;> cases up <;> simp_all; done)
 have d:=ab b
 refine w3 ?_
 refine lgy rfl rfl (J6 (Qa rfl) (Qa rfl) rfl Jr) ?_
 refine w3 ?_
 refine Qd<|fqB e ?_
 ·(cases a.2.2.1 <;> cases up <;> simp_all; done)
theorem Z7 (l:List Int)(n:Int):FC Tryz.prog 285 [(false,[.dat QA l]),(false,[dI n])] [] 0 (Q7 (lB (decide (n∈l)))):=by
 refine Qt Tryz.func285 rfl rfl Tryz.ntmps285 fun w o u q z s r=> ?_
 refine acI 1 fun _=> ?_
 refine w6 ?_
 refine alL 7 fun _=> ?_
 refine w4 ?_
 refine lpK l.length (fun k=>∀j,j < k→∀y,l[j]? =some y→¬y=n) (fun k=>⟨[(1,lI n),(7,lf (.dat QA l)),(8,lI (l.length:Int)),(9,lI (k:Int))],[]⟩) ((fun j i=>absurd i (bi j))) ?_ fun k _ g=> ?_
 exact wo []
 refine w4 ?_
 cases b:(decide ((k:Int) < (l.length:Int)))
 have d:=aa b
 refine w6 ?_
 refine Qd<|fqB o ?_
 first | exact (aH fun t=>by obtain ⟨j,i⟩:=aM.1 t; exact g j (by have:=(ai.1 i).1; omega) n i rfl).symm
 have d:=ab b
 refine w5 ?_
 obtain ⟨v,h⟩:=gx l k
 refine w2 ?_
 refine alI 12 fun _=> ?_
 refine w7 ?_
 cases e:(decide (v=n))
 have f:=aa e
 refine w6 ?_
 refine Qb ?_
 refine lK_ ((YP g h ‹_›)) ?_
 exact wo []
 have f:=ab e
 refine w4 ?_
 refine Qd<|fqB o ?_
 exact (aQ (by have:=ah h; simp_all)).symm
theorem Y5 (l:List Int)(n:Int)(I:l.length≤1000000000):FC Tryz.prog 367 [(false,[.ref 0]),(false,[dI n])] [ar 0 3 .int l] 0 (YJ 3 .int (Z9 ltI n l)):=by
 refine Qt Tryz.func367 rfl rfl Tryz.ntmps367 fun G q F w H B A=> ?_
 refine acI 1 fun _=> ?_
 refine w8 ?_
 refine QL (fun u v=>∃(m:Int),u=((l.length:Int) - m).toNat∧(0≤m∧m≤(l.length:Int))∧(∀j:Nat,(j:Int) < m→∀y,l[j]? =some y→y < n)∧v=⟨[(0,lR 0),(1,lI n),(4,lf (.val (.slice none 0 0))),(5,lI m)],[ar 0 3 .int l]⟩) ⟨0,rfl,(by omega),(fun j C=>by omega),rfl⟩ ?_ ?_
 exact wo []
 rintro u v ⟨m,D,J,o,rfl⟩
 refine w7 ?_
 cases d:(decide (m < (l.length:Int)))
 have f:=aa d
 refine w16 ?_
 refine w2 ?_
 have r:(decide (m < (l.length:Int)))=false:=d
 try rw[r]
 refine w11 ?_
 refine lc (dBs 1 (e:= .int) Yj) ?_
 refine w2 ?_
 refine lc (Yp (e:= .int) (a:=0) (b:=(m).toNat) (l:=none) (h:=(some m)) (Qa rfl) rfl (by exact trivial) (by exact (Qa rfl)) Yg Yw rfl (by first | (simp only[av,ao]; omega) | omega | (simp only[av,ao,ae,ap,aF]; omega)) (by first | (simp only[av,ao]; omega) | omega | (simp only[av,ao,ae,ap,aF]; omega)) (by first | (simp only[av,ao]; omega) | omega | (simp only[av,ao,ae,ap,aF]; omega)) (by first | rfl | simp) (by first | rfl | simp))<|lc (QU 2 (Qa rfl) rfl (Ug (e:= .int) (Qa rfl) rfl (by omega)) rfl Yg Y4 (by first | omega | (simp only[ae,aC,ap,aj,aA]; omega) | (simp only[ae,bo,ap,aj,aA]; omega)) rfl (Fresh.of rfl) (nlr rfl)) ?_
 refine w5 ?_
 refine lc (dBs 3 (e:= .int) Yj) ?_
 refine lc (dA 4 Y4) ?_
 refine w6 ?_
 refine lc (Yp (e:= .int) (a:=(m).toNat) (b:=l.length - (m).toNat) (l:=(some m)) (h:=none) (Qa rfl) rfl (by exact (Qa rfl)) (by exact trivial) Yg Yw rfl (by first | (simp only[av,ao]; omega) | omega | (simp only[av,ao,ae,ap,aF]; omega)) (by first | (simp only[av,ao]; omega) | omega | (simp only[av,ao,ae,ap,aF]; omega)) (by first | (simp only[av,ao]; omega) | omega | (simp only[av,ao,ae,ap,aF]; omega)) (by first | rfl | simp) (by first | rfl | simp))<|lc (QU 5 (Qa rfl) rfl (Ug (e:= .int) (Qa rfl) rfl (by omega)) rfl Yg Y4 (by first | omega | (simp only[ae,aC,ap,aj,aA]; omega) | (simp only[ae,bo,ap,aj,aA]; omega)) rfl (Fresh.of rfl) (nlr rfl)) ?_
 refine w2 ?_
 refine Qd<|fo_ q ?_
 exact Qor o (by omega) (by omega) (fun z t=>by simp_all)
 have f:=ab d
 refine w3 ?_
 obtain ⟨y,E⟩:=gx l ((m).toNat)
 refine w5 ?_
 cases g:(decide (y < n))
 have i:=aa g
 refine w10 ?_
 have s:(decide (m < (l.length:Int)))=true:=d
 try rw[s]
 refine w8 ?_
 refine cd_ (fun _ _=> ?_) fun _ _=> ?_
 refine w2 ?_
 refine lc (dBs 6 (e:= .int) Yj) ?_
 refine w2 ?_
 refine lc (Yp (e:= .int) (a:=0) (b:=(m).toNat) (l:=none) (h:=(some m)) (Qa rfl) rfl (by exact trivial) (by exact (Qa rfl)) Yg Yw rfl (by first | (simp only[av,ao]; omega) | omega | (simp only[av,ao,ae,ap,aF]; omega)) (by first | (simp only[av,ao]; omega) | omega | (simp only[av,ao,ae,ap,aF]; omega)) (by first | (simp only[av,ao]; omega) | omega | (simp only[av,ao,ae,ap,aF]; omega)) (by first | rfl | simp) (by first | rfl | simp))<|lc (QU 7 (Qa rfl) rfl (Ug (e:= .int) (Qa rfl) rfl (by omega)) rfl Yg Y4 (by first | omega | (simp only[ae,aC,ap,aj,aA]; omega) | (simp only[ae,bo,ap,aj,aA]; omega)) rfl (Fresh.of rfl) (nlr rfl)) ?_
 refine w5 ?_
 refine lc (dBs 8 (e:= .int) Yj) ?_
 refine lc (dA 9 Y4) ?_
 refine w6 ?_
 refine lc (Yp (e:= .int) (a:=(m).toNat) (b:=l.length - (m).toNat) (l:=(some m)) (h:=none) (Qa rfl) rfl (by exact (Qa rfl)) (by exact trivial) Yg Yw rfl (by first | (simp only[av,ao]; omega) | omega | (simp only[av,ao,ae,ap,aF]; omega)) (by first | (simp only[av,ao]; omega) | omega | (simp only[av,ao,ae,ap,aF]; omega)) (by first | (simp only[av,ao]; omega) | omega | (simp only[av,ao,ae,ap,aF]; omega)) (by first | rfl | simp) (by first | rfl | simp))<|lc (QU 10 (Qa rfl) rfl (Ug (e:= .int) (Qa rfl) rfl (by omega)) rfl Yg Y4 (by first | omega | (simp only[ae,aC,ap,aj,aA]; omega) | (simp only[ae,bo,ap,aj,aA]; omega)) rfl (Fresh.of rfl) (nlr rfl)) ?_
 refine w2 ?_
 refine Qd<|fo_ q ?_
 exact Qor o (by omega) (by omega) (fun z t=>by simp_all)
 refine w4 ?_
 refine Qd<|fo_ q ?_
 exact QwP o (by simp_all)
 have i:=ab g
 refine w7 ?_
 refine Qb<|Q2 ⟨(m+1),rfl,(by omega),(fun j C z t=>by by_cases e:j=m.toNat <;> first | (subst e; simp_all; done) | exact o j (by omega) z t),rfl⟩ (by omega) ?_
 exact wo []
theorem Qfp (l:List ByteArray)(o:l.length≤1000000000):FC Tryz.prog 179 [(false,[.dat Qm l])] [] 0 (YJ 9 .str l):=by
 refine Qt Tryz.func179 rfl rfl Tryz.ntmps179 fun i g h b j f d=> ?_
 refine w4 ?_
 refine lc (dBs 0 (e:= .str) Va) ?_
 refine w_ ?_
 refine lc (QU 1 (Qa rfl) rfl (Evl.rep (Qa rfl)) rfl UF Js (by first | omega | (simp only[ae,aC,ap,aj,aA]; omega) | (simp only[ae,bo,ap,aj,aA]; omega)) rfl (Fresh.of rfl) (nlr rfl)) ?_
 refine w2 ?_
 refine Qd<|fo_ g ?_
 rfl
theorem XW (c:ZB)(sig:Int)(r:sig < (c.1.length:Int)):FC Tryz.prog 97 [(true,[.dat Ql c.1, .dat Qm c.2.1, .dat Qu c.2.2]),(false,[dI sig])] [] 0 (Q7 (lB (X8 c sig))):=by
 refine Qt Tryz.func97 rfl rfl Tryz.ntmps97 fun o f j g q i h=> ?_
 refine acI 1 fun _=> ?_
 refine w_ ?_
 refine xbx 0 ?_
 refine w6 ?_
 cases b:(decide (0≤sig))
 have d:=aa b
 refine w10 ?_
 refine Qd<|fqB f ?_
 first | exact QhW ‹_›
 have d:=ab b
 refine w3 ?_
 obtain ⟨s,e⟩:=gx c.1 ((sig).toNat)
 refine w7 ?_
 refine Qd<|fqB f ?_
 exact Qh0 ‹_› e
theorem Jb (c:ZB)(w:c.1.length≤100000):FC Tryz.prog 226 [(true,[.dat Ql c.1, .dat Qm c.2.1, .dat Qu c.2.2])] [] 0 (YJ 3 .int (Z3 c.1 c.1.length)):=by
 refine Qt Tryz.func226 rfl rfl Tryz.ntmps226 fun u r t j v q o=> ?_
 refine w_ ?_
 refine xbx 0 ?_
 refine w3 ?_
 refine lc (dBs 1 (e:= .int) Yj) ?_
 refine w6 ?_
 refine alL 8 fun _=> ?_
 refine w4 ?_
 refine lp0 c.1.length (fun k=>⟨[(2,lf (.val (.slice none 0 0))),(3,lR 2),(8,lf (.dat Ql c.1)),(9,lI (c.1.length:Int)),(10,lI (k:Int))],[ar 2 3 .int (Z3 c.1 k)]⟩) ?_ fun k _=> ?_
 exact wp [(2,1)] ⟨(Qe (rfl)),trivial⟩
 have s:=QbX (ss:=c.1) (k:=k)
 refine w4 ?_
 cases d:(decide ((k:Int) < (c.1.length:Int)))
 have f:=aa d
 refine w7 ?_
 refine Qd<|fo_ r ?_
 (congr 1; omega)
 have f:=ab d
 refine w6 ?_
 obtain ⟨i,b⟩:=gx c.1 k
 refine w2 ?_
 refine lc (xal 3 Qz WA) ?_
 refine w6 ?_
 refine alI 16 fun _=> ?_
 refine w2 ?_
 cases g:(!decide (i.2=1))
 have h:(i.2=1):=QM g
 refine w6 ?_
 refine Qb ?_
 refine l0_ ?_
 exact wp [] ⟨(Qe (by first | exact UV b ‹_› | exact Qbg b ‹_›)),trivial⟩
 have h:¬(i.2=1):=QS g
 refine w4 ?_
 refine lc (dBs 4 (e:= .int) Yj) ?_
 refine lc (dA 5 Y4) ?_
 refine w_ ?_
 refine Qb ?_
 refine w4 ?_
 refine Qb ?_
 refine l0_ ?_
 exact wp [(2,5)] ⟨(Qe (by first | exact UV b ‹_› | exact Qbg b ‹_›)),trivial⟩
theorem QbQ (c:ZB):FC Tryz.prog 420 [(true,[.dat Ql c.1, .dat Qm c.2.1, .dat Qu c.2.2])] [] 0 (Q7 (lf (dS (Yn c)))):=by
 refine Qt Tryz.func420 rfl rfl Tryz.ntmps420 fun z o w r A t s=> ?_
 refine w_ ?_
 refine xbx 0 ?_
 refine w4 ?_
 refine lc (dBs 1 (e:= .str) Va) ?_
 refine w4 ?_
 refine lpK (([(⟨#[122,48]⟩:ByteArray),(⟨#[122,49]⟩:ByteArray)]).length) (fun k=>∀j,j < k→∀y,[(⟨#[122,48]⟩:ByteArray),⟨#[122,49]⟩][j]? =some y→¬Zl (fun x:QD=>decide (x.1=y)) c.1 < 0) (fun k=>⟨[(1,lP 0 0),(5,lR 1),(6,lI (([(⟨#[122,48]⟩:ByteArray),(⟨#[122,49]⟩:ByteArray)]).length:Int)),(7,lI (k:Int))],[bx 0 27 [.dat Ql c.1, .dat Qm c.2.1, .dat Qu c.2.2],ar 1 9 .str ([(⟨#[122,48]⟩:ByteArray),(⟨#[122,49]⟩:ByteArray)])]⟩) ((fun j u=>absurd u (bi j))) ?_ fun k _ b=> ?_
 exact wo []
 have v:(([(⟨#[122,48]⟩:ByteArray),(⟨#[122,49]⟩:ByteArray)]:List ByteArray).length)=2:=rfl
 refine w4 ?_
 cases d:(decide ((k:Int) < (([(⟨#[122,48]⟩:ByteArray),(⟨#[122,49]⟩:ByteArray)]).length:Int)))
 have f:=aa d
 refine w6 ?_
 refine Qd<|fqS o ?_
 first | exact Qjr b ‹_›
 have f:=ab d
 refine w6 ?_
 obtain ⟨q,i⟩:=gx ([(⟨#[122,48]⟩:ByteArray),(⟨#[122,49]⟩:ByteArray)]) k
 refine w7 ?_
 refine lc (dK (Ke c.1 q) QeO) ?_
 refine w2 ?_
 cases g:(decide ((Zl (fun x:QD=>decide (x.1=q)) c.1) < 0))
 have h:=aa g
 refine w6 ?_
 refine Qb ?_
 refine lK_ ((YP b i ‹_›)) ?_
 exact wo []
 have h:=ab g
 refine w5 ?_
 refine Qd<|fqS o ?_
 exact Qjq b i ‹_›
theorem Qc5 (c:ZB):FC Tryz.prog 236 [(true,[.dat Ql c.1, .dat Qm c.2.1, .dat Qu c.2.2])] [] 0 (Q7 (lf (dS (Yn c)))):=by
 refine Qt Tryz.func236 rfl rfl Tryz.ntmps236 fun z o w r A t s=> ?_
 refine w_ ?_
 refine xbx 0 ?_
 refine w4 ?_
 refine lc (dBs 1 (e:= .str) Va) ?_
 refine w4 ?_
 refine lpK (([(⟨#[122,48]⟩:ByteArray),(⟨#[122,49]⟩:ByteArray)]).length) (fun k=>∀j,j < k→∀y,[(⟨#[122,48]⟩:ByteArray),⟨#[122,49]⟩][j]? =some y→¬Zl (fun x:QD=>decide (x.1=y)) c.1 < 0) (fun k=>⟨[(1,lP 0 0),(5,lR 1),(6,lI (([(⟨#[122,48]⟩:ByteArray),(⟨#[122,49]⟩:ByteArray)]).length:Int)),(7,lI (k:Int))],[bx 0 27 [.dat Ql c.1, .dat Qm c.2.1, .dat Qu c.2.2],ar 1 9 .str ([(⟨#[122,48]⟩:ByteArray),(⟨#[122,49]⟩:ByteArray)])]⟩) ((fun j u=>absurd u (bi j))) ?_ fun k _ b=> ?_
 exact wo []
 have v:(([(⟨#[122,48]⟩:ByteArray),(⟨#[122,49]⟩:ByteArray)]:List ByteArray).length)=2:=rfl
 refine w4 ?_
 cases d:(decide ((k:Int) < (([(⟨#[122,48]⟩:ByteArray),(⟨#[122,49]⟩:ByteArray)]).length:Int)))
 have f:=aa d
 refine w6 ?_
 refine Qd<|fqS o ?_
 first | exact Qjr b ‹_›
 have f:=ab d
 refine w6 ?_
 obtain ⟨q,i⟩:=gx ([(⟨#[122,48]⟩:ByteArray),(⟨#[122,49]⟩:ByteArray)]) k
 refine w7 ?_
 refine lc (dK (WT c.1 q) Qaf) ?_
 refine w2 ?_
 cases g:(decide ((Zl (fun x:QD=>decide (x.1=q)) c.1) < 0))
 have h:=aa g
 refine w6 ?_
 refine Qb ?_
 refine lK_ ((YP b i ‹_›)) ?_
 exact wo []
 have h:=ab g
 refine w5 ?_
 refine Qd<|fqS o ?_
 exact Qjq b i ‹_›
theorem Ki (c:ZB)(x:KO):FC Tryz.prog 339 [(true,[.dat Ql c.1, .dat Qm c.2.1, .dat Qu c.2.2]),(true,[dI x.1,dB x.2])] [] 0 (Q7 (lB (decide (0≤x.1∧x.1≤(c.1.length:Int) - 1)))):=by
 refine Qt Tryz.func339 rfl rfl Tryz.ntmps339 fun h f g b i e d=> ?_
 refine acG 1 0 fun _=> ?_
 refine w_ ?_
 refine xbx 0 ?_
 refine xbx 1 ?_
 refine w7 ?_
 refine alL 8 fun _=> ?_
 refine w2 ?_
 refine lc (dK (XD x.1 0 ((c.1.length:Int) - 1)) WQ) ?_
 refine w2 ?_
 refine Qd<|fqB f ?_
 rfl
theorem Qcu (c:ZB)(p:KO)(r:KO)[∀c,Decidable (SgOk c)]:FC Tryz.prog 234 [(true,[.dat Ql c.1, .dat Qm c.2.1, .dat Qu c.2.2]),(true,[dI p.1,dB p.2]),(true,[dI r.1,dB r.2])] [] 0 (Q7 (lB (decide (((SgOk c∧0≤p.1∧p.1≤(c.1.length:Int) - 1)∧(0≤r.1∧r.1≤(c.1.length:Int) - 1))∧¬p=r)))):=by
 refine Qt Tryz.func234 rfl rfl Tryz.ntmps234 fun v j u o w t s=> ?_
 refine acG 1 0 fun _=> ?_
 refine acG 2 0 fun _=> ?_
 refine w_ ?_
 refine xbx 0 ?_
 refine xbx 1 ?_
 refine xbx 2 ?_
 refine w4 ?_
 refine lc (dK (YO c) WZ) ?_
 refine w_ ?_
 cases b:(decide (SgOk c))
 have d:=aa b
 refine w16 ?_
 refine Qd<|fqB j ?_
 exact (aH fun g=>absurd g.1.1.1 ‹_›).symm
 have d:=ab b
 refine w2 ?_
 refine lgy rfl rfl (dK (Ki c p) Qe6) ?_
 refine w2 ?_
 cases e:(decide (0≤p.1∧p.1≤(c.1.length:Int) - 1))
 have f:=aa e
 refine w11 ?_
 refine Qd<|fqB j ?_
 exact (aH fun g=>absurd g.1.1.2 ‹_›).symm
 have f:=ab e
 refine w2 ?_
 refine lgy rfl rfl (dK (Ki c r) Qe6) ?_
 refine w2 ?_
 cases h:(decide (0≤r.1∧r.1≤(c.1.length:Int) - 1))
 have i:=aa h
 refine w6 ?_
 refine Qd<|fqB j ?_
 exact (aH fun g=>absurd g.1.2 ‹_›).symm
 have i:=ab h
 refine w2 ?_
 refine lgy rfl rfl (VK K7 Qar (Qo rfl) (Qo rfl) (p:=p) (q:=r) rfl rfl rfl) ?_
 refine w3 ?_
 refine Qd<|fqB j ?_
 exact Qqc ‹_› ‹_› ‹_›
end Go.Proofs.YtgpdhgadmjfokaaGreat
