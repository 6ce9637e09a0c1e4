/- slices.Sort and slices.Compact of numbers, by the library's contracts. -/
import Derived.Test.YtgpdhgadmjfokaaGreatWk
import Derived.Test.YtgpdhgadmjfokaaGreatAx
import Derived.Shelf.Lays
import Derived.Shelf.Lays2
import Derived.Shelf.Slices.In.SortNone
import Derived.Shelf.Slices.In.CompactI
import Derived.Test.YtgpdhgadmjfokaaGreatApp
import Derived.Shelf.SlSortCmp.NoneTotal
import Derived.Shelf.SlLaysF
set_option linter.unusedSimpArgs false
set_option linter.unusedVariables false
set_option linter.unusedSectionVars false
namespace Go.Proofs.YtgpdhgadmjfokaaGreat
open Go.RowKit
section
variable {α:Type}[DecidableEq α][Inhabited α]
omit [Inhabited α] in
theorem QeM (y:α):∀l:List α,YD (l++[y])=YD l++(if l.getLast? =some y then [] else [y])
 | []=>by simp[YD]
 | [x]=>by
  by_cases h:x=y
  ·simp[YD,h]
  ·simp[YD,h]
 | x :: z :: l=>by
  have b:=QeM y (z :: l)
  have a:(x :: z :: l).getLast? =(z :: l).getLast? :=by simp
  rw[a]
  show (if x=z then YD ((z :: l)++[y]) else x :: YD ((z :: l)++[y]))=(if x=z then YD (z :: l) else x :: YD (z :: l))++_
  rw[b]
  split <;> simp
theorem Ht (zs:List α):∀m,m≤zs.length→Lib.compactUpTo zs.toArray m=YD (zs.take m)
 | 0,_=>by simp[Lib.compactUpTo,YD]
 | m+1,hm=>by
  have d:zs[m]? =some zs[m]:=aj (by omega)
  have c:(zs.toArray)[m]! =zs[m]:=by rw[getElem!_pos _ m (by simp; omega)]; simp
  rw[Lib.compactUpTo_succ,Ht zs m (by omega),QI d,QeM,c]
  refine congrArg _ ?_
  cases m with
  | zero=>simp[Lib.keeps]
  | succ k=>
   have a:(zs.toArray)[k]! =zs[k]:=by rw[getElem!_pos _ k (by simp; omega)]; simp
   have f:(zs.take (k+1)).getLast? =some zs[k]:=by
    rw[List.getLast?_eq_getElem?,au,show min (k+1) zs.length - 1=k by omega,List.getElem?_take_of_lt (by omega)]
    exact aj (by omega)
   rw[f]
   have b:Lib.keeps zs.toArray (k+1)= !decide (zs[k]=zs[k+1]):=by
    unfold Lib.keeps
    rw[c,show k+1 - 1=k from rfl,a]
    by_cases e:zs[k]=zs[k+1]
    ·simp[e]
    ·simp[e,Ne.symm e]
   rw[b]
   by_cases e:zs[k]=zs[k+1]
   ·simp[e]
   ·simp[e]
theorem Qih (zs:List α):Lib.compact zs=YD zs:=by
 have:=Ht zs zs.length (aM _)
 rw[List.take_length] at this
 exact this
omit [Inhabited α] in
theorem QgB:∀l:List α,(YD l).length≤l.length
 | []=>aM _
 | [_]=>aM _
 | x :: y :: l=>by
  have:=QgB (y :: l)
  unfold YD
  split
  ·simp only[ap] at*; omega
  ·simp only[ap] at*; omega
end
def QnT (P:Program)(f:FuncId):Prop:=∀(blk cap:Nat) (zs:List Int) (w:World),Sort.Holds (Value.int .i64) w blk 0 zs.toArray→zs.length≤9223372036854775807→zs.length≤cap→
 Calls P f #[.slice (some ⟨blk,0,none⟩) zs.length cap] w fun e w'=>e= .returned (.slice (some ⟨blk,0,none⟩) (YD zs).length cap)∧∃q,w'=Sort.putRow (Value.int .i64) (Sort.ahead w q) blk 0 (YD zs++List.replicate (zs.length - (YD zs).length) 0).toArray
def QgF (P:Program)(f:FuncId):Prop:=∀w:World,Calls P f #[.slice none 0 0] w fun e w'=>e= .returned (.slice none 0 0)∧w'=w
theorem QoX {P:Program}{f:FuncId}{E:TypeId}(U:QnT P f)(R:QgF P f)(xs:List Int)(hl:xs.length≤1000000000):FC P f [(false,[.ref 0])] [(0,some (.arr E .int xs))] 0 (XD E .int (YD xs)):=fun u w vs A V=>by
 obtain ⟨v,a0,rfl,⟨l,D,C⟩,rfl⟩:=V
 simp only[aF,and_true] at D
 subst D
 have hv:v=u.h 0:=C ⟨_,rfl⟩
 subst hv
 have S:Own (.sl E .int) w (u.f 0) [u.h 0] xs:=A.en 0 _ rfl
 have a:∀(y:List Int) q,Tab.al [(0,some (Ent.arr E .int y))] q→q=0:=fun y q ⟨e,b⟩=>by
  rw[Qd] at b
  split at b
  ·assumption
  ·cases b
 rcases S with ⟨p,o,G⟩ | ⟨g,j,z,fps,p,o,H,Y,k,F,K⟩
 ·simp only[aF,and_true] at o
  subst G
  rw[o]
  refine Calls.mono (R w) fun e w' b=> ?_
  obtain ⟨rfl,rfl⟩:=b
  refine ⟨_,_,_,u,rfl,⟨rfl,rfl⟩,⟨fun q e b=> ?_,fun q J d t s=>absurd ((a _ q d).trans (a _ J t).symm) s,fun q d=> ?_,fun q d g i=> ?_,fun g i=>A.nl g i⟩,⟨_,rfl,fun _=>o.symm⟩,
   ⟨Q6 _,fun _ _ _=>rfl,fun g i=> .inl i,fun q d g i=> ?_⟩,fun q h _=>absurd h (bk _)⟩
  ·rw[Qd] at b
   split at b
   ·rename_i B; subst B; cases b
    exact .inl ⟨p,by rw[o],rfl⟩
   ·cases b
  ·rw[a _ q d,p]; exact bC
  ·rw[a _ q d,p] at i; cases i
  ·rw[a _ q d,p] at i; cases i
 ·simp only[aF,and_true] at o
  rw[cv] at K
  obtain ⟨rfl,ht,Z⟩:=H8 K
  have i:g < w.heap.size:=(bA.1 H).1
  rw[o]
  have X:xs.length≤9223372036854775807:=by unfold maxLen at k; omega
  refine Calls.mono (U g j xs w (holds_of_blockI H ht) X Y) fun e w' b=> ?_
  obtain ⟨rfl,n,rfl⟩:=b
  have W:=QgB xs
  have L:(YD xs++List.replicate (xs.length - (YD xs).length) (0:Int)).length=xs.length:=by simp; omega
  generalize T:YD xs++List.replicate (xs.length - (YD xs).length) (0:Int)=row at*
  have r:Sort.putRow (Value.int .i64) (Sort.ahead w n) g 0 row.toArray=Sort.grow (Sort.putRow (Value.int .i64) (Sort.ahead w n) g 0 row.toArray) #[]:=(Sort.grow_empty _).symm
  rw[r]
  obtain ⟨k1,k2,k3,M,k5⟩:=grownBy_sortedI (w:=w) (g:=g) (n:=n) (os:= #[]) row.toArray
  have O:∀x:Int,x∈YD xs→x∈xs:=fun x G=>U8.1 G
  refine ⟨_,_,_,⟨fun _=> .slice (some ⟨g,0,none⟩) (YD xs).length j,u.f,u.N⟩,rfl,⟨rfl,rfl⟩,⟨fun q e b=> ?_,fun q J d t s=>absurd ((a _ q d).trans (a _ J t).symm) s,fun q d=> ?_,fun q d m c=> ?_,fun m c=>bn (A.nl m c) M⟩,⟨_,rfl,fun _=>rfl⟩,
   ⟨⟨k1,k2,k3,M⟩,fun m C Q=> ?_,fun m C=> .inl C,fun q d m c=> ?_⟩,fun q h _=>absurd h (bk _)⟩
  ·rw[Qd] at b
   split at b
   ·rename_i B; subst B; cases b
    refine .inr ⟨g,j,_,[],p,rfl,heap_sortedI _ H,by omega,k,by simpa [Sort.putCells] using F, ?_⟩
    show OwnL (Own .int _) [] (List.take ((YD xs).length*1) _) (YD xs)
    have I:=take_putCellsI z row (by have:z.size=j*1:=F; omega)
    rw[cv,show (YD xs).length=min (YD xs).length row.length by omega,← List.take_take,I,← List.map_take,← T,List.take_left' rfl]
    exact Qe1 fun x G=>Z x (O x G)
   ·cases b
  ·rw[a _ q d]; exact A.nd 0 ⟨_,rfl⟩
  ·rw[a _ q d] at c; exact A.no 0 ⟨_,rfl⟩ m c
  ·exact k5 m C fun B=>Q 0 ⟨_,rfl⟩ (by rw[p]; cases B; exact ax ..)
  ·rw[a _ q d] at c; exact .inr ⟨0,⟨_,rfl⟩,c⟩
def Qmk:Go.Shelf.Ren:=⟨fun | 189=>221 | 125=>224 | 257=>321 | 128=>331 | 129=>332 | 294=>403 | 295=>404 | 296=>405 | 297=>406 | 298=>407 | 299=>408 | 216=>409 | 300=>410 | 301=>411 | 328=>456 | 329=>413 | 330=>414 | 331=>457 | 332=>458 | 215=>355 | 343=>477 | n=>n,fun | 28=>32 | 3=>3 | 46=>228 | 0=>0 | 51=>305 | 53=>117 | 4=>4 | 183=>299 | 182=>298 | 131=>238 | 5=>5 | 9=>9 | 218=>366 | 222=>370 | 228=>397 | 229=>398 | n=>n,fun | n=>n⟩
theorem Qrl:Go.Proofs.Lays.n189 Tryz.prog Qmk:={
 mixed:=by kernel_rfl,
 f125:=Tryz.func224.trans (congrArg some (by kernel_rfl)),
 f128:=Tryz.func331.trans (congrArg some (by kernel_rfl)),
 f129:=Tryz.func332.trans (congrArg some (by kernel_rfl)),
 f189:=Tryz.func221.trans (congrArg some (by kernel_rfl)),
 f215:=Tryz.func355.trans (congrArg some (by kernel_rfl)),
 f216:=Tryz.func409.trans (congrArg some (by kernel_rfl)),
 f257:=Tryz.func321.trans (congrArg some (by kernel_rfl)),
 f294:=Tryz.func403.trans (congrArg some (by kernel_rfl)),
 f295:=Tryz.func404.trans (congrArg some (by kernel_rfl)),
 f296:=Tryz.func405.trans (congrArg some (by kernel_rfl)),
 f297:=Tryz.func406.trans (congrArg some (by kernel_rfl)),
 f298:=Tryz.func407.trans (congrArg some (by kernel_rfl)),
 f299:=Tryz.func408.trans (congrArg some (by kernel_rfl)),
 f300:=Tryz.func410.trans (congrArg some (by kernel_rfl)),
 f301:=Tryz.func411.trans (congrArg some (by kernel_rfl)),
 f328:=Tryz.func456.trans (congrArg some (by kernel_rfl)),
 f329:=Tryz.func413.trans (congrArg some (by kernel_rfl)),
 f330:=Tryz.func414.trans (congrArg some (by kernel_rfl)),
 f331:=Tryz.func457.trans (congrArg some (by kernel_rfl)),
 f332:=Tryz.func458.trans (congrArg some (by kernel_rfl)),
 f343:=Tryz.func477.trans (congrArg some (by kernel_rfl)),
 t0:=Tryz.underlying0,
 a0:=Tryz.isAgg0,
 z0:=Tryz.sizeOf0,
 v0:=Tryz.zeroValue0,
 t3:=Tryz.underlying3,
 a3:=Tryz.isAgg3,
 z3:=Tryz.sizeOf3,
 v3:=Tryz.zeroValue3,
 t4:=Tryz.underlying4,
 a4:=Tryz.isAgg4,
 z4:=Tryz.sizeOf4,
 v4:=Tryz.zeroValue4,
 t5:=Tryz.underlying5,
 a5:=Tryz.isAgg5,
 z5:=Tryz.sizeOf5,
 v5:=Tryz.zeroValue5,
 t9:=Tryz.underlying9,
 a9:=Tryz.isAgg9,
 z9:=Tryz.sizeOf9,
 v9:=Tryz.zeroValue9,
 t28:=Tryz.underlying32,
 a28:=Tryz.isAgg32,
 z28:=Tryz.sizeOf32,
 v28:=Tryz.zeroValue32,
 t46:=Tryz.underlying228,
 a46:=Tryz.isAgg228,
 z46:=Tryz.sizeOf228,
 v46:=Tryz.zeroValue228,
 t51:=Tryz.underlying305,
 a51:=Tryz.isAgg305,
 z51:=Tryz.sizeOf305,
 v51:=Tryz.zeroValue305,
 t53:=Tryz.underlying117,
 a53:=Tryz.isAgg117,
 z53:=Tryz.sizeOf117,
 v53:=Tryz.zeroValue117,
 t131:=Tryz.underlying238,
 a131:=Tryz.isAgg238,
 z131:=Tryz.sizeOf238,
 v131:=Tryz.zeroValue238,
 t182:=Tryz.underlying298,
 a182:=Tryz.isAgg298,
 z182:=Tryz.sizeOf298,
 v182:=Tryz.zeroValue298,
 t183:=Tryz.underlying299,
 a183:=Tryz.isAgg299,
 z183:=Tryz.sizeOf299,
 v183:=Tryz.zeroValue299,
 t218:=Tryz.underlying366,
 a218:=Tryz.isAgg366,
 z218:=Tryz.sizeOf366,
 v218:=Tryz.zeroValue366,
 t222:=Tryz.underlying370,
 a222:=Tryz.isAgg370,
 z222:=Tryz.sizeOf370,
 v222:=Tryz.zeroValue370,
 t228:=Tryz.underlying397,
 a228:=Tryz.isAgg397,
 z228:=Tryz.sizeOf397,
 v228:=Tryz.zeroValue397,
 t229:=Tryz.underlying398,
 a229:=Tryz.isAgg398,
 z229:=Tryz.sizeOf398,
 v229:=Tryz.zeroValue398}
theorem Qs5:Qnf Tryz.prog 221:=fun a b f w c d e=>calls_of_every_depth fun D=>AnyS.slices_Sort_int_in Qrl D a 0 b f w c d e
theorem QoA:HH Tryz.prog 221:=fun w=>Calls.mono (Any.slices_Sort_int_none Qrl none 0 w) fun _ _ ⟨a,b⟩=>⟨a,b▸QS _⟩
theorem Qqy (l:List Int)(a:l.length≤1000000000):FC Tryz.prog 221 [(false,[.ref 0])] [(0,some (.arr 3 .int l))] 1 (Is (.tup []) [(0,some (.arr 3 .int (WD l)))]):=QoB Qs5 QoA l a
def Qft:Go.Shelf.Ren:=⟨fun | 20=>222 | n=>n,fun | 22=>32 | 3=>3 | 4=>4 | 0=>0 | n=>n,fun | n=>n⟩
theorem Qgq:Go.Proofs.Lays2.n20 Tryz.prog Qft:={
 mixed:=by kernel_rfl,
 f20:=Tryz.func222.trans (congrArg some (by kernel_rfl)),
 t0:=Tryz.underlying0,
 a0:=Tryz.isAgg0,
 z0:=Tryz.sizeOf0,
 v0:=Tryz.zeroValue0,
 t3:=Tryz.underlying3,
 a3:=Tryz.isAgg3,
 z3:=Tryz.sizeOf3,
 v3:=Tryz.zeroValue3,
 t4:=Tryz.underlying4,
 a4:=Tryz.isAgg4,
 z4:=Tryz.sizeOf4,
 v4:=Tryz.zeroValue4,
 t22:=Tryz.underlying32,
 a22:=Tryz.isAgg32,
 z22:=Tryz.sizeOf32,
 v22:=Tryz.zeroValue32,
 i3:=by kernel_rfl}
theorem QsV:QnT Tryz.prog 222:=fun a b f w e c d=>by
 have h:=calls_of_every_depth fun D=>AnyS.slices_Compact_int_in Qgq D a 0 b f w e c d
 rw[Qih] at h
 exact h
theorem Qn7:QgF Tryz.prog 222:=fun w=>calls_of_every_depth fun D=>AnyS.slices_Compact_int_empty_in Qgq D none 0 w
theorem Qjo (l:List Int)(a:l.length≤1000000000):FC Tryz.prog 222 [(false,[.ref 0])] [(0,some (.arr 3 .int l))] 0 (XD 3 .int (YD l)):=QoX QsV Qn7 l a
end Go.Proofs.YtgpdhgadmjfokaaGreat
namespace Go.Proofs.YtgpdhgadmjfokaaGreat
open Go.RowKit
section
variable {E:TypeId}{e:Ty}{w:World}{f:Hdr→List e.Den}
theorem QcF:∀{l vs:List Hdr},l.Sublist vs→∀{fp:List Nat},OwnL (Own (.sl E e) w) fp (vs.map hdV) (vs.map f)→∃b,b.Sublist fp∧OwnL (Own (.sl E e) w) b (l.map hdV) (l.map f)
 | _,_, .slnil,fp,h=>⟨[],List.nil_sublist _,⟨rfl,rfl⟩⟩
 | _,_, .cons a s,fp,h=>by
  obtain ⟨k,p,c1,c2,rfl,i,j,m⟩:=h
  obtain ⟨z,rfl⟩:=QbO j
  simp only[aZ,bX,bS,aF] at i
  obtain ⟨_,rfl⟩:=i
  obtain ⟨b,n,o⟩:=QcF s m
  exact ⟨b,n.trans (List.sublist_append_right ..),o⟩
 | _,_, .cons_cons a s,fp,h=>by
  obtain ⟨k,p,c1,c2,rfl,i,j,m⟩:=h
  obtain ⟨z,rfl⟩:=QbO j
  simp only[aZ,bX,bS,aF] at i
  obtain ⟨q,rfl⟩:=i
  obtain ⟨b,n,o⟩:=QcF s m
  exact ⟨k++b,(List.Sublist.refl _).append n,⟨k,b,[hdV z],_,rfl,by rw[aZ,q]; rfl,j,o⟩⟩
end
section
variable {A:Amb}{P:Program}{s:St}{Q:Exit→St→Prop}{c:Code}
theorem Qu4 {x:Operand}{p:Nat}{E:TypeId}{e:Ty}{vs:List Hdr}{f:Hdr→List e.Den}{v:Hdr}(o:Evl A s x (.dat .vl v))(h:s.tab.ent p=some (.pl true (.sl E e) vs f))(hv:v∈vs):EvB A s x (false,[.dat (.sl E e) (f v)]):=fun b a w r=>by
 obtain ⟨_,l⟩:=r.cx.en p _ h
 have j:Rd b.N .vl w [a.eval x] v:=o b a w r
 have k:[a.eval x]=[hdV v]:=j.rep
 obtain ⟨i,q,t⟩:=Qfq l v hv
 refine ⟨_,rfl, ?_⟩
 have m:Own (.sl E e) w i [a.eval x] (f v):=by rw[k]; exact q
 exact m.rd fun g n=>r.cx.lt ⟨_,h⟩ g (t g n)
end
section
variable {A:Amb}{P:Program}{s:St}{f:FuncId}{xs:List Operand}{tys:Array TypeId}{args:List (Bool×List LV)}{d:Nat}{ty:TypeId}{pos:String}{af:Array Edge}{g:Option (Nat×Bool)}{pv:PV}
end
end Go.Proofs.YtgpdhgadmjfokaaGreat
namespace Go.Proofs.YtgpdhgadmjfokaaGreat
open Go.RowKit
def ltP:List Int→List Int→Bool
 | [],[]=>false
 | [],_ :: _=>true
 | _ :: _,[]=>false
 | x :: a,y :: b=>if x < y then true else if y < x then false else ltP a b
def QtO (x y:Int):Int:=if x < y then -1 else if y < x then 1 else 0
def QuB:List Int→List Int→Int
 | [],[]=>0
 | [],_ :: _=> -1
 | _ :: _,[]=>1
 | x :: a,y :: b=>if QtO x y=0 then QuB a b else QtO x y
end Go.Proofs.YtgpdhgadmjfokaaGreat
namespace Go.Proofs.YtgpdhgadmjfokaaGreat
open Go.RowKit Go.Sort Go.Shelf Go.Lib
def QvV (xs:List (List Int)):List (List Int):=xs.mergeSort fun a b=> !ltP b a
section
variable {α:Type}[Inhabited α]{enc:α→Value}{w:World}{g n:Nat}{os:Array Obj}
end
def QvN (P:Program)(f g:FuncId):Prop:=∀(α:Type) [Inhabited α] (enc:α→Value),(∀x,(enc x).oneCell'=true)→∀cf:α→α→Int,SWO (ltOf cf)→∀(blk cap:Nat) (d:Array α) (w:World),CmpLays1 P g #[] enc cf blk 0 d.size w→Holds enc w blk 0 d→
 blk < w.heap.size→d.size < 4611686018427387904→Calls P f #[.slice (some ⟨blk,0,none⟩) d.size cap, .func (.func g) #[] #[]] w fun e w'=>e= .returned (.tuple #[])∧∃d' n os,PermIn 0 d.size d d'∧SortedIn (ltOf cf) 0 d.size d'∧w'=sortWorld enc w blk 0 n d' os
def Qtt (P:Program)(f:FuncId):Prop:=∀(p:Option Addr) (cap:Nat) (fv:Value) (w:World),Calls P f #[.slice p 0 cap,fv] w fun e w'=>e= .returned (.tuple #[])∧w'=w
def Qub (P:Program)(g:FuncId)(E:TypeId):Prop:=∀(u v:Value) (a b:List Int) (w:World),Rep (.sl E .int) w [u] a→Rep (.sl E .int) w [v] b→Calls P g #[u,v] w fun e w'=>e= .returned (.int .i64 (QuB a b))∧w'=w
def QrI:Go.Shelf.Ren:=⟨fun | 6=>125 | 15=>224 | 14=>244 | 28=>331 | 29=>332 | 20=>347 | 21=>348 | 22=>349 | 23=>350 | 24=>351 | 25=>352 | 26=>353 | 27=>354 | 46=>426 | 47=>413 | 48=>414 | 49=>427 | 50=>428 | 57=>463 | n=>n,fun | 22=>67 | 24=>32 | 25=>154 | 3=>3 | 39=>228 | 0=>0 | 53=>305 | 55=>117 | 4=>4 | 46=>299 | 45=>298 | 50=>238 | 5=>5 | 9=>9 | 66=>366 | 70=>370 | 76=>397 | 77=>398 | n=>n,fun | n=>n⟩
end Go.Proofs.YtgpdhgadmjfokaaGreat
namespace Go.Proofs.YtgpdhgadmjfokaaGreat
open Go.RowKit
section
variable {N:Nat→Prop}{w:World}{e:Ty}
theorem FzL.len:∀{vs:List Hdr} {xs:List e.Den},FzL N w e vs xs→vs.length=xs.length
 | [],xs,h=>by rw[show xs=[] from h]; rfl
 | v :: vs,_,⟨x,r,h1,_,h3⟩=>by rw[h1,ap,ap,FzL.len h3]
theorem FzL.app:∀{vs:List Hdr} {xs:List e.Den} {a:List Hdr} {ys:List e.Den},FzL N w e vs xs→FzL N w e a ys→FzL N w e (vs++a) (xs++ys)
 | [],_,_,_,h,k=>by rw[show _=[] from h]; exact k
 | v :: vs,_,_,_,⟨x,r,h1,h2,h3⟩,k=>⟨x,r++_,by rw[h1]; rfl,h2,FzL.app h3 k⟩
theorem FzL.at:∀{vs:List Hdr} {xs:List e.Den} {j:Nat} {y:e.Den},FzL N w e vs xs→xs[j]? =some y→∃z,vs[j]? =some z∧Rd N e w [hdV z] y
 | [],_,_,_,h,hy=>by rw[show _=[] from h] at hy; cases hy
 | v :: vs,_,0,y,⟨x,r,h1,h2,h3⟩,hy=>by subst h1; cases hy; exact ⟨v,rfl,h2⟩
 | v :: vs,_,j+1,y,⟨x,r,h1,h2,h3⟩,hy=>by subst h1; exact FzL.at (j:=j) h3 hy
theorem FzL.mem:∀{vs:List Hdr} {xs:List e.Den},FzL N w e vs xs→∀v∈vs,∃x,Rd N e w [hdV v] x
 | [],_,_,_,hv=>by cases hv
 | u :: vs,_,⟨x,r,_,h2,h3⟩,v,hv=>by
  rcases aB.1 hv with rfl | hv
  ·exact ⟨x,h2⟩
  ·exact FzL.mem h3 v hv
theorem FzL.of {f:Hdr→e.Den}:∀{vs:List Hdr},(∀v∈vs,Rd N e w [hdV v] (f v))→FzL N w e vs (vs.map f)
 | [],_=>rfl
 | v :: vs,h=>⟨f v,vs.map f,rfl,h v (ax ..),FzL.of fun u a=>h u (av _ a)⟩
theorem QsN {E:TypeId}{e:Ty}:∀{vs:List Hdr} {xs:List (List e.Den)},FzL N w (.sl E e) vs xs→vs.map (rdF E e w)=xs∧∀v∈vs,Rd N (.sl E e) w [hdV v] (rdF E e w v)
 | [],_,h=>⟨by rw[show _=[] from h]; rfl,fun _ h=>by cases h⟩
 | v :: vs,_,⟨x,r,h1,h2,h3⟩=>by
  obtain ⟨c,f⟩:=QsN h3
  have b:rdF E e w v=x:=Qc4 h2.rep
  refine ⟨by rw[aZ,c,b,h1],fun u a=> ?_⟩
  rcases aB.1 a with rfl | a
  ·rw[b]; exact h2
  ·exact f u a
end
section
variable {A:Amb}{P:Program}{s:St}
end
section
variable {A:Amb}{P:Program}{s:St}{x y:Operand}{d:Nat}{T ty:TypeId}{pos:String}{af:Array Edge}{g:Option (Nat×Bool)}
@[reducible] def QvG (s:St) (d t:Nat) (used:List Nat) (E:TypeId) (e:Ty) (xs:List e.Den):St:=⟨(d,lf (.ref t)) :: s.tm,(t,some (.fz E e xs)) :: (UR used++s.tab)⟩
end
end Go.Proofs.YtgpdhgadmjfokaaGreat
namespace Go.Proofs.YtgpdhgadmjfokaaGreat
open Go.RowKit
set_option maxRecDepth 100000
set_option maxHeartbeats 4000000
def swL (as_:List DAr)(l:Int×Bool):List Int:=(as_.filter fun a=>decide (a.2.1=l.1∧a.2.2.1=l.2)).map fun a=>a.2.2.2
def K5 (c:DSg)(sig:Int):Bool:=decide (0≤sig)&&decide (((c.1[sig.toNat]?).getD (ByteArray.empty,0)).2=1)
def QoC (l:List QB)(k:Nat):List Int:=((List.range k).filter fun i=> !decide (((l[i]?).getD (ByteArray.empty,0)).2=1)).map fun i=>((i:Nat):Int)
def Qvy (c:DSg):ByteArray:=if ZD (fun x:QB=>decide (x.1=(⟨#[122,48]⟩:ByteArray))) c.1 < 0 then ⟨#[122,48]⟩ else if ZD (fun x:QB=>decide (x.1=(⟨#[122,49]⟩:ByteArray))) c.1 < 0 then ⟨#[122,49]⟩ else ⟨#[122,50]⟩
section
variable {c:DSg}{l:List Int}{as_:List DAr}{a:DAr}{p:Int×Bool}{k:Nat}{n m y sig:Int}{x:QB}{ss:List QB}
theorem QuA (p r:Int×Bool):Ty.beq Qv p r=decide (p=r):=by rw[ce,Ty.beq_iff,decide_eq_true_iff]
theorem Qfr (h:¬0≤sig):false=K5 c sig:=by unfold K5; rw[aI h]; rfl
theorem Qe8 (h:0≤sig)(b:c.1[sig.toNat]? =some x):decide (x.2=1)=K5 c sig:=by unfold K5; rw[aT h,b]; rfl
theorem Qsm (b:∀j:Nat,(j:Int) < m→∀y,l[j]? =some y→y < n)(h:l[m.toNat]? =some n):l=ZY ltI n l:=
 (Qei (k:=m.toNat) (fun j e y d=>by have:=b j (by omega) y d; simp[ltI,this]) h (by simp[ltI])).symm
theorem QsG (d:∀j:Nat,(j:Int) < m→∀y,l[j]? =some y→y < n)(h0:0≤m)(e:m≤(l.length:Int))(h:∀y,l[m.toNat]? =some y→¬y < n∧y≠n):l.take m.toNat++n :: l.drop m.toNat=ZY ltI n l:=
 (QkV (k:=m.toNat) (fun j f y b=>by have:=d j (by omega) y b; simp[ltI,this]) (by omega) fun y b=>by have:=h y b; simp[ltI,this]).symm
theorem QjN (d:∀j:Nat,(j:Int) < m→∀y,l[j]? =some y→y < n)(h0:0≤m)(b:m≤(l.length:Int))(h:∀y,l[m.toNat]? =some y→¬y < n∧y≠n):
 (([]++(l.take (0+m.toNat)).drop 0)++[n])++(l.take (m.toNat+(l.length - m.toNat))).drop m.toNat=ZY ltI n l:=by
 rw[← QsG d h0 b h,show m.toNat+(l.length - m.toNat)=l.length by omega,List.take_length]
 simp
abbrev QvD:List ByteArray:=[(⟨#[122,48]⟩:ByteArray),(⟨#[122,49]⟩:ByteArray)]
end
theorem Qfg (l:List Int)(j:l.length≤1000000):FC Tryz.prog 110 [(false,[.ref 0])] [ar 0 3 .int l] 0 (XD 3 .int (ofG ltI l)):=by
 refine Qu Tryz.func110 rfl rfl Tryz.ntmps110 fun h f g b i e d=> ?_
 refine w5 ?_
 refine lc (dP 1 [] (Qqy l (by omega)) QiH) ?_
 refine w3 ?_
 refine lc (dP 2 [] (Qjo (WD l) (by rw[HS]; omega)) QhJ) ?_
 refine w2 ?_
 refine Qe<|fo_ f ?_
 exact QpO _
theorem Jo (a:QeQ)(s:Int)(e:Bool):FC Tryz.prog 422 [(true,[dI a.1,dI a.2.1,dB a.2.2.1,dI a.2.2.2]),(false,[dI s]),(false,[dB e])] [] 0 (Q7 (lB (decide (a.2.1=s∧a.2.2.1=e)))):=by
 refine Qu Tryz.func422 rfl rfl Tryz.ntmps422 fun o f j g q i h=> ?_
 refine acG 0 0 fun _=> ?_
 refine acG 0 1 fun _=> ?_
 refine acG 0 3 fun _=> ?_
 refine acI 1 fun _=> ?_
 refine w_ ?_
 refine xbx 0 ?_
 refine w8 ?_
 cases b:(decide (a.2.1=s))
 have d:=aa b
 refine w7 ?_
 refine Qe<|fqB f ?_
 ·(cases a.2.2.1 <;> cases e <;> simp_all; done)
 have d:=ab b
 refine w3 ?_
 refine lgy rfl rfl (KQ (Qa rfl) (Qa rfl) rfl Wp) ?_
 refine w3 ?_
 refine Qe<|fqB f ?_
 ·(cases a.2.2.1 <;> cases e <;> simp_all; done)
theorem Yg (l:List Int)(n:Int):FC Tryz.prog 285 [(false,[.dat QO l]),(false,[dI n])] [] 0 (Q7 (lB (decide (n∈l)))):=by
 refine Qu Tryz.func285 rfl rfl Tryz.ntmps285 fun w o u q z s r=> ?_
 refine acI 1 fun _=> ?_
 refine w6 ?_
 refine alL 7 fun _=> ?_
 refine w4 ?_
 refine lpK l.length (fun k=>∀j,j < k→∀y,l[j]? =some y→¬y=n) (fun k=>⟨[(1,lI n),(7,lf (.dat QO l)),(8,lI (l.length:Int)),(9,lI (k:Int))],[]⟩) ((fun j i=>absurd i (bk j))) ?_ fun k _ g=> ?_
 exact wo []
 refine w4 ?_
 cases b:(decide ((k:Int) < (l.length:Int)))
 have d:=aa b
 refine w6 ?_
 refine Qe<|fqB o ?_
 first | exact (aI fun t=>by obtain ⟨j,i⟩:=aJ.1 t; exact g j (by have:=(ae.1 i).1; omega) n i rfl).symm
 have d:=ab b
 refine w5 ?_
 obtain ⟨v,h⟩:=gx l k
 refine w2 ?_
 refine alI 12 fun _=> ?_
 refine w7 ?_
 cases e:(decide (v=n))
 have f:=aa e
 refine w6 ?_
 refine Qc ?_
 refine lK_ ((Y1 g h ‹_›)) ?_
 exact wo []
 have f:=ab e
 refine w4 ?_
 refine Qe<|fqB o ?_
 exact (aT (by have:=ai h; simp_all)).symm
theorem Wd (l:List Int)(n:Int)(I:l.length≤1000000000):FC Tryz.prog 367 [(false,[.ref 0]),(false,[dI n])] [ar 0 3 .int l] 0 (XD 3 .int (ZY ltI n l)):=by
 refine Qu Tryz.func367 rfl rfl Tryz.ntmps367 fun G q F w H B A=> ?_
 refine acI 1 fun _=> ?_
 refine w8 ?_
 refine QQ (fun u v=>∃(m:Int),u=((l.length:Int) - m).toNat∧(0≤m∧m≤(l.length:Int))∧(∀j:Nat,(j:Int) < m→∀y,l[j]? =some y→y < n)∧v=⟨[(0,lR 0),(1,lI n),(4,lf (.val (.slice none 0 0))),(5,lI m)],[ar 0 3 .int l]⟩) ⟨0,rfl,(by omega),(fun j C=>by omega),rfl⟩ ?_ ?_
 exact wo []
 rintro u v ⟨m,D,J,o,rfl⟩
 refine w7 ?_
 cases d:(decide (m < (l.length:Int)))
 have f:=aa d
 refine w16 ?_
 refine w2 ?_
 have r:(decide (m < (l.length:Int)))=false:=d
 try rw[r]
 refine w11 ?_
 refine lc (dBs 1 (e:= .int) Yz) ?_
 refine w2 ?_
 refine lc (Ys (e:= .int) (a:=0) (b:=(m).toNat) (l:=none) (h:=(some m)) (Qa rfl) rfl (by exact trivial) (by exact (Qa rfl)) Ya Yu rfl (by first | (simp only[ao,ak]; omega) | omega | (simp only[ao,ak,ah,au,aK]; omega)) (by first | (simp only[ao,ak]; omega) | omega | (simp only[ao,ak,ah,au,aK]; omega)) (by first | (simp only[ao,ak]; omega) | omega | (simp only[ao,ak,ah,au,aK]; omega)) (by first | rfl | simp) (by first | rfl | simp))<|lc (Zf 2 (Qa rfl) rfl (W3 (e:= .int) (Qa rfl) rfl (by omega)) rfl Ya Xe (by first | omega | (simp only[ah,aE,au,ap,aD]; omega) | (simp only[ah,bw,au,ap,aD]; omega)) rfl (Fresh.of rfl) (nlr rfl)) ?_
 refine w5 ?_
 refine lc (dBs 3 (e:= .int) Yz) ?_
 refine lc (dA 4 Xe) ?_
 refine w6 ?_
 refine lc (Ys (e:= .int) (a:=(m).toNat) (b:=l.length - (m).toNat) (l:=(some m)) (h:=none) (Qa rfl) rfl (by exact (Qa rfl)) (by exact trivial) Ya Yu rfl (by first | (simp only[ao,ak]; omega) | omega | (simp only[ao,ak,ah,au,aK]; omega)) (by first | (simp only[ao,ak]; omega) | omega | (simp only[ao,ak,ah,au,aK]; omega)) (by first | (simp only[ao,ak]; omega) | omega | (simp only[ao,ak,ah,au,aK]; omega)) (by first | rfl | simp) (by first | rfl | simp))<|lc (Zf 5 (Qa rfl) rfl (W3 (e:= .int) (Qa rfl) rfl (by omega)) rfl Ya Xe (by first | omega | (simp only[ah,aE,au,ap,aD]; omega) | (simp only[ah,bw,au,ap,aD]; omega)) rfl (Fresh.of rfl) (nlr rfl)) ?_
 refine w2 ?_
 refine Qe<|fo_ q ?_
 exact QjN o (by omega) (by omega) (fun z t=>by simp_all)
 have f:=ab d
 refine w3 ?_
 obtain ⟨y,E⟩:=gx l ((m).toNat)
 refine w5 ?_
 cases g:(decide (y < n))
 have i:=aa g
 refine w10 ?_
 have s:(decide (m < (l.length:Int)))=true:=d
 try rw[s]
 refine w8 ?_
 refine cd_ (fun _ _=> ?_) fun _ _=> ?_
 refine w2 ?_
 refine lc (dBs 6 (e:= .int) Yz) ?_
 refine w2 ?_
 refine lc (Ys (e:= .int) (a:=0) (b:=(m).toNat) (l:=none) (h:=(some m)) (Qa rfl) rfl (by exact trivial) (by exact (Qa rfl)) Ya Yu rfl (by first | (simp only[ao,ak]; omega) | omega | (simp only[ao,ak,ah,au,aK]; omega)) (by first | (simp only[ao,ak]; omega) | omega | (simp only[ao,ak,ah,au,aK]; omega)) (by first | (simp only[ao,ak]; omega) | omega | (simp only[ao,ak,ah,au,aK]; omega)) (by first | rfl | simp) (by first | rfl | simp))<|lc (Zf 7 (Qa rfl) rfl (W3 (e:= .int) (Qa rfl) rfl (by omega)) rfl Ya Xe (by first | omega | (simp only[ah,aE,au,ap,aD]; omega) | (simp only[ah,bw,au,ap,aD]; omega)) rfl (Fresh.of rfl) (nlr rfl)) ?_
 refine w5 ?_
 refine lc (dBs 8 (e:= .int) Yz) ?_
 refine lc (dA 9 Xe) ?_
 refine w6 ?_
 refine lc (Ys (e:= .int) (a:=(m).toNat) (b:=l.length - (m).toNat) (l:=(some m)) (h:=none) (Qa rfl) rfl (by exact (Qa rfl)) (by exact trivial) Ya Yu rfl (by first | (simp only[ao,ak]; omega) | omega | (simp only[ao,ak,ah,au,aK]; omega)) (by first | (simp only[ao,ak]; omega) | omega | (simp only[ao,ak,ah,au,aK]; omega)) (by first | (simp only[ao,ak]; omega) | omega | (simp only[ao,ak,ah,au,aK]; omega)) (by first | rfl | simp) (by first | rfl | simp))<|lc (Zf 10 (Qa rfl) rfl (W3 (e:= .int) (Qa rfl) rfl (by omega)) rfl Ya Xe (by first | omega | (simp only[ah,aE,au,ap,aD]; omega) | (simp only[ah,bw,au,ap,aD]; omega)) rfl (Fresh.of rfl) (nlr rfl)) ?_
 refine w2 ?_
 refine Qe<|fo_ q ?_
 exact QjN o (by omega) (by omega) (fun z t=>by simp_all)
 refine w4 ?_
 refine Qe<|fo_ q ?_
 exact Qsm o (by simp_all)
 have i:=ab g
 refine w7 ?_
 refine Qc<|Zs ⟨(m+1),rfl,(by omega),(fun j C z t=>by by_cases e:j=m.toNat <;> first | (subst e; simp_all; done) | exact o j (by omega) z t),rfl⟩ (by omega) ?_
 exact wo []
theorem Qa1 (c:Z9)(sig:Int)(r:sig < (c.1.length:Int)):FC Tryz.prog 97 [(true,[.dat Qj c.1, .dat Qm c.2.1, .dat Qw c.2.2]),(false,[dI sig])] [] 0 (Q7 (lB (K5 c sig))):=by
 refine Qu Tryz.func97 rfl rfl Tryz.ntmps97 fun o f j g q i h=> ?_
 refine acI 1 fun _=> ?_
 refine w_ ?_
 refine xbx 0 ?_
 refine w6 ?_
 cases b:(decide (0≤sig))
 have d:=aa b
 refine w10 ?_
 refine Qe<|fqB f ?_
 first | exact Qfr ‹_›
 have d:=ab b
 refine w3 ?_
 obtain ⟨s,e⟩:=gx c.1 ((sig).toNat)
 refine w7 ?_
 refine Qe<|fqB f ?_
 exact Qe8 ‹_› e
end Go.Proofs.YtgpdhgadmjfokaaGreat
namespace Go.Proofs.YtgpdhgadmjfokaaGreat
open Go.RowKit
set_option maxRecDepth 100000
set_option maxHeartbeats 4000000
abbrev Wv (a:DAr)(l:Int×Bool):Prop:=a.2.1=l.1∧a.2.2.1=l.2
def ixE (as_:List DAr):List (Int×Int):=as_.zipIdx.map fun x=>(x.1.1,(x.2:Int))
inductive ClS (as_:List DAr) (p r:Int×Bool):Int→Prop
  | base {a:DAr}:a∈as_→Wv a p→ClS as_ p r a.2.2.2
  | step {a:DAr}:a∈as_→ClS as_ p r a.1→¬Wv a r→ClS as_ p r a.2.2.2
def XW (p:Int×Bool)(l:List Int)(a:DAr):List Int:=if Wv a p then ZY ltI a.2.2.2 l else l
def ZG (r:Int×Bool)(l:List Int)(a:DAr):List Int:=if a.1∈l∧¬Wv a r then ZY ltI a.2.2.2 l else l
def Q3 {α:Type}(f:α→α):Nat→α→α
 | 0,x=>x
 | n+1,x=>f (Q3 f n x)
def Qk (c:DSg)(p r:Int×Bool):List Int:=Q3 (fun l=>c.2.2.foldl (ZG r) l) c.2.1.length (c.2.2.foldl (XW p) [])
theorem Qot {α:Type}{f:α→α}{I:α→Prop}{m:α→Nat}{n:Nat}(g:∀x,I x→I (f x))(u:∀x,I x→m x≤n)(s:∀x,I x→f x=x∨m x < m (f x)){x:α}(v:I x):f (Q3 f n x)=Q3 f n x:=by
 have d:∀k,I (Q3 f k x):=fun k=>by
  induction k with
  | zero=>exact v
  | succ k e=>exact g _ e
 have t:∀k,f (Q3 f k x)=Q3 f k x∨k≤m (Q3 f k x):=fun k=>by
  induction k with
  | zero=>exact .inr (aP _)
  | succ k e=>
   rcases e with h | h
   ·exact .inl (by show f (f (Q3 f k x))=f (Q3 f k x); rw[h,h])
   ·rcases s _ (d k) with b | b
    ·exact .inl (by show f (f (Q3 f k x))=f (Q3 f k x); rw[b,b])
    ·exact .inr (by show k+1≤m (f (Q3 f k x)); omega)
 rcases t n with h | h
 ·exact h
 ·rcases s _ (d n) with b | b
  ·exact b
  ·have:=u _ (g _ (d n)); omega
section
variable {c:DSg}{as_:List DAr}{a:DAr}{p r:Int×Bool}{k i j n:Nat}{l out ts ys L:List Int}{seen:List Bool}{x y o q at_:Int}
theorem Hl:∀{l:List Int} {lo hi:Int},l.Pairwise (fun x y=>ltI x y=true)→(∀x∈l,lo≤x∧x < hi)→lo≤hi→(l.length:Int)≤hi - lo
 | [],_,_,_,_,h=>by simp; omega
 | x :: l,lo,hi,h1,h2,h3=>by
  obtain ⟨d,e⟩:=bl.1 h1
  have g:=h2 x (ax ..)
  have:=Hl (l:=l) (lo:=x+1) (hi:=hi) e (fun y b=>by have f:=d y b; have m:=h2 y (av _ b); simp only[ltI,aV] at f; omega) (by omega)
  simp only[ap]; omega
theorem Qla (h:l.Nodup)(e:∀x∈l,0≤x∧x < (n:Int)):l.length≤n:=by
 have b:(WD l).Nodup:=(JB l).nodup_iff.2 h
 have d:(WD l).Pairwise fun x y=>ltI x y=true:=by
  have:=(HA l).and b
  exact this.imp fun ⟨g,m⟩=>by simp only[ltI,aV]; omega
 have:=Hl d (lo:=0) (hi:=n) (fun x f=>e x (Qah.1 f)) (by omega)
 rw[HS] at this
 omega
abbrev Quh (l:List Int):Prop:=l.Pairwise fun x y=>ltI x y=true
theorem JG:∀(x:Int) (l:List Int),ZY ltI x l=l∨(ZY ltI x l).length=l.length+1
 | x,[]=> .inr rfl
 | x,y :: l=>by
  unfold ZY
  split
  ·rcases JG x l with h | h
   ·exact .inl (by rw[h])
   ·exact .inr (by simp[h])
  ·split
   ·exact .inl rfl
   ·exact .inr rfl
theorem Qf9:ZG r l a=l∨(ZG r l a).length=l.length+1:=by
 unfold ZG
 split
 ·exact JG _ _
 ·exact .inl rfl
theorem J6:∀(as_:List DAr) (l:List Int),as_.foldl (ZG r) l=l∨l.length < (as_.foldl (ZG r) l).length
 | [],l=> .inl rfl
 | a :: as_,l=>by
  rw[ba]
  rcases J6 as_ (ZG r l a) with h | h <;> rcases Qf9 (r:=r) (l:=l) (a:=a) with b | b
  ·exact .inl (by rw[h,b])
  ·exact .inr (by rw[h]; omega)
  ·rw[b] at h ⊢; exact .inr h
  ·exact .inr (by omega)
structure BlS (c:DSg) (p r:Int×Bool) (l:List Int):Prop where
  str:Quh l
  cl:∀x∈l,ClS c.2.2 p r x
theorem BlS.put (h:BlS c p r l)(d:ClS c.2.2 p r x):BlS c p r (ZY ltI x l):=⟨KD Xo h.str,fun y b=>by
 rcases YB.1 b with rfl | b
 ·exact d
 ·exact h.cl y b⟩
theorem KG:∀{as_:List DAr} {l:List Int},(∀a∈as_,a∈c.2.2)→BlS c p r l→BlS c p r (as_.foldl (XW p) l)∧(∀x∈l,x∈as_.foldl (XW p) l)∧∀a∈as_,Wv a p→a.2.2.2∈as_.foldl (XW p) l
 | [],l,_,h=>⟨h,fun x d=>d,fun a s=>by cases s⟩
 | a :: as_,l,hs,h=>by
  have g:BlS c p r (XW p l a)∧(∀x∈l,x∈XW p l a)∧(Wv a p→a.2.2.2∈XW p l a):=by
   unfold XW
   split
   ·rename_i m
    exact ⟨h.put (.base (hs a (ax ..)) m),fun x d=>YB.2 (.inr d),fun _=>YB.2 (.inl rfl)⟩
   ·rename_i m
    exact ⟨h,fun x d=>d,fun f=>absurd f m⟩
  obtain ⟨t,i2,i3⟩:=KG (l:=XW p l a) (fun b e=>hs b (av _ e)) g.1
  refine ⟨t,fun x d=>i2 x (g.2.1 x d),fun b e f=> ?_⟩
  rcases aB.1 e with rfl | e
  ·exact i2 _ (g.2.2 f)
  ·exact i3 b e f
theorem YE:∀{as_:List DAr} {l:List Int},(∀a∈as_,a∈c.2.2)→BlS c p r l→BlS c p r (as_.foldl (ZG r) l)∧(∀x∈l,x∈as_.foldl (ZG r) l)∧∀a∈as_,a.1∈l→¬Wv a r→a.2.2.2∈as_.foldl (ZG r) l
 | [],l,_,h=>⟨h,fun x d=>d,fun a u=>by cases u⟩
 | a :: as_,l,hs,h=>by
  have e:BlS c p r (ZG r l a)∧(∀x∈l,x∈ZG r l a)∧(a.1∈l→¬Wv a r→a.2.2.2∈ZG r l a):=by
   unfold ZG
   split
   ·rename_i g
    exact ⟨h.put (.step (hs a (ax ..)) (h.cl _ g.1) g.2),fun x d=>YB.2 (.inr d),fun _ _=>YB.2 (.inl rfl)⟩
   ·rename_i g
    exact ⟨h,fun x d=>d,fun e t=>absurd ⟨e,t⟩ g⟩
  obtain ⟨v,i2,i3⟩:=YE (l:=ZG r l a) (fun b f=>hs b (av _ f)) e.1
  refine ⟨v,fun x d=>i2 x (e.2.1 x d),fun b f s m=> ?_⟩
  rcases aB.1 f with rfl | f
  ·exact i2 _ (e.2.2 s m)
  ·exact i3 b f (e.2.1 _ s) m
theorem QfX (d:∀a∈as_,0≤a.2.2.2∧a.2.2.2 < (n:Int))(h:ClS as_ p r x):0≤x∧x < (n:Int):=by
 cases h with
 | base b _=>exact d _ b
 | step b _ _=>exact d _ b
theorem Hc {f:List Int→List Int}(d:∀l,BlS c p r l→BlS c p r (f l)∧∀x∈l,x∈f l)(h:BlS c p r l):∀k,BlS c p r (Q3 f k l)∧∀x∈l,x∈Q3 f k l
 | 0=>⟨h,fun x b=>b⟩
 | k+1=>by
  obtain ⟨e,g⟩:=Hc d h k
  obtain ⟨m,s⟩:=d _ e
  exact ⟨m,fun x b=>s x (g x b)⟩
theorem Uu (c:DSg)(p r:Int×Bool):BlS c p r (Qk c p r):=
 (Hc (fun l b=>⟨(YE (fun _ h=>h) b).1,(YE (fun _ h=>h) b).2.1⟩) (KG (fun _ h=>h) ⟨bP,fun x d=>by cases d⟩).1 _).1
theorem QhZ (B:∀a∈c.2.2,InR c.2.1.length a):x∈Qk c p r↔ClS c.2.2 p r x:=by
 have z:BlS c p r ([]:List Int):=⟨bP,fun x u=>by cases u⟩
 obtain ⟨v,D,w⟩:=KG (as_:=c.2.2) (fun _ h=>h) z
 have t:∀a∈c.2.2,0≤a.2.2.2∧a.2.2.2 < (c.2.1.length:Int):=fun a A=>(B a A).2
 have s:=Qot (f:=fun l=>c.2.2.foldl (ZG r) l) (I:=BlS c p r) (m:=List.length) (n:=c.2.1.length) (fun l d=>(YE (fun _ h=>h) d).1)
  (fun l d=>by have:=Hl d.str (lo:=0) (hi:=c.2.1.length) (fun x u=>QfX t (d.cl x u)) (by omega); omega) (fun l _=>J6 _ _) v
 have b:=(Hc (f:=fun l=>c.2.2.foldl (ZG r) l) (fun l d=>⟨(YE (fun _ h=>h) d).1,(YE (fun _ h=>h) d).2.1⟩) v c.2.1.length)
 refine ⟨(Uu c p r).cl x,fun h=> ?_⟩
 induction h with
 | base e g=>exact b.2 _ (w _ e g)
 | step e _ g C=>
  have:=(YE (r:=r) (fun _ h=>h) b.1).2.2 _ e C g
  rw[s] at this
  exact this
def mkS (n:Nat)(l:List Int):List Bool:=l.foldl (fun s x=>s.set x.toNat true) (List.replicate n false)
theorem Qpz:(mkS n l).length=n:=by
 unfold mkS
 have:∀(l:List Int) (s:List Bool),(l.foldl (fun s x=>s.set x.toNat true) s).length=s.length:=fun l=>by
  induction l with
  | nil=>intro s; rfl
  | cons x l b=>intro s; rw[ba,b,ay]
 rw[this]; simp
theorem Qse (b:∀x∈l,0≤x∧x < (n:Int))(h0:0≤x)(h:x < (n:Int)):(mkS n l)[x.toNat]? =some true↔x∈l:=by
 unfold mkS
 have:∀(l:List Int) (s:List Bool),s.length=n→(∀x∈l,0≤x∧x < (n:Int))→((l.foldl (fun s x=>s.set x.toNat true) s)[x.toNat]? =some true↔s[x.toNat]? =some true∨x∈l):=fun l=>by
  induction l with
  | nil=>intro s _ _; simp
  | cons y l g=>
   intro s d b
   have m:=b y (ax ..)
   rw[ba,g _ (by rw[ay]; exact d) fun z f=>b z (av _ f),aB]
   by_cases e:x=y
   ·subst e
    rw[aX (by omega)]; simp
   ·rw[bh (by omega)]; simp[e]
 rw[this l _ (by simp) b]
 simp[cp]
structure BlI (c:DSg) (p r:Int×Bool) (at_:Int) (out:List Int) (seen:List Bool):Prop where
  rng:0≤at_∧at_≤(out.length:Int)
  nd:out.Nodup
  q:∀x∈out,(0≤x∧x < (c.2.1.length:Int))∧ClS c.2.2 p r x
  sn:seen.length=c.2.1.length
  se:∀x,0≤x→x < (c.2.1.length:Int)→(seen[x.toNat]? =some true↔x∈out)
  base:∀a∈c.2.2,Wv a p→a.2.2.2∈out
  cl:∀(j:Nat) (o:Int),(j:Int) < at_→out[j]? =some o→∀a∈c.2.2,a.1=o→¬Wv a r→a.2.2.2∈out
theorem QeR:x∈swL as_ p↔∃a∈as_,Wv a p∧a.2.2.2=x:=by
 unfold swL
 simp only[aR,cA,aV]
 constructor
 ·rintro ⟨a,⟨b,d⟩,e⟩; exact ⟨a,b,d,e⟩
 ·rintro ⟨a,b,d,e⟩; exact ⟨a,⟨b,d⟩,e⟩
theorem QoW (d:∀a∈c.2.2,InR c.2.1.length a)(h:out=ofG ltI (swL c.2.2 p))(e:x∈out):0≤x∧x < (c.2.1.length:Int):=by
 subst h
 obtain ⟨a,b,_,rfl⟩:=QeR.1 ((Ur Xo _).1 e)
 exact (d a b).2
theorem Qmd (h:Quh l):l.Nodup:=h.imp fun h=>by simp only[ltI,aV] at h; omega
theorem BlI.start (e:∀a∈c.2.2,InR c.2.1.length a)(h:out=ofG ltI (swL c.2.2 p))(f:seen=mkS c.2.1.length out):BlI c p r 0 out seen where
 rng:=by omega
 nd:=by rw[h]; exact Qmd (Qby Xo _)
 q x hx:=⟨QoW e h hx,by
  rw[h] at hx
  obtain ⟨a,b,d,rfl⟩:=QeR.1 ((Ur Xo _).1 hx)
  exact .base b d⟩
 sn:=by rw[f,Qpz]
 se x h0 b:=by rw[f]; exact Qse (fun y g=>QoW e h g) h0 b
 base a b d:=by rw[h]; exact (Ur Xo _).2 (QeR.2 ⟨a,b,d,rfl⟩)
 cl j o hj:=by omega
theorem BlI.few (h:BlI c p r at_ out seen):out.length≤c.2.1.length:=Qla h.nd fun x b=>(h.q x b).1
theorem BlI.inr (h:BlI c p r at_ out seen)(b:out[k]? =some x):0≤x∧x < (c.2.1.length:Int):=(h.q x (ai b)).1
theorem BlI.push (h:BlI c p r at_ out seen)(I:∀a∈c.2.2,InR c.2.1.length a)(H:o∈out)(s:a∈c.2.2)(z:a.1=o)(A:¬Wv a r)(J:seen[a.2.2.2.toNat]? =some false):BlI c p r at_ (out++[a.2.2.2]) (seen.set a.2.2.2.toNat true):=by
 have f:=(I a s).2
 have m:a.2.2.2∉out:=fun G=>by have:=(h.se _ f.1 f.2).2 G; rw[J] at this; cases this
 have E:=h.sn
 refine ⟨by have:=h.rng; simp; omega, ?_,fun x d=> ?_,by rw[ay]; exact E,fun x w B=> ?_,fun b g F=>aH _ (h.base b g F),fun j K C d b g u v=> ?_⟩
 ·rw[aU]
  exact ⟨h.nd,by simp,fun x d y t e=>by rw[az] at t; rw[e,t] at d; exact m d⟩
 ·rcases aA.1 d with d | d
  ·exact h.q x d
  ·rw[az] at d; subst d
   exact ⟨f, .step s (by rw[z]; exact (h.q o H).2) A⟩
 ·rw[aA,az]
  by_cases e:x=a.2.2.2
  ·subst e; rw[aX (by omega)]; simp
  ·rw[bh (by omega),h.se x w B]; simp[e]
 ·have D:=h.rng
  rw[bc (by omega)] at d
  exact aH _ (h.cl j K C d b g u v)
theorem BlI.next (h:BlI c p r at_ out seen)(h0:at_ < (out.length:Int))(f:out[at_.toNat]? =some o)(d:∀a∈c.2.2,a.1=o→¬Wv a r→a.2.2.2∈out):BlI c p r (at_+1) out seen:=by
 refine ⟨by have:=h.rng; omega,h.nd,h.q,h.sn,h.se,h.base,fun j g m b=> ?_⟩
 by_cases e:(j:Int)=at_
 ·have:j=at_.toNat:=by omega
  subst this
  rw[f] at b; cases b
  exact d
 ·exact h.cl j g (by omega) b
theorem Qu2 (h:BlI c p r at_ out seen)(g:∀a∈c.2.2,InR c.2.1.length a)(h0:¬at_ < (out.length:Int)):ofG ltI out=Qk c p r:=by
 refine TO.ext Xo (Qby Xo _) (Uu c p r).str fun x=> ?_
 rw[Ur Xo,QhZ g]
 refine ⟨fun e=>(h.q x e).2,fun e=> ?_⟩
 induction e with
 | base b d=>exact h.base _ b d
 | step b _ d m=>
  obtain ⟨j,f⟩:=aJ.1 m
  have:=(ae.1 f).1
  exact h.cl j _ (by omega) f _ b rfl d
end
section
variable {c:DSg}{as_:List DAr}{a:DAr}{p r:Int×Bool}{k i j n:Nat}{l:List Int}
theorem Qhf (b:as_[k]? =some a)(h:Wv a p):ZY ltI a.2.2.2 ((as_.take k).foldl (XW p) [])=(as_.take (k+1)).foldl (XW p) []:=by
 rw[QI b,bE]; simp[XW,h]
theorem QjT (b:as_[k]? =some a)(h:¬Wv a p):(as_.take k).foldl (XW p) []=(as_.take (k+1)).foldl (XW p) []:=by
 rw[QI b,bE]; simp[XW,h]
theorem Qaq (d:as_[k]? =some a)(b:a.1∈(as_.take k).foldl (ZG r) l)(h:¬Wv a r):ZY ltI a.2.2.2 ((as_.take k).foldl (ZG r) l)=(as_.take (k+1)).foldl (ZG r) l:=by
 rw[QI d,bE]; simp only[ba,cq]; rw[ZG,if_pos ⟨b,h⟩]
theorem VI (b:as_[k]? =some a)(h:¬(a.1∈(as_.take k).foldl (ZG r) l∧¬Wv a r)):(as_.take k).foldl (ZG r) l=(as_.take (k+1)).foldl (ZG r) l:=by
 rw[QI b,bE]; simp only[ba,cq]; rw[ZG,if_neg h]
theorem Qos:((as_).foldl (XW p) []).length≤as_.length:=by
 have:∀(as_:List DAr) (l:List Int),(as_.foldl (XW p) l).length≤l.length+as_.length:=fun as_=>by
  induction as_ with
  | nil=>intro l; simp
  | cons a as_ b=>
   intro l
   have d:=b (XW p l a)
   have e:(XW p l a).length≤l.length+1:=by
    unfold XW
    split
    ·rcases JG a.2.2.2 l with h | h
     ·rw[h]; omega
     ·omega
    ·omega
   rw[ba,ap]; omega
 simpa using this as_ []
theorem QpL (t:∀a∈c.2.2,InR c.2.1.length a)(j i:Nat):((c.2.2.take i).foldl (ZG r) (Q3 (fun l=>c.2.2.foldl (ZG r) l) j (c.2.2.foldl (XW p) []))).length≤c.2.1.length:=by
 have m:BlS c p r ([]:List Int):=⟨bP,fun x d=>by cases d⟩
 have s:=(Hc (f:=fun l=>c.2.2.foldl (ZG r) l) (fun l g=>⟨(YE (fun _ h=>h) g).1,(YE (fun _ h=>h) g).2.1⟩) (KG (as_:=c.2.2) (fun _ h=>h) m).1 j).1
 have e:=(YE (r:=r) (as_:=c.2.2.take i) (fun a b=>List.mem_of_mem_take b) s).1
 have:=Hl e.str (lo:=0) (hi:=c.2.1.length) (fun x d=>QfX (fun a b=>(t a b).2) (e.cl x d)) (by omega)
 omega
end
theorem QaA (c:Z9)(p:QdA)(r:QdA)(K:∀a∈c.2.2,InR c.2.1.length a)(P:c.2.2.length≤4000∧c.2.1.length≤300):FC Tryz.prog 340 [(true,[.dat Qj c.1, .dat Qm c.2.1, .dat Qw c.2.2]),(true,[dI p.1,dB p.2]),(true,[dI r.1,dB r.2])] [] 0 (XD 3 .int (Qk c p r)):=by
 refine Qu Tryz.func340 rfl rfl Tryz.ntmps340 fun N I M F O H G=> ?_
 refine acG 1 0 fun _=> ?_
 refine acG 2 0 fun _=> ?_
 refine w_ ?_
 refine xbx 0 ?_
 refine xbx 1 ?_
 refine xbx 2 ?_
 refine w9 ?_
 refine alL 13 fun _=> ?_
 refine w4 ?_
 refine AC.wk (Wk.nilS 3 7 3 .int rfl (Fresh.of rfl) (nlr rfl)) ?_
 refine lp0 c.2.2.length (fun k=>⟨[(3,lP 0 0),(4,lP 1 0),(5,lP 2 0),(6,lf (.val (.slice none 0 0))),(7,lR 4),(13,lf (.dat Qw c.2.2)),(14,lI (c.2.2.length:Int)),(15,lI (k:Int))],[bx 0 27 [.dat Qj c.1, .dat Qm c.2.1, .dat Qw c.2.2],bx 1 86 [dI p.1,dB p.2],bx 2 86 [dI r.1,dB r.2],ar 4 3 .int ((c.2.2.take k).foldl (XW p) [])]⟩) ?_ fun k _=> ?_
 exact wp [(4,3)] ⟨rfl,rfl,rfl,(Qh (by simp only[dc,cq])),trivial⟩
 have E:=Qos (p:=p) (as_:=c.2.2.take k)
 have J:(c.2.2.take k).length≤c.2.2.length:=by simp only[au]; omega
 refine w4 ?_
 cases A:(decide ((k:Int) < (c.2.2.length:Int)))
 have B:=aa A
 refine w7 ?_
 refine alL 31 fun _=> ?_
 refine w4 ?_
 refine lp0 c.2.1.length (fun j=>⟨[(3,lP 0 0),(5,lP 2 0),(6,lf (.val (.slice none 0 0))),(7,lR 5),(32,lI (c.2.1.length:Int)),(33,lI (j:Int))],[bx 0 27 [.dat Qj c.1, .dat Qm c.2.1, .dat Qw c.2.2],bx 2 86 [dI r.1,dB r.2],ar 5 3 .int (Q3 (fun l=>c.2.2.foldl (ZG r) l) j (c.2.2.foldl (XW p) []))]⟩) ?_ fun j _=> ?_
 exact wp [(5,4)] ⟨rfl,rfl,(Qh (by rw[Q5 (by omega)]; rfl)),trivial⟩
 refine w4 ?_
 cases C:(decide ((j:Int) < (c.2.1.length:Int)))
 have D:=aa C
 refine w7 ?_
 refine Qe<|fo_ I ?_
 (unfold Qk; congr 1; omega)
 have D:=ab C
 refine w7 ?_
 refine alL 36 fun _=> ?_
 refine w4 ?_
 refine lp0 c.2.2.length (fun i=>⟨[(3,lP 0 0),(5,lP 2 0),(6,lf (.val (.slice none 0 0))),(7,lR 6),(32,lI (c.2.1.length:Int)),(33,lI (j:Int)),(34,lB true),(35,lP 0 2),(36,lf (.dat Qw c.2.2)),(37,lI (c.2.2.length:Int)),(38,lI (i:Int))],[bx 0 27 [.dat Qj c.1, .dat Qm c.2.1, .dat Qw c.2.2],bx 2 86 [dI r.1,dB r.2],ar 6 3 .int ((c.2.2.take i).foldl (ZG r) (Q3 (fun l=>c.2.2.foldl (ZG r) l) j (c.2.2.foldl (XW p) [])))]⟩) ?_ fun i _=> ?_
 exact wp [(6,5)] ⟨rfl,rfl,(Qh (by simp only[dc,cq])),trivial⟩
 have E:=QpL (c:=c) (p:=p) (r:=r) K j i
 refine w4 ?_
 cases h:(decide ((i:Int) < (c.2.2.length:Int)))
 have u:=aa h
 refine w6 ?_
 refine Qc ?_
 refine l0_ ?_
 exact wp [(5,6)] ⟨rfl,rfl,(Qh (by rw[Q5 (by omega)]; rfl)),trivial⟩
 have u:=ab h
 refine w5 ?_
 obtain ⟨e,b⟩:=gx c.2.2 i
 refine w2 ?_
 refine lc (xal 7 QG Zu) ?_
 refine w6 ?_
 refine alI 44 fun _=> ?_
 refine lc (dB_ (Yg ((c.2.2.take i).foldl (ZG r) (Q3 (fun l=>c.2.2.foldl (ZG r) l) j (c.2.2.foldl (XW p) []))) e.1) Xn) ?_
 refine w_ ?_
 cases m:(decide (e.1∈((c.2.2.take i).foldl (ZG r) (Q3 (fun l=>c.2.2.foldl (ZG r) l) j (c.2.2.foldl (XW p) [])))))
 have v:=aa m
 refine w15 ?_
 refine Qc ?_
 refine l0_ ?_
 exact wp [] ⟨rfl,rfl,(Qh (by first | exact Qaq b ‹_› ‹_› | exact VI b (fun g=>absurd g.1 ‹_›) | exact VI b (fun g=>absurd ‹_› g.2))),trivial⟩
 have v:=ab m
 refine w5 ?_
 refine lgy rfl rfl (dK (Jo e r.1 r.2) QcB) ?_
 refine w3 ?_
 cases s:(decide (e.2.1=r.1∧e.2.2.1=r.2))
 have w:=aa s
 refine w5 ?_
 refine alI 57 fun _=> ?_
 refine lc (dP 8 [(0,6)] (Wd ((c.2.2.take i).foldl (ZG r) (Q3 (fun l=>c.2.2.foldl (ZG r) l) j (c.2.2.foldl (XW p) []))) e.2.2.2 (by omega)) Ui) ?_
 refine w_ ?_
 refine Qc ?_
 refine w4 ?_
 refine Qc ?_
 refine l0_ ?_
 exact wp [(6,8)] ⟨rfl,rfl,(Qh (by first | exact Qaq b ‹_› ‹_› | exact VI b (fun g=>absurd g.1 ‹_›) | exact VI b (fun g=>absurd ‹_› g.2))),trivial⟩
 have w:=ab s
 refine w6 ?_
 refine Qc ?_
 refine l0_ ?_
 exact wp [] ⟨rfl,rfl,(Qh (by first | exact Qaq b ‹_› ‹_› | exact VI b (fun g=>absurd g.1 ‹_›) | exact VI b (fun g=>absurd ‹_› g.2))),trivial⟩
 have B:=ab A
 refine w5 ?_
 obtain ⟨f,d⟩:=gx c.2.2 k
 refine w2 ?_
 refine lc (xal 9 QG Zu) ?_
 refine w8 ?_
 refine lc (dK (Jo f p.1 p.2) QcB) ?_
 refine w_ ?_
 cases t:(decide (f.2.1=p.1∧f.2.2.1=p.2))
 have z:=aa t
 refine w6 ?_
 refine Qc ?_
 refine l0_ ?_
 exact wp [] ⟨rfl,rfl,rfl,(Qh (by first | exact Qhf d ‹_› | exact QjT d ‹_›)),trivial⟩
 have z:=ab t
 refine w5 ?_
 refine alI 27 fun _=> ?_
 refine lc (dP 10 [(0,4)] (Wd ((c.2.2.take k).foldl (XW p) []) f.2.2.2 (by omega)) Ui) ?_
 refine w_ ?_
 refine Qc ?_
 refine w4 ?_
 refine Qc ?_
 refine l0_ ?_
 exact wp [(4,10)] ⟨rfl,rfl,rfl,(Qh (by first | exact Qhf d ‹_› | exact QjT d ‹_›)),trivial⟩
end Go.Proofs.YtgpdhgadmjfokaaGreat
