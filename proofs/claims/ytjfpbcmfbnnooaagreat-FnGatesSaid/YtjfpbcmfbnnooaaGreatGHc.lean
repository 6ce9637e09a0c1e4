/- Regions of states: parts that hang together. Plain law. -/
import Derived.Test.YtjfpbcmfbnnooaaGreatGGa
import Derived.Test.YtjfpbcmfbnnooaaGreatGEa
import Derived.Test.YtjfpbcmfbnnooaaGreatGUa
import Derived.Test.YtjfpbcmfbnnooaaGreatGDm
import Derived.Test.YtjfpbcmfbnnooaaGreatGDg
import Derived.Test.YtjfpbcmfbnnooaaGreatGWk
import Derived.Test.YtjfpbcmfbnnooaaGreatGAl
import Derived.Lib.IndexLaws
import Derived.Laws.Strings3
import Derived.Test.YtjfpbcmfbnnooaaGreatGWz
import Derived.Test.YtjfpbcmfbnnooaaGreatGDf
import Derived.Test.YtjfpbcmfbnnooaaGreatGBc
set_option linter.unusedSimpArgs false
set_option linter.unusedVariables false
set_option linter.unusedSectionVars false
namespace Go.Proofs.YtjfpbcmfbnnooaaGreat
open Go.RowKit
set_option maxRecDepth 100000
set_option maxHeartbeats 4000000
def frL (as_:List DAr)(l:Int×Bool):List Int:=(as_.filter fun a=>decide (a.2.1=l.1∧a.2.2.1=l.2)).map fun a=>a.1
def xS (as_:List DAr)(l:Int×Bool):List Int:=ofG ltI (frL as_ l)
def edA (S:List Int)(a:DAr):List DAr:=[((a.1,-1,false,a.2.2.2):DAr),(a.2.2.2,-1,false,a.1)].filter fun e=>decide (e.2.2.2∈S)
def edL (as_:List DAr)(S:List Int):List DAr:=as_.flatMap (edA S)
abbrev Cn (as_:List DAr)(S:List Int)(x v:Int):Prop:=Ch (edL as_ S) (-1) (fun u=>u=x) v
noncomputable def cnB (as_:List DAr) (S:List Int) (x v:Int):Bool:= @decide (Cn as_ S x v) (Classical.propDecidable _)
noncomputable def cls (as_:List DAr) (S:List Int) (x:Int):List Int:=S.filter (cnB as_ S x)
noncomputable def repB (as_:List DAr) (S:List Int) (x:Int):Bool:=S.all fun v=> !cnB as_ S x v||decide (x≤v)
noncomputable def regV (as_:List DAr) (S:List Int):List (List Int):=(S.filter (repB as_ S)).map (cls as_ S)
noncomputable def compL (as_:List DAr) (S:List Int):Nat→List Int→List (List Int)
 | 0,_=>[]
 | _+1,[]=>[]
 | f+1,x::xs=>cls as_ S x::compL as_ S f ((x::xs).filter fun k=> !decide (k∈cls as_ S x))
def pE (S:List Int)(u:Int)(out:List Int)(e:Int×Int):List Int:=if e.1=u∧e.2∈S∧¬e.2∈out then out++[e.2] else out
abbrev edP (a:DAr):List (Int×Int):=[(a.1,a.2.2.2),(a.2.2.2,a.1)]
def pA (S:List Int)(u:Int)(out:List Int)(a:DAr):List Int:=(edP a).foldl (pE S u) out
section
variable {as_:List DAr}{a:DAr}{S T_ part left out:List Int}{x y u v w z:Int}{k i j n f:Nat}{l:Int×Bool}{e:Int×Int}
theorem QuH {b:DAr}:b∈edL as_ S↔b.2.2.2∈S∧b.2.1= -1∧b.2.2.1=false∧∃a∈as_,(b.1=a.1∧b.2.2.2=a.2.2.2)∨(b.1=a.2.2.2∧b.2.2.2=a.1):=by
 unfold edL edA
 rw[cp]
 constructor
 ·rintro ⟨a,g,c⟩
  rw[bP,aJ,aJ] at c
  obtain ⟨c,d⟩:=c
  have d:=ab d
  rcases c with rfl|rfl|c
  ·exact ⟨d,rfl,rfl,a,g,.inl ⟨rfl,rfl⟩⟩
  ·exact ⟨d,rfl,rfl,a,g,.inr ⟨rfl,rfl⟩⟩
  ·cases c
 ·rintro ⟨m,o,p,a,g,h⟩
  obtain ⟨q,r,s,t⟩:=b
  simp only at m o p h
  subst o;subst p
  refine ⟨a,g,bP.2 ⟨?_,aN m⟩⟩
  rcases h with ⟨rfl,rfl⟩|⟨rfl,rfl⟩
  ·exact aB ..
  ·exact aA _ (aB ..)
theorem QjE (h:Cn as_ S x v)(k:Cn as_ S v w):Cn as_ S x w:=Ch.mono (fun u b=>by rw[b];exact h) k
theorem Qnu (c:u∈S)(hv:v∈S)(b:a∈as_)(h:(u=a.1∧v=a.2.2.2)∨(u=a.2.2.2∧v=a.1)):Cn as_ S u v:=
 Ch.step (a:=((u,-1,false,v):DAr)) (.base rfl) (QuH.2 ⟨hv,rfl,rfl,a,b,h⟩) rfl
end
def lpS (S p:List Int)(a:DAr):List Int:=if a.1∈S∧a.2.2.2∈S then (p.set a.1.toNat (min (mAt p a.1) (mAt p a.2.2.2))).set a.2.2.2.toNat (min (mAt p a.1) (mAt p a.2.2.2)) else p
def lpR (as_:List DAr)(S p:List Int):List Int:=as_.foldl (lpS S) p
def lpZ (n:Nat):List Int:=(List.range n).map fun k:Nat=>(k:Int)
noncomputable def rm (as_:List DAr) (S:List Int) (k:Int):Int:=(S.find? (cnB as_ S k)).getD k
def spF (S p:List Int)(k:Int)(i:Nat):Option Int:=if (i:Int)∈S∧mAt p (i:Int)=k then some (i:Int) else none
def lbG (S p:List Int)(n:Nat)(k:Nat):Option (List Int):=if 0<((rg (spF S p (k:Int)) n).length:Int) then some (rg (spF S p (k:Int)) n) else none
section
variable {as_ bs:List DAr}{a:DAr}{S p q:List Int}{x y u v w z:Int}{k i j n:Nat}{P:Nat→Prop}[DecidablePred P]
structure LpI (as_:List DAr) (S:List Int) (n:Nat) (p:List Int):Prop where
  len:p.length=n
  ch:∀u∈S,Cn as_ S u (mAt p u)
  le:∀u∈S,mAt p u≤u
abbrev InN (S:List Int)(n:Nat):Prop:=∀u∈S,0≤u∧u<(n:Int)
theorem QnZ (b:p.length=n)(c:0≤u∧u<(n:Int))(hv:0≤v):mAt (p.set u.toNat x) v=if v=u then x else mAt p v:=by
 grind [mAt]
theorem Qso (e:InN S n)(d:p.length=n)(b:a.1∈S)(c:a.2.2.2∈S)(hv:0≤v):mAt (lpS S p a) v=if v=a.1∨v=a.2.2.2 then min (mAt p a.1) (mAt p a.2.2.2) else mAt p v:=by
 unfold lpS
 rw[if_pos ⟨b,c⟩,QnZ (by rw[aD];exact d) (e _ c) hv,QnZ d (e _ b) hv]
 grind
theorem Qxs (h:¬(a.1∈S∧a.2.2.2∈S)):lpS S p a=p:=if_neg h
theorem LpI.step (d:InN S n)(h:LpI as_ S n p)(l:a∈as_):LpI as_ S n (lpS S p a):=by
 by_cases b:a.1∈S∧a.2.2.2∈S
 ·refine ⟨by unfold lpS;rw[if_pos b];simp[h.len],fun u c=> ?_,fun u c=> ?_⟩
  ·rw[Qso d h.len b.1 b.2 (d u c).1]
   split
   ·rename_i e
    have f:=Qnu (as_:=as_) b.1 b.2 l (.inl ⟨rfl,rfl⟩)
    have g:=Qnu (as_:=as_) b.2 b.1 l (.inr ⟨rfl,rfl⟩)
    have c1:=h.ch _ b.1
    have c2:=h.ch _ b.2
    rw[Int.min_def]
    split
    ·rcases e with rfl|rfl
     ·exact c1
     ·exact QjE g c1
    ·rcases e with rfl|rfl
     ·exact QjE f c2
     ·exact c2
   ·exact h.ch u c
  ·rw[Qso d h.len b.1 b.2 (d u c).1]
   split
   ·rename_i e
    have:=h.le _ b.1
    have:=h.le _ b.2
    rcases e with rfl|rfl <;> omega
   ·exact h.le u c
 ·rw[Qxs b];exact h
abbrev QBM (as_:List DAr)(S p:List Int)(u:Int):Prop:=mAt p u=rm as_ S u
noncomputable def finB (as_:List DAr) (S p:List Int) (u:Int):Bool:=decide (mAt p u=rm as_ S u)
end
def ini {α:Type}(f:Nat→α)(z:α)(n k:Nat):List α:=(List.range k).map f++List.replicate (n - k) z
section
variable {α:Type}{f:Nat→α}{z x:α}{n k:Nat}
end
def QB1 (c:DSg)(l:Int×Bool):List Bool:=(List.range c.2.1.length).map fun k:Nat=>decide ((k:Int)∈xS c.2.2 l)
section
variable {c:DSg}{l:Int×Bool}{k i j n:Nat}{sig q x y:Int}{up b b1 b2:Bool}{code:ByteArray}{a:DAr}{p:List Int}
theorem rgN {β:Type}{f:Nat→Option β}{y:β}(h:f k=some y):rg f k++[y]=rg f (k+1):=by have:=Yn (B:=[]) h;simpa using this
end
def adQ (c:DSg)(s:Int)(out:List Int)(k:Int):List Int:=if QW c k s=false∧¬k∈out then out++[k] else out
def qJ (c:DSg)(l:Int×Bool)(R out:List Int)(a:DAr):List Int:=if a.2.1=l.1∧a.2.2.1=l.2∧a.1∈R then adQ c l.1 out a.2.2.2 else out
def qU (c:DSg)(s u:Int)(out:List Int)(a:DAr):List Int:=if a.1=u then adQ c s out a.2.2.2 else out
def qE (c:DSg)(s:Int):List DAr:=(c.2.2.filter fun a=> !QW c a.2.2.2 s).map fun a=>(a.1,-1,false,a.2.2.2)
def qQ (c:DSg)(s:Int)(R:List Int)(v:Int):Prop:=∃a∈c.2.2,a.2.1=s∧a.1∈R∧QW c a.2.2.2 s=false∧a.2.2.2=v
abbrev QC (c:DSg)(s:Int)(R:List Int)(v:Int):Prop:=Ch (qE c s) (-1) (qQ c s R) v
noncomputable def qV (c:DSg) (s:Int) (R:List Int):List Int:=((List.range c.2.1.length).map fun k:Nat=>(k:Int)).filter fun v=> @decide (QC c s R v) (Classical.propDecidable _)
def chi (n:Nat)(S:List Int):List Bool:=(List.range n).map fun k:Nat=>decide ((k:Int)∈S)
def qZ (c:DSg)(s:Int)(R S:List Int)(a:DAr):List Int:=if a.1∈R∧a.2.1=s∧QW c a.2.2.2 s=false then Zg ltI a.2.2.2 S else S
def qT (c:DSg)(s:Int)(S:List Int)(a:DAr):List Int:=if a.1∈S∧QW c a.2.2.2 s=false then Zg ltI a.2.2.2 S else S
def qR (c:DSg)(s:Int)(S:List Int):List Int:=c.2.2.foldl (qT c s) S
def chF (S:List Int)(k:Nat):Option Int:=if (k:Int)∈S then some (k:Int) else none
section
variable {c:DSg}{as_:List DAr}{a b:DAr}{l:Int×Bool}{R S out:List Int}{s u v q x:Int}{k i j n m:Nat}{B:Bool}
end
section
variable [∀s,Decidable (StgOk s)]{s:ZG}
theorem Qd4:(sgV s).1.1.length≤8∧(sgV s).1.2.1.length≤301:=by
 cases h:(sgV s).2 with
 | true=>have a:=(QhK h).sig8;have b:=(QhK h).some_;exact ⟨a,by omega⟩
 | false=>
  have a:(sgV s).1=QcI:=by
   unfold sgV at h ⊢
   split at h
   ·rename_i g
    rw[if_pos g]
    split at h
    ·cases h
    ·rfl
   ·rename_i g;rw[if_neg g]
  rw[a]
  exact ⟨by decide,by decide⟩
end
theorem JS (code:List UInt8)(at_:Int)(sd:Int)[∀s,Decidable (StgOk s)][∀s,Decidable (Y8 s)](l:0≤at_∧at_≤600000000):FC Tryz.prog 47 [(false,[.ptr 0 0])] [bx 0 86 [.dat QS code,dI at_,.val (.int .u64 sd)]] 1 (Ex (fun x:DSg×Int×Int=>x.1.1.length≤8∧x.1.2.1.length≤301∧(at_≤x.2.1∧x.2.1≤at_+130)) (fun x:DSg×Int×Int=>ag [.dat Ql x.1.1,.dat Qb x.1.2.1,.dat QA x.1.2.2]) (fun x:DSg×Int×Int=>[bx 0 86 [.dat QS code,dI x.2.1,.val (.int .u64 x.2.2)]])):=by
 refine Qj Tryz.func47 rfl rfl Tryz.ntmps47 fun i b h c j e d=> ?_
 refine w_ ?_
 refine lc (xal 1 Hd Y3) ?_
 refine w4 ?_
 have f:=ZP code at_ sd 5
 refine lc (dP 2 [] (QF code at_ sd 5 (by omega)) Zy) ?_
 refine w6 ?_
 refine cd_ (fun _ _=> ?_) fun _ _=> ?_
 refine w4 ?_
 refine cd_ (fun _ _=> ?_) fun _ _=> ?_
 refine w4 ?_
 refine Ys 3 [(0,0)] (KY code (pkA 5 at_) (pkS code at_ sd 5) (by omega)) Qk4 e1_ ⟨rfl,trivial⟩ rfl (fun _=>rfl) (fun _=>⟨trivial,trivial⟩) (nlr rfl) fun a g=> ?_
 refine w3 ?_
 subst b
 refine Zh (x:=((a.1.1,(a.1.2.1,a.1.2.2)),(a.2.1,a.2.2))) [(0,0)] ?_ (Res.one rfl (Rs.cell rfl rfl XJ rfl)) rfl ⟨rfl,trivial⟩ rfl rfl
 (dsimp only;have k:=‹_≤8∧_∧_›;omega)
 refine w_ ?_
 refine lc (dK (QM tx4 Hc tx2 Qgj (by decide+kernel) (by decide+kernel)).frozenG Zk) ?_
 refine lc (dK (Zm (Qt tx4 Hc tx2 Qgj)).frozenG WA) ?_
 refine w3 ?_
 refine lc (xal 4 Hd Y3) ?_
 refine w8 ?_
 subst b
 refine Zh (x:=((((sgV (Qt tx4 Hc tx2 Qgj)).1).1,(((sgV (Qt tx4 Hc tx2 Qgj)).1).2.1,((sgV (Qt tx4 Hc tx2 Qgj)).1).2.2)),((pkA 5 at_),(pkS code at_ sd 5)))) [(0,0)] ?_ (Res.one rfl (Rs.cell rfl rfl XJ rfl)) rfl ⟨rfl,trivial⟩ rfl rfl
 (dsimp only;exact ⟨Qd4.1,Qd4.2,by omega⟩)
 refine w_ ?_
 refine lc (dK (QM tx7 tx8 tx2 Qgi (by decide+kernel) (by decide+kernel)).frozenG Zk) ?_
 refine lc (dK (Zm (Qt tx7 tx8 tx2 Qgi)).frozenG WA) ?_
 refine w3 ?_
 refine lc (xal 5 Hd Y3) ?_
 refine w8 ?_
 subst b
 refine Zh (x:=((((sgV (Qt tx7 tx8 tx2 Qgi)).1).1,(((sgV (Qt tx7 tx8 tx2 Qgi)).1).2.1,((sgV (Qt tx7 tx8 tx2 Qgi)).1).2.2)),((pkA 5 at_),(pkS code at_ sd 5)))) [(0,0)] ?_ (Res.one rfl (Rs.cell rfl rfl XJ rfl)) rfl ⟨rfl,trivial⟩ rfl rfl
 (dsimp only;exact ⟨Qd4.1,Qd4.2,by omega⟩)
theorem QjN (code:List UInt8)(a:List UInt8):FC Tryz.prog 6 [(false,[.dat QS code]),(false,[.dat QS a])] [] 0 (QK (lB (decide ((1048576:Int)<(code.length:Int)+(a.length:Int))))):=by
 refine Qj Tryz.func6 rfl rfl Tryz.ntmps6 fun i d h e j g f=> ?_
 refine w5 ?_
 refine alL 5 fun _=> ?_
 refine w3 ?_
 cases b:(decide (1048576<(code.length:Int)))
 have c:=aa b
 refine w_ ?_
 refine alL 9 fun _=> ?_
 refine w2 ?_
 refine alL 11 fun _=> ?_
 refine w6 ?_
 refine Qe<|fqB d ?_
 exact bF.2 (by omega)
 have c:=ab b
 refine w9 ?_
 refine Qe<|fqB d ?_
 exact (aN (by omega)).symm
end Go.Proofs.YtjfpbcmfbnnooaaGreat
namespace Go.Proofs.YtjfpbcmfbnnooaaGreat
open Go.RowKit
set_option maxHeartbeats 2000000
set_option maxRecDepth 100000
theorem QgA {A:Amb}{P:Program}{s:St}{x y:Operand}{d:Nat}{T c ty:TypeId}{b:String}{e:Array Edge}{g:Option (Nat×Bool)}{m n:ByteArray}(j:Evl A s x (dS m))(k:Evl A s y (dS n))(i:Nat.blt d A.n=true):Does A P ⟨some d,.binOp .geq T x y c,ty,b,e,g⟩ s (s.put d (lf (dB (!Op.bytesLess m.toList n.toList)))):=
 Qi rfl i fun l a w r=>⟨.bool (!Op.bytesLess m.toList n.toList),by
  have f:=j.st r
  have h:=k.st r
  simp only[execOp,f,h,eqGuard_at_string,binOp,Op.stringOp]
  simp[HD],_,rfl,ZN⟩
def ibV (s:ByteArray)(c:UInt8):Int:=Lib.indexByte s.data.toList c
theorem QnO {s:ByteArray}{c:UInt8}: -1≤ibV s c∧ibV s c≤(s.size:Int):=by
 have h:=Lib.indexByte_ge s.data.toList c
 refine ⟨h,?_⟩
 unfold ibV
 by_cases b:Lib.indexByte s.data.toList c<0
 ·omega
 ·obtain ⟨o,a⟩:∃o:Nat,Lib.indexByte s.data.toList c=o:=⟨(Lib.indexByte s.data.toList c).toNat,by omega⟩
  have d:=(ai.1 (Lib.indexByte_some a).1).1
  have:s.data.toList.length=s.size:=by simp
  omega
theorem QnN {s:ByteArray}{c:UInt8}:0≤ibV s c↔c∈s.toList:=by
 rw[bm]
 unfold ibV
 constructor
 ·intro e
  obtain ⟨o,d⟩:∃o:Nat,Lib.indexByte s.data.toList c=o:=⟨(Lib.indexByte s.data.toList c).toNat,by omega⟩
  exact ae (Lib.indexByte_some d).1
 ·intro h
  have f:=Lib.indexByte_ge s.data.toList c
  by_cases a:Lib.indexByte s.data.toList c= -1
  ·obtain ⟨k,b⟩:=aK.1 h
   exact absurd b (Lib.indexByte_none a k)
  ·omega
theorem Qxf (s:ByteArray)(c:UInt8)(w:World):Calls Tryz.prog 355 #[.string s,.int .u8 c.toNat] w fun e w'=>e= .returned (.int .i64 (ibV s c))∧w'=w:=by
 go_enter Tryz.func355,Tryz.ntmps355
 go_wp2
 rw[run_callFunc_extern Tryz.func359 (by kernel_rfl) (by kernel_rfl) (by kernel_rfl) (e:=Extern.BytealgIndexByte.indexByte) (by kernel_rfl),Lib.run_indexByteString]
 simp only[Result.andThen]
 rw[Oper.upon_value]
 go_wp2
 go_ret
 exact ⟨by simp[ibV],rfl⟩
theorem QyX (s:ByteArray)(c:UInt8):FC Tryz.prog 355 [(false,[.dat .str s]),(false,[.dat .u8 c])] [] 0 (QK (lf (dI (ibV s c)))):=QqG fun j w f b=>by
 obtain ⟨v,f,rfl,i,b⟩:=b.leaf_cons
 obtain ⟨d,f,rfl,a,b⟩:=b.leaf_cons
 obtain rfl:=b.nil_
 obtain ⟨rfl,l⟩:=Rep.str_ i
 have a:[d]=[.int .u8 c.toNat]:=a
 obtain rfl:d= .int .u8 c.toNat:=by simpa using a
 have k:maxLen≤9223372036854775807:=by decide
 refine Calls.mono (Qxf s c w) fun e m g=> ?_
 obtain ⟨rfl,rfl⟩:=g
 have h:=QnO (s:=s) (c:=c)
 exact ⟨_,rfl,QX _,_,rfl,Yi (by omega)⟩
end Go.Proofs.YtjfpbcmfbnnooaaGreat
namespace Go.Proofs.YtjfpbcmfbnnooaaGreat
open Go.RowKit
set_option maxRecDepth 100000
set_option maxHeartbeats 4000000
def Up (u:UInt8):Prop:=u=48∨u=49∨u=45
instance (u:UInt8):Decidable (Up u):=inferInstanceAs (Decidable (_∨_))
def Ze (s:ByteArray)(n:Int):Prop:=(∀u∈s.toList,Up u)∧(s.size:Int)=n∧(1≤n∧n≤8)
instance (s:ByteArray) (n:Int):Decidable (Ze s n):=inferInstanceAs (Decidable (_∧_))
def Jt (s:ByteArray)(n:Int):Prop:=Ye s n∧(1≤n∧n≤8)
instance (s:ByteArray) (n:Int):Decidable (Jt s n):=inferInstanceAs (Decidable (_∧_))
def Z1 (n:Int)(l:List ByteArray):Prop:=(1≤n∧n≤8)∧l.length≤60∧∀c∈l,Ze c n
instance (n:Int) (l:List ByteArray):Decidable (Z1 n l):=inferInstanceAs (Decidable (_∧_))
def QZ (cube code:ByteArray):Bool:=(List.range cube.size).all fun i=>decide (bAt cube (i:Int)=45)||decide (bAt cube (i:Int)=bAt code (i:Int))
section
variable {s t cube code c:ByteArray}{n:Int}{k j:Nat}{u v:UInt8}{l:List ByteArray}
theorem VA (b:∀j,j<k→∀c,s.toList[j]? =some c→Up c)(f:s[((k:Int)).toNat]? =some u)(h:Up u):∀j,j<k+1→∀c,s.toList[j]? =some c→Up c:=fun j g d a=>by
 by_cases e:j=k
 ·subst e;rw[KZ f] at a;cases a;exact h
 ·exact b j (by omega) d a
theorem Qnz (e:s[((k:Int)).toNat]? =some u)(a:¬u=48)(b:¬u=49)(d:¬u=45):false=decide (Ze s n):=(ay fun h=>by
 rcases h.1 u (ae (KZ e)) with h|h|h
 ·exact a h
 ·exact b h
 ·exact d h).symm
theorem Qru (b:∀j,j<k→∀c,s.toList[j]? =some c→Up c)(e:s.size≤k):∀u∈s.toList,Up u:=fun c d=>by
 obtain ⟨j,a⟩:=aK.1 d
 have:=(ai.1 a).1
 rw[Ww] at this
 exact b j (by omega) c a
theorem QjI (a:∀j,j<k→∀c,s.toList[j]? =some c→Up c)(b:s.size≤k)(h:(s.size:Int)=n):decide (1≤n∧n≤8)=decide (Ze s n):=bF.2 ⟨fun g=>⟨Qru a b,h,g⟩,fun g=>g.2.2⟩
theorem Qo1 (h:¬(s.size:Int)=n):false=decide (Ze s n):=(ay fun g=>h g.2.1).symm
theorem Qr7 (h:s.size=1):ibV s (bAt s 0)=0:=by
 have d:=QnO (s:=s) (c:=bAt s 0)
 have a:bAt s 0∈s.toList:=by
  have:s[(0:Nat)]? =some s[0]:=dk s 0 (by omega)
  have e:bAt s 0=s[0]:=QY this
  rw[e]
  exact ae (KZ (k:=0) this)
 have f:=QnN.2 a
 unfold ibV at*
 have:s.data.toList=[bAt s 0]:=by
  obtain ⟨⟨l⟩⟩:=s
  have b:l.length=1:=h
  match l,b with
  | [x],_=>rfl
 rw[this];simp[Lib.indexByte]
theorem Qrq (h:Ze code n):(!decide (0≤ibV code (bAt ⟨#[45]⟩ 0)))=decide (Jt code n):=by
 have e:bAt ⟨#[45]⟩ 0=45:=rfl
 rw[e,cj,bT,decide_eq_false_iff_not,QnN,decide_eq_true_iff]
 constructor
 ·intro g
  refine ⟨⟨fun u b=> ?_,h.2.1⟩,h.2.2⟩
  rcases h.1 u b with a|a|a
  ·exact .inl a
  ·exact .inr a
  ·subst a;exact absurd b g
 ·intro g b
  rcases g.1.1 _ b with a|a <;> exact absurd a (by decide)
theorem Qum (h:¬Ze code n):false=decide (Jt code n):=(ay fun g=>h ⟨fun u a=>(g.1.1 u a).elim .inl fun h=> .inr (.inl h),g.1.2,g.2⟩).symm
theorem Qnw (h:¬(1≤n∧n≤8)):false=decide (Z1 n l):=(ay fun g=>h g.1).symm
theorem Quu (h:¬(l.length:Int)≤60):false=decide (Z1 n l):=(ay fun g=>h (by have:=g.2.1;omega)).symm
theorem Qnx (a:l[k]? =some c)(h:¬Ze c n):false=decide (Z1 n l):=(ay fun g=>h (g.2.2 c (ae a))).symm
theorem Qo2 (g:Ze c n):Ze c (c.size:Int):=⟨g.1,rfl,by have a:=g.2.1;have b:=g.2.2;omega⟩
theorem Qux (g:Ze c (c.size:Int))(e:(c.size:Int)=n):Ze c n:=⟨g.1,e,by have a:=g.2.2;omega⟩
theorem Quv (a:l[k]? =some c)(h:¬Ze c (c.size:Int)):false=decide (Z1 n l):=Qnx a fun g=>h (Qo2 g)
theorem Quw (a:l[k]? =some c)(h:¬(c.size:Int)=n):false=decide (Z1 n l):=Qnx a fun g=>h g.2.1
theorem Quq (b:∀j,j<k→∀x,l[j]? =some x→Ze x n)(e:l.length≤k):∀c∈l,Ze c n:=fun c d=>by
 obtain ⟨j,a⟩:=aK.1 d
 exact b j (ba (ai.1 a).1 e) c a
theorem Qur (b:1≤n∧n≤8)(d:(l.length:Int)≤60):(!(l.any fun c=> !decide (Ze c n)))=decide (Z1 n l):=by
 rw[cj,bT,cr,decide_eq_true_iff]
 exact ⟨fun g=>⟨b,by omega,fun c a=>by simpa using g c a⟩,fun g c a=>by simpa using g.2.2 c a⟩
theorem Qus (b:∀j,j<k→∀x,l[j]? =some x→Ze x n)(d:l.length≤k)(a:1≤n∧n≤8):decide ((l.length:Int)≤60)=decide (Z1 n l):=bF.2 ⟨fun g=>⟨a,by omega,Quq b d⟩,fun g=>by have:=g.2.1;omega⟩
theorem Qr5 (f:k<cube.size)(a:cube[((k:Int)).toNat]? =some u)(b:code[((k:Int)).toNat]? =some v)(d:¬u=45)(e:¬u=v):false=QZ cube code:=by
 symm
 unfold QZ
 rw[List.all_eq_false]
 exact ⟨k,bH.2 f,by rw[QY a,QY b];simp[d,e]⟩
theorem QnM (a:∀j,j<k→(bAt cube (j:Int)=45∨bAt cube (j:Int)=bAt code (j:Int)))(d:cube.size≤k):true=QZ cube code:=by
 symm
 unfold QZ
 rw[au]
 intro j b
 have:=a j (ba (bH.1 b) d)
 simpa using this
theorem Qby (a:∀j,j<k→(bAt cube (j:Int)=45∨bAt cube (j:Int)=bAt code (j:Int)))(h:bAt cube (k:Int)=45∨bAt cube (k:Int)=bAt code (k:Int)):∀j,j<k+1→(bAt cube (j:Int)=45∨bAt cube (j:Int)=bAt code (j:Int)):=fun j b=>by
 by_cases e:j=k
 ·subst e;exact h
 ·exact a j (by omega)
end
theorem WW (s:ByteArray)(a:ByteArray)(p:a.size=1):FC Tryz.prog 354 [(false,[dS s]),(false,[dS a])] [] 0 (QK (lI (ibV s (bAt a 0)))):=by
 refine Qj Tryz.func354 rfl rfl Tryz.ntmps354 fun w e r h x o m=> ?_
 refine w5 ?_
 refine alS 14 fun _=> ?_
 refine lc (Q5 (Qa rfl) rfl Zo) ?_
 refine w8 ?_
 cases b:(decide ((a.size:Int)=0))
 have f:=aa b
 refine w6 ?_
 refine cd_ (fun _ _=> ?_) fun _ _=> ?_
 refine w5 ?_
 cases d:(decide ((a.size:Int)=1))
 exact absurd (d.symm.trans (show (decide ((a.size:Int)=1))=true from aN (by omega))) (by decide)
 have g:=ab d
 refine w4 ?_
 obtain ⟨i,q⟩:=gs a ((0:Int).toNat)
 refine w_ ?_
 refine lc (dK (QyX s i) Qmm) ?_
 refine w2 ?_
 refine Qe<|fqI e ?_
 (rw[QY ‹_›])
 refine w3 ?_
 refine Qe<|fqI e ?_
 (subst_vars;exact (Qr7 p).symm)
 exact absurd (b.symm.trans (show (decide ((a.size:Int)=0))=false from ay (by omega))) (by decide)
theorem Qcp (s:ByteArray)(a:ByteArray)(f:a.size=1):FC Tryz.prog 351 [(false,[dS s]),(false,[dS a])] [] 0 (QK (lI (ibV s (bAt a 0)))):=by
 refine Qj Tryz.func351 rfl rfl Tryz.ntmps351 fun i g h b m e d=> ?_
 refine w6 ?_
 refine lc (dK (WW s a f) Qml) ?_
 refine w3 ?_
 exact fe_ g
theorem HU (s:ByteArray)(a:ByteArray)(f:a.size=1):FC Tryz.prog 341 [(false,[dS s]),(false,[dS a])] [] 0 (QK (lB (decide (0≤ibV s (bAt a 0))))):=by
 refine Qj Tryz.func341 rfl rfl Tryz.ntmps341 fun i g h b m e d=> ?_
 refine w6 ?_
 refine lc (dK (Qcp s a f) Qmk) ?_
 refine w3 ?_
 refine Qe<|fqB g ?_
 rfl
theorem JN (cube:ByteArray)(n:Int):FC Tryz.prog 144 [(false,[dS cube]),(false,[dI n])] [] 0 (QK (lB (decide (Ze cube n)))):=by
 refine Qj Tryz.func144 rfl rfl Tryz.ntmps144 fun C r B w D y x=> ?_
 refine acI 1 fun _=> ?_
 refine w8 ?_
 refine lpK cube.size (fun k=>∀j,j<k→∀c,cube.toList[j]? =some c→Up c) (fun k=>⟨[(0,lf (dS cube)),(1,lI n),(5,lI (k:Int))],[]⟩) ((fun j A=>absurd A (aV j))) ?_ fun k _ q=> ?_
 exact wo []
 refine w4 ?_
 refine alS 7 fun _=> ?_
 refine lc (Q5 (Qa rfl) rfl Zo) ?_
 refine w2 ?_
 cases g:(decide ((k:Int)<(cube.size:Int)))
 have h:=aa g
 refine w5 ?_
 refine alS 28 fun _=> ?_
 refine lc (Q5 (Qa rfl) rfl Zo) ?_
 refine w3 ?_
 cases i:(decide ((cube.size:Int)=n))
 have m:=aa i
 refine w5 ?_
 refine Qe<|fqB r ?_
 exact Qo1 ‹_›
 have m:=ab i
 refine w_ ?_
 refine lgy rfl rfl (dK (Q7 n 1 8) Z6) ?_
 refine w3 ?_
 refine Qe<|fqB r ?_
 exact QjI q (by omega) ‹_›
 have h:=ab g
 refine w7 ?_
 obtain ⟨a,z⟩:=gs cube (((k:Int)).toNat)
 refine w_ ?_
 refine lc (QP (Qa rfl) (QJ 48 rfl) rfl) ?_
 refine w_ ?_
 cases o:(!decide (a=48))
 have p:(a=48):=Qz o
 refine w16 ?_
 refine w3 ?_
 refine Qd ?_
 refine lK_ ((VA q ‹_› (by first|exact .inl ‹_› | exact .inr (.inl ‹_›)|exact .inr (.inr ‹_›)))) ?_
 exact wo []
 have p:¬(a=48):=QG o
 refine w3 ?_
 refine lgy rfl rfl (QP (Qa rfl) (QJ 49 rfl) rfl) ?_
 refine w2 ?_
 cases b:(!decide (a=49))
 have e:(a=49):=Qz b
 refine w13 ?_
 refine Qd ?_
 refine lK_ ((VA q ‹_› (by first|exact .inl ‹_› | exact .inr (.inl ‹_›)|exact .inr (.inr ‹_›)))) ?_
 exact wo []
 have e:¬(a=49):=QG b
 refine w3 ?_
 refine lgy rfl rfl (QP (Qa rfl) (QJ 45 rfl) rfl) ?_
 refine w2 ?_
 cases d:(!decide (a=45))
 have f:(a=45):=Qz d
 refine w7 ?_
 refine Qd ?_
 refine lK_ ((VA q ‹_› (by first|exact .inl ‹_› | exact .inr (.inl ‹_›)|exact .inr (.inr ‹_›)))) ?_
 exact wo []
 have f:¬(a=45):=QG d
 refine w4 ?_
 refine Qe<|fqB r ?_
 exact Qnz (k:=k) ‹_› ‹_› ‹_› ‹_›
theorem Qdd (s:ByteArray):FC Tryz.prog 281 [(false,[dS s])] [] 0 (QK (lB (decide (Ze s (s.size:Int))))):=by
 refine Qj Tryz.func281 rfl rfl Tryz.ntmps281 fun A p z q B w r=> ?_
 refine w8 ?_
 refine lpK s.size (fun k=>∀j,j<k→∀c,s.toList[j]? =some c→Up c) (fun k=>⟨[(0,lf (dS s)),(3,lI (k:Int))],[]⟩) ((fun j y=>absurd y (aV j))) ?_ fun k _ o=> ?_
 exact wo []
 refine w4 ?_
 refine alS 5 fun _=> ?_
 refine lc (Q5 (Qa rfl) rfl Zo) ?_
 refine w2 ?_
 cases b:(decide ((k:Int)<(s.size:Int)))
 have d:=aa b
 refine w5 ?_
 refine alS 26 fun _=> ?_
 refine lc (Q5 (Qa rfl) rfl Zo) ?_
 refine lc (dK (YA (s.size:Int) 1 8) Xj) ?_
 refine w2 ?_
 refine Qe<|fqB p ?_
 exact QjI o (by omega) rfl
 have d:=ab b
 refine w7 ?_
 obtain ⟨a,x⟩:=gs s (((k:Int)).toNat)
 refine w_ ?_
 refine lc (QP (Qa rfl) (QJ 48 rfl) rfl) ?_
 refine w_ ?_
 cases e:(!decide (a=48))
 have f:(a=48):=Qz e
 refine w16 ?_
 refine w3 ?_
 refine Qd ?_
 refine lK_ ((VA o ‹_› (by first|exact .inl ‹_› | exact .inr (.inl ‹_›)|exact .inr (.inr ‹_›)))) ?_
 exact wo []
 have f:¬(a=48):=QG e
 refine w3 ?_
 refine lgy rfl rfl (QP (Qa rfl) (QJ 49 rfl) rfl) ?_
 refine w2 ?_
 cases g:(!decide (a=49))
 have h:(a=49):=Qz g
 refine w13 ?_
 refine Qd ?_
 refine lK_ ((VA o ‹_› (by first|exact .inl ‹_› | exact .inr (.inl ‹_›)|exact .inr (.inr ‹_›)))) ?_
 exact wo []
 have h:¬(a=49):=QG g
 refine w3 ?_
 refine lgy rfl rfl (QP (Qa rfl) (QJ 45 rfl) rfl) ?_
 refine w2 ?_
 cases i:(!decide (a=45))
 have m:(a=45):=Qz i
 refine w7 ?_
 refine Qd ?_
 refine lK_ ((VA o ‹_› (by first|exact .inl ‹_› | exact .inr (.inl ‹_›)|exact .inr (.inr ‹_›)))) ?_
 exact wo []
 have m:¬(a=45):=QG i
 refine w4 ?_
 refine Qe<|fqB p ?_
 exact Qnz (k:=k) ‹_› ‹_› ‹_› ‹_›
theorem Qfp (code:ByteArray)(n:Int):FC Tryz.prog 304 [(false,[dS code]),(false,[dI n])] [] 0 (QK (lB (decide (Jt code n)))):=by
 refine Qj Tryz.func304 rfl rfl Tryz.ntmps304 fun i d h e m g f=> ?_
 refine acI 1 fun _=> ?_
 refine w6 ?_
 refine lc (dK (JN code n) QeN) ?_
 refine w_ ?_
 cases a:(decide (Ze code n))
 have b:=aa a
 refine w6 ?_
 refine Qe<|fqB d ?_
 exact Qum ‹_›
 have b:=ab a
 refine w_ ?_
 refine lgy rfl rfl (dK (HU code (⟨#[45]⟩:ByteArray) rfl) Qmj) ?_
 refine w4 ?_
 refine Qe<|fqB d ?_
 exact Qrq ‹_›
theorem KT (cube:ByteArray)(n:Int):FC Tryz.prog 143 [(false,[dS cube]),(false,[.ptr 0 0])] [bx 0 3 [dI n]] 1 (Is (lB (!decide (Ze cube n))) [bx 0 3 [dI n]]):=by
 refine Qj Tryz.func143 rfl rfl Tryz.ntmps143 fun h f g a i e d=> ?_
 refine w6 ?_
 refine alI 5 fun _=> ?_
 refine lc (dK (JN cube n) QeN) ?_
 refine w4 ?_
 have b:(!(decide (Ze cube n)):Bool)=(!decide (Ze cube n)):=by
  rfl
 exact fi_ [] f ⟨rfl,trivial⟩ (h0:=by rw[b] <;> rfl)
theorem Uj (l:List ByteArray)(n:Int):FC Tryz.prog 223 [(false,[.dat Qb l]),(false,[.clo 143 [0]])] [bx 0 3 [dI n]] 1 (Is (lI (Zf (fun c=> !decide (Ze c n)) l)) [bx 0 3 [dI n]]):=by
 refine Qj Tryz.func223 rfl rfl Tryz.ntmps223 fun x i w m y r q=> ?_
 refine w6 ?_
 refine alL 6 fun _=> ?_
 refine w4 ?_
 refine lpK l.length (fun k=>NoneTo (fun c=> !decide (Ze c n)) l k) (fun k=>⟨[(0,lf (.dat Qb l)),(1,lf (.clo 143 [0])),(7,lI (l.length:Int)),(8,lI (k:Int))],[bx 0 3 [dI n]]⟩) (NoneTo.zero) ?_ fun k _ a=> ?_
 exact wo []
 refine w4 ?_
 cases b:(decide ((k:Int)<(l.length:Int)))
 have d:=aa b
 refine w7 ?_
 have o:((-1):Int)=(Zf (fun c=> !decide (Ze c n)) l):=by
  first|exact (a.no (by omega)).symm
 exact fi_ [] i ⟨rfl,trivial⟩ (h0:=by rw[← o] <;> rfl)
 have d:=ab b
 refine w12 ?_
 obtain ⟨h,g⟩:=gx l k
 refine w2 ?_
 refine lc (Q3 (args0:=[(false,[dS h])]) (caps:=[0]) 1 [(0,0)] (KT h n) Qli rfl (Qa rfl) rfl rfl ⟨_,_,rfl,(Qn rfl),rfl⟩ ⟨rfl,trivial⟩ rfl ⟨trivial,trivial⟩ (nlr rfl)) ?_
 refine w_ ?_
 cases e:(!decide (Ze h n))
 have f:(Ze h n):=Qz e
 refine w6 ?_
 refine Qd ?_
 refine lK_ (a.step g ‹_›) ?_
 exact wo []
 have f:¬(Ze h n):=QG e
 refine w6 ?_
 have p:((k:Int):Int)=(Zf (fun c=> !decide (Ze c n)) l):=by
  exact (a.at g ‹_›).symm
 exact fi_ [] i ⟨rfl,trivial⟩ (h0:=by rw[p] <;> rfl)
theorem W7 (l:List ByteArray)(n:Int):FC Tryz.prog 142 [(false,[.dat Qb l]),(false,[.clo 143 [0]])] [bx 0 3 [dI n]] 1 (Is (lB (l.any (fun c=> !decide (Ze c n)))) [bx 0 3 [dI n]]):=by
 refine Qj Tryz.func142 rfl rfl Tryz.ntmps142 fun h f g a i e d=> ?_
 refine w6 ?_
 refine lc (dP 1 [] (Uj l n) WB) ?_
 refine w4 ?_
 have b:(decide (0≤(Zf (fun c=> !decide (Ze c n)) l)):Bool)=(l.any (fun c=> !decide (Ze c n))):=by
  exact Xm _ _
 exact fi_ [] f ⟨rfl,trivial⟩ (h0:=by rw[b] <;> rfl)
theorem WU (n:Int)(l:List ByteArray):FC Tryz.prog 66 [(false,[dI n]),(false,[.dat Qb l])] [] 0 (QK (lB (decide (Z1 n l)))):=by
 refine Qj Tryz.func66 rfl rfl Tryz.ntmps66 fun o f m g p i h=> ?_
 refine acI 0 fun _=> ?_
 refine w_ ?_
 refine xbx 0 ?_
 refine w4 ?_
 refine lc (dK (Q7 n 1 8) Z6) ?_
 refine w_ ?_
 cases a:(decide (1≤n∧n≤8))
 have b:=aa a
 refine w12 ?_
 refine Qe<|fqB f ?_
 exact Qnw ‹_›
 have b:=ab a
 refine w_ ?_
 refine alL 8 fun _=> ?_
 refine w4 ?_
 cases d:(decide ((l.length:Int)≤60))
 have e:=aa d
 refine w7 ?_
 refine Qe<|fqB f ?_
 exact Quu ‹_›
 have e:=ab d
 refine w_ ?_
 refine lgy rfl rfl (Q1 ⟨_,_,rfl,(Qa rfl),rfl,rfl⟩ rfl) ?_
 refine lgy rfl rfl (dP 1 [] (W7 l n) KL) ?_
 refine w4 ?_
 refine Qe<|fqB f ?_
 exact Qur ‹_› ‹_›
theorem Vb (n:Int)(l:List ByteArray):FC Tryz.prog 230 [(false,[dI n]),(false,[.dat Qb l])] [] 0 (QK (lB (decide (Z1 n l)))):=by
 refine Qj Tryz.func230 rfl rfl Tryz.ntmps230 fun B p A r C y w=> ?_
 refine acI 0 fun _=> ?_
 refine w6 ?_
 refine alL 7 fun _=> ?_
 refine w4 ?_
 refine lpK l.length (fun k=>∀j,j<k→∀x,l[j]? =some x→Ze x n) (fun k=>⟨[(0,lI n),(1,lf (.dat Qb l)),(7,lf (.dat Qb l)),(8,lI (l.length:Int)),(9,lI (k:Int))],[]⟩) ((fun j z=>absurd z (aV j))) ?_ fun k _ q=> ?_
 exact wo []
 refine w4 ?_
 cases f:(decide ((k:Int)<(l.length:Int)))
 have g:=aa f
 refine w5 ?_
 refine lc (dK (YA n 1 8) Xj) ?_
 refine w_ ?_
 cases h:(decide (1≤n∧n≤8))
 have i:=aa h
 refine w6 ?_
 refine Qe<|fqB p ?_
 exact Qnw ‹_›
 have i:=ab h
 refine w_ ?_
 refine alL 26 fun _=> ?_
 refine w5 ?_
 refine Qe<|fqB p ?_
 exact Qus q (by omega) ‹_›
 have g:=ab f
 refine w5 ?_
 obtain ⟨e,d⟩:=gx l k
 refine w6 ?_
 refine lc (dK (Qdd e) Ql2) ?_
 refine w2 ?_
 cases m:(decide (Ze e (e.size:Int)))
 have o:=aa m
 refine w10 ?_
 refine Qe<|fqB p ?_
 exact Quv d ‹_›
 have o:=ab m
 refine w_ ?_
 refine alS 17 fun _=> ?_
 refine lgy rfl rfl (Q5 (Qa rfl) rfl Zo) ?_
 refine w4 ?_
 cases a:(!decide ((e.size:Int)=n))
 have b:((e.size:Int)=n):=Qz a
 refine w6 ?_
 refine Qd ?_
 refine lK_ ((YM q d (Qux ‹_› ‹_›))) ?_
 exact wo []
 have b:¬((e.size:Int)=n):=QG a
 refine w4 ?_
 refine Qe<|fqB p ?_
 exact Quw d ‹_›
theorem Xy (cube:ByteArray)(code:ByteArray)(C:cube.size≤code.size):FC Tryz.prog 220 [(false,[dS cube]),(false,[dS code])] [] 0 (QK (lB (QZ cube code))):=by
 refine Qj Tryz.func220 rfl rfl Tryz.ntmps220 fun A o z p B r q=> ?_
 refine w6 ?_
 refine alS 6 fun _=> ?_
 refine lc (Q5 (Qa rfl) rfl Zo) ?_
 refine w3 ?_
 refine lpK cube.size (fun k=>∀j,j<k→(bAt cube (j:Int)=45∨bAt cube (j:Int)=bAt code (j:Int))) (fun k=>⟨[(0,lf (dS cube)),(1,lf (dS code)),(7,lI (cube.size:Int)),(8,lI (k:Int))],[]⟩) ((fun j y=>absurd y (aV j))) ?_ fun k _ i=> ?_
 exact wo []
 refine w4 ?_
 cases b:(decide ((k:Int)<(cube.size:Int)))
 have d:=aa b
 refine w6 ?_
 refine Qe<|fqB o ?_
 exact QnM i (by omega)
 have d:=ab b
 refine w8 ?_
 obtain ⟨c4,w⟩:=gs cube (((k:Int)).toNat)
 cases a:(!decide (c4=45))
 have e:(c4=45):=Qz a
 apply dW (i3 11 _ _ _ (io 14 (lB false)::i9 15 _ _ _ _ _ _ _ _ _ [])) [0,1,0,0,0,0,32,0,224,480,224,0,0]
 refine z3 ?_
 refine zz (fun _ m=>ac (Q9 (J2 (QbF a)) (QP (m.v rfl) (QJ 45 rfl) rfl)) rfl) ?_
 exact y9
 refine w6 ?_
 refine Qd ?_
 refine lK_ ((Qby i (by first|exact .inl ((QY ‹_›).trans ‹_›)|exact .inr ((QY ‹_›).trans ((‹(_:UInt8)=_›).trans (QY ‹_›).symm))))) ?_
 exact wo []
 have e:¬(c4=45):=QG a
 obtain ⟨h,x⟩:=gs code (((k:Int)).toNat)
 apply dW (i3 11 _ _ _ (io 14 (lB true)::i9 15 _ _ _ _ _ _ _ _ _ [])) [0,1,0,0,0,0,32,0,224,480,224,0,0]
 refine z3 ?_
 refine zz (fun _ m=>ac (Q9 (J2 (QbF a)) (QP (m.v rfl) (QJ 45 rfl) rfl)) rfl) ?_
 exact y9
 cases f:(!decide (c4=h))
 have g:(c4=h):=Qz f
 refine w6 ?_
 refine Qd ?_
 refine lK_ ((Qby i (by first|exact .inl ((QY ‹_›).trans ‹_›)|exact .inr ((QY ‹_›).trans ((‹(_:UInt8)=_›).trans (QY ‹_›).symm))))) ?_
 exact wo []
 have g:¬(c4=h):=QG f
 refine w4 ?_
 refine Qe<|fqB o ?_
 exact Qr5 (k:=k) (by omega) ‹_› ‹_› ‹_› ‹_›
theorem V5 (cube:ByteArray)(code:ByteArray)(C:cube.size≤code.size):FC Tryz.prog 231 [(false,[dS cube]),(false,[dS code])] [] 0 (QK (lB (QZ cube code))):=by
 refine Qj Tryz.func231 rfl rfl Tryz.ntmps231 fun A o z p B r q=> ?_
 refine w8 ?_
 refine lpK cube.size (fun k=>∀j,j<k→(bAt cube (j:Int)=45∨bAt cube (j:Int)=bAt code (j:Int))) (fun k=>⟨[(0,lf (dS cube)),(1,lf (dS code)),(5,lI (k:Int))],[]⟩) ((fun j y=>absurd y (aV j))) ?_ fun k _ i=> ?_
 exact wo []
 refine w4 ?_
 refine alS 7 fun _=> ?_
 refine lc (Q5 (Qa rfl) rfl Zo) ?_
 refine w2 ?_
 cases b:(decide ((k:Int)<(cube.size:Int)))
 have d:=aa b
 refine w6 ?_
 refine Qe<|fqB o ?_
 exact QnM i (by omega)
 have d:=ab b
 refine w4 ?_
 obtain ⟨c4,w⟩:=gs cube (((k:Int)).toNat)
 cases a:(!decide (c4=45))
 have e:(c4=45):=Qz a
 apply dW (i3 12 _ _ _ (io 15 (lB false)::i9 16 _ _ _ _ _ _ _ _ _ [])) [0,1,0,0,0,0,32,0,224,480,224,0,0]
 refine z3 ?_
 refine zz (fun _ m=>ac (Q9 (J2 (QbF a)) (QP (m.v rfl) (QJ 45 rfl) rfl)) rfl) ?_
 exact y9
 refine w7 ?_
 refine Qd ?_
 refine lK_ ((Qby i (by first|exact .inl ((QY ‹_›).trans ‹_›)|exact .inr ((QY ‹_›).trans ((‹(_:UInt8)=_›).trans (QY ‹_›).symm))))) ?_
 exact wo []
 have e:¬(c4=45):=QG a
 obtain ⟨h,x⟩:=gs code (((k:Int)).toNat)
 apply dW (i3 12 _ _ _ (io 15 (lB true)::i9 16 _ _ _ _ _ _ _ _ _ [])) [0,1,0,0,0,0,32,0,224,480,224,0,0]
 refine z3 ?_
 refine zz (fun _ m=>ac (Q9 (J2 (QbF a)) (QP (m.v rfl) (QJ 45 rfl) rfl)) rfl) ?_
 exact y9
 cases f:(!decide (c4=h))
 have g:(c4=h):=Qz f
 refine w7 ?_
 refine Qd ?_
 refine lK_ ((Qby i (by first|exact .inl ((QY ‹_›).trans ‹_›)|exact .inr ((QY ‹_›).trans ((‹(_:UInt8)=_›).trans (QY ‹_›).symm))))) ?_
 exact wo []
 have g:¬(c4=h):=QG f
 refine w4 ?_
 refine Qe<|fqB o ?_
 exact Qr5 (k:=k) (by omega) ‹_› ‹_› ‹_› ‹_›
theorem Qcf (cube:ByteArray)(code:ByteArray)(f:cube.size≤code.size):FC Tryz.prog 225 [(false,[dS cube]),(false,[.ptr 0 0])] [bx 0 9 [dS code]] 1 (Is (lB (QZ cube code)) [bx 0 9 [dS code]]):=by
 refine Qj Tryz.func225 rfl rfl Tryz.ntmps225 fun h e g a i d b=> ?_
 refine w6 ?_
 refine lc (dK (Xy cube code f) KO) ?_
 refine w3 ?_
 exact fi_ [] e ⟨rfl,trivial⟩
theorem U3 (l:List ByteArray)(code:ByteArray)(r:∀c∈l,c.size≤code.size):FC Tryz.prog 223 [(false,[.dat Qb l]),(false,[.clo 225 [0]])] [bx 0 9 [dS code]] 1 (Is (lI (Zf (fun c=>QZ c code) l)) [bx 0 9 [dS code]]):=by
 refine Qj Tryz.func223 rfl rfl Tryz.ntmps223 fun x g w h y p o=> ?_
 refine w6 ?_
 refine alL 6 fun _=> ?_
 refine w4 ?_
 refine lpK l.length (fun k=>NoneTo (fun c=>QZ c code) l k) (fun k=>⟨[(0,lf (.dat Qb l)),(1,lf (.clo 225 [0])),(7,lI (l.length:Int)),(8,lI (k:Int))],[bx 0 9 [dS code]]⟩) (NoneTo.zero) ?_ fun k _ a=> ?_
 exact wo []
 refine w4 ?_
 cases d:(decide ((k:Int)<(l.length:Int)))
 have e:=aa d
 refine w7 ?_
 have i:((-1):Int)=(Zf (fun c=>QZ c code) l):=by
  first|exact (a.no (by omega)).symm
 exact fi_ [] g ⟨rfl,trivial⟩ (h0:=by rw[← i] <;> rfl)
 have e:=ab d
 refine w12 ?_
 obtain ⟨f,b⟩:=gx l k
 refine w2 ?_
 refine lc (Q3 (args0:=[(false,[dS f])]) (caps:=[0]) 1 [(0,0)] (Qcf f code (r _ (ae b))) QlH rfl (Qa rfl) rfl rfl ⟨_,_,rfl,(Qn rfl),rfl⟩ ⟨rfl,trivial⟩ rfl ⟨trivial,trivial⟩ (nlr rfl)) ?_
 refine w_ ?_
 cases q:(QZ f code)
 refine w6 ?_
 refine Qd ?_
 refine lK_ (a.step b ‹_›) ?_
 exact wo []
 refine w6 ?_
 have m:((k:Int):Int)=(Zf (fun c=>QZ c code) l):=by
  exact (a.at b ‹_›).symm
 exact fi_ [] g ⟨rfl,trivial⟩ (h0:=by rw[m] <;> rfl)
theorem VW (l:List ByteArray)(code:ByteArray)(g:∀c∈l,c.size≤code.size):FC Tryz.prog 142 [(false,[.dat Qb l]),(false,[.clo 225 [0]])] [bx 0 9 [dS code]] 1 (Is (lB (l.any (fun c=>QZ c code))) [bx 0 9 [dS code]]):=by
 refine Qj Tryz.func142 rfl rfl Tryz.ntmps142 fun i f h a m e d=> ?_
 refine w6 ?_
 refine lc (dP 1 [] (U3 l code g) WB) ?_
 refine w4 ?_
 have b:(decide (0≤(Zf (fun c=>QZ c code) l)):Bool)=(l.any (fun c=>QZ c code)):=by
  exact Xm _ _
 exact fi_ [] f ⟨rfl,trivial⟩ (h0:=by rw[b] <;> rfl)
theorem V0 (l:List ByteArray)(code:ByteArray)(f:∀c∈l,c.size≤code.size):FC Tryz.prog 150 [(false,[.dat Qb l]),(false,[dS code])] [] 0 (QK (lB (l.any (fun c=>QZ c code)))):=by
 refine Qj Tryz.func150 rfl rfl Tryz.ntmps150 fun h e g a i d b=> ?_
 refine w_ ?_
 refine xbx 0 ?_
 refine w4 ?_
 refine lc (Q1 ⟨_,_,rfl,(Qa rfl),rfl,rfl⟩ rfl) ?_
 refine lc (dP 1 [] (VW l code f) KL) ?_
 refine w3 ?_
 exact fe_ e
theorem WJ (l:List ByteArray)(code:ByteArray)(p:∀c∈l,c.size≤code.size):FC Tryz.prog 155 [(false,[.dat Qb l]),(false,[dS code])] [] 0 (QK (lB (l.any (fun c=>QZ c code)))):=by
 refine Qj Tryz.func155 rfl rfl Tryz.ntmps155 fun r f q h w m i=> ?_
 refine w6 ?_
 refine alL 7 fun _=> ?_
 refine w4 ?_
 refine lpK l.length (fun k=>NoneTo (fun c=>QZ c code) l k) (fun k=>⟨[(1,lf (dS code)),(7,lf (.dat Qb l)),(8,lI (l.length:Int)),(9,lI (k:Int))],[]⟩) (NoneTo.zero) ?_ fun k _ e=> ?_
 exact wo []
 refine w4 ?_
 cases b:(decide ((k:Int)<(l.length:Int)))
 have d:=aa b
 refine w6 ?_
 refine Qe<|fqB f ?_
 first|exact (e.any_no (by omega)).symm
 have d:=ab b
 refine w5 ?_
 obtain ⟨g,a⟩:=gx l k
 refine w7 ?_
 refine lc (dK (V5 g code (p _ (ae a))) Qau) ?_
 refine w_ ?_
 cases o:(QZ g code)
 refine w6 ?_
 refine Qd ?_
 refine lK_ (e.step a ‹_›) ?_
 exact wo []
 refine w4 ?_
 refine Qe<|fqB f ?_
 exact (bu.2 ⟨_,ae a,by assumption⟩).symm
def cdF (c:ByteArray):List ByteArray:=[c++⟨#[48]⟩,c++⟨#[49]⟩]
def QeC:Nat→List ByteArray
 | 0=>[⟨#[]⟩]
 | n+1=>(QeC n).flatMap cdF
open Classical in
noncomputable def unrV (c:DSg):List ByteArray:=if SgOk c then (QeC c.1.length).filter fun x=> !(c.2.1.any fun y=>decide (x=y)) else []
def QBw (l:List ByteArray)(n:Nat):List Int:=((List.range n).map fun i:Nat=>(i:Int)).filter fun i=>l.any fun c=> !decide (bAt c i=45)
section
variable {n k j:Nat}{c x:ByteArray}{l:List ByteArray}
end
def QB9 (c:DSg)(k:Nat):List ByteArray:=((QeC ((c.1.length:Nat):Int).toNat).take k).filter fun x=> !(WE c.2.1 x)
section
variable {α:Type}[DecidableEq α]{l zs:List α}{m i j:Int}{x y:α}
theorem QdM {k:Nat}(b:l[k]? =some x)(d:l[k+1]? =some y):Zp (l.take (k+2))=if x=y then Zp (l.take (k+1)) else Zp (l.take (k+1))++[y]:=by
 rw[QE d,QgU]
 have a:(l.take (k+1)).getLast? =some x:=by rw[QE b];simp
 rw[a]
 by_cases e:x=y
 ·rw[if_pos (by rw[e]),if_pos e,br]
 ·rw[if_neg (fun g=>e (cN g)),if_neg e]
theorem QAU:Zp (l.take 1)=l.take 1:=by cases l <;> rfl
theorem QwD (h:(l.length:Int)<2):l=Zp l:=by
 match l,h with
 | [],_=>rfl
 | [_],_=>rfl
 | _::_::_,h=>simp at h;omega
theorem QwI (f:1≤m)(b:Zp (l.take m.toNat)=l.take m.toNat)(d:l[(m - 1).toNat]? =some x)(a:l[m.toNat]? =some y)(h:¬y=x):Zp (l.take (m+1).toNat)=l.take (m+1).toNat:=by
 have e:m.toNat=(m - 1).toNat+1:=by omega
 rw[show (m+1).toNat=(m - 1).toNat+2 by omega,QdM d (by rw[← e];exact a),if_neg fun g=>h g.symm,← e,b,show (m - 1).toNat+2=m.toNat+1 by omega,QE a]
theorem QwE (f:1≤m)(a:Zp (l.take m.toNat)=l.take m.toNat)(b:l[(m - 1).toNat]? =some x)(d:l[m.toNat]? =some y)(h:y=x):l.take m.toNat=Zp (l.take (m+1).toNat):=by
 have e:m.toNat=(m - 1).toNat+1:=by omega
 rw[show (m+1).toNat=(m - 1).toNat+2 by omega,QdM b (by rw[← e];exact d),if_pos h.symm,← e,a]
theorem QwF (g:1≤m)(f:1≤j)(e:zs.take i.toNat=Zp (l.take (m+j).toNat))(d:∀t:Nat,m+j - 1≤(t:Int)→zs[t]? =l[t]?)(a:zs[m.toNat+(j - 1).toNat]? =some x)(b:zs[m.toNat+j.toNat]? =some y)(h:y=x):zs.take i.toNat=Zp (l.take (m+(j+1)).toNat):=by
 rw[d _ (by omega)] at a b
 rw[e,show (m+(j+1)).toNat=(m.toNat+(j - 1).toNat)+2 by omega,QdM a (by rw[← b];congr 1;omega),if_pos h.symm]
 congr 2;omega
theorem QwG (q:1≤m)(o:1≤j)(h0:0≤i)(p:i<(zs.length:Int))(f:zs.take i.toNat=Zp (l.take (m+j).toNat))(e:∀t:Nat,m+j - 1≤(t:Int)→zs[t]? =l[t]?)(a:zs[m.toNat+(j - 1).toNat]? =some x)(b:zs[m.toNat+j.toNat]? =some y)(h:¬y=x):(zs.set i.toNat y).take (i+1).toNat=Zp (l.take (m+(j+1)).toNat):=by
 have d:(zs.set i.toNat y)[i.toNat]? =some y:=bk (by omega)
 rw[e _ (by omega)] at a b
 rw[show (i+1).toNat=i.toNat+1 by omega,QE d,List.take_set_of_le (aO _),f,show (m+(j+1)).toNat=(m.toNat+(j - 1).toNat)+2 by omega,QdM a (by rw[← b];congr 1;omega),if_neg fun g=>h g.symm]
 congr 3;omega
theorem QwH (hi:i≤m+j - 1)(h0:0≤i)(a:∀t:Nat,m+j - 1≤(t:Int)→zs[t]? =l[t]?):∀t:Nat,m+(j+1) - 1≤(t:Int)→(zs.set i.toNat y)[t]? =l[t]? :=fun t h=>by
 rw[be (by omega)];exact a t (by omega)
theorem Qua (a:Zp (l.take m.toNat)=l.take m.toNat)(h:(l.length:Int)≤m):l=Zp l:=by rw[aP (by omega)] at a;exact a.symm
theorem Qub (h0:0≤i)(d:i≤(zs.length:Int))(r:List α)(a:zs.take i.toNat=Zp (l.take (m+j).toNat))(b:(l.length:Int)≤m+j):(zs.take i.toNat++r).take i.toNat=Zp l:=by
 rw[List.take_left' (by rw[ap];omega),a,aP (by omega)]
end
theorem Za (l:List ByteArray)(hl:l.length≤1000000):FC Tryz.prog 218 [(false,[.ref 0])] [ar 0 9 .str l] 0 (Xv 9 .str (Zp l)):=by
 refine Qj Tryz.func218 rfl rfl Tryz.ntmps218 fun Z L X R X_ T S=> ?_
 refine w9 ?_
 refine cd_ (fun _ _=> ?_) fun _ _=> ?_
 refine w6 ?_
 refine Qu (fun G H=>∃(m:Int),G=((l.length:Int) - m).toNat∧(1≤m∧m≤(l.length:Int))∧(Zp (l.take m.toNat)=l.take m.toNat)∧H=⟨[(0,lR 0),(3,lI m)],[ar 0 9 .str l]⟩) ⟨1,rfl,(by omega),QAU,rfl⟩ ?_ ?_
 exact wo []
 rintro G H ⟨m,V,hm,M,rfl⟩
 refine w7 ?_
 cases A:(decide (m<(l.length:Int)))
 have B:=aa A
 refine w7 ?_
 refine Qe<|fo_ L ?_
 exact Qua M (by omega)
 have B:=ab A
 refine w4 ?_
 obtain ⟨y,E⟩:=gx l ((m).toNat)
 have Q:=E
 obtain ⟨x,F⟩:=gx l ((m - 1).toNat)
 have P:=F
 apply dW (i2 16 _ _ (io 18 (lf (.ept 0 1 ((m).toNat) 0))::io 19 (lf (dS y))::i3 20 _ _ _ [io 23 (lf (.ept 0 1 ((m - 1).toNat) 0)),io 24 (lf (dS x)),io 25 _])) [0,1,0,0,15,31,31,15,15,0]
 refine z2 ?_
 refine zz (fun _ d=>ac (ZH (e:= .str) (d.v rfl) (d.en 0 rfl) (d.v rfl) Zz ZX rfl (by omega) (by first|omega|(simp only[aD];omega))) rfl)<|zz (fun _ d=>ac (Yt (e:= .str) (d.v rfl) (d.n 0 rfl) E rfl ZX rfl rfl) rfl) ?_
 refine z3 ?_
 refine zz (fun _ d=>ac (ZH (e:= .str) (d.v rfl) (d.en 0 rfl) (d.v rfl) Zz ZX rfl (by omega) (by first|omega|(simp only[aD];omega))) rfl)<|zz (fun _ d=>ac (Yt (e:= .str) (d.v rfl) (d.n 0 rfl) F rfl ZX rfl rfl) rfl) ?_
 exact y1
 cases C:(decide (y=x))
 have D:=aa C
 refine w7 ?_
 refine Qd<|QV ⟨(m+1),rfl,(by omega),(QwI (by omega) M P Q ‹_›),rfl⟩ (by omega) ?_
 exact wo []
 have D:=ab C
 refine w4 ?_
 refine lc (Zq (e:= .str) (a:=(m).toNat) (b:=l.length - (m).toNat) (l:=(some m)) (h:=none) (Qa rfl) rfl (by exact (Qa rfl)) (by exact trivial) Zz ZX rfl (by first|(simp only[ak,aj];omega)|omega|(simp only[ak,aj,ah,ap,az];omega)) (by first|(simp only[ak,aj];omega)|omega|(simp only[ak,aj,ah,ap,az];omega)) (by first|(simp only[ak,aj];omega)|omega|(simp only[ak,aj,ah,ap,az];omega)) (by first|rfl|simp) (by first|rfl|simp)) ?_
 refine w7 ?_
 refine Qu (fun G H=>∃(zs:List ByteArray) (i:Int) (j:Int),G=((l.length:Int) - m - j).toNat∧(zs.length=l.length)∧(m≤i∧1≤j∧i≤m+j - 1∧m+j≤(l.length:Int))∧(zs.take i.toNat=Zp (l.take (m+j).toNat))∧(∀t:Nat,m+j - 1≤(t:Int)→zs[t]? =l[t]?)∧H=⟨[(0,lR 1),(3,lI i),(4,lf (.sub 1 1 ((m).toNat) (l.length - (m).toNat))),(5,lI j),(10,lI m),(12,lI (l.length:Int)),(13,lB true),(17,lI m),(19,lf (dS y)),(21,lI m),(22,lI (m - 1)),(24,lf (dS x)),(25,lB true),(27,lI m)],[ar 1 9 .str zs]⟩) ⟨l,m,1,rfl,rfl,(by omega),(QwE (by omega) M P Q ‹_›),(fun t _=>rfl),rfl⟩ ?_ ?_
 exact wo [(1,0)]
 rintro G H ⟨zs,i,j,N,W,U,z,f,rfl⟩
 refine w4 ?_
 refine lc (Qje (e:= .str) (Qa rfl) rfl (by omega) Zz rfl) ?_
 refine w2 ?_
 cases g:(decide (j<((l.length - (m).toNat:Nat):Int)))
 have s:=aa g
 refine w6 ?_
 refine lc (Zq (e:= .str) (a:=(i).toNat) (b:=zs.length - (i).toNat) (l:=(some i)) (h:=none) (Qa rfl) rfl (by exact (Qa rfl)) (by exact trivial) Zz ZX rfl (by first|(simp only[ak,aj];omega)|omega|(simp only[ak,aj,ah,ap,az];omega)) (by first|(simp only[ak,aj];omega)|omega|(simp only[ak,aj,ah,ap,az];omega)) (by first|(simp only[ak,aj];omega)|omega|(simp only[ak,aj,ah,ap,az];omega)) (by first|rfl|simp) (by first|rfl|simp))<|lc (Ur (e:= .str) (Qa rfl) rfl (by omega) Zz Z3 rfl rfl rfl) ?_
 refine w4 ?_
 refine lc (Zq (e:= .str) (a:=0) (b:=(i).toNat) (l:=none) (h:=(some i)) (Qa rfl) rfl (by exact trivial) (by exact (Qa rfl)) Zz ZX rfl (by first|(simp only[ak,aj];omega)|omega|(simp only[ak,aj,ah,ap,az];omega)) (by first|(simp only[ak,aj];omega)|omega|(simp only[ak,aj,ah,ap,az];omega)) (by first|(simp only[ak,aj];omega)|omega|(simp only[ak,aj,ah,ap,az];omega)) (by first|rfl|simp) (by first|rfl|simp)) ?_
 refine w2 ?_
 refine AC.wk (KE 2 2 (e:= .str) (xs:=zs.take ((i).toNat)++List.replicate (zs.length - (i).toNat) (Ty.zero .str)) rfl rfl (by first|omega|(simp only[ah,ap,az];omega)) rfl (Fresh.of rfl) (nlr rfl))<|Qe<|fo_ L ?_
 exact Qub (by omega) (by omega) _ z (by omega)
 have s:=ab g
 refine w4 ?_
 obtain ⟨y2,p⟩:=gx zs (((m).toNat)+(j).toNat)
 have J:=p
 obtain ⟨K,q⟩:=gx zs (((m).toNat)+(j - 1).toNat)
 have I:=q
 apply dW (i2 35 _ _ (io 37 (lf (.ept 1 1 (((m).toNat)+(j).toNat) 0))::io 38 (lf (dS y2))::i3 39 _ _ _ [io 42 (lf (.ept 1 1 (((m).toNat)+(j - 1).toNat) 0)),io 43 (lf (dS K)),io 44 _])) [0,1,0,0,15,31,31,15,15,0]
 refine z2 ?_
 refine zz (fun _ d=>ac (UG (e:= .str) (k:=((m).toNat)+(j).toNat) (d.v rfl) (d.en 1 rfl) (by omega) (d.v rfl) Zz ZX rfl (by omega) (by omega) (by first|rfl|omega)) rfl)<|zz (fun _ d=>ac (Yt (e:= .str) (d.v rfl) (d.n 1 rfl) p rfl ZX rfl rfl) rfl) ?_
 refine z3 ?_
 refine zz (fun _ d=>ac (UG (e:= .str) (k:=((m).toNat)+(j - 1).toNat) (d.v rfl) (d.en 1 rfl) (by omega) (d.v rfl) Zz ZX rfl (by omega) (by omega) (by first|rfl|omega)) rfl)<|zz (fun _ d=>ac (Yt (e:= .str) (d.v rfl) (d.n 1 rfl) q rfl ZX rfl rfl) rfl) ?_
 exact y1
 cases o:(!decide (y2=K))
 have w:(y2=K):=Qz o
 refine w7 ?_
 refine Qd<|QV ⟨zs,i,(j+1),rfl,‹_›,(by omega),(by exact QwF (by omega) (by omega) z f I J ‹_›),(by exact fun t h=>f t (by omega)),rfl⟩ (by omega) ?_
 exact wo []
 have w:¬(y2=K):=QG o
 refine w6 ?_
 refine lc (UG (e:= .str) (k:=((m).toNat)+(j).toNat) (Qa rfl) rfl (by omega) (Qa rfl) Zz ZX rfl (by omega) (by omega) (by first|rfl|omega)) ?_
 refine w2 ?_
 obtain ⟨Y,r⟩:=gx zs ((i).toNat)
 have O:=r
 refine lc (QB (e:= .str) (z':=y2) (Qa rfl) rfl r rfl (Qn rfl) rfl ZX rfl rfl) ?_
 refine w5 ?_
 refine Qd ?_
 refine w5 ?_
 refine Qd<|QV ⟨(zs.set ((i).toNat) y2),(i+1),(j+1),rfl,(by (rw[aD];assumption)),(by omega),(by exact QwG (by omega) (by omega) (by omega) (by omega) z f I J ‹_›),(by exact QwH (by omega) (by omega) f),rfl⟩ (by omega) ?_
 exact wp [] ⟨(Qm (by first|rfl|simp)),trivial⟩
 refine w4 ?_
 refine Qe<|fo_ L ?_
 exact QwD (by omega)
def n0 (l:List ByteArray):Nat:=((l[0]?).getD ByteArray.empty).size
def Qv0 (l:List ByteArray):Prop:=0<l.length∧Z1 (n0 l:Int) l
instance (l:List ByteArray):Decidable (Qv0 l):=inferInstanceAs (Decidable (_∧_))
def QB5 (l:List ByteArray)(i:Int):Bool:=l.any fun c=> !decide (bAt c i=45)
def QB6 (l:List ByteArray):List Int:=if Qv0 l then QBw l (n0 l) else []
section
variable {l:List ByteArray}{c:ByteArray}{k:Nat}{i n:Int}{u:UInt8}
end
end Go.Proofs.YtjfpbcmfbnnooaaGreat
