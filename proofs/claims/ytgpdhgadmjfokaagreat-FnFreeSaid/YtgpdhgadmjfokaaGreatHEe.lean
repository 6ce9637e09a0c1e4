/- Walks over abstract states: masks of labels; pairs of states that violate complete state coding, the program. -/
import Derived.Test.YtgpdhgadmjfokaaGreatHUd
import Derived.Test.YtgpdhgadmjfokaaGreatHVi
import Derived.Test.YtgpdhgadmjfokaaGreatHAv
import Derived.Test.YtgpdhgadmjfokaaGreatHStr
import Derived.Test.YtgpdhgadmjfokaaGreatProg
import Derived.KernelRfl
import Derived.Test.YtgpdhgadmjfokaaGreatHWz
import Derived.Test.YtgpdhgadmjfokaaGreatHWk
import Derived.Test.YtgpdhgadmjfokaaGreatHAl
set_option linter.unusedSimpArgs false
set_option linter.unusedVariables false
set_option linter.unusedSectionVars false
namespace Go.Proofs.YtgpdhgadmjfokaaGreat
open Go.RowKit
set_option maxRecDepth 100000
set_option maxHeartbeats 4000000
structure SgW (c:DSg):Prop where
  sig8:c.1.length≤8
  some_:1≤c.2.1.length∧c.2.1.length≤300
  few:c.2.2.length≤4000
  arcs:∀a∈c.2.2,InR c.2.1.length a∧V5 (c.1.length:Int) (a.2.1,a.2.2.1)
theorem SgOk.w {c:DSg}(h:SgOk c):SgW c:=⟨h.sigs.2.2,h.some_,h.few,fun a ha=>⟨Jh (h.arcs a ha),(h.arcs a ha).2.2.1⟩⟩
def mkV (l:Int×Bool):Int:=(if l.2=true then 2 else 1)*2 ^ (2*l.1).toNat
def orA (s:List Int)(a:DAr):List Int:=if 0≤a.2.1 then s.set a.1.toNat (((((s[a.1.toNat]?).getD 0).toNat ||| (mkV (a.2.1,a.2.2.1)).toNat:Nat)):Int) else s
def QsZ (n:Nat)(as_:List DAr):List Int:=as_.foldl orA (List.replicate n 0)
def mAt (l:List Int)(x:Int):Int:=(l[x.toNat]?).getD 0
def Qn3 (m:Int)(s:Int):Bool:=decide ((((m / 2 ^ (2*s).toNat).toNat &&& (3:Int).toNat:Nat):Int)=0)
def Qs9 (masks pair:List Int)(s:Int):Bool:= !(Qn3 (mAt masks (mAt pair 0)) s==Qn3 (mAt masks (mAt pair 1)) s)
def YY (c:DSg)(k s:Int):Bool:=c.2.2.any fun a=>decide (a.1=k∧a.2.1=s)
def cdA (c:DSg)(j:Nat):ByteArray:=(c.2.1[j]?).getD ByteArray.empty
def Qsk (c:DSg)(f:Nat→Nat→Bool)(i k:Nat):List (List Int):=((List.range k).filter fun j=>decide (i < j)&&(decide (cdA c j=cdA c i)&&f i j)).map fun j:Nat=>[(i:Int),(j:Int)]
def QrZ (c:DSg)(f:Nat→Nat→Bool)(i:Nat):List (List Int):=(List.range i).flatMap fun i=>Qsk c f i c.2.1.length
def Qqc (c:DSg)(i j:Nat):Bool:=(Yg c.1 c.1.length).any fun s=> !(YY c i s==YY c j s)
def QaQ (c:DSg):List (List Int):=QrZ c (Qqc c) c.2.1.length
section
variable {c:DSg}{as_:List DAr}{a:DAr}{i j k n:Nat}{f g:Nat→Nat→Bool}{s x y m:Int}{l masks pair:List Int}{u v:ByteArray}
end
section
variable {c:DSg}{f:Nat→Nat→Bool}{i:Nat}{m:Int}{u v:ByteArray}
end
end Go.Proofs.YtgpdhgadmjfokaaGreat
namespace Go.Proofs.YtgpdhgadmjfokaaGreat
open Go.RowKit
set_option maxRecDepth 100000
set_option maxHeartbeats 4000000
def Qse (c:DSg)(s:ByteArray):Bool:=c.2.2.any fun a=>Qrc s a&&WW c a.2.1
def QqF (f:DAr→Bool)(as_:List DAr)(k:Nat):List Int:=((List.range k).filter fun i=>match as_[i]? with | some a=>f a | none=>false).map fun i=>((i:Nat):Int)
def exL (c:DSg)(q sig:Int)(up:Bool):Bool:=c.2.2.any fun a=>decide (a.1=q∧a.2.1=sig∧a.2.2.1=up)
def Qpg (c:DSg)(sig:Int)(up:Bool)(a:DAr):Bool:= !decide (a.2.1=sig)&&(exL c a.1 sig up&& !exL c a.2.2.2 sig up)
def QrE (c:DSg)(sig:Int)(a:DAr):Bool:=Qpg c sig false a||Qpg c sig true a
abbrev Qqt (c:DSg)(sig:Int)(k:Nat):List Int:=QqF (QrE c sig) c.2.2 k
def Qsa (c:DSg)(k:Nat):Int:=((Yg c.1 k).map fun s=>((Qqt c s c.2.2.length).length:Int)).sum
def QqQ (c:DSg):Int:=Qsa c c.1.length
def Qr1 (sig:Int)(up:Bool)(l:List Int)(a:DAr):List Int:=if a.2.1=sig∧a.2.2.1=up then Q7 ltI a.1 l else l
def exS (sig:Int)(up:Bool)(as_:List DAr):List Int:=as_.foldl (Qr1 sig up) []
def Qpk (c:DSg)(sig:Int)(up:Bool)(l:List Int)(k:Nat):List Int:=(QqF (Qpg c sig up) c.2.2 k).foldl (fun l i=>Q7 ltI i l) l
def Qs2 (c:DSg)(sig:Int):Nat→List Int
  | 0=>[]
  | 1=>Qpk c sig false [] c.2.2.length
  | _=>Qpk c sig true (Qpk c sig false [] c.2.2.length) c.2.2.length
section
variable {c:DSg}{as_:List DAr}{a:DAr}{i j k n:Nat}{s:ByteArray}{sig q x y:Int}{up:Bool}{l:List Int}{f g:DAr→Bool}
def Qtf (c:DSg)(l:List Int):Int:=(l.map fun s=>((Qqt c s c.2.2.length).length:Int)).sum
end
end Go.Proofs.YtgpdhgadmjfokaaGreat
namespace Go.Proofs.YtgpdhgadmjfokaaGreat
open Go.RowKit
set_option maxRecDepth 100000
set_option maxHeartbeats 4000000
def Qsf (s:Int):ByteArray:=(⟨#[UInt8.ofNat (48+s).toNat]⟩:ByteArray)++(⟨#[44]⟩:ByteArray)
def Qs5 (c:DSg)(q:Int)(i:Nat):ByteArray:=((Yg c.1 i).filter fun s=>YY c q s).foldl (fun b s=>b++Qsf s) (⟨#[]⟩:ByteArray)
section
variable {c:DSg}{as_:List DAr}{a:DAr}{i j k n:Nat}{s q:Int}{z:Qz}
theorem Qnv (hx:c.2.2[k]? =some a)(h1:a.1=q)(h2:a.2.1=s):true=YY c q s:=(bR.2 ⟨a,ao hx,aJ ⟨h1,h2⟩⟩).symm
theorem Qps (hn:∀j,j < k→∀a,c.2.2[j]? =some a→¬(a.1=q∧a.2.1=s))(hk:c.2.2.length≤k):false=YY c q s:=(ce.2 fun a ha=>by
  obtain ⟨j,hj⟩:=aM.1 ha
  have:=(aj.1 hj).1
  simpa using hn j (by omega) a hj).symm
end
section
variable [∀c,Decidable (SgOk c)][∀s,Decidable (XV s)]{c:DSg}{x:(Int×Bool)×Int×Bool}
abbrev Qp9 (c:DSg)(x:(Int×Bool)×Int×Bool):ByteArray:=Qpv c (Uh c x.1 x.2)
abbrev Qoq (c:DSg)(x:(Int×Bool)×Int×Bool):(DSg×List Int)×Bool:=Qsx c (QrH c) (Qp9 c x)
def QqI (c:DSg)(x:(Int×Bool)×Int×Bool):Bool:=okB c x.1 x.2&& !Qse c (Qp9 c x)
def Qfi (c:DSg)(x:(Int×Bool)×Int×Bool):DSg×Bool:=
  if QqI c x=true then ((Qoq c x).1.1,(Qoq c x).2&&decide (QqQ (Qoq c x).1.1≤QqQ c)) else (Um,false)
def Qqe (c:DSg)(x:(Int×Bool)×Int×Bool):Prop:=((SgOk c∧(0≤x.1.1∧x.1.1≤(c.1.length:Int) - 1))∧(0≤x.2.1∧x.2.1≤(c.1.length:Int) - 1))∧¬x.1=x.2
instance:Decidable (Qqe c x):=inferInstanceAs (Decidable (_∧_))
def Qoa (c:DSg)(x:(Int×Bool)×Int×Bool):Bool:=decide (Qqe c x)&&(Qfi c x).2
def QsA (c:DSg)(x:(Int×Bool)×Int×Bool):Int:=if Qoa c x=true then ((QaQ (Qfi c x).1).length:Int) else 0
def QsM (c:DSg)(x:(Int×Bool)×Int×Bool):Int:=if Qoa c x=true then ((Qfi c x).1.2.1.length:Int) else 0
end
theorem Jo (c:(List (ByteArray×Int))×List ByteArray×(List (Int×Int×Bool×Int)))(k:Int)(sig:Int):FC Tryz.prog 286 [(true,[.dat (.sl 44 (.pr .str .int)) c.1, .dat (.sl 9 .str) c.2.1, .dat (.sl 46 (.pr .int (.pr .int (.pr .bool .int)))) c.2.2]),(false,[dI k]),(false,[dI sig])] [] 0 (QV (lB (YY c k sig))):=by
 refine Qj Tryz.func286 rfl rfl Tryz.ntmps286 fun O_ hO w0_ N0_ X_ h0_ f0_=> ?_
 refine acI 1 fun hi1=> ?_
 refine acI 2 fun hi2=> ?_
 refine w_ ?_
 refine xbx 0 ?_
 iterate 6 refine w_ ?_
 refine alL 10 fun hl3=> ?_
 iterate 4 refine w_ ?_
 refine lpK c.2.2.length (fun i=>∀j,j < i→∀a,c.2.2[j]? =some a→¬(a.1=k∧a.2.1=sig)) (fun i=>⟨[(1,lI k),(2,lI sig),(10,lf (.dat (.sl 46 (.pr .int (.pr .int (.pr .bool .int)))) c.2.2)),(11,lI (c.2.2.length:Int)),(12,lI (i:Int))],[]⟩) ((fun j hj=>absurd hj (bc j))) ?_ fun i hk4 hno=> ?_
 · exact Wk.of [] rfl ⟨rfl,rfl,rfl,rfl,rfl,trivial⟩ trivial rfl rfl
 iterate 4 refine w_ ?_
 cases hb5:(decide ((i:Int) < (c.2.2.length:Int)))
 ·have hb5':=ab hb5
  refine w_ ?_
  refine Qi ?_
  refine (?_:AC _ _ _ _ _)
  iterate 3 refine w_ ?_
  refine Qb<|fqB hO ?_
  first | exact Qps hno (by omega)
 ·have hb5':=ae hb5
  iterate 5 refine w_ ?_
  obtain ⟨x6,hx7⟩:∃z,c.2.2[i]? =some z:=⟨_,aa (by omega)⟩
  iterate 2 refine w_ ?_
  refine lc (xal 1 (.pr .int (.pr .int (.pr .bool .int))) KH) ?_
  iterate 5 refine w_ ?_
  refine alI 17 fun hi8=> ?_
  iterate 3 refine w_ ?_
  cases hb9:(decide (x6.1=k))
  ·have hb9':=ab hb9
   iterate 7 refine w_ ?_
   refine AC.skip ?_
   refine (?_:AC _ _ _ _ _)
   iterate 3 refine w_ ?_
   refine Qd ?_
   refine lK_ ((Y5 hno hx7 (by first | (exact fun g=>absurd g.1 (by assumption)) | (exact fun g=>absurd g.2 (by assumption))))) ?_
   exact Wk.of [] rfl ⟨rfl,rfl,rfl,rfl,rfl,trivial⟩ trivial rfl rfl
  ·have hb9':=ae hb9
   iterate 6 refine w_ ?_
   cases hb10:(decide (x6.2.1=sig))
   ·have hb10':=ab hb10
    refine w_ ?_
    refine AC.skip ?_
    refine (?_:AC _ _ _ _ _)
    iterate 3 refine w_ ?_
    refine Qd ?_
    refine lK_ ((Y5 hno hx7 (by first | (exact fun g=>absurd g.1 (by assumption)) | (exact fun g=>absurd g.2 (by assumption))))) ?_
    exact Wk.of [] rfl ⟨rfl,rfl,rfl,rfl,rfl,trivial⟩ trivial rfl rfl
   ·have hb10':=ae hb10
    iterate 4 refine w_ ?_
    refine Qb<|fqB hO ?_
    exact Qnv hx7 (by assumption) (by assumption)
end Go.Proofs.YtgpdhgadmjfokaaGreat
namespace Go.Proofs.YtgpdhgadmjfokaaGreat
open Go.RowKit
set_option maxRecDepth 100000
set_option maxHeartbeats 4000000
abbrev Yq:=(Int×Bool)×Int×Bool
def Qn9 (k:Nat):List (Int×Bool):=(List.range k).flatMap fun i=>[(((i:Nat):Int),false),(((i:Nat):Int),true)]
section
variable {k:Nat}
end
section
variable [∀c,Decidable (SgOk c)][∀s,Decidable (XV s)]{c:DSg}{a b:Int×Bool}{i j k n:Nat}{x:Yq}{L:List (Int×Bool)}
def isX (c:DSg)(a b:Int×Bool):Bool:= !decide (a=b)&&(Qfi c (a,b)).2
def QrX (c:DSg)(a:Int×Bool)(l:List (Int×Bool)):List Yq:=(l.filter fun b=>isX c a b).map fun b=>(a,b)
def QrQ (c:DSg)(L l:List (Int×Bool)):List Yq:=l.flatMap fun a=>QrX c a L
abbrev QjI (c:DSg):List Yq:=QrQ c (Qn9 c.1.length) (Qn9 c.1.length)
abbrev QsN (c:DSg)(l:List Yq):List (Yq×DSg):=l.map fun x=>(x,(Qfi c x).1)
def Qdy (c:DSg)(x:Yq):Int:=((QaQ (Qfi c x).1).length:Int)
def QlU (c:DSg)(x:Yq):Int:=((Qfi c x).1.2.1.length:Int)
def QoG (c:DSg)(m:Option Yq)(x:Yq):Option Yq:=match m with
  | none=>some x
  | some y=>if Qdy c x < Qdy c y∨(Qdy c x=Qdy c y∧QlU c x < QlU c y) then some x else some y
def oC (c:DSg):Option Yq→Yq×DSg
  | some x=>(x,(Qfi c x).1)
  | none=>(((0,false),0,false),([],[],[]))
def oF (c:DSg)(d:Int):Option Yq→Int
  | some x=>Qdy c x
  | none=>d
def oS (c:DSg):Option Yq→Int
  | some x=>QlU c x
  | none=>0
def Qau (c:DSg)(l:List Yq):Option Yq:=l.foldl (QoG c) none
def Qn0 (c:DSg)(l:List Yq):Yq:=(Qau c l).getD ((0,false),0,false)
def Qqz (c:DSg)(l:List Yq):Yq×DSg:=oC c (Qau c l)
def Qp0 (c:DSg)(l:List Yq):Int:=oF c 0 (Qau c l)
def QsF (c:DSg)(l:List Yq):Int:=oF c (-1) (Qau c l)
def QsI (c:DSg)(l:List Yq):Int:=oS c (Qau c l)
def QsQ (c:DSg):Yq:=if SgOk c then Qn0 c (QjI c) else ((0,false),0,false)
def QsP (c:DSg):Bool:=decide (SgOk c)&&(Qau c (QjI c)).isSome
section
variable {l:List Yq}{y cand:Yq×DSg}{few st:Int}{fnd:Bool}{bx:Yq}
end
end
end Go.Proofs.YtgpdhgadmjfokaaGreat
namespace Go.Proofs.YtgpdhgadmjfokaaGreat
open Go.RowKit
attribute [local irreducible] TF
abbrev Qbn:Type:=Zu×Zu
abbrev QpC:Ty:= .pr JS JS
end Go.Proofs.YtgpdhgadmjfokaaGreat
namespace Go.Proofs.YtgpdhgadmjfokaaGreat
open Go.RowKit
set_option maxRecDepth 100000
set_option maxHeartbeats 4000000
@[reducible] def Qog:(Qbn)→Int→(Qbn)×Int:=fun _ k=>(((k,decide ((k+1) % 3=0)),(k+1+1,decide ((k+1+1+1) % 3=0))),k+1+1+1+1)
end Go.Proofs.YtgpdhgadmjfokaaGreat
namespace Go.Proofs.YtgpdhgadmjfokaaGreat
open Go.RowKit
set_option maxRecDepth 100000
set_option maxHeartbeats 4000000
def inv (h:Int)(a:DAr):Bool:=decide (a.2.1= -1)||decide (a.2.1=h)
inductive Ch (rs:List DAr) (h:Int) (S:Int→Prop):Int→Prop
  | base {u:Int}:S u→Ch rs h S u
  | step {a:DAr}:Ch rs h S a.1→a∈rs→inv h a=true→Ch rs h S a.2.2.2
def stS (h:Int)(S:List Int)(a:DAr):List Int:=if inv h a=true∧a.1∈S then Q7 ltI a.2.2.2 S else S
def stP (h:Int)(rs:List DAr)(S:List Int):List Int:=rs.foldl (stS h) S
def stN (h:Int)(rs:List DAr):Nat→List Int→List Int
  | 0,S=>S
  | k+1,S=>stP h rs (stN h rs k S)
def stl (c:DSg)(h:Int)(S:List Int):List Int:=stN h c.2.2 c.2.1.length S
@[reducible] def Srt (S:List Int):Prop:=S.Pairwise fun x y=>ltI x y=true
section
variable {rs as_:List DAr}{a:DAr}{h:Int}{S T_:List Int}{P Q:Int→Prop}{u v:Int}{n k:Nat}
theorem Ch.mono (hq:∀u,P u→Ch rs h Q u)(k:Ch rs h P u):Ch rs h Q u:=by
  induction k with
  | base h1=>exact hq _ h1
  | step _ h2 h3 ih=>exact .step ih h2 h3
theorem Ch.congr (hq:∀u,P u↔Q u):Ch rs h P u↔Ch rs h Q u:=⟨Ch.mono fun _ k=> .base ((hq _).1 k),Ch.mono fun _ k=> .base ((hq _).2 k)⟩
theorem QiP (hx:u∈S):u∈stS h S a:=by
  unfold stS; split
  · exact Yr.2 (.inr hx)
  · exact hx
theorem QdG (hx:u∈S):u∈stP h as_ S:=by
  induction as_ generalizing S with
  | nil=>exact hx
  | cons a l ih=>exact ih (QiP hx)
theorem QnH (hx:u∈S):u∈stN h rs k S:=by
  induction k with
  | zero=>exact hx
  | succ k ih=>exact QdG ih
theorem Qnq (hs:Srt S):Srt (stS h S a):=by
  unfold stS; split
  · exact Ua Wj hs
  · exact hs
theorem Qid (hs:Srt S):Srt (stP h as_ S):=by
  induction as_ generalizing S with
  | nil=>exact hs
  | cons a l ih=>exact ih (Qnq hs)
theorem K2 (hs:Srt S):Srt (stN h rs k S):=by
  induction k with
  | zero=>exact hs
  | succ k ih=>exact Qid ih
theorem QoD (hsub:∀a∈as_,a∈rs)(hS:∀u∈S,Ch rs h P u):∀u∈stP h as_ S,Ch rs h P u:=by
  induction as_ generalizing S with
  | nil=>exact hS
  | cons a l ih=>
    refine ih (fun b hb=>hsub b (ax _ hb)) fun u hu=> ?_
    unfold stS at hu
    split at hu
    · rename_i h1
      rcases Yr.1 hu with rfl | h2
      · exact .step (hS _ h1.2) (hsub a (ay ..)) h1.1
      · exact hS _ h2
    · exact hS _ hu
theorem QlK (hS:∀u∈S,Ch rs h P u):∀u∈stN h rs k S,Ch rs h P u:=by
  induction k with
  | zero=>exact hS
  | succ k ih=>exact QoD (fun _ h=>h) ih
theorem Qnz (ha:a∈as_)(hi:inv h a=true)(hu:a.1∈S):a.2.2.2∈stP h as_ S:=by
  induction as_ generalizing S with
  | nil=>cases ha
  | cons b l ih=>
    rcases aD.1 ha with rfl | ha
    · refine QdG (as_ := l) ?_
      unfold stS; rw[if_pos ⟨hi,hu⟩]
      exact Yr.2 (.inl rfl)
    · exact ih ha (QiP hu)
theorem Qcg (hs:Srt S):S.Nodup:=hs.imp fun h e=>by subst e; simp[ltI] at h
theorem JP {α:Type}[DecidableEq α]:∀{l m:List α},l.Nodup→(∀x∈l,x∈m)→l.length≤m.length
  | [],_,_,_=>aT _
  | a :: l,m,hn,hs=>by
    obtain ⟨h1,h2⟩:=bp.1 hn
    have ha:=hs a (ay ..)
    have h3:=JP (m:=m.erase a) h2 fun x hx=>(List.mem_erase_of_ne (fun e=>h1 (by rw[← e]; exact hx))).2 (hs x (ax _ hx))
    rw[List.length_erase_of_mem ha] at h3
    have:=List.length_pos_of_mem ha
    rw[aq]; omega
theorem QnQ (hs:Srt S)(hn:∀u∈S,0≤u∧u < (n:Int)):S.length≤n:=by
  have h1:(S.map Int.toNat).Nodup:=by
    unfold List.Nodup
    rw[List.pairwise_map]
    exact (Qcg hs).imp_of_mem fun ha hb h e=>h (by have:=hn _ ha; have:=hn _ hb; omega)
  have h2:(S.map Int.toNat) ⊆ List.range n:=fun x hx=>by
    obtain ⟨u,hu,rfl⟩:=b8.1 hx
    have:=hn u hu
    exact cv.2 (by omega)
  have:=JP h1 h2
  rwa [aQ,List.length_range] at this
theorem Qm3 (hr:∀a∈rs,0≤a.2.2.2∧a.2.2.2 < (n:Int))(hn:∀u∈S,0≤u∧u < (n:Int)):∀u∈stN h rs k S,0≤u∧u < (n:Int):=by
  have h1:∀u,Ch rs h (fun v=>v∈S) u→0≤u∧u < (n:Int):=fun u hu=>by
    induction hu with
    | base h2=>exact hn _ h2
    | step _ h2 _ _=>exact hr _ h2
  exact fun u hu=>h1 u (QlK (P:=fun v=>v∈S) (fun v hv=> .base hv) u hu)
theorem QoC (hs:Srt S)(ht:Srt T_)(hsub:∀u∈S,u∈T_):T_=S∨S.length < T_.length:=by
  by_cases hc:∀x∈T_,x∈S
  · exact .inl (Wj.ext ht hs fun x=>⟨hc x,hsub x⟩)
  · obtain ⟨x, hx⟩ := Classical.not_forall.1 hc
    obtain ⟨h1,h2⟩:=Classical.not_imp.1 hx
    have:=JP (l:=x :: S) (m:=T_) (bp.2 ⟨h2,Qcg hs⟩) fun y hy=>by
      rcases aD.1 hy with rfl | hy
      · exact h1
      · exact hsub y hy
    rw[aq] at this
    exact .inr this
theorem Qik (hs:Srt S)(h1:stP h rs (stN h rs k S)=stN h rs k S):∀j,stN h rs (k+j) S=stN h rs k S
  | 0=>rfl
  | j+1=>by rw[← bD,stN,Qik hs h1 j,h1]
theorem QkC (hs:Srt S):(∃j,j < k∧stP h rs (stN h rs j S)=stN h rs j S)∨S.length+k≤(stN h rs k S).length:=by
  induction k with
  | zero=>exact .inr (aO _)
  | succ k ih=>
    rcases ih with ⟨j,h1,h2⟩ | h1
    · exact .inl ⟨j,by omega,h2⟩
    · rcases QoC (K2 (h := h) (rs := rs) (k := k) hs) (Qid (K2 hs)) (fun u hu => QdG (h := h) (as_ := rs) hu) with h2 | h2
      · exact .inl ⟨k,by omega,h2⟩
      · right; rw[stN]; omega
theorem Qhb (hs:Srt S)(hr:∀a∈rs,0≤a.2.2.2∧a.2.2.2 < (n:Int))(hn:∀u∈S,0≤u∧u < (n:Int)):∀u,u∈stN h rs n S↔Ch rs h (fun v=>v∈S) u:=by
  have hc:stP h rs (stN h rs n S)=stN h rs n S:=by
    rcases QkC (rs:=rs) (h:=h) (k:=n) hs with ⟨j,h1,h2⟩ | h1
    · have h3 := Qik hs h2 (n - j)
      rw[show j+(n - j)=n by omega] at h3
      rw[h3,h2]
    · have h2 := QnQ (K2 (h := h) (rs := rs) (k := n) hs) (Qm3 hr hn)
      have h3:S=[]:=bE (by omega)
      subst h3
      have h4:∀(l:List DAr),stP h l []=[]:=fun l=>by
        induction l with
        | nil=>rfl
        | cons a l ih=>show stP h l (stS h [] a)=[]; rw[show stS h [] a=[] from if_neg (by simp)]; exact ih
      have h5:∀k,stN h rs k []=[]:=fun k=>by
        induction k with
        | zero=>rfl
        | succ k ih=>rw[stN,ih,h4]
      rw[h5,h4]
  refine fun u=>⟨QlK (fun v hv=> .base hv) u,fun hu=> ?_⟩
  induction hu with
  | base h1=>exact QnH h1
  | step _ h2 h3 ih=>rw[← hc]; exact Qnz h2 h3 ih
def clA (rs:List DAr)(h u:Int)(out:List Int):List Int:=rs.foldl (fun out a=>if a.1=u∧inv h a=true∧¬a.2.2.2∈out then out++[a.2.2.2] else out) out
def clL (rs:List DAr)(h:Int):Nat→Nat→List Int→List Int
  | 0,_,out=>out
  | f+1,k,out=>match out[k]? with
    | none=>out
    | some u=>clL rs h f (k+1) (clA rs h u out)
theorem Qdz:∃r,clA as_ h u S=S++r:=by
  unfold clA
  induction as_ generalizing S with
  | nil=>exact ⟨[],(bA _).symm⟩
  | cons a l ih=>
    rw[bq]
    split
    · obtain ⟨r, hr⟩ := ih (S := S ++ [a.2.2.2])
      exact ⟨a.2.2.2 :: r,by rw[hr,aS]; rfl⟩
    · exact ih
theorem Qj4 (hs:S.Nodup):(clA as_ h u S).Nodup:=by
  unfold clA
  induction as_ generalizing S with
  | nil=>exact hs
  | cons a l ih=>
    rw[bq]
    split
    · rename_i h1
      exact ih (ba.2 ⟨hs,by simp,fun x hx y hy e=>by rw[aC] at hy; subst hy; subst e; exact h1.2.2 hx⟩)
    · exact ih hs
theorem Qol (hsub:∀a∈as_,a∈rs)(hu:Ch rs h P u)(hS:∀v∈S,Ch rs h P v):∀v∈clA as_ h u S,Ch rs h P v:=by
  unfold clA
  induction as_ generalizing S with
  | nil=>exact hS
  | cons a l ih=>
    rw[bq]
    refine ih (fun b hb=>hsub b (ax _ hb)) ?_
    split
    · rename_i h1
      intro v hv
      rcases aG.1 hv with hv | hv
      · exact hS v hv
      · rw [aC] at hv; subst hv
        exact .step (by rw[h1.1]; exact hu) (hsub a (ay ..)) h1.2.1
    · exact hS
theorem Qnk (ha:a∈as_)(hi:inv h a=true)(hu:a.1=u):a.2.2.2∈clA as_ h u S:=by
  induction as_ generalizing S with
  | nil=>cases ha
  | cons b l ih=>
    rcases aD.1 ha with rfl | ha
    · unfold clA
      rw[bq]
      split
      · obtain ⟨r, hr⟩ := Qdz (as_ := l) (h := h) (u := u) (S := S ++ [a.2.2.2])
        unfold clA at hr
        rw[hr]; simp
      · rename_i h1
        obtain ⟨r,hr⟩:=Qdz (as_:=l) (h:=h) (u:=u) (S:=S)
        unfold clA at hr
        rw[hr]
        exact aP _ (bO fun g=>h1 ⟨hu,hi,g⟩)
    · unfold clA at ih ⊢
      rw[bq]; exact ih ha
structure ClI (rs:List DAr) (h:Int) (P:Int→Prop) (k:Nat) (out:List Int):Prop where
  nod:out.Nodup
  ch:∀v∈out,Ch rs h P v
  bas:∀v,P v→v∈out
  don:∀(j:Nat) w,j < k→out[j]? =some w→∀a∈rs,a.1=w→inv h a=true→a.2.2.2∈out
  le:k≤out.length
theorem ClI.zero (hs:S.Nodup)(hp:∀v,P v↔v∈S):ClI rs h P 0 S:=⟨hs,fun v hv=> .base ((hp v).2 hv),fun v hv=>(hp v).1 hv,fun j w hj=>absurd hj (bc _),aT _⟩
theorem ClI.step {out:List Int}(g:ClI rs h P k out)(hu:out[k]? =some u):ClI rs h P (k+1) (clA rs h u out):=by
  obtain ⟨r,hr⟩:=Qdz (as_:=rs) (h:=h) (u:=u) (S:=out)
  have hk:=(aj.1 hu).1
  refine ⟨Qj4 g.nod,Qol (fun _ h=>h) (g.ch u (ao hu)) g.ch,fun v hv=>by rw[hr]; exact aP _ (g.bas v hv),fun j w hj hw a ha e hi=> ?_,by rw[hr,ak]; omega⟩
  by_cases e1:j=k
  · subst e1
    have hw:out[j]? =some w:=by rw[hr,bd hk] at hw; exact hw
    rw[hu] at hw; cases hw
    exact Qnk ha hi e
  · have hj2 : j < out.length := by omega
    rw[hr,bd hj2] at hw
    rw[hr]; exact aP _ (g.don j w (by omega) hw a ha e hi)
theorem ClI.end_ {out:List Int}(g:ClI rs h P k out)(hk:out.length≤k):∀v,v∈out↔Ch rs h P v:=by
  refine fun v=>⟨g.ch v,fun hv=> ?_⟩
  induction hv with
  | base h1=>exact g.bas _ h1
  | step _ h2 h3 ih=>
    obtain ⟨j,hj⟩:=aM.1 ih
    exact g.don j _ (by have:=(aj.1 hj).1; omega) hj _ h2 rfl h3
end
def QjD (b:UInt8):Bool:=b==43||b==45
def sgB (up:Bool):ByteArray:=if up=true then ⟨#[43]⟩ else ⟨#[45]⟩
def wdA (c:DSg)(a:DAr):ByteArray:=((c.1[a.2.1.toNat]?).getD (ByteArray.empty,0)).1++sgB a.2.2.1
def tl (t:ByteArray):List UInt8:=t.data.toList
def QrR (l:List UInt8):Prop:=l=[]∨∃l0 s,l=l0++[s]∧QjD s=true
theorem QkW (s t:ByteArray):tl (s++t)=tl s++tl t:=by simp[tl]
end Go.Proofs.YtgpdhgadmjfokaaGreat
namespace Go.Proofs.YtgpdhgadmjfokaaGreat
open Go.RowKit
set_option maxRecDepth 100000
set_option maxHeartbeats 4000000
inductive Tr (c:DSg) (h:Int):Nat→ByteArray→Int→Prop
  | zero:Tr c h 0 ByteArray.empty 0
  | still {n:Nat} {t:ByteArray} {a:DAr}:Tr c h n t a.1→a∈c.2.2→inv h a=true→Tr c h n t a.2.2.2
  | word {n:Nat} {t:ByteArray} {a:DAr}:Tr c h n t a.1→a∈c.2.2→inv h a=false→Tr c h (n+1) (t++wdA c a) a.2.2.2
@[reducible] def DTx:=ByteArray×List Int×Int
@[reducible] def DLv:=List (ByteArray×List Int)
def Vs (c:DSg)(h:Int)(L:DLv)(s:ByteArray)(v:Int):Prop:=∃q∈L,∃a∈c.2.2,inv h a=false∧a.1∈q.2∧s=q.1++wdA c a∧v=a.2.2.2
structure Lev (c:DSg) (h:Int) (n:Nat) (K:DLv):Prop where
  nod:K.Pairwise fun p q=>p.1≠q.1
  mem:∀p∈K,(∃u,u∈p.2)∧∀u,u∈p.2↔Tr c h n p.1 u
  all:∀t u,Tr c h n t u→∃p∈K,p.1=t
section
variable {c:DSg}{h:Int}{n m:Nat}{s t:ByteArray}{u v:Int}{K L M:DLv}{a:DAr}
theorem Tr.ch {P:Int→Prop}(hp:∀u,P u→Tr c h n t u)(k:Ch c.2.2 h P u):Tr c h n t u:=by
  induction k with
  | base h1=>exact hp _ h1
  | step _ h2 h3 ih=>exact .still ih h2 h3
theorem H6:Tr c h 0 t u↔t=ByteArray.empty∧Ch c.2.2 h (fun v=>v=0) u:=by
  constructor
  · intro k
    generalize e:0=n at k
    induction k with
    | zero=>exact ⟨rfl, .base rfl⟩
    | still _ h2 h3 ih=>exact ⟨(ih e).1, .step (ih e).2 h2 h3⟩
    | word=>cases e
  · rintro ⟨rfl, k⟩
    exact Tr.ch (fun u hu=>by subst hu; exact .zero) k
theorem Qm9:Tr c h (n+1) s u↔Ch c.2.2 h (fun v=>∃t,∃a∈c.2.2,inv h a=false∧Tr c h n t a.1∧s=t++wdA c a∧v=a.2.2.2) u:=by
  constructor
  · intro k
    generalize e:n+1=m at k
    induction k with
    | zero=>cases e
    | still _ h2 h3 ih=>exact .step (ih e) h2 h3
    | word h1 h2 h3=>
      cases e
      exact .base ⟨_,_,h2,h3,h1,rfl,rfl⟩
  · exact Tr.ch fun u ⟨t,a,h1,h2,h3,h4,h5⟩=>by subst h4; subst h5; exact .word h3 h1 h2
theorem Lev.vs (g:Lev c h n L):Vs c h L s v↔∃t,∃a∈c.2.2,inv h a=false∧Tr c h n t a.1∧s=t++wdA c a∧v=a.2.2.2:=by
  constructor
  · rintro ⟨q, hq, a, h1, h2, h3, h4, h5⟩
    exact ⟨q.1,a,h1,h2,((g.mem q hq).2 _).1 h3,h4,h5⟩
  · rintro ⟨t, a, h1, h2, h3, h4, h5⟩
    obtain ⟨q,hq,rfl⟩:=g.all t _ h3
    exact ⟨q,hq,a,h1,h2,((g.mem q hq).2 _).2 h3,h4,h5⟩
theorem Lev.next (g:Lev c h n L)(hn:M.Pairwise fun p q=>p.1≠q.1)(hm:∀p∈M,(∃v,Vs c h L p.1 v)∧∀u,u∈p.2↔Ch c.2.2 h (fun v=>Vs c h L p.1 v) u)(ha:∀s v,Vs c h L s v→∃p∈M,p.1=s):Lev c h (n+1) M:=by
  have e:∀s u,Ch c.2.2 h (fun v=>Vs c h L s v) u↔Tr c h (n+1) s u:=fun s u=>(Ch.congr fun _=>g.vs).trans Qm9.symm
  refine ⟨hn,fun p hp=>⟨?_,fun u=>((hm p hp).2 u).trans (e _ _)⟩,fun t u hu=> ?_⟩
  · obtain ⟨v, hv⟩ := (hm p hp).1
    exact ⟨v,((hm p hp).2 v).2 (.base hv)⟩
  · have h1 := (e t u).2 hu
    have h2:∃v,Vs c h L t v:=by
      induction h1 with
      | base h2=>exact ⟨_,h2⟩
      | step h1 _ _ ih=>exact ih ((e _ _).1 h1)
    obtain ⟨v,hv⟩:=h2
    exact ha t v hv
def UT:List DTx→DTx→List DTx
  | [],x=>[x]
  | y :: l,x=>if y.1=x.1∧y.2.2=x.2.2 then (y.1,x.2.1.foldl (fun s k=>Q7 ltI k s) y.2.1,y.2.2) :: l else y :: UT l x
def arT (c:DSg)(h:Int)(x:DTx)(out:List DTx)(a:DAr):List DTx:=if inv h a=false∧a.1∈x.2.1 then UT out (x.1++wdA c a,[a.2.2.2],x.2.2+1) else out
def QmI (c:DSg)(h:Int)(as_:List DAr)(x:DTx)(out:List DTx):List DTx:=as_.foldl (arT c h x) out
def QmB (c:DSg)(h:Int)(L:List DTx)(out:List DTx):List DTx:=L.foldl (fun out x=>QmI c h c.2.2 x out) out
def Qph (c:DSg)(h:Int)(y:DTx):DTx:=(y.1,stl c h y.2.1,y.2.2)
def QqP (c:DSg)(h:Int)(L:List DTx):List DTx:=(QmB c h L []).map (Qph c h)
def KC (c:DSg)(h:Int):Nat→List DTx
  | 0=>[(ByteArray.empty,stl c h [0],0)]
  | n+1=>QqP c h (KC c h n)
def unT (L:List DTx):DLv:=L.map fun x=>(x.1,x.2.1)
structure OT (m:Int) (V:ByteArray→Int→Prop) (out:List DTx):Prop where
  many:∀y∈out,y.2.2=m
  nod:out.Pairwise fun p q=>p.1≠q.1
  srt:∀y∈out,Srt y.2.1
  mem:∀y∈out,∀v,v∈y.2.1↔V y.1 v
  wit:∀y∈out,∃v,V y.1 v
  all:∀s v,V s v→∃y∈out,y.1=s
theorem OT.congr {i:Int}{V W:ByteArray→Int→Prop}{out:List DTx}(g:OT i V out)(e:∀s v,V s v↔W s v):OT i W out:=
  ⟨g.many,g.nod,g.srt,fun y hy v=>(g.mem y hy v).trans (e _ _),fun y hy=>(g.wit y hy).imp fun v hv=>(e _ _).1 hv,fun s v hv=>g.all s v ((e _ _).2 hv)⟩
theorem QeW {i:Int}:∀{out:List DTx} {y:DTx},(∀y∈out,y.2.2=i)→(out.Pairwise fun p q=>p.1≠q.1)→(y∈UT out (s,[v],i)↔(y∈out∧y.1≠s)∨(∃z∈out,z.1=s∧y=(z.1,Q7 ltI v z.2.1,z.2.2))∨((∀z∈out,z.1≠s)∧y=(s,[v],i)))
  | [],y,_,_=>by simp[UT]
  | z :: l,y,hm,hn=>by
    obtain ⟨hn1,hn2⟩:=bi.1 hn
    have hm1:=hm z (ay ..)
    rw[UT]
    by_cases e:z.1=s
    · rw [if_pos ⟨e, hm1⟩]
      have hl:∀x∈l,x.1≠s:=fun x hx g=>hn1 x hx (e.trans g.symm)
      simp only[bq,List.foldl_nil,aD]
      constructor
      · rintro (rfl | hy)
        · exact .inr (.inl ⟨z, .inl rfl,e,rfl⟩)
        · exact .inl ⟨.inr hy,hl y hy⟩
      · rintro (⟨rfl | hy, h2⟩ | ⟨x, rfl | hx, h2, rfl⟩ | ⟨h1, _⟩)
        · exact absurd e h2
        · exact .inr hy
        · exact .inl rfl
        · exact absurd h2 (hl x hx)
        · exact absurd e (h1 z (.inl rfl))
    · rw [if_neg (fun g => e g.1)]
      have ih:=QeW (out:=l) (y:=y) (fun x hx=>hm x (ax _ hx)) hn2
      rw[aD,ih]
      simp only[aD]
      constructor
      · rintro (rfl | ⟨h1, h2⟩ | ⟨x, hx, h2, h3⟩ | ⟨h1, h2⟩)
        · exact .inl ⟨.inl rfl,e⟩
        · exact .inl ⟨.inr h1,h2⟩
        · exact .inr (.inl ⟨x, .inr hx,h2,h3⟩)
        · exact .inr (.inr ⟨fun x hx=>by rcases hx with rfl | hx; exact e; exact h1 x hx,h2⟩)
      · rintro (⟨rfl | h1, h2⟩ | ⟨x, rfl | hx, h2, h3⟩ | ⟨h1, h2⟩)
        · exact .inl rfl
        · exact .inr (.inl ⟨h1,h2⟩)
        · exact absurd h2 e
        · exact .inr (.inr (.inl ⟨x,hx,h2,h3⟩))
        · exact .inr (.inr (.inr ⟨fun x hx=>h1 x (.inr hx),h2⟩))
theorem QeQ {i:Int}{x:DTx}:∀{out:List DTx},∀y∈UT out x,y.1=x.1∨∃z∈out,z.1=y.1
  | [],y,hy=>by rw[UT,aC] at hy; subst hy; exact .inl rfl
  | z :: l,y,hy=>by
    rw[UT] at hy
    split at hy
    · rcases aD.1 hy with rfl | hy
      · exact .inr ⟨z,ay ..,rfl⟩
      · exact .inr ⟨y,ax _ hy,rfl⟩
    · rcases aD.1 hy with rfl | hy
      · exact .inr ⟨y,ay ..,rfl⟩
      · rcases QeQ (i := i) y hy with h1 | ⟨w, hw, h1⟩
        · exact .inl h1
        · exact .inr ⟨w,ax _ hw,h1⟩
theorem Qe0 {i:Int}{x:DTx}(hx:x.2.2=i):∀{out:List DTx},(∀y∈out,y.2.2=i)→(out.Pairwise fun p q=>p.1≠q.1)→(UT out x).Pairwise fun p q=>p.1≠q.1
  | [],_,_=>cC ..
  | z :: l,hm,hn=>by
    obtain ⟨hn1,hn2⟩:=bi.1 hn
    have hm1:=hm z (ay ..)
    rw[UT]
    split
    · exact bi.2 ⟨fun y hy=>hn1 y hy,hn2⟩
    · rename_i h1
      refine bi.2 ⟨fun y hy=> ?_,Qe0 hx (fun x hx=>hm x (ax _ hx)) hn2⟩
      rcases QeQ (i:=i) y hy with h2 | ⟨w,hw,h2⟩
      · exact fun g=>h1 ⟨g.trans h2,hm1.trans hx.symm⟩
      · rw[← h2]; exact hn1 w hw
theorem OT.step {i:Int}{V:ByteArray→Int→Prop}{out:List DTx}(g:OT i V out):OT i (fun s' v'=>V s' v'∨(s'=s∧v'=v)) (UT out (s,[v],i)):=by
  have hm:=fun y=>QeW (s:=s) (v:=v) (y:=y) g.many g.nod
  have hs:∀z∈out,z.1=s→∀v',v'∈Q7 ltI v z.2.1↔V s v'∨v'=v:=fun z hz e v'=>by
    rw[Yr,g.mem z hz v',e]; exact Or.comm
  refine ⟨fun y hy=> ?_,Qe0 rfl g.many g.nod,fun y hy=> ?_,fun y hy v'=> ?_,fun y hy=> ?_,fun s' v' hv=> ?_⟩
  · rcases (hm y).1 hy with h1 | ⟨z, hz, h2, rfl⟩ | ⟨_, rfl⟩
    · exact g.many y h1.1
    · exact g.many z hz
    · rfl
  · rcases (hm y).1 hy with h1 | ⟨z, hz, h2, rfl⟩ | ⟨_, rfl⟩
    · exact g.srt y h1.1
    · exact Ua Wj (g.srt z hz)
    · exact cC ..
  · rcases (hm y).1 hy with h1 | ⟨z, hz, h2, rfl⟩ | ⟨h1, rfl⟩
    · rw[g.mem y h1.1]; exact ⟨.inl,fun k=>k.resolve_right fun e=>h1.2 e.1⟩
    · show v' ∈ Q7 ltI v z.2.1 ↔ _
      rw[hs z hz h2,h2]
      exact ⟨fun k=>k.imp id fun e=>⟨rfl,e⟩,fun k=>k.imp id fun e=>e.2⟩
    · show v' ∈ [v] ↔ _
      rw[aC]
      refine ⟨fun e=> .inr ⟨rfl,e⟩,fun k=>k.elim (fun k=> ?_) fun k=>k.2⟩
      obtain ⟨z,hz,e⟩:=g.all _ _ k
      exact absurd e (h1 z hz)
  · rcases (hm y).1 hy with h1 | ⟨z, hz, h2, rfl⟩ | ⟨_, rfl⟩
    · exact (g.wit y h1.1).imp fun _=> .inl
    · exact ⟨v, .inr ⟨h2,rfl⟩⟩
    · exact ⟨v, .inr ⟨rfl,rfl⟩⟩
  · by_cases e : s' = s
    · subst e
      by_cases k:∃z∈out,z.1=s'
      · obtain ⟨z, hz, h2⟩ := k
        exact ⟨_,(hm _).2 (.inr (.inl ⟨z,hz,h2,rfl⟩)),h2⟩
      · exact ⟨_,(hm _).2 (.inr (.inr ⟨fun z hz h2=>k ⟨z,hz,h2⟩,rfl⟩)),rfl⟩
    · obtain ⟨z, hz, h2⟩ := g.all s' v' (hv.resolve_right fun k => e k.1)
      exact ⟨z,(hm _).2 (.inl ⟨hz,by rw[h2]; exact e⟩),h2⟩
theorem Qd8 {i:Int}{x:DTx}(hx:x.2.2+1=i):∀(as_:List DAr) {V:ByteArray→Int→Prop} {out:List DTx},OT i V out→OT i (fun s v=>V s v∨∃a∈as_,inv h a=false∧a.1∈x.2.1∧s=x.1++wdA c a∧v=a.2.2.2) (QmI c h as_ x out)
  | [],V,out,g=>g.congr fun s v=>by simp
  | a :: l,V,out,g=>by
    show OT i _ (QmI c h l x (arT c h x out a))
    unfold arT
    split
    · rename_i h1
      rw[hx]
      refine (Qd8 hx l g.step).congr fun s v=> ?_
      simp only[aD,exists_eq_or_imp,or_assoc]
      exact or_congr_right (or_congr_left ⟨fun k=>⟨h1.1,h1.2,k⟩,fun k=>k.2.2⟩)
    · rename_i h1
      refine (Qd8 hx l g).congr fun s v=> ?_
      simp only[aD,exists_eq_or_imp]
      exact or_congr_right ⟨.inr,fun k=>k.resolve_left fun k=>h1 ⟨k.1,k.2.1⟩⟩
theorem Qiz {i:Int}:∀(L:List DTx) {V:ByteArray→Int→Prop} {out:List DTx},(∀x∈L,x.2.2+1=i)→OT i V out→OT i (fun s v=>V s v∨Vs c h (unT L) s v) (QmB c h L out)
  | [],V,out,_,g=>g.congr fun s v=>by simp[Vs,unT]
  | x :: l,V,out,hm,g=>by
    refine (Qiz l (fun y hy=>hm y (ax _ hy)) (Qd8 (hm x (ay ..)) c.2.2 g)).congr fun s v=> ?_
    simp only[Vs,unT,aZ,aD,exists_eq_or_imp,or_assoc]
theorem Qme {i:Int}{L:List DTx}(hm:∀x∈L,x.2.2+1=i):OT i (Vs c h (unT L)) (QmB c h L []):=
  (Qiz L hm (V:=fun _ _=>False) ⟨by simp,bW,by simp,by simp,by simp,by simp⟩).congr fun s v=>by simp
end
end Go.Proofs.YtgpdhgadmjfokaaGreat
namespace Go.Proofs.YtgpdhgadmjfokaaGreat
open Go.RowKit
set_option maxRecDepth 100000
set_option maxHeartbeats 4000000
section
variable {c:DSg}{h:Int}{n m:Nat}{s t:ByteArray}{u v:Int}{K L M A D l1 l2:DLv}{a:DAr}{S T_:List Int}{q p:ByteArray×List Int}
theorem QkM (hs:SgOk c)(ha:a∈c.2.2):0≤a.2.2.2∧a.2.2.2 < (c.2.1.length:Int):=by
  have:=hs.arcs a ha
  obtain ⟨_,h2,_⟩:=this
  omega
theorem Qlc (hs:SgOk c)(hS:Srt S)(hr:∀u∈S,0≤u∧u < (c.2.1.length:Int)):∀u,u∈stl c h S↔Ch c.2.2 h (fun v=>v∈S) u:=Qhb hS (fun _ ha=>QkM hs ha) hr
theorem QqL (hs:SgOk c)(k:Vs c h L s v):0≤v∧v < (c.2.1.length:Int):=by
  obtain ⟨_,_,a,h1,_,_,_,rfl⟩:=k
  exact QkM hs h1
theorem Qdw {L:List DTx}{p:ByteArray×List Int}(k:p∈unT L):∃x∈L,p=(x.1,x.2.1):=by
  obtain ⟨x,hx,e⟩:=b8.1 k
  exact ⟨x,hx,e.symm⟩
theorem QiL (hs:SgOk c):∀n,(Lev c h n (unT (KC c h n))∧(∀x∈KC c h n,x.2.2=(n:Int)))∧∀x∈KC c h n,Srt x.2.1:=fun n=>by
  have h1:=hs.some_
  induction n with
  | zero=>
    have h0:∀u,u∈stl c h [0]↔Ch c.2.2 h (fun v=>v=0) u:=fun u=>(Qlc hs (cC ..) (fun u hu=>by rw[aC] at hu; omega) u).trans (Ch.congr fun v=>aC)
    refine ⟨⟨⟨cC ..,fun p hp=> ?_,fun t u hu=>⟨_,aC.2 rfl,(H6.1 hu).1.symm⟩⟩,fun x hx=>by rw[KC,aC] at hx; subst hx; rfl⟩,fun x hx=>by rw[KC,aC] at hx; subst hx; exact K2 (cC ..)⟩
    obtain ⟨x,hx,rfl⟩:=Qdw hp
    rw[KC,aC] at hx
    subst hx
    exact ⟨⟨0,(h0 0).2 (.base rfl)⟩,fun u=>(h0 u).trans ⟨fun k=>H6.2 ⟨rfl,k⟩,fun k=>(H6.1 k).2⟩⟩
  | succ n ih=>
    obtain ⟨⟨g,hm⟩,hsr⟩:=ih
    have o:=Qme (c:=c) (h:=h) (i:=(n:Int)+1) (L:=KC c h n) fun x hx=>by rw[hm x hx]
    have hcl:∀y∈QmB c h (KC c h n) [],∀u,u∈stl c h y.2.1↔Ch c.2.2 h (fun v=>Vs c h (unT (KC c h n)) y.1 v) u:=fun y hy u=>
      (Qlc hs (o.srt y hy) (fun v hv=>QqL hs ((o.mem y hy v).1 hv)) u).trans (Ch.congr fun v=>o.mem y hy v)
    refine ⟨⟨g.next ?_ (fun p hp=> ?_) (fun s v hv=> ?_),fun x hx=> ?_⟩,fun x hx=> ?_⟩
    · unfold unT KC QqP
      rw[cY,List.pairwise_map]
      exact o.nod
    · obtain ⟨x, hx, rfl⟩ := Qdw hp
      obtain ⟨y,hy,rfl⟩:=b8.1 hx
      exact ⟨o.wit y hy,hcl y hy⟩
    · obtain ⟨y, hy, e⟩ := o.all s v hv
      exact ⟨_,b8.2 ⟨Qph c h y,b8.2 ⟨y,hy,rfl⟩,rfl⟩,e⟩
    · obtain ⟨y, hy, rfl⟩ := b8.1 hx
      rw[show (Qph c h y).2.2=y.2.2 from rfl,o.many y hy]; omega
    · obtain ⟨y, hy, rfl⟩ := b8.1 hx
      exact K2 (o.srt y hy)
def QiX (L:List DTx)(out:List ByteArray):List ByteArray:=L.foldl (fun o x=>Q7 ltB x.1 o) out
def txL (c:DSg)(h:Int):Nat→List ByteArray
  | 0=>QiX (KC c h 0) []
  | n+1=>QiX (KC c h (n+1)) (txL c h n)
theorem Qb2:∀{L:List DTx} {out:List ByteArray},t∈QiX L out↔t∈out∨∃x∈L,x.1=t
  | [],out=>by simp[QiX]
  | x :: l,out=>by
    show t∈QiX l (Q7 ltB x.1 out)↔_
    rw[Qb2,Yr]
    simp only[aD,exists_eq_or_imp]
    constructor
    · rintro ((rfl | h1) | h1)
      · exact .inr (.inl rfl)
      · exact .inl h1
      · exact .inr (.inr h1)
    · rintro (h1 | rfl | h1)
      · exact .inl (.inr h1)
      · exact .inl (.inl rfl)
      · exact .inr h1
theorem QaW (ho:TO ltB):∀{L:List DTx} {out:List ByteArray},out.Pairwise (fun x y=>ltB x y=true)→(QiX L out).Pairwise (fun x y=>ltB x y=true)
  | [],_,k=>k
  | x :: l,out,k=>QaW ho (L:=l) (Ua ho k)
theorem Qii (ho:TO ltB):∀n,(txL c h n).Pairwise (fun x y=>ltB x y=true)
  | 0=>QaW ho bW
  | n+1=>QaW ho (Qii ho n)
theorem Qli (g:Lev c h n (unT (KC c h n))):(∃x∈KC c h n,x.1=t)↔∃u,Tr c h n t u:=by
  constructor
  · rintro ⟨x, hx, rfl⟩
    have h1:=g.mem _ (b8.2 ⟨x,hx,rfl⟩)
    exact h1.1.imp fun u hu=>(h1.2 u).1 hu
  · rintro ⟨u, hu⟩
    obtain ⟨p,hp,rfl⟩:=g.all t u hu
    obtain ⟨x,hx,rfl⟩:=Qdw hp
    exact ⟨x,hx,rfl⟩
theorem QdP (hs:SgOk c):∀n,t∈txL c h n↔∃m,m≤n∧∃u,Tr c h m t u
  | 0=>by
    rw[txL,Qb2,Qli (QiL hs 0).1.1]
    exact ⟨fun k=>⟨0,aO _,k.resolve_left (by simp)⟩,fun ⟨m,hm,k⟩=> .inr (by rwa [Nat.le_zero.1 hm] at k)⟩
  | n+1=>by
    rw[txL,Qb2,Qli (QiL hs (n+1)).1.1,QdP hs n]
    constructor
    · rintro (⟨m, h1, h2⟩ | h1)
      · exact ⟨m,by omega,h2⟩
      · exact ⟨n+1,aO _,h1⟩
    · rintro ⟨m, h1, h2⟩
      by_cases e:m=n+1
      · subst e; exact .inr h2
      · exact .inl ⟨m,by omega,h2⟩
theorem Qo9 {l:List ByteArray}(ho:TO ltB)(k:l.Pairwise (fun x y=>ltB x y=true)):l.Nodup:=k.imp fun h e=>by subst e; exact absurd ((ho.irr _).symm.trans h) (by decide)
@[reducible] def Qsn (c:DSg) (h m:Int):Prop:=SgOk c∧(-1≤h∧h≤(c.1.length:Int) - 1)∧(0≤m∧m≤6)
def trV (c:DSg)[Decidable (SgOk c)](h m:Int):List ByteArray×Bool:=if Qsn c h m∧(txL c h m.toNat).length≤400 then (txL c h m.toNat,true) else ([],false)
theorem QqY:inv h a=false↔¬a.2.1= -1∧¬a.2.1=h:=by simp[inv]
theorem QpZ (hs:SgOk c)(ha:a∈c.2.2)(hi:inv h a=false):∃N x,tl (wdA c a)=N++[x]∧QjD x=true∧∀b∈N,QjD b=false:=by
  have h1:=(hs.arcs a ha).2.2.1
  have h2:0≤a.2.1∧a.2.1≤(c.1.length:Int) - 1:=h1.resolve_right fun k=>(QqY.1 hi).1 k.1
  obtain ⟨g,hg⟩:∃g,c.1[a.2.1.toNat]? =some g:=⟨_,aa (by omega)⟩
  have h3:=(hs.sigs.1 a.2.1.toNat (by omega) g hg).1
  refine ⟨tl g.1,if a.2.2.1=true then 43 else 45, ?_,by split <;> rfl,fun b hb=> ?_⟩
  · unfold wdA sgB
    rw[QkW,hg]
    split <;> rfl
  · obtain ⟨k, hk⟩ := aM.1 hb
    have hk2:k < g.1.size:=by have:=(aj.1 hk).1; simpa [tl] using this
    have h4:g.1[k]=b:=by
      have:=(aj.1 hk).2
      simp only[tl,Array.getElem_toList] at this
      exact this
    have h5:=h3.1 k hk2
    rw[h4] at h5
    unfold QjD
    simp only[cM,beq_eq_false_iff_ne,ne_eq]
    unfold Z0 at h5
    refine ⟨fun e=> ?_,fun e=> ?_⟩ <;> subst e <;> revert h5 <;> simp
def cnS (l:List UInt8):Nat:=(l.filter QjD).length
theorem QkD (hs:SgOk c)(k:Tr c h n t u):QrR (tl t)∧cnS (tl t)=n:=by
  induction k with
  | zero=>exact ⟨.inl rfl,rfl⟩
  | still _ _ _ ih=>exact ih
  | word _ h2 h3 ih=>
    obtain ⟨N,x,e,hx,hN⟩:=QpZ hs h2 h3
    rw[QkW,e]
    refine ⟨.inr ⟨_,x,(aS ..).symm,hx⟩, ?_⟩
    have e2:N.filter QjD=[]:=List.filter_eq_nil_iff.2 fun b hb=>by rw[hN b hb]; decide
    have:=ih.2
    unfold cnS at this ⊢
    rw[bC,bC,e2,bY,ak,this,d8,hx]; rfl
theorem Qo1 {u':Int}(hs:SgOk c)(k:Tr c h n t u)(k':Tr c h m t u'):n=m:=(QkD hs k).2.symm.trans (QkD hs k').2
def afS (c:DSg)(S:List Int)(h:Int)(A:DLv)(a:DAr):DLv:=if a.1∈S∧inv h a=false then VS .str A (wdA c a) (((XR .str A (wdA c a)).getD [])++[a.2.2.2]) else A
def afV (c:DSg)(S:List Int)(h:Int):DLv:=c.2.2.foldl (afS c S h) []
structure AfI (c:DSg) (h:Int) (S:List Int) (rs:List DAr) (A:DLv):Prop where
  nod:A.Pairwise fun p q=>p.1≠q.1
  mem:∀p∈A,(∃v,v∈p.2)∧∀v,v∈p.2↔∃a∈rs,inv h a=false∧a.1∈S∧wdA c a=p.1∧v=a.2.2.2
  all:∀a∈rs,inv h a=false→a.1∈S→∃p∈A,p.1=wdA c a
theorem QnV {k:Ty}{V:Type}{m:List (k.Den×V)}{x:k.Den}(hd:m.Pairwise fun p q=>p.1≠q.1):(∃v,(x,v)∈m∧XR k m x=some v)∨((∀p∈m,p.1≠x)∧XR k m x=none):=by
  by_cases e:∃p∈m,p.1=x
  · obtain ⟨p, hp, rfl⟩ := e
    obtain ⟨j,hj⟩:=aM.1 hp
    exact .inl ⟨p.2,hp,VE hd hj rfl⟩
  · have e2 : ∀ p ∈ m, p.1 ≠ x := fun p hp g => e ⟨p, hp, g⟩
    exact .inr ⟨e2,Uv e2⟩
theorem KJ {k:Ty}{V:Type}{m:List (k.Den×V)}{x:k.Den}{v:V}{p:k.Den×V}(hd:m.Pairwise fun p q=>p.1≠q.1):p∈VS k m x v↔(p∈m∧p.1≠x)∨p=(x,v):=by
  have h1:=Qdd (x:=x) (v:=v) hd
  constructor
  · intro hp
    rcases Qei hp with e | hp2
    · exact .inr e
    · by_cases e : p.1 = x
      · right
        obtain ⟨j,hj⟩:=aM.1 hp
        have h2:=VE h1 hj e
        rw[W4,if_pos ((k.beq_iff _ _).2 rfl)] at h2
        cases h2
        exact Prod.ext e rfl
      · exact .inl ⟨hp2,e⟩
  · have h2:∀y w,(y,w)∈VS k m x v↔XR k (VS k m x v) y=some w:=fun y w=>by
      rcases QnV (x:=y) h1 with ⟨w',h2,h3⟩ | ⟨h2,h3⟩
      · rw [h3]
        refine ⟨fun h4=> ?_,fun h4=>by cases h4; exact h2⟩
        obtain ⟨j,hj⟩:=aM.1 h4
        rw[← VE h1 hj rfl,h3]
      · rw[h3]; exact ⟨fun h4=>absurd rfl (h2 _ h4),fun h4=>by cases h4⟩
    rintro (⟨hp,e⟩ | rfl)
    · obtain ⟨y, w⟩ := p
      rw[h2,W4,if_neg (fun g=>e ((k.beq_iff _ _).1 g).symm)]
      obtain ⟨j,hj⟩:=aM.1 hp
      exact VE hd hj rfl
    · rw[h2,W4,if_pos ((k.beq_iff _ _).2 rfl)]
theorem AfI.zero:AfI c h S [] []:=⟨bW,by simp,by simp⟩
theorem AfI.step {rs:List DAr}(g:AfI c h S rs A):AfI c h S (rs++[a]) (afS c S h A a):=by
  unfold afS
  split
  · rename_i h1
    have hold:∀v,v∈((XR .str A (wdA c a)).getD [])↔∃b∈rs,inv h b=false∧b.1∈S∧wdA c b=wdA c a∧v=b.2.2.2:=fun v=>by
      rcases QnV (k:= .str) (x:=wdA c a) g.nod with ⟨w,h2,h3⟩ | ⟨h2,h3⟩
      · rw[h3]; exact (g.mem _ h2).2 v
      · rw [h3]
        refine ⟨fun k=>(by cases k),fun ⟨b,k1,k2,k3,k4,_⟩=> ?_⟩
        obtain ⟨p,hp,e⟩:=g.all b k1 k2 k3
        exact absurd (e.trans k4) (h2 p hp)
    refine ⟨Qdd (k:= .str) g.nod,fun p hp=> ?_,fun b hb k1 k2=> ?_⟩
    · rcases (KJ (k := .str) g.nod).1 hp with ⟨hp, e⟩ | rfl
      · refine ⟨(g.mem p hp).1, fun v => ((g.mem p hp).2 v).trans ⟨fun ⟨b, k1, k2⟩ => ⟨b, aP _ k1, k2⟩, fun ⟨b, k1, k2, k3, k4, k5⟩ => ?_⟩⟩
        rcases aG.1 k1 with k1 | k1
        · exact ⟨b,k1,k2,k3,k4,k5⟩
        · rw[aC] at k1; subst k1; exact absurd k4.symm e
      · refine ⟨⟨a.2.2.2, aR _ (aC.2 rfl)⟩, fun v => ?_⟩
        show v∈_++[a.2.2.2]↔_
        rw[aG,hold,aC]
        constructor
        · rintro (⟨b, k1, k2, k3, k4, k5⟩ | rfl)
          · exact ⟨b,aP _ k1,k2,k3,k4,k5⟩
          · exact ⟨a,aR _ (aC.2 rfl),h1.2,h1.1,rfl,rfl⟩
        · rintro ⟨b, k1, k2, k3, k4, k5⟩
          rcases aG.1 k1 with k1 | k1
          · exact .inl ⟨b,k1,k2,k3,k4,k5⟩
          · rw[aC] at k1; subst k1; exact .inr k5
    · rcases aG.1 hb with hb | hb
      · obtain ⟨p, hp, e⟩ := g.all b hb k1 k2
        by_cases e2:p.1=wdA c a
        · exact ⟨_,(KJ (k:= .str) g.nod).2 (.inr rfl),by rw[← e,e2]⟩
        · exact ⟨p,(KJ (k:= .str) g.nod).2 (.inl ⟨hp,e2⟩),e⟩
      · rw [aC] at hb; subst hb
        exact ⟨_,(KJ (k:= .str) g.nod).2 (.inr rfl),rfl⟩
  · rename_i h1
    refine ⟨g.nod,fun p hp=>⟨(g.mem p hp).1,fun v=>((g.mem p hp).2 v).trans ⟨fun ⟨b,k1,k2⟩=>⟨b,aP _ k1,k2⟩,fun ⟨b,k1,k2,k3,k4⟩=> ?_⟩⟩,fun b hb k1 k2=> ?_⟩
    · rcases aG.1 k1 with k1 | k1
      · exact ⟨b,k1,k2,k3,k4⟩
      · rw[aC] at k1; subst k1; exact absurd ⟨k3,k2⟩ h1
    · rcases aG.1 hb with hb | hb
      · exact g.all b hb k1 k2
      · rw[aC] at hb; subst hb; exact absurd ⟨k2,k1⟩ h1
structure NxI (c:DSg) (h:Int) (V:ByteArray→Int→Prop) (M:DLv):Prop where
  nod:M.Pairwise fun p q=>p.1≠q.1
  mem:∀p∈M,(∃v,V p.1 v)∧∀u,u∈p.2↔Ch c.2.2 h (fun v=>V p.1 v) u
  all:∀s v,V s v→∃p∈M,p.1=s
theorem NxI.congr {V W:ByteArray→Int→Prop}(g:NxI c h V M)(e:∀s v,V s v↔W s v):NxI c h W M:=
  ⟨g.nod,fun p hp=>⟨(g.mem p hp).1.imp fun v hv=>(e _ _).1 hv,fun u=>((g.mem p hp).2 u).trans (Ch.congr fun v=>e _ _)⟩,fun s v hv=>g.all s v ((e _ _).2 hv)⟩
theorem NxI.zero:NxI c h (fun _ _=>False) []:=⟨bW,by simp,fun _ _ k=>k.elim⟩
theorem NxI.step {V:ByteArray→Int→Prop}{W:Int→Prop}(g:NxI c h V M)(hf:∀v,¬V s v)(hT:∀u,u∈T_↔Ch c.2.2 h W u)(hw:∃w,W w):NxI c h (fun s' v'=>V s' v'∨(s'=s∧W v')) (VS .str M s T_):=by
  have hnew:∀p∈M,p.1≠s:=fun p hp e=>by
    obtain ⟨v,hv⟩:=(g.mem p hp).1
    rw[e] at hv; exact hf v hv
  refine ⟨Qdd (k:= .str) g.nod,fun p hp=> ?_,fun s' v' hv=> ?_⟩
  · rcases (KJ (k := .str) g.nod).1 hp with ⟨hp, e⟩ | rfl
    · exact ⟨(g.mem p hp).1.imp fun _=> .inl,fun u=>((g.mem p hp).2 u).trans (Ch.congr fun v=>⟨.inl,fun k=>k.resolve_right fun k=>e k.1⟩)⟩
    · exact ⟨hw.imp fun w hw=> .inr ⟨rfl,hw⟩,fun u=>(hT u).trans (Ch.congr fun v=>⟨fun k=> .inr ⟨rfl,k⟩,fun k=>k.elim (fun k=>absurd k (hf v)) fun k=>k.2⟩)⟩
  · rcases hv with hv | ⟨rfl, _⟩
    · obtain ⟨p, hp, e⟩ := g.all s' v' hv
      exact ⟨p,(KJ (k:= .str) g.nod).2 (.inl ⟨hp,hnew p hp⟩),e⟩
    · exact ⟨_,(KJ (k:= .str) g.nod).2 (.inr rfl),rfl⟩
def Vm (c:DSg)(h:Int)(D:DLv)(q:ByteArray×List Int)(E:DLv)(s:ByteArray)(v:Int):Prop:=Vs c h D s v∨∃p∈E,s=q.1++p.1∧v∈p.2
structure OuI (c:DSg) (h:Int) (n:Nat) (out:List ByteArray):Prop where
  nod:out.Nodup
  mem:∀t,t∈out↔∃m,m≤n∧∃u,Tr c h m t u
theorem OuI.zero:OuI c h 0 [ByteArray.empty]:=⟨by simp,fun t=>by
  rw[aC]
  exact ⟨fun e=>⟨0,aO _,0,by rw[e]; exact .zero⟩,fun ⟨m,hm,u,k⟩=>by rw[Nat.le_zero.1 hm] at k; exact (H6.1 k).1⟩⟩
theorem OuI.len (hs:SgOk c)(ho:TO ltB){out:List ByteArray}(g:OuI c h n out):out.length=(txL c h n).length:=
  Nat.le_antisymm (JP g.nod fun t ht=>(QdP hs n).2 ((g.mem t).1 ht)) (JP (Qo9 ho (Qii ho n)) fun t ht=>(g.mem t).2 ((QdP hs n).1 ht))
theorem OuI.next (hs:SgOk c){out:List ByteArray}(g:OuI c h n out)(k:Lev c h (n+1) M){E:DLv}(hE:E.Perm M):OuI c h (n+1) (out++E.map fun p=>p.1):=by
  have hn:(E.map fun p=>p.1).Nodup:=by
    unfold List.Nodup
    rw[List.pairwise_map]
    exact hE.symm.pairwise k.nod fun h e=>h e.symm
  refine ⟨ba.2 ⟨g.nod,hn,fun x hx y hy e=> ?_⟩,fun t=> ?_⟩
  · subst e
    obtain ⟨m,hm,u,k1⟩:=(g.mem x).1 hx
    obtain ⟨p,hp,rfl⟩:=b8.1 hy
    have h2:=k.mem p (hE.mem_iff.1 hp)
    obtain ⟨u2,hu2⟩:=h2.1
    have:=Qo1 hs k1 ((h2.2 u2).1 hu2)
    omega
  · rw [aG, g.mem]
    constructor
    · rintro (⟨m, hm, k1⟩ | h1)
      · exact ⟨m,by omega,k1⟩
      · obtain ⟨p, hp, rfl⟩ := b8.1 h1
        have h2:=k.mem p (hE.mem_iff.1 hp)
        exact ⟨n+1,aO _,h2.1.imp fun u hu=>(h2.2 u).1 hu⟩
    · rintro ⟨m, hm, u, k1⟩
      by_cases e:m=n+1
      · subst e
        obtain ⟨p,hp,rfl⟩:=k.all t u k1
        exact .inr (b8.2 ⟨p,hE.mem_iff.2 hp,rfl⟩)
      · exact .inl ⟨m,by omega,u,k1⟩
end
end Go.Proofs.YtgpdhgadmjfokaaGreat
namespace Go.Proofs.YtgpdhgadmjfokaaGreat
open Go.RowKit
set_option maxRecDepth 100000
set_option maxHeartbeats 4000000
theorem QlG {α:Type _}[DecidableEq α]{lt:α→α→Bool}(x:α):∀l:List α,(Q7 lt x l).length≤l.length+1
  | []=>aO _
  | y :: l=>by
    unfold Q7
    have:=QlG (lt:=lt) x l
    split
    · simp only[aq]; omega
    · split <;> simp
section
variable {c:DSg}{h:Int}{n k i j:Nat}{S set:List Int}{a:DAr}{rs as_:List DAr}{x y z:DTx}{l L out:List DTx}{s t:ByteArray}{u v:Int}{g:Qz}
def ftT (x:DTx)(j:Nat)(y:DTx):DTx:=(y.1,(x.2.1.take j).foldl (fun s k=>Q7 ltI k s) y.2.1,y.2.2)
theorem Qe9:∀(m:List Int) {s:List Int},(m.foldl (fun s k=>Q7 ltI k s) s).length≤s.length+m.length
  | [],s=>aO _
  | k :: m,s=>by have h1:=Qe9 m (s:=Q7 ltI k s); have h2:=QlG (lt:=ltI) k s; simp only[bq,aq]; omega
def Sm (N:Nat)(l:List DTx):Prop:=l.length≤N∧∀y∈l,y.2.1.length≤N
theorem Sm.put (g:Sm n l)(hx:x.2.1.length≤1):Sm (n+1) (UT l x):=by
  obtain ⟨g1,g2⟩:=g
  suffices k:∀l:List DTx,(∀y∈l,y.2.1.length≤n)→(UT l x).length≤l.length+1∧∀y∈UT l x,y.2.1.length≤n+1 by
    obtain ⟨k1,k2⟩:=k l g2
    exact ⟨by omega,k2⟩
  intro l
  induction l with
  | nil=>exact fun _=>⟨aO _,fun y hy=>by rw[UT,aC] at hy; subst hy; omega⟩
  | cons z l ih=>
    intro hl
    rw[UT]
    split
    · refine ⟨by simp, fun y hy => ?_⟩
      rcases aD.1 hy with rfl | hy
      · have h1 := Qe9 x.2.1 (s := z.2.1)
        have h2:=hl z (ay ..)
        dsimp only; omega
      · have:=hl y (ax _ hy); omega
    · obtain ⟨k1, k2⟩ := ih fun y hy => hl y (ax _ hy)
      refine ⟨by simp only[aq]; omega,fun y hy=> ?_⟩
      rcases aD.1 hy with rfl | hy
      · have:=hl y (ay ..); omega
      · exact k2 y hy
theorem Sm.ar (g:Sm n l):Sm (n+1) (arT c h x l a):=by
  unfold arT
  split
  · exact g.put (aO _)
  · exact ⟨cJ g.1,fun y hy=>cJ (g.2 y hy)⟩
theorem Sm.row:∀(as_:List DAr) {n:Nat} {l:List DTx},Sm n l→Sm (n+as_.length) (QmI c h as_ x l)
  | [],_,_,g=>g
  | a :: l,n,_,g=>by
    have:=Sm.row l (g.ar (c:=c) (h:=h) (x:=x) (a:=a))
    rw[show n+(a :: l).length=n+1+l.length by simp only[aq]; omega]
    exact this
theorem Sm.le {m:Nat}(g:Sm n l)(h:n≤m):Sm m l:=⟨by have:=g.1; omega,fun y hy=>by have:=g.2 y hy; omega⟩
theorem Sm.zero:Sm 0 []:=⟨aO _,fun _ h=>by cases h⟩
def txP (c:DSg)(h:Int):Nat→List ByteArray
  | 0=>[]
  | n+1=>txL c h n
end
end Go.Proofs.YtgpdhgadmjfokaaGreat
namespace Go.Proofs.YtgpdhgadmjfokaaGreat
open Go.RowKit
set_option maxRecDepth 100000
set_option maxHeartbeats 4000000
section
variable {c:DSg}{h:Int}{n k i j:Nat}{S set:List Int}{a:DAr}{rs as_:List DAr}{out:List Int}{s t:ByteArray}{u v:Int}{K M A D E L L1 L2:DLv}{p q:ByteArray×List Int}
def clV (c:DSg)(h:Int)(S:List Int):List Int:=clL c.2.2 h 301 0 S
@[reducible] def Rng (c:DSg) (S:List Int):Prop:=S.Nodup∧∀u∈S,0≤u∧u < (c.2.1.length:Int)
def edT (ss:List Qz)(l:Int×Bool):ByteArray:=if l.1 < 0 then ⟨#[126]⟩ else ((ss[l.1.toNat]?).getD (ByteArray.empty,0)).1++sgB l.2
def afT (c:DSg)(S:List Int)(h:Int)(i:Nat):DLv:=(c.2.2.take i).foldl (afS c S h) []
end
end Go.Proofs.YtgpdhgadmjfokaaGreat
