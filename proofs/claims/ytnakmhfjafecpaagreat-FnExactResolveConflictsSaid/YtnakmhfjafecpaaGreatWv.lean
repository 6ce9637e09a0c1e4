/- Walks over abstract states: firing. -/
import Derived.Test.YtnakmhfjafecpaaGreatWg
set_option linter.unusedSimpArgs false
set_option linter.unusedVariables false
set_option linter.unusedSectionVars false
namespace Go.Proofs.YtnakmhfjafecpaaGreat
open Go.RowKit
set_option maxRecDepth 100000
set_option maxHeartbeats 4000000
def bAt (m:ByteArray)(p:Int):UInt8:=(m[p.toNat]?).getD 0
theorem QL {m:ByteArray}{p:Int}{c:UInt8}(h:m[p.toNat]? =some c):bAt m p=c:=by unfold bAt; rw[h]; rfl
theorem WB (m:ByteArray):m.toList.length=m.size:=by simp[ByteArray.toList_eq]
def ZJ {α:Type _}(f:α→Bool)(l:List α):Int:=match l.findIdx? f with | some i=>i | none=> -1
def NoneTo {α:Type _}(f:α→Bool)(l:List α)(k:Nat):Prop:=∀j,j < k→∀x,l[j]? =some x→f x=false
section
variable {α:Type _}{f:α→Bool}{l:List α}{k:Nat}{x:α}
theorem NoneTo.zero:NoneTo f l 0:=fun j hj=>absurd hj (Nat.not_lt_zero j)
theorem NoneTo.step (h:NoneTo f l k)(hx:l[k]? =some x)(hf:f x=false):NoneTo f l (k+1):=fun j hj y hy=>by
  by_cases e:j=k
  · subst e; rw[hx] at hy; cases hy; exact hf
  · exact h j (by omega) y hy
theorem NoneTo.at (h:NoneTo f l k)(hx:l[k]? =some x)(hf:f x=true):ZJ f l=k:=by
  obtain ⟨h1,h2⟩:=List.getElem?_eq_some_iff.1 hx
  have:l.findIdx? f=some k:=List.findIdx?_eq_some_iff_getElem.2 ⟨h1,by rw[h2]; exact hf,fun j hj=>by
    have:=h j hj _ (List.getElem?_eq_getElem (by omega))
    simp[this]⟩
  unfold ZJ
  rw[this]
theorem NoneTo.no (h:NoneTo f l k)(hk:l.length≤k):ZJ f l= -1:=by
  have:l.findIdx? f=none:=List.findIdx?_eq_none_iff.2 fun x hx=>by
    obtain ⟨j,hj⟩:=List.mem_iff_getElem?.1 hx
    have:=(List.getElem?_eq_some_iff.1 hj).1
    exact h j (by omega) x hj
  unfold ZJ
  rw[this]
theorem Ua (f:α→Bool)(l:List α):decide (0≤ZJ f l)=l.any f:=by
  unfold ZJ
  cases h:l.findIdx? f with
  | none=>
    have:=List.findIdx?_eq_none_iff.1 h
    rw[Bool.eq_iff_iff]
    simp only[List.any_eq_true,decide_eq_true_eq]
    constructor
    · intro h; omega
    · rintro ⟨x,hx,hf⟩; rw[this x hx] at hf; cases hf
  | some i=>
    obtain ⟨h1,h2,_⟩:=List.findIdx?_eq_some_iff_getElem.1 h
    have:l.any f=true:=List.any_eq_true.2 ⟨_,List.getElem_mem h1,h2⟩
    rw[this]
    simp
def Qor (f:α→Bool)(l:List α):Nat→List Int
  | 0=>[]
  | k+1=>Qor f l k++(match l[k]? with | some x=>if f x then [(k:Int)] else [] | none=>[])
theorem K6 {l:List α}{k:Nat}{x:α}(hx:l[k]? =some x):l.drop k=x :: l.drop (k+1):=by
  obtain ⟨h1,h2⟩:=List.getElem?_eq_some_iff.1 hx
  rw[List.drop_eq_getElem_cons h1,h2]
end
def QqV (m:ByteArray)(ps:List Int):Prop:=∀p∈ps,(0≤p∧p < m.size)∧(bAt m p=48∨bAt m p=49)
def enb (m:ByteArray)(t:Yp):Bool:= !t.1.any fun p=>decide (bAt m p=48)
def QoO (n:Qbv)(m:ByteArray):List Int:=Qor (enb m) n.2 n.2.length
def clr (l:List UInt8):List Int→List UInt8
  | []=>l
  | p :: ps=>clr (l.set p.toNat 48) ps
def QlM (l:List UInt8):List Int→Option (List UInt8)
  | []=>some l
  | p :: ps=>if l[p.toNat]? =some 49 then none else QlM (l.set p.toNat 49) ps
def QmF (m:ByteArray)(t:Yp):ByteArray×Bool:=match QlM (clr m.toList t.1) t.2 with
  | none=>(⟨#[]⟩,false)
  | some l=>(⟨l.toArray⟩,true)
def Qj1 (n:Qbv)(m:ByteArray)(t:Int):ByteArray×Bool:=match n.2[t.toNat]? with
  | none=>(⟨#[]⟩,false)
  | some x=>QmF m x
def QqG (n:Qbv)(m:ByteArray)(t:Int):ByteArray×Bool:=if 0≤t then (match n.2[t.toNat]? with
  | none=>(⟨#[]⟩,false)
  | some x=>if enb m x then QmF m x else (⟨#[]⟩,false)) else (⟨#[]⟩,false)
section
variable {n:Qbv}{m:ByteArray}{t:Int}{x:Yp}{l:List UInt8}{ps:List Int}{k:Nat}{p:Int}
def QqF (n:Qbv)(m:ByteArray)(t:Int):Bool:=match n.2[t.toNat]? with
  | some x=>enb m x
  | none=>false
end
end Go.Proofs.YtnakmhfjafecpaaGreat
namespace Go.Proofs.YtnakmhfjafecpaaGreat
open Go.RowKit
set_option maxRecDepth 100000
set_option maxHeartbeats 4000000
abbrev RS:=List ByteArray×List (Int×Int×Int)×List (Int×Int×Int)
abbrev QkL:=Int×Int×Bool
def Kh (l:List ByteArray)(x:ByteArray):Int:=ZJ (fun y=>decide (y=x)) l
def goT (n:Qbv)(k:Nat)(mk:ByteArray):List Int→RS→RS×QkL
  | [],st=>(st,(-1, -1,true))
  | t :: ts,st=>
    if (Qj1 n mk t).2=false then (st,(k,t,false))
    else if 0≤Kh st.1 (Qj1 n mk t).1 then goT n k mk ts (st.1,st.2.1++[((k:Int),t,Kh st.1 (Qj1 n mk t).1)],st.2.2)
    else if st.1.length=300 then (st,(-1, -1,false))
    else goT n k mk ts (st.1++[(Qj1 n mk t).1],st.2.1++[((k:Int),t,(st.1.length:Int))],st.2.2++[((k:Int),t,(st.1.length:Int))])
def goK (n:Qbv):Nat→Nat→RS→RS×QkL
  | 0,_,st=>(st,(-1, -1,true))
  | f+1,k,st=>match st.1[k]? with
    | none=>(st,(-1, -1,true))
    | some mk=>if (goT n k mk (QoO n mk) st).2.2.2=true then goK n f (k+1) (goT n k mk (QoO n mk) st).1 else goT n k mk (QoO n mk) st
def QqH (n:Qbv)(f k:Nat)(r:RS×QkL):RS×QkL:=if r.2.2.2=true then goK n f (k+1) r.1 else r
def VO (s:WY):RS×QkL:=goK s.1 301 0 ([s.2.2.2],[],[((0:Int),(0:Int),(0:Int))])
def exV (s:WY):(List ByteArray×List (Int×Int×Int))×Int×Int×Bool:=(((VO s).1.1,(VO s).1.2.1),(VO s).2)
def l4V (s:WY):(List ByteArray×List (Int×Int×Int))×List (Int×Int×Int)×Int×Int×Bool:=
  (((VO s).1.1,(VO s).1.2.1),(VO s).1.2.2,(if 0≤(VO s).2.2.1 then (VO s).2.1 else 0),(VO s).2.2.1,(!(VO s).2.2.2&&decide ((VO s).2.2.1 < 0)))
def QoR:List ByteArray×List (Int×Int×Int):=([],[])
section
variable [∀s,Decidable (StgOk s)]
def Un (s:WY):(List ByteArray×List (Int×Int×Int))×Bool:=if StgOk s∧(VO s).2.2.2=true then (((VO s).1.1,(VO s).1.2.1),true) else (QoR,false)
end
theorem Qlc (l:List ByteArray)(x y:ByteArray):Kh (l++[y]) x=if 0≤Kh l x then Kh l x else if y=x then (l.length:Int) else -1:=by
  unfold Kh ZJ
  rw[List.findIdx?_append]
  cases h:l.findIdx? (fun z=>decide (z=x)) with
  | some i=>simp
  | none=>
    by_cases e:y=x
    · simp[e]
    · simp[e]
def IdxOf (QN:List ByteArray)(idx:List (ByteArray×Int)):Prop:=∀x,YG .str idx x=if 0≤Kh QN x then some (Kh QN x) else none
section
variable {QN:List ByteArray}{idx:List (ByteArray×Int)}{x:ByteArray}{v b:List (Int×Int×Int)}{n:Qbv}{k f i:Nat}{mk:ByteArray}{t:Int}{ts:List Int}{r:ByteArray×Bool}{j:Int}{s:WY}{e:QkL}
theorem IdxOf.new (h:IdxOf QN idx)(hs:(YG .str idx x).isSome=false):¬0≤Kh QN x:=by
  rw[h x] at hs
  intro h0
  rw[if_pos h0] at hs; cases hs
theorem IdxOf.set (h:IdxOf QN idx)(hs:(YG .str idx x).isSome=false):IdxOf (QN++[x]) (Va .str idx x (QN.length:Int)):=fun y=>by
  have h0:=h.new hs
  rw[Qek,Qlc,h y]
  by_cases e:x=y
  · subst e
    rw[if_pos ((Ty.beq_iff .str x x).2 rfl),if_neg h0,if_pos rfl,if_pos (Int.natCast_nonneg _)]
  · have : Ty.beq .str x y = false := Bool.eq_false_iff.2 fun h => e ((Ty.beq_iff .str x y).1 h)
    rw[if_neg (show¬Ty.beq .str x y=true by rw[this]; decide),if_neg e]
    by_cases h1:0≤Kh QN y
    · rw[if_pos h1,if_pos h1,if_pos h1]
    · rw[if_neg h1,if_neg h1,if_neg (by decide)]
theorem IdxOf.one (x:ByteArray):IdxOf [x] (Va .str ([]:List (ByteArray×Int)) x 0):=fun y=>by
  rw[Qek]
  by_cases e:x=y
  · subst e
    rw[if_pos ((Ty.beq_iff .str x x).2 rfl)]
    simp[Kh,ZJ]
  · have : Ty.beq .str x y = false := Bool.eq_false_iff.2 fun h => e ((Ty.beq_iff .str x y).1 h)
    rw[if_neg (show¬Ty.beq .str x y=true by rw[this]; decide)]
    simp[Kh,ZJ,e,YG]
def LBits (l:List UInt8):Prop:=∀c∈l,c=48∨c=49
theorem LBits.set {l:List UInt8}(h:LBits l){c:UInt8}(hc:c=48∨c=49)(i:Nat):LBits (l.set i c):=fun d hd=>by
  rcases List.mem_or_eq_of_mem_set hd with h1 | h1
  · exact h d h1
  · rw[h1]; exact hc
theorem QpD {l:List UInt8}(h:LBits l)(ps:List Int):LBits (clr l ps):=by
  induction ps generalizing l with
  | nil=>exact h
  | cons p ps ih=>exact ih (h.set (.inl rfl) _)
theorem LBits.put {l l':List UInt8}(h:LBits l){ps:List Int}(hp:QlM l ps=some l'):LBits l'∧l'.length=l.length:=by
  induction ps generalizing l with
  | nil=>rw[QlM] at hp; cases hp; exact ⟨h,rfl⟩
  | cons p ps ih=>
    rw[QlM] at hp
    split at hp
    · cases hp
    · obtain ⟨h1, h2⟩ := ih (h.set (.inr rfl) _) hp
      exact ⟨h1,by rw[h2,List.length_set]⟩
end
end Go.Proofs.YtnakmhfjafecpaaGreat
namespace Go.Proofs.YtnakmhfjafecpaaGreat
open Go.RowKit
set_option maxRecDepth 100000
set_option maxHeartbeats 4000000
abbrev DMv:=Int×Int×Int
abbrev DAr:=Int×Int×Bool×Int
def Qoh (ls:List Xj)(t:Int):Xj:=(ls[t.toNat]?).getD (0,false)
def QpS (ls:List Xj)(m:DMv):DAr:=(m.1,(Qoh ls m.2.1).1,(Qoh ls m.2.1).2,m.2.2)
def Qmx (ls:List Xj)(ms:List DMv):List DAr:=ms.map (QpS ls)
def bv (l:List UInt8)(i:Nat):UInt8:=(l[i]?).getD 0
def agr (vs:List UInt8)(i j:Nat):List UInt8×Bool×Bool:=
  if bv vs i=bv vs j then (vs,true,false) else if bv vs i=0 then (vs.set i (bv vs j),true,true) else if bv vs j=0 then (vs.set j (bv vs i),true,true) else (vs,false,false)
def agb (vs:List UInt8)(i:Nat)(c:UInt8):List UInt8×Bool×Bool:=
  if bv vs i=c then (vs,true,false) else if bv vs i=0 then (vs.set i c,true,true) else (vs,false,false)
section
variable {vs vs':List UInt8}{i j k:Nat}{a b c:UInt8}
def QqU (vs:List UInt8):Nat:=(vs.filter fun c=>c=0).length
end
def Qp5 (sig:Int)(a:DAr)(vs:List UInt8):Option (List UInt8×Bool):=
  if a.2.1=sig then
    (if (agb vs a.1.toNat (if (!a.2.2.1)=true then 49 else 48)).2.1=true∧(agb (agb vs a.1.toNat (if (!a.2.2.1)=true then 49 else 48)).1 a.2.2.2.toNat (if a.2.2.1=true then 49 else 48)).2.1=true then
      some ((agb (agb vs a.1.toNat (if (!a.2.2.1)=true then 49 else 48)).1 a.2.2.2.toNat (if a.2.2.1=true then 49 else 48)).1,(agb vs a.1.toNat (if (!a.2.2.1)=true then 49 else 48)).2.2||(agb (agb vs a.1.toNat (if (!a.2.2.1)=true then 49 else 48)).1 a.2.2.2.toNat (if a.2.2.1=true then 49 else 48)).2.2)
    else none)
  else if (agr vs a.1.toNat a.2.2.2.toNat).2.1=true then some ((agr vs a.1.toNat a.2.2.2.toNat).1,(agr vs a.1.toNat a.2.2.2.toNat).2.2) else none
def Qoq (sig:Int):List DAr→List UInt8→Bool→Option (List UInt8×Bool)
  | [],vs,ch=>some (vs,ch)
  | a :: rs,vs,ch=>match Qp5 sig a vs with
    | none=>none
    | some (vs',c)=>Qoq sig rs vs' (ch||c)
def QoD (sig:Int)(arcs:List DAr):Nat→List UInt8→Option (List UInt8)
  | 0,vs=>some vs
  | f+1,vs=>match Qoq sig arcs vs false with
    | none=>none
    | some (vs',ch)=>if ch=true then QoD sig arcs f vs' else some vs'
def QqI (sig:Int)(arcs:List DAr)(f:Nat):Option (List UInt8×Bool)→Option (List UInt8)
  | none=>none
  | some (vs',ch)=>if ch=true then QoD sig arcs f vs' else some vs'
def fz (c:UInt8):UInt8:=if c=0 then 48 else c
def Qow (n:Nat)(arcs:List DAr)(sig:Int):List UInt8×Bool:=match QoD sig arcs (n+1) (List.replicate n 0) with
  | none=>([],false)
  | some vs=>(vs.map fz,true)
def InR (n:Int)(a:DAr):Prop:=(0≤a.1∧a.1 < n)∧0≤a.2.2.2∧a.2.2.2 < n
section
variable {sig n:Int}{a:DAr}{vs vs':List UInt8}{arcs rs:List DAr}{ch ch' c:Bool}{f k:Nat}
def QqK (vs:List UInt8)(k:Nat):List UInt8:=(vs.take k).map fz++vs.drop k
end
theorem Xn (s:List (ByteArray×Int))(hl:s.length≤1000000):FC Tryz.prog 168 [(false,[.dat (.sl 145 (.pr .str .int)) s])] [] 0 (XZ 145 (.pr .str .int) s):=by
 refine QQ Tryz.func168 rfl rfl Tryz.ntmps168 fun O_ hO w0_ N0_ X_ h0_ f0_=> ?_
 iterate 6 refine w_ ?_
 refine Qf1 (Qa rfl) Evl.val Yh rfl fun b1 hnil=> ?_
 refine w_ ?_
 cases hb2:(b1)
 ·iterate 3 refine w_ ?_
  refine lc (Qk 0 (e:=(.pr .str .int)) Yh Yj Wq rfl rfl (List.all_eq_true.1 rfl) ⟨rfl,rfl⟩ (by decide) rfl rfl (Fresh.of rfl) (nlr rfl)) ?_
  refine w_ ?_
  refine lc (ZI 1 (Qa rfl) rfl (Evl.rep (Qa rfl)) rfl Yh K8 (by first | omega | (simp only[List.length_append,List.length_map,List.length_take,List.length_cons,List.length_nil]; omega) | (simp only[List.length_append,List.length_drop,List.length_take,List.length_cons,List.length_nil]; omega)) rfl (Fresh.of rfl) (nlr rfl)) ?_
  iterate 2 refine w_ ?_
  refine Qe ?_
  subst hO
  refine ZC (e:=(.pr .str .int)) (xs:=(([])++s)) (Qd rfl (Qc rfl)) rfl ?_
  rfl
 ·iterate 4 refine w_ ?_
  refine AC.wk (Wk.nilS 2 2 145 (.pr .str .int) rfl (Fresh.of rfl) (nlr rfl))<|Qe ?_
  subst hO
  refine ZC (e:=(.pr .str .int)) (xs:=([])) (Qd rfl (Qc rfl)) rfl ?_
  exact (hnil (by assumption)).symm
end Go.Proofs.YtnakmhfjafecpaaGreat
namespace Go.Proofs.YtnakmhfjafecpaaGreat
open Go.RowKit
set_option maxRecDepth 100000
set_option maxHeartbeats 4000000
def Qqg (sig:Int)(a:DAr)(us:List UInt8):Option (List UInt8):=
  if a.2.1=sig then
    (if (bv us a.1.toNat≠63∧bv us a.1.toNat≠(if (!a.2.2.1)=true then 49 else 48))∨(bv us a.2.2.2.toNat≠63∧bv us a.2.2.2.toNat≠(if a.2.2.1=true then 49 else 48)) then none
    else some ((us.set a.1.toNat (if (!a.2.2.1)=true then 49 else 48)).set a.2.2.2.toNat (if a.2.2.1=true then 49 else 48)))
  else if bv us a.1.toNat=63 then some ((us.set a.1.toNat (bv us a.2.2.2.toNat)).set a.2.2.2.toNat (bv us a.2.2.2.toNat))
  else if bv us a.2.2.2.toNat≠63∧bv us a.2.2.2.toNat≠bv us a.1.toNat then none
  else some ((us.set a.1.toNat (bv us a.1.toNat)).set a.2.2.2.toNat (bv us a.1.toNat))
def Qok (sig:Int):List DAr→List UInt8→Option (List UInt8)
  | [],us=>some us
  | a :: rs,us=>match Qqg sig a us with
    | none=>none
    | some us'=>Qok sig rs us'
def Ql8 (sig:Int)(arcs:List DAr):Nat→List UInt8→Option (List UInt8)
  | 0,us=>some us
  | f+1,us=>match Qok sig arcs us with
    | none=>none
    | some us'=>Ql8 sig arcs f us'
def QqE (sig:Int)(arcs:List DAr)(f:Nat):Option (List UInt8)→Option (List UInt8)
  | none=>none
  | some us'=>Ql8 sig arcs f us'
def l5V (n:Nat)(arcs:List DAr)(sig:Int):ByteArray×Bool:=match Ql8 sig arcs (n+1) (List.replicate n 63) with
  | none=>(⟨#[]⟩,false)
  | some us=>(⟨us.toArray⟩,true)
section
variable {sig:Int}{a:DAr}{us us' vs vs':List UInt8}{arcs rs:List DAr}{f k m:Nat}{cf ct x:UInt8}{ch ch':Bool}{i j:Nat}
def qm (c:UInt8):UInt8:=if c=0 then 63 else c
def Kn (vs:List UInt8):Prop:=∀c∈vs,c=0∨c=48∨c=49
theorem Kn.set (h:Kn vs){c:UInt8}(hc:c=0∨c=48∨c=49)(i:Nat):Kn (vs.set i c):=fun d hd=>by
  rcases List.mem_or_eq_of_mem_set hd with h1 | h1
  · exact h d h1
  · rw[h1]; exact hc
theorem Kn.at (h:Kn vs)(hi:i < vs.length):∃c,vs[i]? =some c∧(c=0∨c=48∨c=49):=⟨_,List.getElem?_eq_getElem hi,h _ (List.getElem_mem hi)⟩
def q0 (c:UInt8):UInt8:=if c=63 then 48 else c
end
end Go.Proofs.YtnakmhfjafecpaaGreat
namespace Go.Proofs.YtnakmhfjafecpaaGreat
open Go.RowKit
set_option maxRecDepth 100000
set_option maxHeartbeats 4000000
section
variable {sig:Int}{us us':List UInt8}{arcs:List DAr}{f k n:Nat}{cf ct b1 b2:UInt8}{mv:DMv}{lb:Xj}{ls:List Xj}{ms:List DMv}
def ar4 (mv:DMv)(lb:Xj):DAr:=(mv.1,lb.1,lb.2,mv.2.2)
def QqJ (n k:Nat):List UInt8:=List.replicate k 63++List.replicate (n - k) 0
def Qp9 (n:Nat)(arcs:List DAr):Nat→List Int
  | 0=>[]
  | k+1=>Qp9 n arcs k++(if (l5V n arcs (k:Int)).2=true then [] else [(k:Int)])
end
def MvOk (n m:Nat)(v:DMv):Prop:=(0≤v.1∧v.1 < (n:Int))∧(0≤v.2.1∧v.2.1 < (m:Int))∧0≤v.2.2∧v.2.2 < (n:Int)
theorem V4 (up:Bool):FC Tryz.prog 220 [(false,[dB up])] [] 0 (Zy (lf (dS (X3 up)))):=by
 refine QQ Tryz.func220 rfl rfl Tryz.ntmps220 fun O_ hO w0_ N0_ X_ h0_ f0_=> ?_
 iterate 7 refine w_ ?_
 cases hb1:(up)
 ·iterate 5 refine w_ ?_
  refine Qe ?_
  subst hO
  have e2:((⟨#[48]⟩:ByteArray):ByteArray)=(X3 up):=by
   simp[X3, *]
  exact Qg (Qd rfl (Qc rfl)) ((congrArg (fun z_=>lf (dS z_)) e2)) rfl
 ·iterate 4 refine w_ ?_
  refine Qe ?_
  subst hO
  have e3:((⟨#[49]⟩:ByteArray):ByteArray)=(X3 up):=by
   simp[X3, *]
  exact Qg (Qd rfl (Qc rfl)) ((congrArg (fun z_=>lf (dS z_)) e3)) rfl
end Go.Proofs.YtnakmhfjafecpaaGreat
namespace Go.Proofs.YtnakmhfjafecpaaGreat
open Go.RowKit
set_option maxRecDepth 100000
set_option maxHeartbeats 4000000
structure Rok (m:Nat) (st:RS):Prop where
  one:1≤st.1.length
  most:st.1.length≤300
  nd:st.1.Nodup
  mv:∀v∈st.2.1,MvOk st.1.length m v
section
variable {n:Qbv}{k f:Nat}{mk:ByteArray}{t:Int}{ts:List Int}{st:RS}{s:WY}{l:List ByteArray}{x:ByteArray}
theorem MvOk.grow {a b m:Nat}{v:DMv}(h:MvOk a m v)(hab:a≤b):MvOk b m v:=by
  obtain ⟨⟨h1,h2⟩,h3,h4,h5⟩:=h
  exact ⟨⟨h1,by omega⟩,h3,h4,by omega⟩
end
theorem Hh {ss:List Q4}(h:XL ss):ss.length≤24:=by
  have:=h.2.2
  omega
section
variable [∀s,Decidable (StgOk s)]{s:WY}
end
section
variable {s:WY}
end
end Go.Proofs.YtnakmhfjafecpaaGreat
namespace Go.Proofs.YtnakmhfjafecpaaGreat
open Go.RowKit
set_option maxRecDepth 100000
set_option maxHeartbeats 4000000
def QpJ:Nat→List ByteArray→List UInt8→List ByteArray
  | _,c,[]=>c
  | i,c,v :: vs=>QpJ (i+1) (c.set i ((c[i]?).getD ByteArray.empty++⟨#[v]⟩)) vs
def goS (n:Nat)(arcs:List DAr):Nat→Nat→List ByteArray→Option (List ByteArray)
  | 0,_,c=>some c
  | f+1,k,c=>if (Qow n arcs (k:Int)).2=true then goS n arcs f (k+1) (QpJ 0 c (Qow n arcs (k:Int)).1) else none
section
variable {n f k i m:Nat}{arcs:List DAr}{c codes:List ByteArray}{vs us:List UInt8}{v:UInt8}{x:ByteArray}
end
section
variable [∀s,Decidable (StgOk s)]{s:WY}{c:List ByteArray}
def W9:List (ByteArray×Int)×List ByteArray×List DAr:=([],[],[])
def sgV (s:WY):(List (ByteArray×Int)×List ByteArray×List DAr)×Bool:=
  if (Un s).2=true∧¬4000 < (Un s).1.2.length then
    (match goS (Un s).1.1.length (Qmx s.2.2.1 (Un s).1.2) s.2.1.length 0 (List.replicate (Un s).1.1.length ByteArray.empty) with
    | some c=>((s.2.1,c,Qmx s.2.2.1 (Un s).1.2),true)
    | none=>(W9,false))
  else (W9,false)
end
end Go.Proofs.YtnakmhfjafecpaaGreat
namespace Go.Proofs.YtnakmhfjafecpaaGreat
open Go.RowKit
set_option maxRecDepth 100000
set_option maxHeartbeats 4000000
abbrev DRg:=List ByteArray×List DMv
instance (n m:Nat) (v:DMv):Decidable (MvOk n m v):=inferInstanceAs (Decidable (_∧_))
def Qjw (r:DRg):Prop:=(1≤r.1.length∧r.1.length≤300)∧r.2.length≤4000∧r.1.Nodup∧∀v∈r.2,MvOk r.1.length 24 v
instance (r:DRg):Decidable (Qjw r):=inferInstanceAs (Decidable (_∧_))
def QqD (l:List ByteArray):List (ByteArray×Bool):=l.foldl (fun m x=>Va .str m x true) []
section
variable {r:DRg}{k:Nat}{x y:ByteArray}{v:DMv}{l:List ByteArray}{m:List (ByteArray×Bool)}
end
def Qly (f:Int→Bool):Nat→List Int
  | 0=>[]
  | k+1=>Qly f k++(if f (k:Int)=true then [] else [(k:Int)])
section
variable {f:Int→Bool}{k n:Nat}{α:Type _}{l:List α}{p:α→Bool}{x:α}
end
def byT (r:DRg)(t:Int):Bool:=r.2.any fun v=>decide (v.2.1=t)
def QpQ (r:DRg)(t:Int):Bool:=r.2.any fun v=>decide (v.1=t)
def mfV (r:DRg)(k:Int):List DMv×Bool:=if Qjw r∧0≤k∧k < r.1.length then (r.2.filter fun v=>decide (v.1=k),true) else ([],false)
def dlV (r:DRg):List Int×Bool:=if Qjw r then (Qly (QpQ r) r.1.length,true) else ([],false)
section
variable [∀s,Decidable (StgOk s)]
def dtV (s:WY)(r:DRg):List Int×Bool:=if StgOk s∧Qjw r then (Qly (byT r) s.2.2.1.length,true) else ([],false)
end
def QqN (k:Int)(ms:List DMv):List DMv:=ms.filter fun v=>decide (v.1=k)
end Go.Proofs.YtnakmhfjafecpaaGreat
namespace Go.Proofs.YtnakmhfjafecpaaGreat
open Go.RowKit
set_option maxRecDepth 100000
set_option maxHeartbeats 4000000
theorem QZ {A:Amb}{P:Program}{o:Oper}{s:St}{d:Nat}{b b':Bool}(e:b=b')(h:Does A P o s (s.put d (lf (dB b)))):Does A P o s (s.put d (lf (dB b'))):=e▸h
abbrev DSg:=List (ByteArray×Int)×List ByteArray×List DAr
theorem Jx (ss:List Q4)[Decidable (XL ss)]:FC Tryz.prog 153 [(false,[.dat (.sl 145 Yi) ss])] [] 0 (Zy (lf (dB (decide (XL ss))))):=QeX fun gh w vs h=>by
  obtain ⟨v,rfl,hr⟩:=h.leaf1
  exact (Qcv v ss w hr).mono fun _ _ h=>HO h
theorem Hf (ss:List Q4)[Decidable (XL ss)]:FC Tryz.prog 148 [(false,[.dat (.sl 145 Yi) ss])] [] 0 (Zy (lf (dB (decide (XL ss))))):=QeX fun gh w vs h=>by
  obtain ⟨v,rfl,hr⟩:=h.leaf1
  exact (Qdu v ss w hr).mono fun _ _ h=>HO h
def Vk (n:Int)(l:Xj):Prop:=(0≤l.1∧l.1≤n - 1)∨(l.1= -1∧l.2=false)
instance (n:Int) (l:Xj):Decidable (Vk n l):=inferInstanceAs (Decidable (_∨_))
def YQ (s:ByteArray)(n:Int):Prop:=(∀c∈s.toList,c=48∨c=49)∧(s.size:Int)=n
instance (s:ByteArray) (n:Int):Decidable (YQ s n):=inferInstanceAs (Decidable (_∧_))
section
variable {n:Int}{l:Xj}{s x y:ByteArray}{k:Nat}{c d:UInt8}{a:DAr}
theorem QiZ (h:0≤l.1∧l.1≤n - 1):true=decide (Vk n l):=(decide_eq_true (.inl h)).symm
theorem Qlt (h:¬(0≤l.1∧l.1≤n - 1)):Ty.beq Qfl l (-1,false)=decide (Vk n l):=by
  rw[Bool.eq_iff_iff,Ty.beq_iff,decide_eq_true_eq]
  constructor
  · rintro rfl; exact .inr ⟨rfl,rfl⟩
  · rintro (h1 | h1)
    · exact absurd h1 h
    · exact Prod.ext h1.1 h1.2
theorem QoE (h:¬(0≤l.1∧l.1≤n - 1))(h1:l.1= -1):(!l.2)=decide (Vk n l):=by
  rw[Bool.eq_iff_iff,decide_eq_true_eq]
  constructor
  · intro h2; exact .inr ⟨h1,by simpa using h2⟩
  · rintro (h2 | h2)
    · exact absurd h2 h
    · simp[h2.2]
theorem QoS (h:¬(0≤l.1∧l.1≤n - 1))(h1:¬l.1= -1):false=decide (Vk n l):=(decide_eq_false (by rintro (h2 | h2); exact h h2; exact h1 h2.1)).symm
theorem Hr (h:s[((k:Int)).toNat]? =some c):s.toList[k]? =some c:=by
  have h:s[k]? =some c:=h
  rw[ByteArray.toList_eq]
  obtain ⟨hk,h2⟩:∃hk:k < s.size,s[k]=c:=by
    by_cases hk:k < s.size
    · rw[getElem?_pos s k hk] at h; exact ⟨hk,Option.some.inj h⟩
    · rw[getElem?_neg s k hk] at h; cases h
  rw[List.getElem?_eq_getElem (by simpa using hk)]
  rw[← h2]; simp; rfl
theorem K5 (hB:∀j,j < k→∀c,s.toList[j]? =some c→c=48∨c=49)(hx:s[((k:Int)).toNat]? =some c)(h:c=48∨c=49):∀j,j < k+1→∀c,s.toList[j]? =some c→c=48∨c=49:=fun j hj d hd=>by
  by_cases e:j=k
  · subst e; rw[Hr hx] at hd; cases hd; exact h
  · exact hB j (by omega) d hd
theorem Qji (hx:s[((k:Int)).toNat]? =some c)(h1:¬c=48)(h2:¬c=49):false=decide (YQ s n):=(decide_eq_false fun h=>by
  rcases h.1 c (List.mem_of_getElem? (Hr hx)) with h | h
  · exact h1 h
  · exact h2 h).symm
theorem QgZ (hB:∀j,j < k→∀c,s.toList[j]? =some c→c=48∨c=49)(hk:s.size≤k):decide ((s.size:Int)=n)=decide (YQ s n):=decide_eq_decide.2 ⟨fun h=>⟨fun c hc=>by
    obtain ⟨j,hj⟩:=List.mem_iff_getElem?.1 hc
    have:=(List.getElem?_eq_some_iff.1 hj).1
    rw[WB] at this
    exact hB j (by omega) c hj,h⟩,fun h=>h.2⟩
def Xq (a:DAr)(x y:ByteArray)(j:Nat):Prop:=if (j:Int)=a.2.1 then (decide (bAt x j=49)= !a.2.2.1∧decide (bAt y j=49)=a.2.2.1) else bAt x j=bAt y j
instance (a:DAr) (x y:ByteArray) (j:Nat):Decidable (Xq a x y j):=by unfold Xq; exact inferInstance
def Fit (a:DAr)(x y:ByteArray):Prop:=∀j,j < x.size→Xq a x y j
instance (a:DAr) (x y:ByteArray):Decidable (Fit a x y):=by unfold Fit; exact inferInstance
theorem QgS (hF:∀j,j < k→Xq a x y j)(h:Xq a x y k):∀j,j < k+1→Xq a x y j:=fun j hj=>by
  by_cases e:j=k
  · subst e; exact h
  · exact hF j (by omega)
theorem QiW (hk:k < x.size)(h:¬Xq a x y k):false=decide (Fit a x y):=(decide_eq_false fun h1=>h (h1 k hk)).symm
theorem Qnj (hF:∀j,j < k→Xq a x y j)(hk:x.size≤k):true=decide (Fit a x y):=(decide_eq_true fun j hj=>hF j (by omega)).symm
theorem KE (h:¬(k:Int)=a.2.1)(hx:x[((k:Int)).toNat]? =some c)(hy:y[((k:Int)).toNat]? =some d):Xq a x y k↔c=d:=by
  unfold Xq; rw[if_neg h,QL hx,QL hy]
theorem Ql6 (h:(k:Int)=a.2.1)(hx:x[((k:Int)).toNat]? =some c)(hy:y[((k:Int)).toNat]? =some d):Xq a x y k↔(decide (c=49)= !a.2.2.1∧decide (d=49)=a.2.2.1):=by
  unfold Xq; rw[if_pos h,QL hx,QL hy]
theorem Qaz (h:(k:Int)=a.2.1)(hx:x[((k:Int)).toNat]? =some c)(h1:(decide (c=49)==a.2.2.1)=true):¬Xq a x y k:=by
  unfold Xq; rw[if_pos h,QL hx]
  rintro ⟨h2,_⟩
  rw[h2] at h1
  cases ha:a.2.2.1 <;> rw[ha] at h1 <;> cases h1
theorem QaV (h:(k:Int)=a.2.1)(hy:y[((k:Int)).toNat]? =some d)(h1:(decide (d=49)==a.2.2.1)=false):¬Xq a x y k:=by
  unfold Xq; rw[if_pos h,QL hy]
  rintro ⟨_,h2⟩
  rw[h2] at h1
  cases ha:a.2.2.1 <;> rw[ha] at h1 <;> cases h1
theorem QdM (h:(k:Int)=a.2.1)(hx:x[((k:Int)).toNat]? =some c)(hy:y[((k:Int)).toNat]? =some d)(h1:(decide (c=49)==a.2.2.1)=false)(h2:(decide (d=49)==a.2.2.1)=true):Xq a x y k:=by
  rw[Ql6 h hx hy]
  cases ha:a.2.2.1 <;> rw[ha] at h1 h2 <;> cases hc:decide (c=49) <;> rw[hc] at h1 <;> cases hd:decide (d=49) <;> rw[hd] at h2 <;> first | exact ⟨rfl,rfl⟩ | exact absurd h1 (by decide) | exact absurd h2 (by decide)
def UH (code:ByteArray)(sig:Int)(b:ByteArray):ByteArray:=(code.extract 0 sig.toNat++b)++code.extract (sig+1).toNat code.size
end
theorem Kt (l:Int×Bool)(n:Int)(hn:0≤n∧n≤1000000):FC Tryz.prog 156 [(true,[dI l.1,dB l.2]),(false,[dI n])] [] 0 (Zy (lB (decide (Vk n l)))):=by
 refine QQ Tryz.func156 rfl rfl Tryz.ntmps156 fun O_ hO w0_ N0_ X_ h0_ f0_=> ?_
 refine AC.fact (Q3 (x:= .tmp 0) (i:=0) (Qb rfl) rfl) fun hi1=>AC.fact (Qs (x:= .tmp 1) (Qa rfl)) fun hi2=> ?_
 refine w_ ?_
 refine lc (Qr 0 (Qb rfl) rfl rfl (Fresh.of rfl) (nlr rfl)) ?_
 iterate 7 refine w_ ?_
 refine lc (Qh (ZP l.1 0 (n - 1)) YO ⟨_,_,rfl,(Qb rfl),⟨_,_,rfl,(Evl.ev (QE rfl)),⟨_,_,rfl,(Qb rfl),rfl⟩⟩⟩ rfl rfl) ?_
 refine w_ ?_
 cases hb3:(decide (0≤l.1∧l.1≤(n - 1)))
 ·have hb3':=of_decide_eq_false hb3
  refine w_ ?_
  refine lgy rfl rfl (QC W5 ⟨_,_,rfl,(Evl.ev (QE rfl)),rfl⟩ (List.all_eq_true.1 rfl) rfl rfl)<|lgy rfl rfl (KU JL Jy (Qb rfl) (Qb rfl) (p:=l) (q:=((-1),false)) rfl rfl rfl) ?_
  iterate 3 refine w_ ?_
  refine Qe ?_
  subst hO
  have e4:(Ty.beq (.pr .int .bool) l ((-1),false):Bool)=(decide (Vk n l)):=by
   exact Qlt (by assumption)
  exact Qg (Qd rfl (Qc rfl)) ((congrArg (fun z_=>lB z_) e4)) rfl
 ·have hb3':=of_decide_eq_true hb3
  iterate 6 refine w_ ?_
  refine Qe ?_
  subst hO
  have e5:(true:Bool)=(decide (Vk n l)):=by
   exact QiZ (by assumption)
  exact Qg (Qd rfl (Qc rfl)) ((congrArg (fun z_=>lB z_) e5)) rfl
theorem Qbr (l:Int×Bool)(n:Int)(hn:0≤n∧n≤1000000):FC Tryz.prog 181 [(true,[dI l.1,dB l.2]),(false,[dI n])] [] 0 (Zy (lB (decide (Vk n l)))):=by
 refine QQ Tryz.func181 rfl rfl Tryz.ntmps181 fun O_ hO w0_ N0_ X_ h0_ f0_=> ?_
 refine AC.fact (Q3 (x:= .tmp 0) (i:=0) (Qb rfl) rfl) fun hi1=>AC.fact (Qs (x:= .tmp 1) (Qa rfl)) fun hi2=> ?_
 refine w_ ?_
 refine lc (Qr 0 (Qb rfl) rfl rfl (Fresh.of rfl) (nlr rfl)) ?_
 iterate 7 refine w_ ?_
 refine lc (Qh (XE l.1 0 (n - 1)) WI ⟨_,_,rfl,(Qb rfl),⟨_,_,rfl,(Evl.ev (QE rfl)),⟨_,_,rfl,(Qb rfl),rfl⟩⟩⟩ rfl rfl) ?_
 refine w_ ?_
 cases hb3:(decide (0≤l.1∧l.1≤(n - 1)))
 ·have hb3':=of_decide_eq_false hb3
  iterate 4 refine w_ ?_
  cases hb4:(decide (l.1=(-1)))
  ·have hb4':=of_decide_eq_false hb4
   iterate 7 refine w_ ?_
   refine Qe ?_
   subst hO
   have e5:(false:Bool)=(decide (Vk n l)):=by
    exact QoS (by assumption) (by assumption)
   exact Qg (Qd rfl (Qc rfl)) ((congrArg (fun z_=>lB z_) e5)) rfl
  ·have hb4':=of_decide_eq_true hb4
   iterate 7 refine w_ ?_
   refine Qe ?_
   subst hO
   have e6:(!l.2:Bool)=(decide (Vk n l)):=by
    exact QoE (by assumption) (by assumption)
   exact Qg (Qd rfl (Qc rfl)) ((congrArg (fun z_=>lB z_) e6)) rfl
 ·have hb3':=of_decide_eq_true hb3
  iterate 4 refine w_ ?_
  refine Qo rfl rfl rfl ?_ rfl
  refine Qo rfl rfl rfl ?_ rfl
  refine Qo rfl rfl rfl ?_ rfl
  iterate 4 refine w_ ?_
  refine Qe ?_
  subst hO
  have e7:(true:Bool)=(decide (Vk n l)):=by
   exact QiZ (by assumption)
  exact Qg (Qd rfl (Qc rfl)) ((congrArg (fun z_=>lB z_) e7)) rfl
theorem Qdi (s:ByteArray)(n:Int):FC Tryz.prog 155 [(false,[dS s]),(false,[dI n])] [] 0 (Zy (lB (decide (YQ s n)))):=by
 refine QQ Tryz.func155 rfl rfl Tryz.ntmps155 fun O_ hO w0_ N0_ X_ h0_ f0_=> ?_
 refine AC.fact (Qs (x:= .tmp 1) (Qa rfl)) fun hi1=> ?_
 iterate 8 refine w_ ?_
 refine Qy (fun m_ s_=>∃(k:Nat),k≤s.size∧m_=s.size - k∧(∀j,j < k→∀c,s.toList[j]? =some c→c=48∨c=49)∧s_=⟨[(0,lf (dS s)),(1,lI n),(5,lI (k:Int))],[]⟩) ⟨0,Nat.zero_le _,rfl,(fun j hj=>absurd hj (Nat.not_lt_zero j)),rfl⟩ ?_ ?_
 · exact Wk.of [] rfl ⟨rfl,rfl,rfl,trivial⟩ trivial rfl rfl
 rintro m_ s_ ⟨k,hk2,hm3,hB,rfl⟩
 iterate 4 refine w_ ?_
 refine AL.fact (Xh (x:= .tmp 7) (Qa rfl)) fun hl4=>lc (Xg (Qa rfl) rfl Zd) ?_
 iterate 2 refine w_ ?_
 cases hb5:(decide ((k:Int) < (s.size:Int)))
 ·have hb5':=of_decide_eq_false hb5
  refine w_ ?_
  refine QA ?_
  refine (?_:AC _ _ _ _ _)
  iterate 2 refine w_ ?_
  refine AL.fact (Xh (x:= .tmp 22) (Qa rfl)) fun hl6=>lc (Xg (Qa rfl) rfl Zd) ?_
  iterate 4 refine w_ ?_
  refine Qe ?_
  subst hO
  have e7:(decide ((s.size:Int)=n):Bool)=(decide (YQ s n)):=by
   exact QgZ hB (by omega)
  exact Qg (Qd rfl (Qc rfl)) ((congrArg (fun z_=>lB z_) e7)) rfl
 ·have hb5':=of_decide_eq_true hb5
  iterate 7 refine w_ ?_
  obtain ⟨c8,hc9⟩:∃z,s[((k:Int)).toNat]? =some z:=⟨_,getElem?_pos _ _ (by omega)⟩
  refine lc (QH (Qa rfl) (Qa rfl) rfl Zd (by omega) hc9)<|lc (Yb (Qa rfl) (QW 48 rfl) rfl) ?_
  refine w_ ?_
  cases hb10:(!decide (c8=48))
  ·have hb10':(c8=48):=Ze hb10
   iterate 7 refine w_ ?_
   refine AC.skip ?_
   refine (?_:AC _ _ _ _ _)
   iterate 4 refine w_ ?_
   refine Qj<|QS ⟨k+1,by omega,rfl,(K5 hB (by assumption) (by first | exact .inl (by assumption) | exact .inr (by assumption))),rfl⟩ (by omega) ?_
   exact Wk.of [] rfl ⟨rfl,rfl,rfl,trivial⟩ trivial rfl rfl
  ·have hb10':¬(c8=48):=Zp hb10
   iterate 2 refine w_ ?_
   refine lgy rfl rfl (QH (Qa rfl) (Qa rfl) rfl Zd (by omega) hc9)<|lgy rfl rfl (Yb (Qa rfl) (QW 49 rfl) rfl) ?_
   iterate 2 refine w_ ?_
   cases hb11:(!decide (c8=49))
   ·have hb11':(c8=49):=Ze hb11
    refine w_ ?_
    refine AC.skip ?_
    refine (?_:AC _ _ _ _ _)
    iterate 4 refine w_ ?_
    refine Qj<|QS ⟨k+1,by omega,rfl,(K5 hB (by assumption) (by first | exact .inl (by assumption) | exact .inr (by assumption))),rfl⟩ (by omega) ?_
    exact Wk.of [] rfl ⟨rfl,rfl,rfl,trivial⟩ trivial rfl rfl
   ·have hb11':¬(c8=49):=Zp hb11
    iterate 4 refine w_ ?_
    refine Qe ?_
    subst hO
    have e12:(false:Bool)=(decide (YQ s n)):=by
     exact Qji (k:=k) (by assumption) (by assumption) (by assumption)
    exact Qg (Qd rfl (Qc rfl)) ((congrArg (fun z_=>lB z_) e12)) rfl
theorem QcF (s:ByteArray)(n:Int):FC Tryz.prog 150 [(false,[dS s]),(false,[dI n])] [] 0 (Zy (lB (decide (YQ s n)))):=by
 refine QQ Tryz.func150 rfl rfl Tryz.ntmps150 fun O_ hO w0_ N0_ X_ h0_ f0_=> ?_
 refine AC.fact (Qs (x:= .tmp 1) (Qa rfl)) fun hi1=> ?_
 iterate 8 refine w_ ?_
 refine Qy (fun m_ s_=>∃(k:Nat),k≤s.size∧m_=s.size - k∧(∀j,j < k→∀c,s.toList[j]? =some c→c=48∨c=49)∧s_=⟨[(0,lf (dS s)),(1,lI n),(5,lI (k:Int))],[]⟩) ⟨0,Nat.zero_le _,rfl,(fun j hj=>absurd hj (Nat.not_lt_zero j)),rfl⟩ ?_ ?_
 · exact Wk.of [] rfl ⟨rfl,rfl,rfl,trivial⟩ trivial rfl rfl
 rintro m_ s_ ⟨k,hk2,hm3,hB,rfl⟩
 iterate 4 refine w_ ?_
 refine AL.fact (Xh (x:= .tmp 7) (Qa rfl)) fun hl4=>lc (Xg (Qa rfl) rfl Zd) ?_
 iterate 2 refine w_ ?_
 cases hb5:(decide ((k:Int) < (s.size:Int)))
 ·have hb5':=of_decide_eq_false hb5
  refine w_ ?_
  refine QA ?_
  refine (?_:AC _ _ _ _ _)
  iterate 2 refine w_ ?_
  refine AL.fact (Xh (x:= .tmp 22) (Qa rfl)) fun hl6=>lc (Xg (Qa rfl) rfl Zd) ?_
  iterate 4 refine w_ ?_
  refine Qe ?_
  subst hO
  have e7:(decide ((s.size:Int)=n):Bool)=(decide (YQ s n)):=by
   exact QgZ hB (by omega)
  exact Qg (Qd rfl (Qc rfl)) ((congrArg (fun z_=>lB z_) e7)) rfl
 ·have hb5':=of_decide_eq_true hb5
  iterate 7 refine w_ ?_
  obtain ⟨c8,hc9⟩:∃z,s[((k:Int)).toNat]? =some z:=⟨_,getElem?_pos _ _ (by omega)⟩
  refine lc (QH (Qa rfl) (Qa rfl) rfl Zd (by omega) hc9)<|lc (Yb (Qa rfl) (QW 48 rfl) rfl) ?_
  refine w_ ?_
  cases hb10:(!decide (c8=48))
  ·have hb10':(c8=48):=Ze hb10
   iterate 7 refine w_ ?_
   refine AC.skip ?_
   refine (?_:AC _ _ _ _ _)
   iterate 4 refine w_ ?_
   refine Qj<|QS ⟨k+1,by omega,rfl,(K5 hB (by assumption) (by first | exact .inl (by assumption) | exact .inr (by assumption))),rfl⟩ (by omega) ?_
   exact Wk.of [] rfl ⟨rfl,rfl,rfl,trivial⟩ trivial rfl rfl
  ·have hb10':¬(c8=48):=Zp hb10
   iterate 2 refine w_ ?_
   refine lgy rfl rfl (QH (Qa rfl) (Qa rfl) rfl Zd (by omega) hc9)<|lgy rfl rfl (Yb (Qa rfl) (QW 49 rfl) rfl) ?_
   iterate 2 refine w_ ?_
   cases hb11:(!decide (c8=49))
   ·have hb11':(c8=49):=Ze hb11
    refine w_ ?_
    refine AC.skip ?_
    refine (?_:AC _ _ _ _ _)
    iterate 4 refine w_ ?_
    refine Qj<|QS ⟨k+1,by omega,rfl,(K5 hB (by assumption) (by first | exact .inl (by assumption) | exact .inr (by assumption))),rfl⟩ (by omega) ?_
    exact Wk.of [] rfl ⟨rfl,rfl,rfl,trivial⟩ trivial rfl rfl
   ·have hb11':¬(c8=49):=Zp hb11
    iterate 4 refine w_ ?_
    refine Qe ?_
    subst hO
    have e12:(false:Bool)=(decide (YQ s n)):=by
     exact Qji (k:=k) (by assumption) (by assumption) (by assumption)
    exact Qg (Qd rfl (Qc rfl)) ((congrArg (fun z_=>lB z_) e12)) rfl
theorem HR (a:Int×Int×Bool×Int)(x:ByteArray)(y:ByteArray)(hxy:x.size≤y.size):FC Tryz.prog 157 [(true,[dI a.1,dI a.2.1,dB a.2.2.1,dI a.2.2.2]),(false,[dS x]),(false,[dS y])] [] 0 (Zy (lB (decide (Fit a x y)))):=by
 refine QQ Tryz.func157 rfl rfl Tryz.ntmps157 fun O_ hO w0_ N0_ X_ h0_ f0_=> ?_
 refine AC.fact (Q3 (x:= .tmp 0) (i:=0) (Qb rfl) rfl) fun hi1=>AC.fact (Q3 (x:= .tmp 0) (i:=1) (Qb rfl) rfl) fun hi2=>AC.fact (Q3 (x:= .tmp 0) (i:=3) (Qb rfl) rfl) fun hi3=> ?_
 refine w_ ?_
 refine lc (Qr 0 (Qb rfl) rfl rfl (Fresh.of rfl) (nlr rfl)) ?_
 iterate 5 refine w_ ?_
 refine AL.fact (Xh (x:= .tmp 8) (Qa rfl)) fun hl4=>lc (Xg (Qa rfl) rfl Zd) ?_
 iterate 3 refine w_ ?_
 refine Qy (fun m_ s_=>∃(k:Nat),k≤x.size∧m_=x.size - k∧(∀j,j < k→Xq a x y j)∧s_=⟨[(1,lf (dS x)),(2,lf (dS y)),(3,lP 0 0),(9,lI (x.size:Int)),(10,lI (k:Int))],[(0,some (.box 179 [dI a.1,dI a.2.1,dB a.2.2.1,dI a.2.2.2]))]⟩) ⟨0,Nat.zero_le _,rfl,(fun j hj=>absurd hj (Nat.not_lt_zero j)),rfl⟩ ?_ ?_
 · exact Wk.of [(0,0)] rfl ⟨rfl,rfl,rfl,rfl,rfl,trivial⟩ ⟨rfl,trivial⟩ rfl rfl
 rintro m_ s_ ⟨k,hk5,hm6,hF,rfl⟩
 iterate 4 refine w_ ?_
 cases hb7:(decide ((k:Int) < (x.size:Int)))
 ·have hb7':=of_decide_eq_false hb7
  refine w_ ?_
  refine QA ?_
  refine (?_:AC _ _ _ _ _)
  iterate 3 refine w_ ?_
  refine Qe ?_
  subst hO
  have e8:(true:Bool)=(decide (Fit a x y)):=by
   exact Qnj hF (by omega)
  exact Qg (Qd rfl (Qc rfl)) ((congrArg (fun z_=>lB z_) e8)) rfl
 ·have hb7':=of_decide_eq_true hb7
  iterate 16 refine w_ ?_
  cases hb9:(!decide ((k:Int)=a.2.1))
  ·have hb9':((k:Int)=a.2.1):=Ze hb9
   refine w_ ?_
   obtain ⟨c10,hc11⟩:∃z,x[((k:Int)).toNat]? =some z:=⟨_,getElem?_pos _ _ (by omega)⟩
   cases hb12:((decide (c10=49))==a.2.2.1)
   ·obtain ⟨c13,hc14⟩:∃z,y[((k:Int)).toNat]? =some z:=⟨_,getElem?_pos _ _ (by omega)⟩
    refine dw [io 26 (lf (dS x)),io 27 (lI (k:Int)),io 28 (lf (.dat .u8 c10)),io 29 (lB (decide (c10=49))),io 30 (lP 0 2),io 31 (lB a.2.2.1),io 32 (lB false),io 33 (lB false),io 34 (lf (dS y)),io 35 (lI (k:Int)),io 36 (lf (.dat .u8 c13)),io 37 (lB (decide (c13=49))),io 38 (lP 0 2),io 39 (lB a.2.2.1),io 40 (lB (!((decide (c13=49))==a.2.2.1))),io 41 (lB (!((decide (c13=49))==a.2.2.1))),io 25 (lB (!((decide (c13=49))==a.2.2.1)))] [0,0,3,7,0,16,63,127,255,255,1023,2047,255,4351,16383,32767,65535] mixed rfl (by kernel_rfl) ⟨dxm rfl rfl,dxm rfl rfl,fun _ h_=>ac (QH (h_.v rfl) (h_.v rfl) rfl Zd (by omega) hc11) rfl,fun _ h_=>ac (QG (h_.v rfl) (QW 49 rfl) rfl) rfl,dxf YY rfl rfl rfl,dxl ZH rfl rfl rfl rfl rfl,fun _ h_=>ac (QZ (hb12) (Jb (h_.v rfl) (h_.v rfl) rfl VV)) rfl,dxm rfl rfl,fun _ h_=>day rfl (h_.k rfl) (QF (h_.k rfl) rfl) rfl,fun _ h_=>day rfl (h_.k rfl) (QF (h_.k rfl) rfl) rfl,fun _ h_=>day rfl (h_.k rfl) (QH (h_.v rfl) (h_.v rfl) rfl Zd (by omega) hc14) rfl,fun _ h_=>day rfl (h_.k rfl) (QG (h_.v rfl) (QW 49 rfl) rfl) rfl,fun _ h_=>day rfl (h_.k rfl) (Qz (h_.v rfl) YY (by rw[(h_.en 0 rfl)]; rfl) rfl) rfl,fun _ h_=>day rfl (h_.k rfl) (QI (h_.v rfl) (h_.n 0 rfl) ZH rfl rfl) rfl,fun _ h_=>day rfl (h_.k rfl) (XC (h_.v rfl) (h_.v rfl) rfl VV) rfl,fun _ h_=>ac (QM (h_.v rfl) (h_.w rfl) rfl) rfl,dxt rfl rfl,⟨⟩⟩ ?_
    cases hb15:((decide (c13=49))==a.2.2.1)
    ·iterate 4 refine w_ ?_
     refine Qe ?_
     subst hO
     have e16:(false:Bool)=(decide (Fit a x y)):=by
      exact QiW (k:=k) (by omega) (fun h=>by first | exact absurd ((KE (by assumption) (by assumption) (by assumption)).1 h) (by assumption) | exact Qaz (by assumption) (by assumption) (by assumption) h | exact QaV (by assumption) (by assumption) (by assumption) h)
     exact Qg (Qd rfl (Qc rfl)) ((congrArg (fun z_=>lB z_) e16)) rfl
    ·refine w_ ?_
     refine AC.skip ?_
     refine (?_:AC _ _ _ _ _)
     iterate 3 refine w_ ?_
     refine Qj<|QS ⟨k+1,by omega,rfl,(QgS hF (by first | exact (KE (by assumption) (by assumption) (by assumption)).2 (by assumption) | exact QdM (by assumption) (by assumption) (by assumption) (by assumption) (by assumption))),rfl⟩ (by omega) ?_
     exact Wk.of [(0,0)] rfl ⟨rfl,rfl,rfl,rfl,rfl,trivial⟩ ⟨rfl,trivial⟩ rfl rfl
   ·refine dw [io 26 (lf (dS x)),io 27 (lI (k:Int)),io 28 (lf (.dat .u8 c10)),io 29 (lB (decide (c10=49))),io 30 (lP 0 2),io 31 (lB a.2.2.1),io 32 (lB true),io 33 (lB true),io 34 (lf (.val undef)),io 35 (lf (.val undef)),io 36 (lf (.val undef)),io 37 (lf (.val undef)),io 38 (lf (.val undef)),io 39 (lf (.val undef)),io 40 (lf (.val undef)),io 41 (lB true),io 25 (lB true)] [0,0,3,7,0,16,63,127,255,255,1023,2047,255,4351,16383,32767,65535] mixed rfl (by kernel_rfl) ⟨dxm rfl rfl,dxm rfl rfl,fun _ h_=>ac (QH (h_.v rfl) (h_.v rfl) rfl Zd (by omega) hc11) rfl,fun _ h_=>ac (QG (h_.v rfl) (QW 49 rfl) rfl) rfl,dxf YY rfl rfl rfl,dxl ZH rfl rfl rfl rfl rfl,fun _ h_=>ac (QZ (hb12) (Jb (h_.v rfl) (h_.v rfl) rfl VV)) rfl,dxm rfl rfl,dxo rfl rfl rfl,dxo rfl rfl rfl,dxo rfl rfl rfl,dxo rfl rfl rfl,dxo rfl rfl rfl,dxo rfl rfl rfl,dxo rfl rfl rfl,fun _ h_=>ac (QV (h_.v rfl) (Evl.ev QU) rfl) rfl,dxt rfl rfl,⟨⟩⟩ ?_
    iterate 4 refine w_ ?_
    refine Qe ?_
    subst hO
    have e17:(false:Bool)=(decide (Fit a x y)):=by
     exact QiW (k:=k) (by omega) (fun h=>by first | exact absurd ((KE (by assumption) (by assumption) (by assumption)).1 h) (by assumption) | exact Qaz (by assumption) (by assumption) (by assumption) h | exact QaV (by assumption) (by assumption) (by assumption) h)
    exact Qg (Qd rfl (Qc rfl)) ((congrArg (fun z_=>lB z_) e17)) rfl
  ·have hb9':¬((k:Int)=a.2.1):=Zp hb9
   refine w_ ?_
   obtain ⟨c18,hc19⟩:∃z,x[((k:Int)).toNat]? =some z:=⟨_,getElem?_pos _ _ (by omega)⟩
   obtain ⟨c20,hc21⟩:∃z,y[((k:Int)).toNat]? =some z:=⟨_,getElem?_pos _ _ (by omega)⟩
   refine dw [io 18 (lf (dS x)),io 19 (lI (k:Int)),io 20 (lf (.dat .u8 c18)),io 21 (lf (dS y)),io 22 (lI (k:Int)),io 23 (lf (.dat .u8 c20)),io 24 (lB (!decide (c18=c20)))] [0,0,3,0,0,24,63] mixed rfl (by kernel_rfl) ⟨dxm rfl rfl,dxm rfl rfl,fun _ h_=>ac (QH (h_.v rfl) (h_.v rfl) rfl Zd (by omega) hc19) rfl,dxm rfl rfl,dxm rfl rfl,fun _ h_=>ac (QH (h_.v rfl) (h_.v rfl) rfl Zd (by omega) hc21) rfl,fun _ h_=>ac (Yb (h_.v rfl) (h_.v rfl) rfl) rfl,⟨⟩⟩ ?_
   cases hb22:(!decide (c18=c20))
   ·have hb22':(c18=c20):=Ze hb22
    refine w_ ?_
    refine AC.skip ?_
    refine (?_:AC _ _ _ _ _)
    iterate 3 refine w_ ?_
    refine Qj<|QS ⟨k+1,by omega,rfl,(QgS hF (by first | exact (KE (by assumption) (by assumption) (by assumption)).2 (by assumption) | exact QdM (by assumption) (by assumption) (by assumption) (by assumption) (by assumption))),rfl⟩ (by omega) ?_
    exact Wk.of [(0,0)] rfl ⟨rfl,rfl,rfl,rfl,rfl,trivial⟩ ⟨rfl,trivial⟩ rfl rfl
   ·have hb22':¬(c18=c20):=Zp hb22
    iterate 4 refine w_ ?_
    refine Qe ?_
    subst hO
    have e23:(false:Bool)=(decide (Fit a x y)):=by
     exact QiW (k:=k) (by omega) (fun h=>by first | exact absurd ((KE (by assumption) (by assumption) (by assumption)).1 h) (by assumption) | exact Qaz (by assumption) (by assumption) (by assumption) h | exact QaV (by assumption) (by assumption) (by assumption) h)
    exact Qg (Qd rfl (Qc rfl)) ((congrArg (fun z_=>lB z_) e23)) rfl
theorem V6 (code:ByteArray)(sig:Int)(b:ByteArray)(hs:0≤sig∧sig < (code.size:Int))(hb:code.size≤1000000∧b.size≤1000000):FC Tryz.prog 219 [(false,[dS code]),(false,[dI sig]),(false,[dS b])] [] 0 (Zy (lf (dS (UH code sig b)))):=by
 refine QQ Tryz.func219 rfl rfl Tryz.ntmps219 fun O_ hO w0_ N0_ X_ h0_ f0_=> ?_
 refine AC.fact (Qs (x:= .tmp 1) (Qa rfl)) fun hi1=> ?_
 iterate 3 refine w_ ?_
 refine dw [io 7 (lf (dS code)),io 8 (lI sig),io 9 (lf (dS (code.extract 0 (sig).toNat))),io 10 (lf (dS b)),io 11 (lf (dS ((code.extract 0 (sig).toNat)++b))),io 12 (lf (dS code)),io 13 (lI sig),io 14 (lI (sig+1)),io 15 (lf (dS (code.extract (sig+1).toNat code.size))),io 16 (lf (dS (((code.extract 0 (sig).toNat)++b)++(code.extract (sig+1).toNat code.size)))),io 6 (lf (dS (((code.extract 0 (sig).toNat)++b)++(code.extract (sig+1).toNat code.size))))] [0,0,3,0,15,0,0,64,224,511,1023] mixed rfl (by kernel_rfl) ⟨dxm rfl rfl,dxm rfl rfl,fun _ h_=>ac (show Does _ _ _ _ (St.put _ 9 (lf (dS (code.extract 0 (sig).toNat)))) from Qbe (l:=none) (h:=(some sig)) (h_.v rfl) (by exact trivial) (by exact (h_.v rfl)) Zd rfl (by first | omega | (simp only[Option.getD_none,Option.getD_some]; omega)) (by first | omega | (simp only[Option.getD_none,Option.getD_some]; omega)) (by first | omega | (simp only[Option.getD_none,Option.getD_some]; omega))) rfl,dxm rfl rfl,fun _ h_=>ac (X9 (h_.v rfl) (h_.v rfl) rfl (by first | omega | (simp only[ByteArray.size_append,ByteArray.size_extract]; omega))) rfl,dxm rfl rfl,dxm rfl rfl,fun _ h_=>ac (Uw (h_.v rfl) (QE rfl) rfl (by omega)) rfl,fun _ h_=>ac (show Does _ _ _ _ (St.put _ 15 (lf (dS (code.extract (sig+1).toNat code.size)))) from Qbe (l:=(some (sig+1))) (h:=none) (h_.v rfl) (by exact (h_.v rfl)) (by exact trivial) Zd rfl (by first | omega | (simp only[Option.getD_none,Option.getD_some]; omega)) (by first | omega | (simp only[Option.getD_none,Option.getD_some]; omega)) (by first | omega | (simp only[Option.getD_none,Option.getD_some]; omega))) rfl,fun _ h_=>ac (X9 (h_.v rfl) (h_.v rfl) rfl (by first | omega | (simp only[ByteArray.size_append,ByteArray.size_extract]; omega))) rfl,dxt rfl rfl,⟨⟩⟩<|Qe ?_
 subst hO
 have e2:(((code.extract 0 (sig).toNat)++b)++(code.extract (sig+1).toNat code.size):ByteArray)=(UH code sig b):=by
  rfl
 exact Qg (Qd rfl (Qc rfl)) ((congrArg (fun z_=>lf (dS z_)) e2)) rfl
end Go.Proofs.YtnakmhfjafecpaaGreat
