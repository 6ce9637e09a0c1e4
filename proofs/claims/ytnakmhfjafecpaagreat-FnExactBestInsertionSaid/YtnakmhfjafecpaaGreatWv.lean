/- Walks over abstract states: reachability. -/
import Derived.Test.YtnakmhfjafecpaaGreatWk
set_option linter.unusedSimpArgs false
set_option linter.unusedVariables false
namespace Go.Proofs.YtnakmhfjafecpaaGreat
open Go.RowKit
set_option maxRecDepth 100000
set_option maxHeartbeats 4000000
abbrev RS:=List ByteArray×List (Int×Int×Int)×List (Int×Int×Int)
abbrev Qke:=Int×Int×Bool
def U8 (l:List ByteArray)(x:ByteArray):Int:=ZO (fun y=>decide (y=x)) l
def goT (n:Qbf)(k:Nat)(mk:ByteArray):List Int→RS→RS×Qke
  | [],st=>(st,(-1, -1,true))
  | t :: ts,st=>
    if (Qjq n mk t).2=false then (st,(k,t,false))
    else if 0≤U8 st.1 (Qjq n mk t).1 then goT n k mk ts (st.1,st.2.1++[((k:Int),t,U8 st.1 (Qjq n mk t).1)],st.2.2)
    else if st.1.length=300 then (st,(-1, -1,false))
    else goT n k mk ts (st.1++[(Qjq n mk t).1],st.2.1++[((k:Int),t,(st.1.length:Int))],st.2.2++[((k:Int),t,(st.1.length:Int))])
def goK (n:Qbf):Nat→Nat→RS→RS×Qke
  | 0,_,st=>(st,(-1, -1,true))
  | f+1,k,st=>match st.1[k]? with
    | none=>(st,(-1, -1,true))
    | some mk=>if (goT n k mk (Qpe n mk) st).2.2.2=true then goK n f (k+1) (goT n k mk (Qpe n mk) st).1 else goT n k mk (Qpe n mk) st
def Qql (n:Qbf)(f k:Nat)(r:RS×Qke):RS×Qke:=if r.2.2.2=true then goK n f (k+1) r.1 else r
def VD (s:WQ):RS×Qke:=goK s.1 301 0 ([s.2.2.2],[],[((0:Int),(0:Int),(0:Int))])
def exV (s:WQ):(List ByteArray×List (Int×Int×Int))×Int×Int×Bool:=(((VD s).1.1,(VD s).1.2.1),(VD s).2)
def l4V (s:WQ):(List ByteArray×List (Int×Int×Int))×List (Int×Int×Int)×Int×Int×Bool:=
  (((VD s).1.1,(VD s).1.2.1),(VD s).1.2.2,(if 0≤(VD s).2.2.1 then (VD s).2.1 else 0),(VD s).2.2.1,(!(VD s).2.2.2&&decide ((VD s).2.2.1 < 0)))
def Qop:List ByteArray×List (Int×Int×Int):=([],[])
section
variable [∀s,Decidable (StgOk s)]
def V9 (s:WQ):(List ByteArray×List (Int×Int×Int))×Bool:=if StgOk s∧(VD s).2.2.2=true then (((VD s).1.1,(VD s).1.2.1),true) else (Qop,false)
end
theorem Qkr (l:List ByteArray)(x y:ByteArray):U8 (l++[y]) x=if 0≤U8 l x then U8 l x else if y=x then (l.length:Int) else -1:=by
  unfold U8 ZO
  rw[List.findIdx?_append]
  cases h:l.findIdx? (fun z=>decide (z=x)) with
  | some i=>simp
  | none=>
    by_cases e:y=x
    · simp[e]
    · simp[e]
def IdxOf (QZ:List ByteArray)(idx:List (ByteArray×Int)):Prop:=∀x,Yy .str idx x=if 0≤U8 QZ x then some (U8 QZ x) else none
section
variable {QZ:List ByteArray}{idx:List (ByteArray×Int)}{x:ByteArray}{v b:List (Int×Int×Int)}{n:Qbf}{k f i:Nat}{mk:ByteArray}{t:Int}{ts:List Int}{r:ByteArray×Bool}{j:Int}{s:WQ}{e:Qke}
theorem IdxOf.new (h:IdxOf QZ idx)(hs:(Yy .str idx x).isSome=false):¬0≤U8 QZ x:=by
  rw[h x] at hs
  intro h0
  rw[if_pos h0] at hs; cases hs
theorem IdxOf.set (h:IdxOf QZ idx)(hs:(Yy .str idx x).isSome=false):IdxOf (QZ++[x]) (WS .str idx x (QZ.length:Int)):=fun y=>by
  have h0:=h.new hs
  rw[QdE,Qkr,h y]
  by_cases e:x=y
  · subst e
    rw[if_pos ((Ty.beq_iff .str x x).2 rfl),if_neg h0,if_pos rfl,if_pos (Int.natCast_nonneg _)]
  · have : Ty.beq .str x y = false := Bool.eq_false_iff.2 fun h => e ((Ty.beq_iff .str x y).1 h)
    rw[if_neg (show¬Ty.beq .str x y=true by rw[this]; decide),if_neg e]
    by_cases h1:0≤U8 QZ y
    · rw[if_pos h1,if_pos h1,if_pos h1]
    · rw[if_neg h1,if_neg h1,if_neg (by decide)]
theorem IdxOf.one (x:ByteArray):IdxOf [x] (WS .str ([]:List (ByteArray×Int)) x 0):=fun y=>by
  rw[QdE]
  by_cases e:x=y
  · subst e
    rw[if_pos ((Ty.beq_iff .str x x).2 rfl)]
    simp[U8,ZO]
  · have : Ty.beq .str x y = false := Bool.eq_false_iff.2 fun h => e ((Ty.beq_iff .str x y).1 h)
    rw[if_neg (show¬Ty.beq .str x y=true by rw[this]; decide)]
    simp[U8,ZO,e,Yy]
def LBits (l:List UInt8):Prop:=∀c∈l,c=48∨c=49
theorem LBits.set {l:List UInt8}(h:LBits l){c:UInt8}(hc:c=48∨c=49)(i:Nat):LBits (l.set i c):=fun d hd=>by
  rcases List.mem_or_eq_of_mem_set hd with h1 | h1
  · exact h d h1
  · rw[h1]; exact hc
theorem Qph {l:List UInt8}(h:LBits l)(ps:List Int):LBits (clr l ps):=by
  induction ps generalizing l with
  | nil=>exact h
  | cons p ps ih=>exact ih (h.set (.inl rfl) _)
theorem LBits.put {l l':List UInt8}(h:LBits l){ps:List Int}(hp:QlY l ps=some l'):LBits l'∧l'.length=l.length:=by
  induction ps generalizing l with
  | nil=>rw[QlY] at hp; cases hp; exact ⟨h,rfl⟩
  | cons p ps ih=>
    rw[QlY] at hp
    split at hp
    · cases hp
    · obtain ⟨h1, h2⟩ := ih (h.set (.inr rfl) _) hp
      exact ⟨h1,by rw[h2,List.length_set]⟩
end
end Go.Proofs.YtnakmhfjafecpaaGreat
namespace Go.Proofs.YtnakmhfjafecpaaGreat
open Go.RowKit
set_option maxRecDepth 100000
set_option maxHeartbeats 4000000
abbrev DMv:=Int×Int×Int
abbrev DAr:=Int×Int×Bool×Int
def Qn9 (ls:List Xf)(t:Int):Xf:=(ls[t.toNat]?).getD (0,false)
def QpB (ls:List Xf)(m:DMv):DAr:=(m.1,(Qn9 ls m.2.1).1,(Qn9 ls m.2.1).2,m.2.2)
def QmJ (ls:List Xf)(ms:List DMv):List DAr:=ms.map (QpB ls)
def bv (l:List UInt8)(i:Nat):UInt8:=(l[i]?).getD 0
def agr (vs:List UInt8)(i j:Nat):List UInt8×Bool×Bool:=
  if bv vs i=bv vs j then (vs,true,false) else if bv vs i=0 then (vs.set i (bv vs j),true,true) else if bv vs j=0 then (vs.set j (bv vs i),true,true) else (vs,false,false)
def agb (vs:List UInt8)(i:Nat)(c:UInt8):List UInt8×Bool×Bool:=
  if bv vs i=c then (vs,true,false) else if bv vs i=0 then (vs.set i c,true,true) else (vs,false,false)
section
variable {vs vs':List UInt8}{i j k:Nat}{a b c:UInt8}
def Qqv (vs:List UInt8):Nat:=(vs.filter fun c=>c=0).length
end
def Qpn (sig:Int)(a:DAr)(vs:List UInt8):Option (List UInt8×Bool):=
  if a.2.1=sig then
    (if (agb vs a.1.toNat (if (!a.2.2.1)=true then 49 else 48)).2.1=true∧(agb (agb vs a.1.toNat (if (!a.2.2.1)=true then 49 else 48)).1 a.2.2.2.toNat (if a.2.2.1=true then 49 else 48)).2.1=true then
      some ((agb (agb vs a.1.toNat (if (!a.2.2.1)=true then 49 else 48)).1 a.2.2.2.toNat (if a.2.2.1=true then 49 else 48)).1,(agb vs a.1.toNat (if (!a.2.2.1)=true then 49 else 48)).2.2||(agb (agb vs a.1.toNat (if (!a.2.2.1)=true then 49 else 48)).1 a.2.2.2.toNat (if a.2.2.1=true then 49 else 48)).2.2)
    else none)
  else if (agr vs a.1.toNat a.2.2.2.toNat).2.1=true then some ((agr vs a.1.toNat a.2.2.2.toNat).1,(agr vs a.1.toNat a.2.2.2.toNat).2.2) else none
def Qoe (sig:Int):List DAr→List UInt8→Bool→Option (List UInt8×Bool)
  | [],vs,ch=>some (vs,ch)
  | a :: rs,vs,ch=>match Qpn sig a vs with
    | none=>none
    | some (vs',c)=>Qoe sig rs vs' (ch||c)
def QoW (sig:Int)(arcs:List DAr):Nat→List UInt8→Option (List UInt8)
  | 0,vs=>some vs
  | f+1,vs=>match Qoe sig arcs vs false with
    | none=>none
    | some (vs',ch)=>if ch=true then QoW sig arcs f vs' else some vs'
def Qqq (sig:Int)(arcs:List DAr)(f:Nat):Option (List UInt8×Bool)→Option (List UInt8)
  | none=>none
  | some (vs',ch)=>if ch=true then QoW sig arcs f vs' else some vs'
def fz (c:UInt8):UInt8:=if c=0 then 48 else c
def Qoj (n:Nat)(arcs:List DAr)(sig:Int):List UInt8×Bool:=match QoW sig arcs (n+1) (List.replicate n 0) with
  | none=>([],false)
  | some vs=>(vs.map fz,true)
def InR (n:Int)(a:DAr):Prop:=(0≤a.1∧a.1 < n)∧0≤a.2.2.2∧a.2.2.2 < n
section
variable {sig n:Int}{a:DAr}{vs vs':List UInt8}{arcs rs:List DAr}{ch ch' c:Bool}{f k:Nat}
def Qqr (vs:List UInt8)(k:Nat):List UInt8:=(vs.take k).map fz++vs.drop k
end
theorem Xj (s:List (ByteArray×Int))(hl:s.length≤1000000):FC Tryz.prog 168 [(false,[.dat (.sl 145 (.pr .str .int)) s])] [] 0 (X8 145 (.pr .str .int) s):=by
 refine QM Tryz.func168 rfl rfl Tryz.ntmps168 fun O_ hO w0_ N0_ X_ h0_ f0_=> ?_
 iterate 6 refine w_ ?_
 refine QgX (Qa rfl) Evl.val YD rfl fun b1 hnil=> ?_
 refine w_ ?_
 cases hb2:(b1)
 ·iterate 3 refine w_ ?_
  refine lc (Ql 0 (e:=(.pr .str .int)) YD YA W7 rfl rfl (List.all_eq_true.1 rfl) ⟨rfl,rfl⟩ (by decide) rfl rfl (Fresh.of rfl) (nlr rfl)) ?_
  refine w_ ?_
  refine lc (YY 1 (Qa rfl) rfl (Evl.rep (Qa rfl)) rfl YD Qbz (by first | omega | (simp only[List.length_append,List.length_map,List.length_take,List.length_cons,List.length_nil]; omega) | (simp only[List.length_append,List.length_drop,List.length_take,List.length_cons,List.length_nil]; omega)) rfl (Fresh.of rfl) (nlr rfl)) ?_
  iterate 2 refine w_ ?_
  refine Qd ?_
  subst hO
  refine ZC (e:=(.pr .str .int)) (xs:=(([])++s)) (Qe rfl (Qc rfl)) rfl ?_
  rfl
 ·iterate 4 refine w_ ?_
  refine AC.wk (Wk.nilS 2 2 145 (.pr .str .int) rfl (Fresh.of rfl) (nlr rfl))<|Qd ?_
  subst hO
  refine ZC (e:=(.pr .str .int)) (xs:=([])) (Qe rfl (Qc rfl)) rfl ?_
  exact (hnil (by assumption)).symm
end Go.Proofs.YtnakmhfjafecpaaGreat
namespace Go.Proofs.YtnakmhfjafecpaaGreat
open Go.RowKit
set_option maxRecDepth 100000
set_option maxHeartbeats 4000000
def Qpy (sig:Int)(a:DAr)(us:List UInt8):Option (List UInt8):=
  if a.2.1=sig then
    (if (bv us a.1.toNat≠63∧bv us a.1.toNat≠(if (!a.2.2.1)=true then 49 else 48))∨(bv us a.2.2.2.toNat≠63∧bv us a.2.2.2.toNat≠(if a.2.2.1=true then 49 else 48)) then none
    else some ((us.set a.1.toNat (if (!a.2.2.1)=true then 49 else 48)).set a.2.2.2.toNat (if a.2.2.1=true then 49 else 48)))
  else if bv us a.1.toNat=63 then some ((us.set a.1.toNat (bv us a.2.2.2.toNat)).set a.2.2.2.toNat (bv us a.2.2.2.toNat))
  else if bv us a.2.2.2.toNat≠63∧bv us a.2.2.2.toNat≠bv us a.1.toNat then none
  else some ((us.set a.1.toNat (bv us a.1.toNat)).set a.2.2.2.toNat (bv us a.1.toNat))
def Qof (sig:Int):List DAr→List UInt8→Option (List UInt8)
  | [],us=>some us
  | a :: rs,us=>match Qpy sig a us with
    | none=>none
    | some us'=>Qof sig rs us'
def Qly (sig:Int)(arcs:List DAr):Nat→List UInt8→Option (List UInt8)
  | 0,us=>some us
  | f+1,us=>match Qof sig arcs us with
    | none=>none
    | some us'=>Qly sig arcs f us'
def Qqo (sig:Int)(arcs:List DAr)(f:Nat):Option (List UInt8)→Option (List UInt8)
  | none=>none
  | some us'=>Qly sig arcs f us'
def l5V (n:Nat)(arcs:List DAr)(sig:Int):ByteArray×Bool:=match Qly sig arcs (n+1) (List.replicate n 63) with
  | none=>(⟨#[]⟩,false)
  | some us=>(⟨us.toArray⟩,true)
section
variable {sig:Int}{a:DAr}{us us' vs vs':List UInt8}{arcs rs:List DAr}{f k m:Nat}{cf ct x:UInt8}{ch ch':Bool}{i j:Nat}
def qm (c:UInt8):UInt8:=if c=0 then 63 else c
def Kn (vs:List UInt8):Prop:=∀c∈vs,c=0∨c=48∨c=49
theorem Kn.set (h:Kn vs){c:UInt8}(hc:c=0∨c=48∨c=49)(i:Nat):Kn (vs.set i c):=fun d hd=>by
  rcases List.mem_or_eq_of_mem_set hd with h1 | h1
  · exact h d h1
  · rw[h1]; exact hc
theorem Kn.at (h:Kn vs)(hi:i < vs.length):∃c,vs[i]? =some c∧(c=0∨c=48∨c=49):=⟨_,List.getElem?_eq_getElem hi,h _ (List.getElem_mem hi)⟩
def q0 (c:UInt8):UInt8:=if c=63 then 48 else c
end
end Go.Proofs.YtnakmhfjafecpaaGreat
namespace Go.Proofs.YtnakmhfjafecpaaGreat
open Go.RowKit
set_option maxRecDepth 100000
set_option maxHeartbeats 4000000
section
variable {sig:Int}{us us':List UInt8}{arcs:List DAr}{f k n:Nat}{cf ct b1 b2:UInt8}{mv:DMv}{lb:Xf}{ls:List Xf}{ms:List DMv}
def ar4 (mv:DMv)(lb:Xf):DAr:=(mv.1,lb.1,lb.2,mv.2.2)
def Qqi (n k:Nat):List UInt8:=List.replicate k 63++List.replicate (n - k) 0
def QpM (n:Nat)(arcs:List DAr):Nat→List Int
  | 0=>[]
  | k+1=>QpM n arcs k++(if (l5V n arcs (k:Int)).2=true then [] else [(k:Int)])
end
def MvOk (n m:Nat)(v:DMv):Prop:=(0≤v.1∧v.1 < (n:Int))∧(0≤v.2.1∧v.2.1 < (m:Int))∧0≤v.2.2∧v.2.2 < (n:Int)
theorem VW (up:Bool):FC Tryz.prog 220 [(false,[dB up])] [] 0 (Zo (lf (dS (XP up)))):=by
 refine QM Tryz.func220 rfl rfl Tryz.ntmps220 fun O_ hO w0_ N0_ X_ h0_ f0_=> ?_
 iterate 7 refine w_ ?_
 cases hb1:(up)
 ·iterate 5 refine w_ ?_
  refine Qd ?_
  subst hO
  have e2:((⟨#[48]⟩:ByteArray):ByteArray)=(XP up):=by
   simp[XP, *]
  exact Qg (Qe rfl (Qc rfl)) ((congrArg (fun z_=>lf (dS z_)) e2)) rfl
 ·iterate 4 refine w_ ?_
  refine Qd ?_
  subst hO
  have e3:((⟨#[49]⟩:ByteArray):ByteArray)=(XP up):=by
   simp[XP, *]
  exact Qg (Qe rfl (Qc rfl)) ((congrArg (fun z_=>lf (dS z_)) e3)) rfl
end Go.Proofs.YtnakmhfjafecpaaGreat
namespace Go.Proofs.YtnakmhfjafecpaaGreat
open Go.RowKit
set_option maxRecDepth 100000
set_option maxHeartbeats 4000000
structure Rok (m:Nat) (st:RS):Prop where
  one:1≤st.1.length
  most:st.1.length≤300
  nd:st.1.Nodup
  mv:∀v∈st.2.1,MvOk st.1.length m v
section
variable {n:Qbf}{k f:Nat}{mk:ByteArray}{t:Int}{ts:List Int}{st:RS}{s:WQ}{l:List ByteArray}{x:ByteArray}
theorem MvOk.grow {a b m:Nat}{v:DMv}(h:MvOk a m v)(hab:a≤b):MvOk b m v:=by
  obtain ⟨⟨h1,h2⟩,h3,h4,h5⟩:=h
  exact ⟨⟨h1,by omega⟩,h3,h4,by omega⟩
end
theorem Hw {ss:List Q1}(h:XE ss):ss.length≤24:=by
  have:=h.2.2
  omega
section
variable [∀s,Decidable (StgOk s)]{s:WQ}
end
section
variable {s:WQ}
end
end Go.Proofs.YtnakmhfjafecpaaGreat
namespace Go.Proofs.YtnakmhfjafecpaaGreat
open Go.RowKit
set_option maxRecDepth 100000
set_option maxHeartbeats 4000000
def QpW:Nat→List ByteArray→List UInt8→List ByteArray
  | _,c,[]=>c
  | i,c,v :: vs=>QpW (i+1) (c.set i ((c[i]?).getD ByteArray.empty++⟨#[v]⟩)) vs
def goS (n:Nat)(arcs:List DAr):Nat→Nat→List ByteArray→Option (List ByteArray)
  | 0,_,c=>some c
  | f+1,k,c=>if (Qoj n arcs (k:Int)).2=true then goS n arcs f (k+1) (QpW 0 c (Qoj n arcs (k:Int)).1) else none
section
variable {n f k i m:Nat}{arcs:List DAr}{c codes:List ByteArray}{vs us:List UInt8}{v:UInt8}{x:ByteArray}
end
section
variable [∀s,Decidable (StgOk s)]{s:WQ}{c:List ByteArray}
def UR:List (ByteArray×Int)×List ByteArray×List DAr:=([],[],[])
def sgV (s:WQ):(List (ByteArray×Int)×List ByteArray×List DAr)×Bool:=
  if (V9 s).2=true∧¬4000 < (V9 s).1.2.length then
    (match goS (V9 s).1.1.length (QmJ s.2.2.1 (V9 s).1.2) s.2.1.length 0 (List.replicate (V9 s).1.1.length ByteArray.empty) with
    | some c=>((s.2.1,c,QmJ s.2.2.1 (V9 s).1.2),true)
    | none=>(UR,false))
  else (UR,false)
end
end Go.Proofs.YtnakmhfjafecpaaGreat
namespace Go.Proofs.YtnakmhfjafecpaaGreat
open Go.RowKit
set_option maxRecDepth 100000
set_option maxHeartbeats 4000000
abbrev DRg:=List ByteArray×List DMv
instance (n m:Nat) (v:DMv):Decidable (MvOk n m v):=inferInstanceAs (Decidable (_∧_))
def QiW (r:DRg):Prop:=(1≤r.1.length∧r.1.length≤300)∧r.2.length≤4000∧r.1.Nodup∧∀v∈r.2,MvOk r.1.length 24 v
instance (r:DRg):Decidable (QiW r):=inferInstanceAs (Decidable (_∧_))
def Qqh (l:List ByteArray):List (ByteArray×Bool):=l.foldl (fun m x=>WS .str m x true) []
section
variable {r:DRg}{k:Nat}{x y:ByteArray}{v:DMv}{l:List ByteArray}{m:List (ByteArray×Bool)}
end
def QlG (f:Int→Bool):Nat→List Int
  | 0=>[]
  | k+1=>QlG f k++(if f (k:Int)=true then [] else [(k:Int)])
section
variable {f:Int→Bool}{k n:Nat}{α:Type _}{l:List α}{p:α→Bool}{x:α}
end
def byT (r:DRg)(t:Int):Bool:=r.2.any fun v=>decide (v.2.1=t)
def Qpz (r:DRg)(t:Int):Bool:=r.2.any fun v=>decide (v.1=t)
def mfV (r:DRg)(k:Int):List DMv×Bool:=if QiW r∧0≤k∧k < r.1.length then (r.2.filter fun v=>decide (v.1=k),true) else ([],false)
def dlV (r:DRg):List Int×Bool:=if QiW r then (QlG (Qpz r) r.1.length,true) else ([],false)
section
variable [∀s,Decidable (StgOk s)]
def dtV (s:WQ)(r:DRg):List Int×Bool:=if StgOk s∧QiW r then (QlG (byT r) s.2.2.1.length,true) else ([],false)
end
def Qqn (k:Int)(ms:List DMv):List DMv:=ms.filter fun v=>decide (v.1=k)
end Go.Proofs.YtnakmhfjafecpaaGreat
namespace Go.Proofs.YtnakmhfjafecpaaGreat
open Go.RowKit
set_option maxRecDepth 100000
set_option maxHeartbeats 4000000
theorem QW {A:Amb}{P:Program}{o:Oper}{s:St}{d:Nat}{b b':Bool}(e:b=b')(h:Does A P o s (s.put d (lf (dB b)))):Does A P o s (s.put d (lf (dB b'))):=e▸h
abbrev DSg:=List (ByteArray×Int)×List ByteArray×List DAr
theorem JU (ss:List Q1)[Decidable (XE ss)]:FC Tryz.prog 153 [(false,[.dat (.sl 145 Yc) ss])] [] 0 (Zo (lf (dB (decide (XE ss))))):=QeP fun gh w vs h=>by
  obtain ⟨v,rfl,hr⟩:=h.leaf1
  exact (QbJ v ss w hr).mono fun _ _ h=>H3 h
theorem Hf (ss:List Q1)[Decidable (XE ss)]:FC Tryz.prog 148 [(false,[.dat (.sl 145 Yc) ss])] [] 0 (Zo (lf (dB (decide (XE ss))))):=QeP fun gh w vs h=>by
  obtain ⟨v,rfl,hr⟩:=h.leaf1
  exact (Qdh v ss w hr).mono fun _ _ h=>H3 h
def Vz (n:Int)(l:Xf):Prop:=(0≤l.1∧l.1≤n - 1)∨(l.1= -1∧l.2=false)
instance (n:Int) (l:Xf):Decidable (Vz n l):=inferInstanceAs (Decidable (_∨_))
def YL (s:ByteArray)(n:Int):Prop:=(∀c∈s.toList,c=48∨c=49)∧(s.size:Int)=n
instance (s:ByteArray) (n:Int):Decidable (YL s n):=inferInstanceAs (Decidable (_∧_))
section
variable {n:Int}{l:Xf}{s x y:ByteArray}{k:Nat}{c d:UInt8}{a:DAr}
theorem QjP (h:0≤l.1∧l.1≤n - 1):true=decide (Vz n l):=(decide_eq_true (.inl h)).symm
theorem Ql1 (h:¬(0≤l.1∧l.1≤n - 1)):Ty.beq Qey l (-1,false)=decide (Vz n l):=by
  rw[Bool.eq_iff_iff,Ty.beq_iff,decide_eq_true_eq]
  constructor
  · rintro rfl; exact .inr ⟨rfl,rfl⟩
  · rintro (h1 | h1)
    · exact absurd h1 h
    · exact Prod.ext h1.1 h1.2
theorem Qoo (h:¬(0≤l.1∧l.1≤n - 1))(h1:l.1= -1):(!l.2)=decide (Vz n l):=by
  rw[Bool.eq_iff_iff,decide_eq_true_eq]
  constructor
  · intro h2; exact .inr ⟨h1,by simpa using h2⟩
  · rintro (h2 | h2)
    · exact absurd h2 h
    · simp[h2.2]
theorem Qoz (h:¬(0≤l.1∧l.1≤n - 1))(h1:¬l.1= -1):false=decide (Vz n l):=(decide_eq_false (by rintro (h2 | h2); exact h h2; exact h1 h2.1)).symm
theorem H0 (h:s[((k:Int)).toNat]? =some c):s.toList[k]? =some c:=by
  have h:s[k]? =some c:=h
  rw[ByteArray.toList_eq]
  obtain ⟨hk,h2⟩:∃hk:k < s.size,s[k]=c:=by
    by_cases hk:k < s.size
    · rw[getElem?_pos s k hk] at h; exact ⟨hk,Option.some.inj h⟩
    · rw[getElem?_neg s k hk] at h; cases h
  rw[List.getElem?_eq_getElem (by simpa using hk)]
  rw[← h2]; simp; rfl
theorem Jb (hB:∀j,j < k→∀c,s.toList[j]? =some c→c=48∨c=49)(hx:s[((k:Int)).toNat]? =some c)(h:c=48∨c=49):∀j,j < k+1→∀c,s.toList[j]? =some c→c=48∨c=49:=fun j hj d hd=>by
  by_cases e:j=k
  · subst e; rw[H0 hx] at hd; cases hd; exact h
  · exact hB j (by omega) d hd
theorem Qje (hx:s[((k:Int)).toNat]? =some c)(h1:¬c=48)(h2:¬c=49):false=decide (YL s n):=(decide_eq_false fun h=>by
  rcases h.1 c (List.mem_of_getElem? (H0 hx)) with h | h
  · exact h1 h
  · exact h2 h).symm
theorem QfG (hB:∀j,j < k→∀c,s.toList[j]? =some c→c=48∨c=49)(hk:s.size≤k):decide ((s.size:Int)=n)=decide (YL s n):=decide_eq_decide.2 ⟨fun h=>⟨fun c hc=>by
    obtain ⟨j,hj⟩:=List.mem_iff_getElem?.1 hc
    have:=(List.getElem?_eq_some_iff.1 hj).1
    rw[Wt] at this
    exact hB j (by omega) c hj,h⟩,fun h=>h.2⟩
def Xq (a:DAr)(x y:ByteArray)(j:Nat):Prop:=if (j:Int)=a.2.1 then (decide (bAt x j=49)= !a.2.2.1∧decide (bAt y j=49)=a.2.2.1) else bAt x j=bAt y j
instance (a:DAr) (x y:ByteArray) (j:Nat):Decidable (Xq a x y j):=by unfold Xq; exact inferInstance
def Fit (a:DAr)(x y:ByteArray):Prop:=∀j,j < x.size→Xq a x y j
instance (a:DAr) (x y:ByteArray):Decidable (Fit a x y):=by unfold Fit; exact inferInstance
theorem QfZ (hF:∀j,j < k→Xq a x y j)(h:Xq a x y k):∀j,j < k+1→Xq a x y j:=fun j hj=>by
  by_cases e:j=k
  · subst e; exact h
  · exact hF j (by omega)
theorem Qg7 (hk:k < x.size)(h:¬Xq a x y k):false=decide (Fit a x y):=(decide_eq_false fun h1=>h (h1 k hk)).symm
theorem QnE (hF:∀j,j < k→Xq a x y j)(hk:x.size≤k):true=decide (Fit a x y):=(decide_eq_true fun j hj=>hF j (by omega)).symm
theorem KF (h:¬(k:Int)=a.2.1)(hx:x[((k:Int)).toNat]? =some c)(hy:y[((k:Int)).toNat]? =some d):Xq a x y k↔c=d:=by
  unfold Xq; rw[if_neg h,QI hx,QI hy]
theorem Qmw (h:(k:Int)=a.2.1)(hx:x[((k:Int)).toNat]? =some c)(hy:y[((k:Int)).toNat]? =some d):Xq a x y k↔(decide (c=49)= !a.2.2.1∧decide (d=49)=a.2.2.1):=by
  unfold Xq; rw[if_pos h,QI hx,QI hy]
theorem Qat (h:(k:Int)=a.2.1)(hx:x[((k:Int)).toNat]? =some c)(h1:(decide (c=49)==a.2.2.1)=true):¬Xq a x y k:=by
  unfold Xq; rw[if_pos h,QI hx]
  rintro ⟨h2,_⟩
  rw[h2] at h1
  cases ha:a.2.2.1 <;> rw[ha] at h1 <;> cases h1
theorem Qar (h:(k:Int)=a.2.1)(hy:y[((k:Int)).toNat]? =some d)(h1:(decide (d=49)==a.2.2.1)=false):¬Xq a x y k:=by
  unfold Xq; rw[if_pos h,QI hy]
  rintro ⟨_,h2⟩
  rw[h2] at h1
  cases ha:a.2.2.1 <;> rw[ha] at h1 <;> cases h1
theorem QdP (h:(k:Int)=a.2.1)(hx:x[((k:Int)).toNat]? =some c)(hy:y[((k:Int)).toNat]? =some d)(h1:(decide (c=49)==a.2.2.1)=false)(h2:(decide (d=49)==a.2.2.1)=true):Xq a x y k:=by
  rw[Qmw h hx hy]
  cases ha:a.2.2.1 <;> rw[ha] at h1 h2 <;> cases hc:decide (c=49) <;> rw[hc] at h1 <;> cases hd:decide (d=49) <;> rw[hd] at h2 <;> first | exact ⟨rfl,rfl⟩ | exact absurd h1 (by decide) | exact absurd h2 (by decide)
def UQ (code:ByteArray)(sig:Int)(b:ByteArray):ByteArray:=(code.extract 0 sig.toNat++b)++code.extract (sig+1).toNat code.size
end
theorem KS (l:Int×Bool)(n:Int)(hn:0≤n∧n≤1000000):FC Tryz.prog 156 [(true,[dI l.1,dB l.2]),(false,[dI n])] [] 0 (Zo (lB (decide (Vz n l)))):=by
 refine QM Tryz.func156 rfl rfl Tryz.ntmps156 fun O_ hO w0_ N0_ X_ h0_ f0_=> ?_
 refine AC.fact (QO (x:= .tmp 0) (i:=0) (Qb rfl) rfl) fun hi1=>AC.fact (Qu (x:= .tmp 1) (Qa rfl)) fun hi2=> ?_
 refine w_ ?_
 refine lc (Qo 0 (Qb rfl) rfl rfl (Fresh.of rfl) (nlr rfl)) ?_
 iterate 7 refine w_ ?_
 refine lc (Qf (ZE l.1 0 (n - 1)) Yz ⟨_,_,rfl,(Qb rfl),⟨_,_,rfl,(Evl.ev (QB rfl)),⟨_,_,rfl,(Qb rfl),rfl⟩⟩⟩ rfl rfl) ?_
 refine w_ ?_
 cases hb3:(decide (0≤l.1∧l.1≤(n - 1)))
 ·have hb3':=of_decide_eq_false hb3
  refine w_ ?_
  refine lgy rfl rfl (QH WY ⟨_,_,rfl,(Evl.ev (QB rfl)),rfl⟩ (List.all_eq_true.1 rfl) rfl rfl)<|lgy rfl rfl (Uj KN KB (Qb rfl) (Qb rfl) (p:=l) (q:=((-1),false)) rfl rfl rfl) ?_
  iterate 3 refine w_ ?_
  refine Qd ?_
  subst hO
  have e4:(Ty.beq (.pr .int .bool) l ((-1),false):Bool)=(decide (Vz n l)):=by
   exact Ql1 (by assumption)
  exact Qg (Qe rfl (Qc rfl)) ((congrArg (fun z_=>lB z_) e4)) rfl
 ·have hb3':=of_decide_eq_true hb3
  iterate 6 refine w_ ?_
  refine Qd ?_
  subst hO
  have e5:(true:Bool)=(decide (Vz n l)):=by
   exact QjP (by assumption)
  exact Qg (Qe rfl (Qc rfl)) ((congrArg (fun z_=>lB z_) e5)) rfl
theorem Qbe (l:Int×Bool)(n:Int)(hn:0≤n∧n≤1000000):FC Tryz.prog 181 [(true,[dI l.1,dB l.2]),(false,[dI n])] [] 0 (Zo (lB (decide (Vz n l)))):=by
 refine QM Tryz.func181 rfl rfl Tryz.ntmps181 fun O_ hO w0_ N0_ X_ h0_ f0_=> ?_
 refine AC.fact (QO (x:= .tmp 0) (i:=0) (Qb rfl) rfl) fun hi1=>AC.fact (Qu (x:= .tmp 1) (Qa rfl)) fun hi2=> ?_
 refine w_ ?_
 refine lc (Qo 0 (Qb rfl) rfl rfl (Fresh.of rfl) (nlr rfl)) ?_
 iterate 7 refine w_ ?_
 refine lc (Qf (XA l.1 0 (n - 1)) Wr ⟨_,_,rfl,(Qb rfl),⟨_,_,rfl,(Evl.ev (QB rfl)),⟨_,_,rfl,(Qb rfl),rfl⟩⟩⟩ rfl rfl) ?_
 refine w_ ?_
 cases hb3:(decide (0≤l.1∧l.1≤(n - 1)))
 ·have hb3':=of_decide_eq_false hb3
  iterate 4 refine w_ ?_
  cases hb4:(decide (l.1=(-1)))
  ·have hb4':=of_decide_eq_false hb4
   iterate 7 refine w_ ?_
   refine Qd ?_
   subst hO
   have e5:(false:Bool)=(decide (Vz n l)):=by
    exact Qoz (by assumption) (by assumption)
   exact Qg (Qe rfl (Qc rfl)) ((congrArg (fun z_=>lB z_) e5)) rfl
  ·have hb4':=of_decide_eq_true hb4
   iterate 7 refine w_ ?_
   refine Qd ?_
   subst hO
   have e6:(!l.2:Bool)=(decide (Vz n l)):=by
    exact Qoo (by assumption) (by assumption)
   exact Qg (Qe rfl (Qc rfl)) ((congrArg (fun z_=>lB z_) e6)) rfl
 ·have hb3':=of_decide_eq_true hb3
  iterate 4 refine w_ ?_
  refine Qp rfl rfl rfl ?_ rfl
  refine Qp rfl rfl rfl ?_ rfl
  refine Qp rfl rfl rfl ?_ rfl
  iterate 4 refine w_ ?_
  refine Qd ?_
  subst hO
  have e7:(true:Bool)=(decide (Vz n l)):=by
   exact QjP (by assumption)
  exact Qg (Qe rfl (Qc rfl)) ((congrArg (fun z_=>lB z_) e7)) rfl
theorem Qb7 (s:ByteArray)(n:Int):FC Tryz.prog 155 [(false,[dS s]),(false,[dI n])] [] 0 (Zo (lB (decide (YL s n)))):=by
 refine QM Tryz.func155 rfl rfl Tryz.ntmps155 fun O_ hO w0_ N0_ X_ h0_ f0_=> ?_
 refine AC.fact (Qu (x:= .tmp 1) (Qa rfl)) fun hi1=> ?_
 iterate 8 refine w_ ?_
 refine Qx (fun m_ s_=>∃(k:Nat),k≤s.size∧m_=s.size - k∧(∀j,j < k→∀c,s.toList[j]? =some c→c=48∨c=49)∧s_=⟨[(0,lf (dS s)),(1,lI n),(5,lI (k:Int))],[]⟩) ⟨0,Nat.zero_le _,rfl,(fun j hj=>absurd hj (Nat.not_lt_zero j)),rfl⟩ ?_ ?_
 · exact Wk.of [] rfl ⟨rfl,rfl,rfl,trivial⟩ trivial rfl rfl
 rintro m_ s_ ⟨k,hk2,hm3,hB,rfl⟩
 iterate 4 refine w_ ?_
 refine AL.fact (Y7 (x:= .tmp 7) (Qa rfl)) fun hl4=>lc (Xc (Qa rfl) rfl Zb) ?_
 iterate 2 refine w_ ?_
 cases hb5:(decide ((k:Int) < (s.size:Int)))
 ·have hb5':=of_decide_eq_false hb5
  refine w_ ?_
  refine QC ?_
  refine (?_:AC _ _ _ _ _)
  iterate 2 refine w_ ?_
  refine AL.fact (Y7 (x:= .tmp 22) (Qa rfl)) fun hl6=>lc (Xc (Qa rfl) rfl Zb) ?_
  iterate 4 refine w_ ?_
  refine Qd ?_
  subst hO
  have e7:(decide ((s.size:Int)=n):Bool)=(decide (YL s n)):=by
   exact QfG hB (by omega)
  exact Qg (Qe rfl (Qc rfl)) ((congrArg (fun z_=>lB z_) e7)) rfl
 ·have hb5':=of_decide_eq_true hb5
  iterate 7 refine w_ ?_
  obtain ⟨c8,hc9⟩:∃z,s[((k:Int)).toNat]? =some z:=⟨_,getElem?_pos _ _ (by omega)⟩
  refine lc (QF (Qa rfl) (Qa rfl) rfl Zb (by omega) hc9)<|lc (Z6 (Qa rfl) (QV 48 rfl) rfl) ?_
  refine w_ ?_
  cases hb10:(!decide (c8=48))
  ·have hb10':(c8=48):=Zi hb10
   iterate 7 refine w_ ?_
   refine AC.skip ?_
   refine (?_:AC _ _ _ _ _)
   iterate 4 refine w_ ?_
   refine Qj<|QR ⟨k+1,by omega,rfl,(Jb hB (by assumption) (by first | exact .inl (by assumption) | exact .inr (by assumption))),rfl⟩ (by omega) ?_
   exact Wk.of [] rfl ⟨rfl,rfl,rfl,trivial⟩ trivial rfl rfl
  ·have hb10':¬(c8=48):=Zq hb10
   iterate 2 refine w_ ?_
   refine lgy rfl rfl (QF (Qa rfl) (Qa rfl) rfl Zb (by omega) hc9)<|lgy rfl rfl (Z6 (Qa rfl) (QV 49 rfl) rfl) ?_
   iterate 2 refine w_ ?_
   cases hb11:(!decide (c8=49))
   ·have hb11':(c8=49):=Zi hb11
    refine w_ ?_
    refine AC.skip ?_
    refine (?_:AC _ _ _ _ _)
    iterate 4 refine w_ ?_
    refine Qj<|QR ⟨k+1,by omega,rfl,(Jb hB (by assumption) (by first | exact .inl (by assumption) | exact .inr (by assumption))),rfl⟩ (by omega) ?_
    exact Wk.of [] rfl ⟨rfl,rfl,rfl,trivial⟩ trivial rfl rfl
   ·have hb11':¬(c8=49):=Zq hb11
    iterate 4 refine w_ ?_
    refine Qd ?_
    subst hO
    have e12:(false:Bool)=(decide (YL s n)):=by
     exact Qje (k:=k) (by assumption) (by assumption) (by assumption)
    exact Qg (Qe rfl (Qc rfl)) ((congrArg (fun z_=>lB z_) e12)) rfl
theorem QcT (s:ByteArray)(n:Int):FC Tryz.prog 150 [(false,[dS s]),(false,[dI n])] [] 0 (Zo (lB (decide (YL s n)))):=by
 refine QM Tryz.func150 rfl rfl Tryz.ntmps150 fun O_ hO w0_ N0_ X_ h0_ f0_=> ?_
 refine AC.fact (Qu (x:= .tmp 1) (Qa rfl)) fun hi1=> ?_
 iterate 8 refine w_ ?_
 refine Qx (fun m_ s_=>∃(k:Nat),k≤s.size∧m_=s.size - k∧(∀j,j < k→∀c,s.toList[j]? =some c→c=48∨c=49)∧s_=⟨[(0,lf (dS s)),(1,lI n),(5,lI (k:Int))],[]⟩) ⟨0,Nat.zero_le _,rfl,(fun j hj=>absurd hj (Nat.not_lt_zero j)),rfl⟩ ?_ ?_
 · exact Wk.of [] rfl ⟨rfl,rfl,rfl,trivial⟩ trivial rfl rfl
 rintro m_ s_ ⟨k,hk2,hm3,hB,rfl⟩
 iterate 4 refine w_ ?_
 refine AL.fact (Y7 (x:= .tmp 7) (Qa rfl)) fun hl4=>lc (Xc (Qa rfl) rfl Zb) ?_
 iterate 2 refine w_ ?_
 cases hb5:(decide ((k:Int) < (s.size:Int)))
 ·have hb5':=of_decide_eq_false hb5
  refine w_ ?_
  refine QC ?_
  refine (?_:AC _ _ _ _ _)
  iterate 2 refine w_ ?_
  refine AL.fact (Y7 (x:= .tmp 22) (Qa rfl)) fun hl6=>lc (Xc (Qa rfl) rfl Zb) ?_
  iterate 4 refine w_ ?_
  refine Qd ?_
  subst hO
  have e7:(decide ((s.size:Int)=n):Bool)=(decide (YL s n)):=by
   exact QfG hB (by omega)
  exact Qg (Qe rfl (Qc rfl)) ((congrArg (fun z_=>lB z_) e7)) rfl
 ·have hb5':=of_decide_eq_true hb5
  iterate 7 refine w_ ?_
  obtain ⟨c8,hc9⟩:∃z,s[((k:Int)).toNat]? =some z:=⟨_,getElem?_pos _ _ (by omega)⟩
  refine lc (QF (Qa rfl) (Qa rfl) rfl Zb (by omega) hc9)<|lc (Z6 (Qa rfl) (QV 48 rfl) rfl) ?_
  refine w_ ?_
  cases hb10:(!decide (c8=48))
  ·have hb10':(c8=48):=Zi hb10
   iterate 7 refine w_ ?_
   refine AC.skip ?_
   refine (?_:AC _ _ _ _ _)
   iterate 4 refine w_ ?_
   refine Qj<|QR ⟨k+1,by omega,rfl,(Jb hB (by assumption) (by first | exact .inl (by assumption) | exact .inr (by assumption))),rfl⟩ (by omega) ?_
   exact Wk.of [] rfl ⟨rfl,rfl,rfl,trivial⟩ trivial rfl rfl
  ·have hb10':¬(c8=48):=Zq hb10
   iterate 2 refine w_ ?_
   refine lgy rfl rfl (QF (Qa rfl) (Qa rfl) rfl Zb (by omega) hc9)<|lgy rfl rfl (Z6 (Qa rfl) (QV 49 rfl) rfl) ?_
   iterate 2 refine w_ ?_
   cases hb11:(!decide (c8=49))
   ·have hb11':(c8=49):=Zi hb11
    refine w_ ?_
    refine AC.skip ?_
    refine (?_:AC _ _ _ _ _)
    iterate 4 refine w_ ?_
    refine Qj<|QR ⟨k+1,by omega,rfl,(Jb hB (by assumption) (by first | exact .inl (by assumption) | exact .inr (by assumption))),rfl⟩ (by omega) ?_
    exact Wk.of [] rfl ⟨rfl,rfl,rfl,trivial⟩ trivial rfl rfl
   ·have hb11':¬(c8=49):=Zq hb11
    iterate 4 refine w_ ?_
    refine Qd ?_
    subst hO
    have e12:(false:Bool)=(decide (YL s n)):=by
     exact Qje (k:=k) (by assumption) (by assumption) (by assumption)
    exact Qg (Qe rfl (Qc rfl)) ((congrArg (fun z_=>lB z_) e12)) rfl
theorem Ho (a:Int×Int×Bool×Int)(x:ByteArray)(y:ByteArray)(hxy:x.size≤y.size):FC Tryz.prog 157 [(true,[dI a.1,dI a.2.1,dB a.2.2.1,dI a.2.2.2]),(false,[dS x]),(false,[dS y])] [] 0 (Zo (lB (decide (Fit a x y)))):=by
 refine QM Tryz.func157 rfl rfl Tryz.ntmps157 fun O_ hO w0_ N0_ X_ h0_ f0_=> ?_
 refine AC.fact (QO (x:= .tmp 0) (i:=0) (Qb rfl) rfl) fun hi1=>AC.fact (QO (x:= .tmp 0) (i:=1) (Qb rfl) rfl) fun hi2=>AC.fact (QO (x:= .tmp 0) (i:=3) (Qb rfl) rfl) fun hi3=> ?_
 refine w_ ?_
 refine lc (Qo 0 (Qb rfl) rfl rfl (Fresh.of rfl) (nlr rfl)) ?_
 iterate 5 refine w_ ?_
 refine AL.fact (Y7 (x:= .tmp 8) (Qa rfl)) fun hl4=>lc (Xc (Qa rfl) rfl Zb) ?_
 iterate 3 refine w_ ?_
 refine Qx (fun m_ s_=>∃(k:Nat),k≤x.size∧m_=x.size - k∧(∀j,j < k→Xq a x y j)∧s_=⟨[(1,lf (dS x)),(2,lf (dS y)),(3,lP 0 0),(9,lI (x.size:Int)),(10,lI (k:Int))],[(0,some (.box 179 [dI a.1,dI a.2.1,dB a.2.2.1,dI a.2.2.2]))]⟩) ⟨0,Nat.zero_le _,rfl,(fun j hj=>absurd hj (Nat.not_lt_zero j)),rfl⟩ ?_ ?_
 · exact Wk.of [(0,0)] rfl ⟨rfl,rfl,rfl,rfl,rfl,trivial⟩ ⟨rfl,trivial⟩ rfl rfl
 rintro m_ s_ ⟨k,hk5,hm6,hF,rfl⟩
 iterate 4 refine w_ ?_
 cases hb7:(decide ((k:Int) < (x.size:Int)))
 ·have hb7':=of_decide_eq_false hb7
  refine w_ ?_
  refine QC ?_
  refine (?_:AC _ _ _ _ _)
  iterate 3 refine w_ ?_
  refine Qd ?_
  subst hO
  have e8:(true:Bool)=(decide (Fit a x y)):=by
   exact QnE hF (by omega)
  exact Qg (Qe rfl (Qc rfl)) ((congrArg (fun z_=>lB z_) e8)) rfl
 ·have hb7':=of_decide_eq_true hb7
  iterate 16 refine w_ ?_
  cases hb9:(!decide ((k:Int)=a.2.1))
  ·have hb9':((k:Int)=a.2.1):=Zi hb9
   refine w_ ?_
   obtain ⟨c10,hc11⟩:∃z,x[((k:Int)).toNat]? =some z:=⟨_,getElem?_pos _ _ (by omega)⟩
   cases hb12:((decide (c10=49))==a.2.2.1)
   ·obtain ⟨c13,hc14⟩:∃z,y[((k:Int)).toNat]? =some z:=⟨_,getElem?_pos _ _ (by omega)⟩
    refine dw [io 26 (lf (dS x)),io 27 (lI (k:Int)),io 28 (lf (.dat .u8 c10)),io 29 (lB (decide (c10=49))),io 30 (lP 0 2),io 31 (lB a.2.2.1),io 32 (lB false),io 33 (lB false),io 34 (lf (dS y)),io 35 (lI (k:Int)),io 36 (lf (.dat .u8 c13)),io 37 (lB (decide (c13=49))),io 38 (lP 0 2),io 39 (lB a.2.2.1),io 40 (lB (!((decide (c13=49))==a.2.2.1))),io 41 (lB (!((decide (c13=49))==a.2.2.1))),io 25 (lB (!((decide (c13=49))==a.2.2.1)))] [0,0,3,7,0,16,63,127,255,255,1023,2047,255,4351,16383,32767,65535] mixed rfl (by kernel_rfl) ⟨dxm rfl rfl,dxm rfl rfl,fun _ h_=>ac (QF (h_.v rfl) (h_.v rfl) rfl Zb (by omega) hc11) rfl,fun _ h_=>ac (QE (h_.v rfl) (QV 49 rfl) rfl) rfl,dxf YQ rfl rfl rfl,dxl ZD rfl rfl rfl rfl rfl,fun _ h_=>ac (QW (hb12) (K4 (h_.v rfl) (h_.v rfl) rfl Vh)) rfl,dxm rfl rfl,fun _ h_=>day rfl (h_.k rfl) (QD (h_.k rfl) rfl) rfl,fun _ h_=>day rfl (h_.k rfl) (QD (h_.k rfl) rfl) rfl,fun _ h_=>day rfl (h_.k rfl) (QF (h_.v rfl) (h_.v rfl) rfl Zb (by omega) hc14) rfl,fun _ h_=>day rfl (h_.k rfl) (QE (h_.v rfl) (QV 49 rfl) rfl) rfl,fun _ h_=>day rfl (h_.k rfl) (Qv (h_.v rfl) YQ (by rw[(h_.en 0 rfl)]; rfl) rfl) rfl,fun _ h_=>day rfl (h_.k rfl) (QG (h_.v rfl) (h_.n 0 rfl) ZD rfl rfl) rfl,fun _ h_=>day rfl (h_.k rfl) (Y6 (h_.v rfl) (h_.v rfl) rfl Vh) rfl,fun _ h_=>ac (QK (h_.v rfl) (h_.w rfl) rfl) rfl,dxt rfl rfl,⟨⟩⟩ ?_
    cases hb15:((decide (c13=49))==a.2.2.1)
    ·iterate 4 refine w_ ?_
     refine Qd ?_
     subst hO
     have e16:(false:Bool)=(decide (Fit a x y)):=by
      exact Qg7 (k:=k) (by omega) (fun h=>by first | exact absurd ((KF (by assumption) (by assumption) (by assumption)).1 h) (by assumption) | exact Qat (by assumption) (by assumption) (by assumption) h | exact Qar (by assumption) (by assumption) (by assumption) h)
     exact Qg (Qe rfl (Qc rfl)) ((congrArg (fun z_=>lB z_) e16)) rfl
    ·refine w_ ?_
     refine AC.skip ?_
     refine (?_:AC _ _ _ _ _)
     iterate 3 refine w_ ?_
     refine Qj<|QR ⟨k+1,by omega,rfl,(QfZ hF (by first | exact (KF (by assumption) (by assumption) (by assumption)).2 (by assumption) | exact QdP (by assumption) (by assumption) (by assumption) (by assumption) (by assumption))),rfl⟩ (by omega) ?_
     exact Wk.of [(0,0)] rfl ⟨rfl,rfl,rfl,rfl,rfl,trivial⟩ ⟨rfl,trivial⟩ rfl rfl
   ·refine dw [io 26 (lf (dS x)),io 27 (lI (k:Int)),io 28 (lf (.dat .u8 c10)),io 29 (lB (decide (c10=49))),io 30 (lP 0 2),io 31 (lB a.2.2.1),io 32 (lB true),io 33 (lB true),io 34 (lf (.val undef)),io 35 (lf (.val undef)),io 36 (lf (.val undef)),io 37 (lf (.val undef)),io 38 (lf (.val undef)),io 39 (lf (.val undef)),io 40 (lf (.val undef)),io 41 (lB true),io 25 (lB true)] [0,0,3,7,0,16,63,127,255,255,1023,2047,255,4351,16383,32767,65535] mixed rfl (by kernel_rfl) ⟨dxm rfl rfl,dxm rfl rfl,fun _ h_=>ac (QF (h_.v rfl) (h_.v rfl) rfl Zb (by omega) hc11) rfl,fun _ h_=>ac (QE (h_.v rfl) (QV 49 rfl) rfl) rfl,dxf YQ rfl rfl rfl,dxl ZD rfl rfl rfl rfl rfl,fun _ h_=>ac (QW (hb12) (K4 (h_.v rfl) (h_.v rfl) rfl Vh)) rfl,dxm rfl rfl,dxo rfl rfl rfl,dxo rfl rfl rfl,dxo rfl rfl rfl,dxo rfl rfl rfl,dxo rfl rfl rfl,dxo rfl rfl rfl,dxo rfl rfl rfl,fun _ h_=>ac (QT (h_.v rfl) (Evl.ev QP) rfl) rfl,dxt rfl rfl,⟨⟩⟩ ?_
    iterate 4 refine w_ ?_
    refine Qd ?_
    subst hO
    have e17:(false:Bool)=(decide (Fit a x y)):=by
     exact Qg7 (k:=k) (by omega) (fun h=>by first | exact absurd ((KF (by assumption) (by assumption) (by assumption)).1 h) (by assumption) | exact Qat (by assumption) (by assumption) (by assumption) h | exact Qar (by assumption) (by assumption) (by assumption) h)
    exact Qg (Qe rfl (Qc rfl)) ((congrArg (fun z_=>lB z_) e17)) rfl
  ·have hb9':¬((k:Int)=a.2.1):=Zq hb9
   refine w_ ?_
   obtain ⟨c18,hc19⟩:∃z,x[((k:Int)).toNat]? =some z:=⟨_,getElem?_pos _ _ (by omega)⟩
   obtain ⟨c20,hc21⟩:∃z,y[((k:Int)).toNat]? =some z:=⟨_,getElem?_pos _ _ (by omega)⟩
   refine dw [io 18 (lf (dS x)),io 19 (lI (k:Int)),io 20 (lf (.dat .u8 c18)),io 21 (lf (dS y)),io 22 (lI (k:Int)),io 23 (lf (.dat .u8 c20)),io 24 (lB (!decide (c18=c20)))] [0,0,3,0,0,24,63] mixed rfl (by kernel_rfl) ⟨dxm rfl rfl,dxm rfl rfl,fun _ h_=>ac (QF (h_.v rfl) (h_.v rfl) rfl Zb (by omega) hc19) rfl,dxm rfl rfl,dxm rfl rfl,fun _ h_=>ac (QF (h_.v rfl) (h_.v rfl) rfl Zb (by omega) hc21) rfl,fun _ h_=>ac (Z6 (h_.v rfl) (h_.v rfl) rfl) rfl,⟨⟩⟩ ?_
   cases hb22:(!decide (c18=c20))
   ·have hb22':(c18=c20):=Zi hb22
    refine w_ ?_
    refine AC.skip ?_
    refine (?_:AC _ _ _ _ _)
    iterate 3 refine w_ ?_
    refine Qj<|QR ⟨k+1,by omega,rfl,(QfZ hF (by first | exact (KF (by assumption) (by assumption) (by assumption)).2 (by assumption) | exact QdP (by assumption) (by assumption) (by assumption) (by assumption) (by assumption))),rfl⟩ (by omega) ?_
    exact Wk.of [(0,0)] rfl ⟨rfl,rfl,rfl,rfl,rfl,trivial⟩ ⟨rfl,trivial⟩ rfl rfl
   ·have hb22':¬(c18=c20):=Zq hb22
    iterate 4 refine w_ ?_
    refine Qd ?_
    subst hO
    have e23:(false:Bool)=(decide (Fit a x y)):=by
     exact Qg7 (k:=k) (by omega) (fun h=>by first | exact absurd ((KF (by assumption) (by assumption) (by assumption)).1 h) (by assumption) | exact Qat (by assumption) (by assumption) (by assumption) h | exact Qar (by assumption) (by assumption) (by assumption) h)
    exact Qg (Qe rfl (Qc rfl)) ((congrArg (fun z_=>lB z_) e23)) rfl
theorem V4 (code:ByteArray)(sig:Int)(b:ByteArray)(hs:0≤sig∧sig < (code.size:Int))(hb:code.size≤1000000∧b.size≤1000000):FC Tryz.prog 219 [(false,[dS code]),(false,[dI sig]),(false,[dS b])] [] 0 (Zo (lf (dS (UQ code sig b)))):=by
 refine QM Tryz.func219 rfl rfl Tryz.ntmps219 fun O_ hO w0_ N0_ X_ h0_ f0_=> ?_
 refine AC.fact (Qu (x:= .tmp 1) (Qa rfl)) fun hi1=> ?_
 iterate 3 refine w_ ?_
 refine dw [io 7 (lf (dS code)),io 8 (lI sig),io 9 (lf (dS (code.extract 0 (sig).toNat))),io 10 (lf (dS b)),io 11 (lf (dS ((code.extract 0 (sig).toNat)++b))),io 12 (lf (dS code)),io 13 (lI sig),io 14 (lI (sig+1)),io 15 (lf (dS (code.extract (sig+1).toNat code.size))),io 16 (lf (dS (((code.extract 0 (sig).toNat)++b)++(code.extract (sig+1).toNat code.size)))),io 6 (lf (dS (((code.extract 0 (sig).toNat)++b)++(code.extract (sig+1).toNat code.size))))] [0,0,3,0,15,0,0,64,224,511,1023] mixed rfl (by kernel_rfl) ⟨dxm rfl rfl,dxm rfl rfl,fun _ h_=>ac (show Does _ _ _ _ (St.put _ 9 (lf (dS (code.extract 0 (sig).toNat)))) from Qa2 (l:=none) (h:=(some sig)) (h_.v rfl) (by exact trivial) (by exact (h_.v rfl)) Zb rfl (by first | omega | (simp only[Option.getD_none,Option.getD_some]; omega)) (by first | omega | (simp only[Option.getD_none,Option.getD_some]; omega)) (by first | omega | (simp only[Option.getD_none,Option.getD_some]; omega))) rfl,dxm rfl rfl,fun _ h_=>ac (XY (h_.v rfl) (h_.v rfl) rfl (by first | omega | (simp only[ByteArray.size_append,ByteArray.size_extract]; omega))) rfl,dxm rfl rfl,dxm rfl rfl,fun _ h_=>ac (Ur (h_.v rfl) (QB rfl) rfl (by omega)) rfl,fun _ h_=>ac (show Does _ _ _ _ (St.put _ 15 (lf (dS (code.extract (sig+1).toNat code.size)))) from Qa2 (l:=(some (sig+1))) (h:=none) (h_.v rfl) (by exact (h_.v rfl)) (by exact trivial) Zb rfl (by first | omega | (simp only[Option.getD_none,Option.getD_some]; omega)) (by first | omega | (simp only[Option.getD_none,Option.getD_some]; omega)) (by first | omega | (simp only[Option.getD_none,Option.getD_some]; omega))) rfl,fun _ h_=>ac (XY (h_.v rfl) (h_.v rfl) rfl (by first | omega | (simp only[ByteArray.size_append,ByteArray.size_extract]; omega))) rfl,dxt rfl rfl,⟨⟩⟩<|Qd ?_
 subst hO
 have e2:(((code.extract 0 (sig).toNat)++b)++(code.extract (sig+1).toNat code.size):ByteArray)=(UQ code sig b):=by
  rfl
 exact Qg (Qe rfl (Qc rfl)) ((congrArg (fun z_=>lf (dS z_)) e2)) rfl
end Go.Proofs.YtnakmhfjafecpaaGreat
