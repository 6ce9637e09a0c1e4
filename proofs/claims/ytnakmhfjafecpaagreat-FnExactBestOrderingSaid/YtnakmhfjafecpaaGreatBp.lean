/- Walks over abstract states: distances. -/
import Derived.Test.YtnakmhfjafecpaaGreatWy
import Derived.Test.YtnakmhfjafecpaaGreatAk
import Derived.Laws.Bits64b
import Derived.Test.YtnakmhfjafecpaaGreatWa
import Derived.DeepKeys3
import Derived.Shelf.Lays
import Derived.Shelf.Lays2
import Derived.Shelf.Slices.In.SortNone
import Derived.Shelf.Slices.In.CompactI
set_option linter.unusedSimpArgs false
set_option linter.unusedVariables false
set_option linter.unusedSectionVars false
namespace Go.Proofs.YtnakmhfjafecpaaGreat
open Go.RowKit
set_option maxRecDepth 100000
set_option maxHeartbeats 4000000
def Qqi (l:List (List Int))(e:Int×Int):List (List Int):=l.modify e.1.toNat (· ++[e.2])
def Qo5 (n:Nat)(es:List (Int×Int)):List (List Int):=es.foldl Qqi (List.replicate n [])
def bfT (o:Int):List Int→List Int×List Int→List Int×List Int
  | [],st=>st
  | t :: ts,st=>if (st.1[t.toNat]?).getD 0 < 0 then bfT o ts (st.1.set t.toNat ((st.1[o.toNat]?).getD 0+1),st.2++[t]) else bfT o ts st
def bfK (nx:List (List Int)):Nat→Nat→List Int×List Int→List Int
  | 0,_,st=>st.1
  | f+1,k,st=>match st.2[k]? with
    | none=>st.1
    | some o=>bfK nx f (k+1) (bfT o ((nx[o.toNat]?).getD []) st)
def Qqu (n:Nat)(es:List (Int×Int)):List Int:=bfK (Qo5 n es) (n+1) 0 ((List.replicate n (-1)).set 0 0,[0])
def QdB (l:List Int):Nat:=(l.filter (· < 0)).length
structure BI (n:Nat) (es:List (Int×Int)) (st:List Int×List Int):Prop where
  len:st.1.length=n
  cnt:QdB st.1+st.2.length=n
  q:∀x∈st.2,(0≤x∧x < n)∧Rch es x∧∃v,st.1[x.toNat]? =some v∧0≤v
  nn:∀(i:Nat) v,st.1[i]? =some v→0≤v→(i:Int)∈st.2
  rng:∀v∈st.1, -1≤v∧v≤(st.2.length:Int)
section
variable {n k i f:Nat}{es:List (Int×Int)}{e:Int×Int}{l ts ys q out:List Int}{o t c w:Int}{nx:List (List Int)}{st:List Int×List Int}
theorem Qgr {l:List Int}(h:l[i]? =some c)(hc:c < 0)(hw:0≤w):QdB (l.set i w)+1=QdB l:=by
  induction l generalizing i with
  | nil=>simp at h
  | cons x l ih=>
    cases i with
    | zero=>
      simp only[List.getElem?_cons_zero,Option.some.injEq] at h
      subst h
      simp[QdB,hc,show¬w < 0 by omega]
    | succ i=>
      have:=ih (i:=i) (by simpa using h)
      simp only[QdB,List.set_cons_succ,List.filter_cons] at this ⊢
      split <;> simp_all
theorem BI.step (h:BI n es (out,q))(hr:∀e∈es,InE n e)(ho:o∈q)(he:(o,t)∈es)(hc:out[t.toNat]? =some c)(hn:c < 0)(hw:out[o.toNat]? =some w):BI n es (out.set t.toNat (w+1),q++[t]):=by
  obtain ⟨h1,h2,h3,h4,h5⟩:=h
  have hw0:0≤w:=by
    obtain ⟨_,_,v,h6,h7⟩:=h3 o ho
    have h6:out[o.toNat]? =some v:=h6
    rw[hw] at h6; cases h6; exact h7
  have hw1:=h5 w (List.mem_of_getElem? hw)
  have htl:=(List.getElem?_eq_some_iff.1 hc).1
  obtain ⟨_,ht0,ht1⟩:=hr _ he
  have ht0:0≤t:=ht0
  have ht1:t < (n:Int):=ht1
  refine ⟨by simpa using h1, ?_, ?_, ?_, ?_⟩
  · have h6 := Qgr hc hn (show 0 ≤ w + 1 by omega)
    have h2:QdB out+q.length=n:=h2
    show QdB (out.set t.toNat (w+1))+(q++[t]).length=n
    rw[List.length_append,List.length_singleton]; omega
  · intro x hx
    show (0≤x∧x < n)∧Rch es x∧∃v,(out.set t.toNat (w+1))[x.toNat]? =some v∧0≤v
    rcases List.mem_append.1 hx with hx | hx
    · obtain ⟨h6, h7, v, h8, h9⟩ := h3 x hx
      refine ⟨h6,h7, ?_⟩
      by_cases e2:t.toNat=x.toNat
      · exact ⟨w+1,by rw[← e2,List.getElem?_set_self htl],by omega⟩
      · exact ⟨v,by rw[List.getElem?_set_ne e2]; exact h8,h9⟩
    · rw [List.mem_singleton] at hx
      subst hx
      exact ⟨⟨ht0,ht1⟩, .step (h3 o ho).2.1 he,w+1,List.getElem?_set_self htl,by omega⟩
  · intro i v hv h0
    have hv:(out.set t.toNat (w+1))[i]? =some v:=hv
    show (i:Int)∈q++[t]
    by_cases e2:t.toNat=i
    · exact List.mem_append.2 (.inr (by rw[List.mem_singleton]; omega))
    · rw [List.getElem?_set_ne e2] at hv
      exact List.mem_append.2 (.inl (h4 i v hv h0))
  · intro v hv
    show -1≤v∧v≤((q++[t]).length:Int)
    rw[List.length_append,List.length_singleton]
    have hw1':w≤(q.length:Int):=hw1.2
    rcases List.mem_or_eq_of_mem_set hv with h6 | h6
    · have h7 := h5 v h6
      have h8:v≤(q.length:Int):=h7.2
      omega
    · omega
theorem BI.at_ (h:BI n es (out,q))(hq:q[k]? =some o):(0≤o∧o < n)∧o∈q:=⟨(h.q o (List.mem_of_getElem? hq)).1,List.mem_of_getElem? hq⟩
theorem BI.start (hn:1≤n):BI n es ((List.replicate n (-1)).set 0 0,[0]):=by
  have h0:(List.replicate n (-1:Int))[0]? =some (-1):=by rw[List.getElem?_replicate,if_pos (by omega)]
  refine ⟨by simp, ?_, ?_, ?_, ?_⟩
  · have h1 := Qgr (w := 0) h0 (by decide) (by decide)
    have h2:QdB (List.replicate n (-1:Int))=n:=by simp[QdB]
    show QdB ((List.replicate n (-1)).set 0 0)+1=n
    omega
  · intro x hx
    rw[List.mem_singleton.1 hx]
    exact ⟨⟨by omega,by omega⟩, .zero,0,List.getElem?_set_self (by simp; omega),by decide⟩
  · intro i v hv h1
    have hv:((List.replicate n (-1:Int)).set 0 0)[i]? =some v:=hv
    by_cases e2:0=i
    · subst e2; simp
    · rw [List.getElem?_set_ne e2, List.getElem?_replicate] at hv
      split at hv
      · cases hv; omega
      · cases hv
  · intro v hv
    show -1≤v∧v≤1
    rcases List.mem_or_eq_of_mem_set hv with h | h
    · rw[List.eq_of_mem_replicate h]; omega
    · omega
end
end Go.Proofs.YtnakmhfjafecpaaGreat
namespace Go.Proofs.YtnakmhfjafecpaaGreat
open Go.RowKit
set_option maxRecDepth 100000
set_option maxHeartbeats 4000000
def QpV (a b:UInt8):Bool:=decide (a=b)||(decide (a=48)&&decide (b=43))||(decide (a=43)&&decide (b=49))||(decide (a=49)&&decide (b=45))||(decide (a=45)&&decide (b=48))||(decide (a=43)&&decide (b=45))||(decide (a=45)&&decide (b=43))
def Qn6 (s:ByteArray):Prop:=∀x∈s.toList,x=48∨x=43∨x=49∨x=45
instance (s:ByteArray):Decidable (Qn6 s):=inferInstanceAs (Decidable (∀x∈s.toList,x=48∨x=43∨x=49∨x=45))
def SignsOk (c:DSg)(s:ByteArray):Prop:=Qn6 s∧s.size=c.2.1.length∧SgOk c
instance (c:DSg) (s:ByteArray) [Decidable (SgOk c)]:Decidable (SignsOk c s):=inferInstanceAs (Decidable (_∧_))
def Qob (c:DSg)(s:ByteArray):Bool:=c.2.2.all fun a=>QpV (bAt s a.1) (bAt s a.2.2.2)
def Qpo (s:ByteArray)(a:DAr):Bool:=(decide (bAt s a.1=43)&&(decide (bAt s a.2.2.2=49)||decide (bAt s a.2.2.2=45)))||(decide (bAt s a.1=45)&&(decide (bAt s a.2.2.2=48)||decide (bAt s a.2.2.2=43)))
def okP (c:DSg)(s:ByteArray)[Decidable (SgOk c)]:Bool:=decide (SignsOk c s)&&Qob c s
def QoU (as_:List DAr)(q:Int):List DAr:=as_.filter fun a=>decide (a.1=q)
def Qp7:ByteArray:=⟨#[48,43,49,45,48]⟩
section
variable {a b x:UInt8}{k i:Nat}{s:ByteArray}{c:DSg}{l:List DAr}{e:DAr}{q:Int}
section
variable [Decidable (SignsOk c s)]
end
theorem SignsOk.at_ (h:SignsOk c s)(ha:e∈c.2.2):(0≤e.1∧e.1 < (s.size:Int))∧0≤e.2.2.2∧e.2.2.2 < (s.size:Int):=by
  have h1:=Qi7 (h.2.2.arcs e ha)
  rw[h.2.1]
  exact h1
end
end Go.Proofs.YtnakmhfjafecpaaGreat
namespace Go.Proofs.YtnakmhfjafecpaaGreat
open Go.RowKit
set_option maxRecDepth 100000
set_option maxHeartbeats 4000000
def DelI {α:Type _}(p:α→Bool)(l0 l:List α)(i j:Int):Prop:=(0≤i∧i < j∧j≤(l.length:Int))∧l.length=l0.length∧l.take i.toNat=(l0.take j.toNat).filter p∧l.drop j.toNat=l0.drop j.toNat
section
variable {α:Type _}{p f:α→Bool}{l0 l:List α}{i j:Int}{x:α}
theorem Js (f:α→Bool)(l:List α):(ZH f l= -1∧∀x∈l,f x=false)∨∃(k:Nat) (x:α),ZH f l=(k:Int)∧l[k]? =some x∧f x=true∧NoneTo f l k:=by
  unfold ZH
  cases h:l.findIdx? f with
  | none=>exact .inl ⟨rfl,fun x hx=>by simpa using List.findIdx?_eq_none_iff.1 h x hx⟩
  | some k=>
    obtain ⟨h1,h2,h3⟩:=List.findIdx?_eq_some_iff_getElem.1 h
    exact .inr ⟨k,l[k],rfl,List.getElem?_eq_getElem h1,h2,fun j hj y hy=>by
      obtain ⟨h4,h5⟩:=List.getElem?_eq_some_iff.1 hy
      have:=h3 j hj
      rw[h5] at this
      simpa using this⟩
theorem Qme (f:α→Bool)(l:List α): -1≤ZH f l∧ZH f l < (l.length:Int):=by
  rcases Js f l with ⟨h,_⟩ | ⟨k,x,h,h2,_⟩
  · omega
  · have := (List.getElem?_eq_some_iff.1 h2).1
    omega
theorem QfH (h:ZH f l= -1):l=l.filter fun x=> !f x:=by
  rcases Js f l with ⟨_,h2⟩ | ⟨k,_,h2,_⟩
  · exact (List.filter_eq_self.2 fun x hx=>by rw[h2 x hx]; rfl).symm
  · omega
theorem DelI.start (h:¬ZH f l= -1):DelI (fun x=> !f x) l l (ZH f l) (ZH f l+1):=by
  rcases Js f l with ⟨h2,_⟩ | ⟨k,x,h2,h3,h4,h5⟩
  · exact absurd h2 h
  · have hk := (List.getElem?_eq_some_iff.1 h3).1
    rw[h2]
    refine ⟨by omega,rfl, ?_,rfl⟩
    rw[show ((k:Int)+1).toNat=k+1 by omega,show ((k:Int)).toNat=k by omega,QW h3,List.filter_append]
    have:([x].filter fun x=> !f x)=[]:=by simp[h4]
    rw[this,List.append_nil]
    refine (List.filter_eq_self.2 fun y hy=> ?_).symm
    obtain ⟨n,hn⟩:=List.mem_iff_getElem?.1 hy
    have hn2:=(List.getElem?_eq_some_iff.1 hn).1
    rw[List.length_take] at hn2
    rw[List.getElem?_take_of_lt (by omega)] at hn
    rw[h5 n (by omega) y hn]; rfl
theorem DelI.at_ (h:DelI p l0 l i j)(hx:l[j.toNat]? =some x):l0[j.toNat]? =some x:=by
  obtain ⟨h1,h2,h3,h4⟩:=h
  have:=congrArg (fun l:List α=>l[0]?) h4
  simpa [hx] using this.symm
theorem DelI.lt (h:DelI p l0 l i j)(hx:l[j.toNat]? =some x):j < (l.length:Int):=by
  have:=(List.getElem?_eq_some_iff.1 hx).1
  obtain ⟨h1,_⟩:=h
  omega
theorem DelI.drop_ (h:DelI p l0 l i j)(hx:l[j.toNat]? =some x)(hp:p x=false):DelI p l0 l i (j+1):=by
  have h0:=h.at_ hx
  have hl:=h.lt hx
  obtain ⟨h1,h2,h3,h4⟩:=h
  refine ⟨by omega,h2, ?_, ?_⟩
  · rw[show (j+1).toNat=j.toNat+1 by omega,QW h0,List.filter_append,h3]; simp[hp]
  · have := congrArg (List.drop 1) h4
    rw[List.drop_drop,List.drop_drop] at this
    rw[show (j+1).toNat=j.toNat+1 by omega]
    exact this
theorem DelI.keep (h:DelI p l0 l i j)(hx:l[j.toNat]? =some x)(hp:p x=true):DelI p l0 (l.set i.toNat x) (i+1) (j+1):=by
  have h0:=h.at_ hx
  have hl:=h.lt hx
  obtain ⟨h1,h2,h3,h4⟩:=h
  refine ⟨by rw[List.length_set]; omega,by rw[List.length_set]; exact h2, ?_, ?_⟩
  · have hg : (l.set i.toNat x)[i.toNat]? = some x := List.getElem?_set_self (by omega)
    rw[show (j+1).toNat=j.toNat+1 by omega,show (i+1).toNat=i.toNat+1 by omega,QW hg,QW h0,List.filter_append,List.take_set_of_le (Nat.le_refl _),h3]
    simp[hp]
  · have := congrArg (List.drop 1) h4
    rw[List.drop_drop,List.drop_drop] at this
    rw[show (j+1).toNat=j.toNat+1 by omega,List.drop_set_of_lt (by omega)]
    exact this
theorem DelI.end_ {z:List α}(h:DelI p l0 l i j)(hj:¬j < (l.length:Int))(n:Nat)(hn:n=i.toNat):(l.take i.toNat++z).take n=l0.filter p:=by
  obtain ⟨h1,h2,h3,h4⟩:=h
  subst hn
  rw[List.take_left' (by rw[List.length_take]; omega),h3,List.take_of_length_le (by omega)]
end
end Go.Proofs.YtnakmhfjafecpaaGreat
namespace Go.Proofs.YtnakmhfjafecpaaGreat
open Go.RowKit
set_option maxRecDepth 100000
set_option maxHeartbeats 4000000
abbrev PSt:=Int×Bool
def ixP (ps:List PSt)(p:PSt):Int:=(ps.idxOf p:Nat)
def psP (ps:List PSt)(p:PSt):List PSt:=if p∈ps then ps else ps++[p]
def cdP (c:DSg)(ps:List PSt)(cs:List ByteArray)(p:PSt):List ByteArray:=if p∈ps then cs else cs++[Qh4 c p.1++⟨#[if p.2 then 49 else 48]⟩]
def QpL:Nat→List PSt→List (PSt×Int)
  | _,[]=>[]
  | n,p :: ps=>(p,(n:Int)) :: QpL (n+1) ps
def QqF (ps:List PSt):List (PSt×Int):=QpL 0 ps
section
variable {c:DSg}{ps:List PSt}{p:PSt}{cs:List ByteArray}{n:Nat}{code:ByteArray}
end
end Go.Proofs.YtnakmhfjafecpaaGreat
namespace Go.Proofs.YtnakmhfjafecpaaGreat
open Go.RowKit
set_option maxRecDepth 100000
set_option maxHeartbeats 4000000
abbrev Ins:=List PSt×List ByteArray×List DAr
def Qmq (s:ByteArray)(p:PSt):Bool:=(decide (bAt s p.1=43)&& !p.2)||(decide (bAt s p.1=45)&&p.2)
def Qo9 (s:ByteArray)(p:PSt)(a:DAr):Bool:=(decide (bAt s a.2.2.2=48)&&p.2)||(decide (bAt s a.2.2.2=49)&& !p.2)||(Qmq s p&&Qpo s a)
def Qpa (c:DSg)(st:Ins)(k:Int)(l:Zn)(p:PSt):Ins:=(psP st.1 p,cdP c st.1 st.2.1 p,st.2.2++[(k,l.1,l.2,ixP st.1 p)])
def Qpi (c:DSg)(s:ByteArray)(k:Int)(p:PSt)(st:Ins)(a:DAr):Ins:=if Qo9 s p a=true then st else Qpa c st k (a.2.1,a.2.2.1) (a.2.2.2,p.2)
def Qqk (c:DSg)(s:ByteArray)(st:Ins)(k:Int)(p:PSt):Ins:=if Qmq s p=true then Qpa c st k ((c.1.length:Int),decide (bAt s p.1=43)) (p.1, !p.2) else st
def Qqb (c:DSg)(s:ByteArray)(st:Ins)(k:Int):Ins:=match st.1[k.toNat]? with
  | none=>st
  | some p=>(QoU c.2.2 p.1).foldl (Qpi c s k p) (Qqk c s st k p)
section
variable {c:DSg}{s:ByteArray}{st:Ins}{k:Int}{p:PSt}{a:DAr}{i:Nat}{x:UInt8}{l:List DAr}
end
end Go.Proofs.YtnakmhfjafecpaaGreat
namespace Go.Proofs.YtnakmhfjafecpaaGreat
open Go.RowKit
set_option maxRecDepth 100000
set_option maxHeartbeats 4000000
def vB (b:Bool):Int:=if b then 1 else 0
def QoN (p:PSt):Int:=2*p.1+vB p.2
def Qqz (x:UInt8)(v:Int):Bool:=if x=48 then decide (v=0) else if x=49 then decide (v=1) else true
section
variable {c:DSg}{s:ByteArray}{ps:List PSt}{p:PSt}{cs:List ByteArray}{i:Nat}{k v z q:Int}{code:ByteArray}{a:DAr}
theorem QhR (b:Bool):vB b=0∨vB b=1:=by cases b <;> simp[vB]
theorem Qk5 (b:Bool):decide (vB b=1)=b:=by cases b <;> rfl
abbrev Qqx (k v:Int):Int→Bool:=fun z=>decide (z=2*k+v)
end
theorem Qdk (n:Int)(hn:0≤n∧n≤9):FC Tryz.prog 205 [(false,[dI n])] [] 0 (Zq (lf (dS (⟨#[UInt8.ofNat (48+n).toNat]⟩:ByteArray)))):=by
 have hn10:decide (n < 10)=true:=decide_eq_true (by omega)
 refine QN Tryz.func205 rfl rfl Tryz.ntmps205 fun O_ hO w0_ N0_ X_ h0_ f0_=> ?_
 refine AC.fact (QA (x:= .tmp 0) (Qa rfl)) fun hi1=> ?_
 iterate 8 refine w_ ?_
 cases hb2:(decide (n < 10))
 · exact absurd (hb2.symm.trans (show (decide (n < 10))=true from hn10)) (by decide)
 ·have hb2':=of_decide_eq_true hb2
  iterate 4 refine w_ ?_
  refine lc (Qj2 (Qa rfl) QgD Hm (by omega) (by omega) rfl)<|lc (Qg 0 (e:= .u8) QV QS Qf8 rfl ⟨_,_,rfl,(Qb rfl),rfl⟩ (List.all_eq_true.1 rfl) ⟨_,_,_,_,rfl,⟨rfl,rfl⟩,⟨rfl,rfl⟩,rfl⟩ (by decide) rfl rfl (Fresh.of rfl) (nlr rfl))<|lc (Y2 (ys:=[UInt8.ofNat (48+n).toNat]) (Ui (Qa rfl) rfl) QV Hm W9 rfl) ?_
  iterate 2 refine w_ ?_
  refine Qf ?_
  subst hO
  exact Ql (Qm rfl (Qd rfl)) rfl rfl
end Go.Proofs.YtnakmhfjafecpaaGreat
namespace Go.Proofs.YtnakmhfjafecpaaGreat
open Go.RowKit
set_option maxRecDepth 100000
set_option maxHeartbeats 4000000
def Qk4 (s:ByteArray):Bool:=decide (bAt s 0=49)||decide (bAt s 0=45)
def Qoz (c:DSg)(s:ByteArray):Ins:=(psP [] (0,Qk4 s),cdP c [] [] (0,Qk4 s),[])
def QoY (c:DSg)(s:ByteArray):Nat→Nat→Ins→Ins
  | 0,_,st=>st
  | f+1,k,st=>if k < st.1.length then QoY c s f (k+1) (Qqb c s st (k:Int)) else st
def Qao (c:DSg)(s:ByteArray):Ins:=QoY c s 601 0 (Qoz c s)
def QnN (c:DSg)(name:ByteArray)(st:Ins):DSg:=(c.1++[(name,3)],st.2.1,st.2.2)
structure InsI (c:DSg) (st:Ins):Prop where
  rng:∀p∈st.1,0≤p.1∧p.1 < (c.2.1.length:Int)
  nd:st.1.Nodup
  len:st.2.1.length=st.1.length
section
variable {c:DSg}{s name:ByteArray}{st:Ins}{ps:List PSt}{cs:List ByteArray}{as_:List DAr}{p:PSt}{k:Int}{l:Zn}{i j n:Nat}{b:Bool}{z:Int}
theorem Qgn:∀(n:Nat) (l:List Nat),l.Nodup→(∀x∈l,x < n)→l.length≤n
  | 0,[],_,_=>Nat.le_refl _
  | 0,x :: l,_,h=>absurd (h x (List.mem_cons_self ..)) (Nat.not_lt_zero x)
  | n+1,l,hd,h=>by
    have h1:=Qgn n (l.erase n) (hd.erase n) fun x hx=>by
      have h2:=h x (List.mem_of_mem_erase hx)
      have h3:x≠n:=fun e=>by subst e; exact (List.Nodup.not_mem_erase hd) hx
      omega
    have h2:=List.length_erase (a:=n) (l:=l)
    split at h2 <;> omega
theorem InsI.few (h:InsI c st)(hn:c.2.1.length≤300):st.1.length≤600:=by
  have h1:=Qgn 600 (st.1.map fun p=>(QoN p).toNat) ?_ ?_
  · simpa using h1
  · rw [List.Nodup, List.pairwise_map]
    refine List.Pairwise.imp_of_mem ?_ h.nd
    intro a b ha hb hne e
    apply hne
    have h2:=h.rng a ha
    have h3:=h.rng b hb
    have h4:=QhR a.2
    have h5:=QhR b.2
    unfold QoN at e
    have h6:a.1=b.1∧vB a.2=vB b.2:=by omega
    refine Prod.ext h6.1 ?_
    rw[← Qk5 a.2,h6.2,Qk5]
  · intro x hx
    obtain ⟨p,hp,rfl⟩:=List.mem_map.1 hx
    have h2:=h.rng p hp
    have h4:=QhR p.2
    unfold QoN
    omega
end
abbrev QmZ (name:ByteArray):Zc→Bool:=fun x=>decide (x.1=name)
section
variable [∀c,Decidable (SgOk c)][∀s,Decidable (JO s)]{c:DSg}{s name:ByteArray}{st:Ins}
def Qpz (c:DSg)(name s:ByteArray):Bool:=okP c s&&decide (JO name)&& !(c.1.any (QmZ name))&& !decide (c.1.length=8)
def Qo1:DSg×List Int:=(Ju,[])
def Qp5 (c:DSg)(name s:ByteArray):(DSg×List Int)×Bool:=
  if Qpz c name s=true∧SgOk (QnN c name (Qao c s)) then ((QnN c name (Qao c s),(Qao c s).1.map fun p=>p.1),true) else (Qo1,false)
def Qqt (c:DSg)(name s:ByteArray):(DSg×List Int)×Bool:=
  if Qpz c name s=true then ((QnN c name (Qao c s),(Qao c s).1.map fun p=>p.1),decide (SgOk (QnN c name (Qao c s)))) else (Qo1,false)
end
end Go.Proofs.YtnakmhfjafecpaaGreat
namespace Go.Proofs.YtnakmhfjafecpaaGreat
open Go.RowKit
theorem Ht:∀{t:Ty} {w:World} {cs:List Value} {x y:t.Den},Rep t w cs x→Rep t w cs y→x=y
  | .int,_,_,x,y,h,k=>by have h1:=h.1; have h2:=k.1; rw[h1] at h2; simpa using h2
  | .bool,_,_,x,y,h,k=>by have h1:_=_:=h; have h2:_=_:=k; rw[h1] at h2; simpa using h2
  | .str,_,_,x,y,h,k=>by have h1:=h.1; have h2:=k.1; rw[h1] at h2; simpa using h2
  | .u8,_,_,x,y,h,k=>by
    have h1:_=_:=h; have h2:_=_:=k; rw[h1] at h2
    simp only[List.cons.injEq,Value.int.injEq,and_true,true_and] at h2
    exact UInt8.toNat_inj.1 (by omega)
  | .vl,_,_,x,y,h,k=>by
    have h1:_=_:=h; have h2:_=_:=k; rw[h1] at h2
    exact Qjc (by simpa using h2)
  | .sl E e,w,cs,xs,ys,⟨A,c,h1,h2,h3,h4⟩,⟨A',c',k1,k2,k3,k4⟩=>by
    rw[h1] at k1
    simp only[List.cons.injEq,Value.slice.injEq,and_true] at k1
    obtain ⟨rfl,hl,rfl⟩:=k1
    apply List.ext_getElem?
    intro i
    rcases Nat.lt_or_ge i xs.length with hi | hi
    · obtain ⟨b, o, e1, g1⟩ := h4 (by omega)
      obtain ⟨b',o',e2,g2⟩:=k4 (by omega)
      rw[e1] at e2
      cases e2
      obtain ⟨ds,r1,r2⟩:=g1 i xs[i] (List.getElem?_eq_getElem hi)
      obtain ⟨ds',s1,s2⟩:=g2 i ys[i] (List.getElem?_eq_getElem (by omega))
      have hd:ds=ds':=by
        apply List.ext_getElem?
        intro j
        have l1:=r1.len
        have l2:=s1.len
        rcases Nat.lt_or_ge j e.wd with hj | hj
        · have a1 := r2 j ds[j] (List.getElem?_eq_getElem (by omega))
          have a2:=s2 j ds'[j] (List.getElem?_eq_getElem (by omega))
          rw[a1] at a2
          rw[List.getElem?_eq_getElem (by omega),List.getElem?_eq_getElem (by omega)]
          exact a2
        · rw[List.getElem?_eq_none (by omega),List.getElem?_eq_none (by omega)]
      subst hd
      rw[List.getElem?_eq_getElem hi,List.getElem?_eq_getElem (by omega),Ht r1 s1]
    · rw[List.getElem?_eq_none hi,List.getElem?_eq_none (by omega)]
  | .pr a b,w,cs,x,y,⟨l,r,h1,h2,h3⟩,⟨l',r',k1,k2,k3⟩=>by
    rw[h1] at k1
    obtain ⟨rfl,rfl⟩:=List.append_inj k1 (by rw[h2.len,k2.len])
    exact Prod.ext (Ht h2 k2) (Ht h3 k3)
theorem Km {E:TypeId}{e:Ty}{w:World}{fp:List Nat}{cs:List Value}{x:List e.Den}(h:Own (.sl E e) w fp cs x):∃v:Hdr,cs=[hdV v]:=by
  rcases h with ⟨_,h,_⟩ | ⟨g,cap,cur,fps,_,h,_⟩
  · exact ⟨none,h⟩
  · exact ⟨some (g,0,x.length,cap),h⟩
open Classical in
noncomputable def rdF (E:TypeId) (e:Ty) (w:World) (v:Hdr):List e.Den:=if h:∃x,Rep (.sl E e) w [hdV v] x then h.choose else []
theorem Qlp {E:TypeId}{e:Ty}{w:World}{v:Hdr}{x:List e.Den}(h:Rep (.sl E e) w [hdV v] x):rdF E e w v=x:=by
  have hx:∃x,Rep (.sl E e) w [hdV v] x:=⟨x,h⟩
  unfold rdF
  rw[dif_pos hx]
  exact Ht hx.choose_spec h
theorem Qay {E:TypeId}{e:Ty}{w:World}:∀{xs:List (List e.Den)} {fp:List Nat} {cs:List Value},OwnL (Own (.sl E e) w) fp cs xs→∃vs:List Hdr,cs=vs.map hdV∧vs.map (rdF E e w)=xs
  | [],_,_,h=>⟨[],h.2,rfl⟩
  | x :: xs,_,_,⟨f1,f2,c1,c2,h1,h2,h3,h4⟩=>by
    obtain ⟨v,rfl⟩:=Km h3
    obtain ⟨vs,rfl,k2⟩:=Qay h4
    exact ⟨v :: vs,by rw[h2]; rfl,by rw[List.map_cons,k2,Qlp h3.rep]⟩
theorem UF {E:TypeId}{e:Ty}{w:World}{f:Hdr→List e.Den}:∀{vs:List Hdr} {fp:List Nat},OwnL (Own (.sl E e) w) fp (vs.map hdV) (vs.map f)→∀v∈vs,∃fv,Own (.sl E e) w fv [hdV v] (f v)∧∀g∈fv,g∈fp
  | [],_,_,v,hv=>by cases hv
  | u :: vs,fp,h,v,hv=>by
    obtain ⟨f1,f2,c1,c2,rfl,h2,h3,h4⟩:=h
    obtain ⟨z,rfl⟩:=Km h3
    simp only[List.map_cons,List.cons_append,List.nil_append,List.cons.injEq] at h2
    obtain ⟨h5,rfl⟩:=h2
    rcases List.mem_cons.1 hv with rfl | hv
    · exact ⟨f1,by rw[h5]; exact h3,fun g hg=>List.mem_append_left _ hg⟩
    · obtain ⟨fv, k1, k2⟩ := UF h4 v hv
      exact ⟨fv,k1,fun g hg=>List.mem_append_right _ (k2 g hg)⟩
theorem Qfs {w:World}:∀(vs:List Hdr),OwnL (Own .vl w) [] (vs.map hdV) vs
  | []=>⟨rfl,rfl⟩
  | v :: vs=>⟨[],[],[hdV v],vs.map hdV,rfl,rfl,⟨rfl,rfl⟩,Qfs vs⟩
theorem QbV {E E':TypeId}{e:Ty}{w:World}{fp:List Nat}{v:Value}{xs:List (List e.Den)}(h:Own (.sl E (.sl E' e)) w fp [v] xs):
    ∃fg fi vs f,fp=fg++fi∧Own (.sl E .vl) w fg [v] vs∧OwnL (Own (.sl E' e) w) fi (vs.map hdV) (vs.map f)∧vs.map f=xs:=by
  rcases h with ⟨rfl,h,rfl⟩ | ⟨g,cap,cur,fps,rfl,h1,h2,h3,h4,h5,h6⟩
  · exact ⟨[],[],[],fun _=>[],rfl, .inl ⟨rfl,h,rfl⟩,⟨rfl,rfl⟩,rfl⟩
  · obtain ⟨vs, k1, k2⟩ := Qay h6
    have hl:vs.length=xs.length:=by rw[← k2,List.length_map]
    rw[k1] at h6
    refine ⟨[g],fps,vs,rdF E' e w,rfl, .inr ⟨g,cap,cur,[],rfl,by rw[hl]; exact h1,h2,by omega,h4,h5, ?_⟩,by rw[k2]; exact h6,k2⟩
    have:(cur.toList.take (vs.length*Ty.wd .vl))=vs.map hdV:=by rw[hl]; exact k1
    rw[this]
    exact Qfs vs
section
variable {A:Amb}{P:Program}{s:St}{Q:Exit→St→Prop}{c:Code}
theorem R.pool {q:Nat}(p:Nat){E E':TypeId}{e:Ty}{xs:List (List e.Den)}{a:Act}{w:World}(he:s.tab.ent q=some (.arr E (.sl E' e) xs))(hfr:Fresh s p)(hk:A.k0≤p)(r:R A s a w):
    ∃(vs:List Hdr) (f:Hdr→List e.Den),vs.map f=xs∧R A ⟨s.tm,(p,some (.pl false (.sl E' e) vs f)) :: (q,some (.arr E .vl vs)) :: s.tab⟩ a w:=by
  obtain ⟨gh,r⟩:=r
  have hq:s.tab.al q:=⟨_,he⟩
  have hne:q≠p:=fun h=>hfr.al (h▸hq)
  have hO:Own (.sl E (.sl E' e)) w (gh.f q) [gh.h q] xs:=r.cx.en q _ he
  obtain ⟨fg,fi,vs,f,h1,h2,h3,h4⟩:=QbV hO
  have hnd:=r.cx.nd q hq
  rw[h1] at hnd
  obtain ⟨n1,n2,n3⟩:=List.nodup_append.1 hnd
  have mg:∀g∈fg,g∈gh.f q:=fun g hg=>by rw[h1]; exact List.mem_append_left _ hg
  have mi:∀g∈fi,g∈gh.f q:=fun g hg=>by rw[h1]; exact List.mem_append_right _ hg
  have hal:∀t,Tab.al ((p,some (.pl false (.sl E' e) vs f)) :: (q,some (.arr E .vl vs)) :: s.tab) t→t=p∨(t≠p∧s.tab.al t):=fun t ⟨x,hx⟩=>by
    by_cases e1:t=p
    · exact .inl e1
    · refine .inr ⟨e1, ?_⟩
      rw[Qi,if_neg e1,Qi] at hx
      by_cases e2:t=q
      · rw[e2]; exact hq
      · rw[if_neg e2] at hx; exact ⟨_,hx⟩
  let gh':Gh:=⟨fun t=>if t=p then .slice none 0 0 else gh.h t,fun t=>if t=p then [] else if t=q then fg else gh.f t,fun g=>gh.N g∨g∈fi⟩
  have fq:gh'.f q=fg:=by show (if q=p then [] else if q=q then fg else gh.f q)=fg; rw[if_neg hne,if_pos rfl]
  have fp:gh'.f p=[]:=if_pos rfl
  have fo:∀t,t≠p→t≠q→gh'.f t=gh.f t:=fun t e1 e2=>by show (if t=p then [] else if t=q then fg else gh.f t)=_; rw[if_neg e1,if_neg e2]
  have hh:∀t,t≠p→gh'.h t=gh.h t:=fun t e1=>if_neg e1
  have sub:∀t,t≠p→∀g∈gh'.f t,g∈gh.f t:=fun t e1 g hg=>by
    by_cases e2:t=q
    · rw[e2,fq] at hg; rw[e2]; exact mg g hg
    · rwa [fo t e1 e2] at hg
  have hN:∀g,gh.N g→gh'.N g∧w.heap[g]? =w.heap[g]? :=fun g h=>⟨.inl h,rfl⟩
  refine ⟨vs,f,h4,gh',r.step ⟨fun t x hx=> ?_,fun t t' ht ht' hn g hg hg'=> ?_,fun t ht=> ?_,fun t ht g hg hgN=> ?_,fun g hgN=> ?_⟩ (fun t ht=> ?_) hN (Zl w) (fun _ _ _=>rfl) (fun g hgN=> ?_) fun t ht g hg=> ?_⟩
  · rw [Qi] at hx
    by_cases e1:t=p
    · rw [if_pos e1] at hx
      cases hx
      rw[e1]
      refine ⟨if_pos rfl,fp,fun v hv=> ?_⟩
      obtain ⟨fv,k1,k2⟩:=UF h3 v hv
      exact k1.rd fun g hg=> .inr (k2 g hg)
    · rw [if_neg e1, Qi] at hx
      by_cases e2:t=q
      · rw [if_pos e2] at hx
        cases hx
        show Own (.sl E .vl) w (gh'.f t) [gh'.h t] vs
        rw[e2,fq,hh q hne]
        exact h2
      · rw [if_neg e2] at hx
        refine (r.cx.en t x hx).mono (fun r' hr' ha=> ?_) hN (hh t e1) (fo t e1 e2) fun _ _=>rfl
        have e3:r'≠p:=fun h=>hfr.en t x hx (h▸hr')
        rcases hal r' ha with h | ⟨_,h⟩
        · exact absurd h e3
        · exact ⟨h,hh r' e3⟩
  · rcases hal t ht with e1 | ⟨e1, a1⟩
    · rw[e1,fp] at hg; cases hg
    · rcases hal t' ht' with e2 | ⟨e2, a2⟩
      · rw[e2,fp] at hg'; cases hg'
      · exact r.cx.dj t t' a1 a2 hn g (sub t e1 g hg) (sub t' e2 g hg')
  · rcases hal t ht with e1 | ⟨e1, a1⟩
    · rw[e1,fp]; exact List.nodup_nil
    · by_cases e2 : t = q
      · rw[e2,fq]; exact n1
      · rw[fo t e1 e2]; exact r.cx.nd t a1
  · rcases hal t ht with e1 | ⟨e1, a1⟩
    · rw[e1,fp] at hg; cases hg
    · rcases hgN with hgN | hgN
      · exact r.cx.no t a1 g (sub t e1 g hg) hgN
      · by_cases e2 : t = q
        · rw[e2,fq] at hg; exact n3 g hg g hgN rfl
        · exact r.cx.dj t q a1 hq e2 g (sub t e1 g hg) (mi g hgN)
  · rcases hgN with hgN | hgN
    · exact r.cx.nl g hgN
    · exact r.cx.lt hq g (mi g hgN)
  · rcases hal t ht with e1 | ⟨e1, a1⟩
    · rw[e1]; exact .inr ⟨hfr,hk⟩
    · exact .inl ⟨a1,hh t e1,fun _=>rfl⟩
  · rcases hgN with hgN | hgN
    · exact .inl hgN
    · exact .inr (.inr ⟨q,hq,mi g hgN,fun hl=>r.xn g hl (r.ox q hq g (mi g hgN) hl)⟩)
  · rcases hal t ht with e1 | ⟨e1, a1⟩
    · rw[e1,fp] at hg; cases hg
    · exact .inr ⟨t,a1,sub t e1 g hg⟩
theorem AC.pool {q:Nat}(p:Nat){E E':TypeId}{e:Ty}{xs:List (List e.Den)}(he:s.tab.ent q=some (.arr E (.sl E' e) xs))(hfr:Fresh s p)(hk:A.k0≤p)
    (k:∀(vs:List Hdr) (f:Hdr→List e.Den),vs.map f=xs→AC A P c Q ⟨s.tm,(p,some (.pl false (.sl E' e) vs f)) :: (q,some (.arr E .vl vs)) :: s.tab⟩):AC A P c Q s:=fun a w r=>by
  obtain ⟨vs,f,h,r'⟩:=R.pool p he hfr hk r
  exact k vs f h a w r'
theorem AL.pool {ops:Array Oper}{l:List Oper}{q:Nat}(p:Nat){E E':TypeId}{e:Ty}{xs:List (List e.Den)}(he:s.tab.ent q=some (.arr E (.sl E' e) xs))(hfr:Fresh s p)(hk:A.k0≤p)
    (k:∀(vs:List Hdr) (f:Hdr→List e.Den),vs.map f=xs→AL A P ops l Q ⟨s.tm,(p,some (.pl false (.sl E' e) vs f)) :: (q,some (.arr E .vl vs)) :: s.tab⟩):AL A P ops l Q s:=fun a w r=>by
  obtain ⟨vs,f,h,r'⟩:=R.pool p he hfr hk r
  exact k vs f h a w r'
theorem QkY {x:Operand}{p:Nat}{e:Ty}{vs:List Hdr}{f:Hdr→e.Den}{v:Hdr}(hx:Evl A s x (.dat .vl v))(hp:s.tab.ent p=some (.pl false e vs f))(hv:v∈vs):Evl A s x (.dat e (f v)):=fun gh a w r=>by
  obtain ⟨_,_,h3⟩:=r.cx.en p _ hp
  have h1:Rd gh.N .vl w [a.eval x] v:=hx gh a w r
  have h2:[a.eval x]=[hdV v]:=h1.rep
  show Rd gh.N e w [a.eval x] (f v)
  rw[h2]
  exact h3 v hv
theorem QmB {i q p:Nat}{E E':TypeId}{e:Ty}{zs vs:List Hdr}{f:Hdr→List e.Den}(hi:lk s.tm i=some (lf (.ref q)))(he:s.tab.ent q=some (.arr E .vl zs))(hp:s.tab.ent p=some (.pl false (.sl E' e) vs f))(hz:∀z∈zs,z∈vs):
    Wk A s ⟨(i,lf (.dat (.sl E (.sl E' e)) (zs.map f))) :: s.tm,(q,none) :: s.tab⟩:=fun a w r=>by
  obtain ⟨gh,r⟩:=r
  obtain ⟨v,h1,l,h2,h3⟩:=r.tm i _ hi
  simp only[List.cons.injEq,and_true] at h2
  subst h2
  have hv:v=gh.h q:=h3 ⟨_,he⟩
  have hO:Own (.sl E .vl) w (gh.f q) [gh.h q] zs:=r.cx.en q _ he
  obtain ⟨_,_,k3⟩:=r.cx.en p _ hp
  refine ⟨_,(r.freeze he).know h1 (pv:=lf (.dat (.sl E (.sl E' e)) (zs.map f))) ⟨_,rfl, ?_⟩⟩
  rw[hv]
  show Rd (fun g=>gh.N g∨g∈gh.f q) (.sl E (.sl E' e)) w [gh.h q] (zs.map f)
  obtain ⟨wM,m1,m2⟩:=Uv (fun g=>gh.N g∨g∈gh.f q) w
  refine ⟨wM,m1, ?_⟩
  rcases hO with ⟨_,g2,g3⟩ | ⟨g,cap,cur,fps,g1,g2,g3,g4,g5,g6,g7⟩
  · subst g3
    exact ⟨none,0,g2,Nat.le_refl _,Nat.zero_le _,fun h=>absurd h (by simp)⟩
  · refine ⟨_, cap, by rw [List.length_map]; exact g2, by rw [List.length_map]; exact g4, g5, fun _ => ⟨g, 0, rfl, fun j y hy => ?_⟩⟩
    rw[List.getElem?_map] at hy
    obtain ⟨z,hz1,rfl⟩:=Option.map_eq_some_iff.1 hy
    obtain ⟨wN,w1,w2⟩:=k3 z (hz z (List.mem_of_getElem? hz1))
    refine ⟨[hdV z],w2.kp (w1.kp fun g' hg'=>m2 g' (.inl hg')),fun b u hu=> ?_⟩
    obtain ⟨fv,ds,o1,o2,o3⟩:=g7.get j z hz1
    have o4:ds=[hdV z]:=o1.2
    subst o4
    have o5:=o3 b u hu
    rw[List.getElem?_take] at o5
    split at o5
    · rw [World.cell?_of_block (m2 g (.inr (by rw [g1]; simp)))]
      simp only[World.cell?,g3]
      simpa using o5
    · cases o5
end
end Go.Proofs.YtnakmhfjafecpaaGreat
namespace Go.Proofs.YtnakmhfjafecpaaGreat
open Go.RowKit
section
variable {α:Type}[DecidableEq α][Inhabited α]
omit [Inhabited α] in
omit [Inhabited α] in
end
def Qqc (P:Program)(f:FuncId):Prop:=∀(blk cap:Nat) (zs:List Int) (w:World),Sort.Holds (Value.int .i64) w blk 0 zs.toArray→zs.length≤9223372036854775807→zs.length≤cap→
  Calls P f #[.slice (some ⟨blk,0,none⟩) zs.length cap] w fun e w'=>e= .returned (.slice (some ⟨blk,0,none⟩) (Ug zs).length cap)∧∃q,w'=Sort.putRow (Value.int .i64) (Sort.ahead w q) blk 0 (Ug zs++List.replicate (zs.length - (Ug zs).length) 0).toArray
def QpJ (P:Program)(f:FuncId):Prop:=∀w:World,Calls P f #[.slice none 0 0] w fun e w'=>e= .returned (.slice none 0 0)∧w'=w
def QoR:Go.Shelf.Ren:=⟨fun | 189=>265 | 125=>172 | 257=>292 | 128=>239 | 129=>240 | 294=>310 | 295=>311 | 296=>312 | 297=>313 | 298=>314 | 299=>315 | 216=>316 | 300=>317 | 301=>318 | 328=>327 | 329=>279 | 330=>280 | 331=>328 | 332=>329 | 215=>241 | 343=>330 | n=>n,fun | 28=>106 | 3=>3 | 46=>214 | 0=>0 | 51=>272 | 53=>274 | 4=>4 | 183=>266 | 182=>265 | 131=>175 | 5=>5 | 9=>9 | 218=>305 | 222=>309 | 228=>324 | 229=>147 | n=>n,fun | n=>n⟩
def QnT:Go.Shelf.Ren:=⟨fun | 20=>266 | n=>n,fun | 22=>106 | 3=>3 | 4=>4 | 0=>0 | n=>n,fun | n=>n⟩
end Go.Proofs.YtnakmhfjafecpaaGreat
namespace Go.Proofs.YtnakmhfjafecpaaGreat
open Go.RowKit
theorem Qce {w:World}:∀{zs:List Hdr} {fp:List Nat} {cs:List Value},OwnL (Own .vl w) fp cs zs→fp=[]∧cs=zs.map hdV
  | [],_,_,h=>⟨h.1,h.2⟩
  | z :: zs,_,_,⟨f1,f2,c1,c2,h1,h2,h3,h4⟩=>by
    obtain ⟨k1,k2⟩:=Qce h4
    have h5:f1=[]∧c1=[hdV z]:=h3
    exact ⟨by rw[h1,h5.1,k1]; rfl,by rw[h2,h5.2,k2]; rfl⟩
section
variable {E:TypeId}{e:Ty}{w:World}{f:Hdr→List e.Den}
theorem Qcv:∀{l vs:List Hdr},l.Sublist vs→∀{fp:List Nat},OwnL (Own (.sl E e) w) fp (vs.map hdV) (vs.map f)→∃fp',fp'.Sublist fp∧OwnL (Own (.sl E e) w) fp' (l.map hdV) (l.map f)
  | _,_, .slnil,fp,h=>⟨[],List.nil_sublist _,⟨rfl,rfl⟩⟩
  | _,_, .cons a s,fp,h=>by
    obtain ⟨f1,f2,c1,c2,rfl,h2,h3,h4⟩:=h
    obtain ⟨z,rfl⟩:=Km h3
    simp only[List.map_cons,List.cons_append,List.nil_append,List.cons.injEq] at h2
    obtain ⟨_,rfl⟩:=h2
    obtain ⟨fp',k1,k2⟩:=Qcv s h4
    exact ⟨fp',k1.trans (List.sublist_append_right ..),k2⟩
  | _,_, .cons_cons a s,fp,h=>by
    obtain ⟨f1,f2,c1,c2,rfl,h2,h3,h4⟩:=h
    obtain ⟨z,rfl⟩:=Km h3
    simp only[List.map_cons,List.cons_append,List.nil_append,List.cons.injEq] at h2
    obtain ⟨h5,rfl⟩:=h2
    obtain ⟨fp',k1,k2⟩:=Qcv s h4
    exact ⟨f1++fp',(List.Sublist.refl _).append k1,⟨f1,fp',[hdV z],_,rfl,by rw[List.map_cons,h5]; rfl,h3,k2⟩⟩
theorem Qey:∀{l vs:List Hdr},vs.Perm l→∀{fp:List Nat},OwnL (Own (.sl E e) w) fp (vs.map hdV) (vs.map f)→∃fp',fp.Perm fp'∧OwnL (Own (.sl E e) w) fp' (l.map hdV) (l.map f):=by
  intro l vs hp
  induction hp with
  | nil=>intro fp h; exact ⟨fp,List.Perm.refl _,h⟩
  | cons a _ ih=>
    intro fp h
    obtain ⟨f1,f2,c1,c2,rfl,h2,h3,h4⟩:=h
    obtain ⟨z,rfl⟩:=Km h3
    simp only[List.map_cons,List.cons_append,List.nil_append,List.cons.injEq] at h2
    obtain ⟨h5,rfl⟩:=h2
    obtain ⟨fp',k1,k2⟩:=ih h4
    exact ⟨f1++fp',k1.append_left f1,⟨f1,fp',[hdV z],_,rfl,by rw[List.map_cons,h5]; rfl,h3,k2⟩⟩
  | swap a b l=>
    intro fp h
    obtain ⟨f1,f2,c1,c2,rfl,h2,h3,h4⟩:=h
    obtain ⟨z,rfl⟩:=Km h3
    simp only[List.map_cons,List.cons_append,List.nil_append,List.cons.injEq] at h2
    obtain ⟨h5,rfl⟩:=h2
    obtain ⟨g1,g2,d1,d2,rfl,j2,j3,j4⟩:=h4
    obtain ⟨y,rfl⟩:=Km j3
    simp only[List.cons_append,List.nil_append,List.cons.injEq] at j2
    obtain ⟨j5,rfl⟩:=j2
    refine ⟨g1++(f1++g2), ?_,⟨g1,f1++g2,[hdV y],hdV z :: l.map hdV,rfl,by rw[List.map_cons,List.map_cons,h5,j5]; rfl,j3,⟨f1,g2,[hdV z],_,rfl,rfl,h3,j4⟩⟩⟩
    rw[← List.append_assoc,← List.append_assoc]
    exact (List.perm_append_comm).append_right g2
  | trans _ _ ih1 ih2=>
    intro fp h
    obtain ⟨fp1,k1,k2⟩:=ih1 h
    obtain ⟨fp2,k3,k4⟩:=ih2 k2
    exact ⟨fp2,k1.trans k3,k4⟩
theorem QfT {f1 f2:Hdr→List e.Den}{vs2:List Hdr}{g:Hdr→List e.Den}:∀{vs1:List Hdr} {p1 p2:List Nat},OwnL (Own (.sl E e) w) p1 (vs1.map hdV) (vs1.map f1)→OwnL (Own (.sl E e) w) p2 (vs2.map hdV) (vs2.map f2)→
    (∀v∈vs1,g v=f1 v)→(∀v∈vs2,g v=f2 v)→OwnL (Own (.sl E e) w) (p1++p2) ((vs1++vs2).map hdV) ((vs1++vs2).map g)
  | [],p1,p2,h1,h2,_,k2=>by
    rw[show p1=[] from h1.1,List.nil_append,List.nil_append,List.map_congr_left k2]; exact h2
  | v :: vs1,p1,p2,h1,h2,k1,k2=>by
    obtain ⟨a1,a2,c1,c2,rfl,h3,h4,h5⟩:=h1
    obtain ⟨z,rfl⟩:=Km h4
    simp only[List.map_cons,List.cons_append,List.nil_append,List.cons.injEq] at h3
    obtain ⟨h6,rfl⟩:=h3
    rw[List.append_assoc]
    exact ⟨a1,a2++p2,[hdV z],_,rfl,by rw[List.cons_append,List.map_cons,h6]; rfl,by rw[k1 v (List.mem_cons_self ..)]; exact h4,QfT h5 h2 (fun u hu=>k1 u (List.mem_cons_of_mem _ hu)) k2⟩
end
section
variable {A:Amb}{P:Program}{s:St}{Q:Exit→St→Prop}{c:Code}
theorem R.poolO {q:Nat}(p:Nat){E E':TypeId}{e:Ty}{xs:List (List e.Den)}{a:Act}{w:World}(he:s.tab.ent q=some (.arr E (.sl E' e) xs))(hfr:Fresh s p)(hk:A.k0≤p)(r:R A s a w):
    ∃(vs:List Hdr) (f:Hdr→List e.Den),vs.map f=xs∧R A ⟨s.tm,(p,some (.pl true (.sl E' e) vs f)) :: (q,some (.arr E .vl vs)) :: s.tab⟩ a w:=by
  obtain ⟨gh,r⟩:=r
  have hq:s.tab.al q:=⟨_,he⟩
  have hne:q≠p:=fun h=>hfr.al (h▸hq)
  have hO:Own (.sl E (.sl E' e)) w (gh.f q) [gh.h q] xs:=r.cx.en q _ he
  obtain ⟨fg,fi,vs,f,h1,h2,h3,h4⟩:=QbV hO
  have hnd:=r.cx.nd q hq
  rw[h1] at hnd
  obtain ⟨n1,n2,n3⟩:=List.nodup_append.1 hnd
  have mg:∀g∈fg,g∈gh.f q:=fun g hg=>by rw[h1]; exact List.mem_append_left _ hg
  have mi:∀g∈fi,g∈gh.f q:=fun g hg=>by rw[h1]; exact List.mem_append_right _ hg
  have hal:∀t,Tab.al ((p,some (.pl true (.sl E' e) vs f)) :: (q,some (.arr E .vl vs)) :: s.tab) t→t=p∨(t≠p∧s.tab.al t):=fun t ⟨x,hx⟩=>by
    by_cases e1:t=p
    · exact .inl e1
    · refine .inr ⟨e1, ?_⟩
      rw[Qi,if_neg e1,Qi] at hx
      by_cases e2:t=q
      · rw[e2]; exact hq
      · rw[if_neg e2] at hx; exact ⟨_,hx⟩
  let gh':Gh:=⟨fun t=>if t=p then .slice none 0 0 else gh.h t,fun t=>if t=p then fi else if t=q then fg else gh.f t,gh.N⟩
  have fq:gh'.f q=fg:=by show (if q=p then fi else if q=q then fg else gh.f q)=fg; rw[if_neg hne,if_pos rfl]
  have fp:gh'.f p=fi:=if_pos rfl
  have fo:∀t,t≠p→t≠q→gh'.f t=gh.f t:=fun t e1 e2=>by show (if t=p then fi else if t=q then fg else gh.f t)=_; rw[if_neg e1,if_neg e2]
  have hh:∀t,t≠p→gh'.h t=gh.h t:=fun t e1=>if_neg e1
  have sub:∀t,t≠p→∀g∈gh'.f t,g∈gh.f t:=fun t e1 g hg=>by
    by_cases e2:t=q
    · rw[e2,fq] at hg; rw[e2]; exact mg g hg
    · rwa [fo t e1 e2] at hg
  have dpq:∀t,t≠p→s.tab.al t→∀g∈gh'.f t,g∉fi:=fun t e1 a1 g hg hgi=>by
    by_cases e2:t=q
    · rw[e2,fq] at hg; exact n3 g hg g hgi rfl
    · rw[fo t e1 e2] at hg; exact r.cx.dj t q a1 hq e2 g hg (mi g hgi)
  refine ⟨vs,f,h4,gh',r.step ⟨fun t x hx=> ?_,fun t t' ht ht' hn g hg hg'=> ?_,fun t ht=> ?_,fun t ht g hg hgN=> ?_,r.cx.nl⟩ (fun t ht=> ?_) (fun g h=>⟨h,rfl⟩) (Zl w) (fun _ _ _=>rfl) (fun g hgN=> .inl hgN) fun t ht g hg=> ?_⟩
  · rw [Qi] at hx
    by_cases e1:t=p
    · rw [if_pos e1] at hx
      cases hx
      rw[e1]
      refine ⟨if_pos rfl, ?_⟩
      rw[fp]; exact h3
    · rw [if_neg e1, Qi] at hx
      by_cases e2:t=q
      · rw [if_pos e2] at hx
        cases hx
        show Own (.sl E .vl) w (gh'.f t) [gh'.h t] vs
        rw[e2,fq,hh q hne]
        exact h2
      · rw [if_neg e2] at hx
        refine (r.cx.en t x hx).mono (fun r' hr' ha=> ?_) (fun g h=>⟨h,rfl⟩) (hh t e1) (fo t e1 e2) fun _ _=>rfl
        have e3:r'≠p:=fun h=>hfr.en t x hx (h▸hr')
        rcases hal r' ha with h | ⟨_,h⟩
        · exact absurd h e3
        · exact ⟨h,hh r' e3⟩
  · rcases hal t ht with e1 | ⟨e1, a1⟩
    · rcases hal t' ht' with e2 | ⟨e2, a2⟩
      · exact hn (e1.trans e2.symm)
      · rw[e1,fp] at hg; exact dpq t' e2 a2 g hg' hg
    · rcases hal t' ht' with e2 | ⟨e2, a2⟩
      · rw[e2,fp] at hg'; exact dpq t e1 a1 g hg hg'
      · exact r.cx.dj t t' a1 a2 hn g (sub t e1 g hg) (sub t' e2 g hg')
  · rcases hal t ht with e1 | ⟨e1, a1⟩
    · rw[e1,fp]; exact n2
    · by_cases e2 : t = q
      · rw[e2,fq]; exact n1
      · rw[fo t e1 e2]; exact r.cx.nd t a1
  · rcases hal t ht with e1 | ⟨e1, a1⟩
    · rw[e1,fp] at hg; exact r.cx.no q hq g (mi g hg) hgN
    · exact r.cx.no t a1 g (sub t e1 g hg) hgN
  · rcases hal t ht with e1 | ⟨e1, a1⟩
    · rw[e1]; exact .inr ⟨hfr,hk⟩
    · exact .inl ⟨a1,hh t e1,fun _=>rfl⟩
  · rcases hal t ht with e1 | ⟨e1, a1⟩
    · rw[e1,fp] at hg; exact .inr ⟨q,hq,mi g hg⟩
    · exact .inr ⟨t,a1,sub t e1 g hg⟩
theorem AC.poolO {q:Nat}(p:Nat){E E':TypeId}{e:Ty}{xs:List (List e.Den)}(he:s.tab.ent q=some (.arr E (.sl E' e) xs))(hfr:Fresh s p)(hk:A.k0≤p)
    (k:∀(vs:List Hdr) (f:Hdr→List e.Den),vs.map f=xs→AC A P c Q ⟨s.tm,(p,some (.pl true (.sl E' e) vs f)) :: (q,some (.arr E .vl vs)) :: s.tab⟩):AC A P c Q s:=fun a w r=>by
  obtain ⟨vs,f,h,r'⟩:=R.poolO p he hfr hk r
  exact k vs f h a w r'
theorem AL.poolO {ops:Array Oper}{l:List Oper}{q:Nat}(p:Nat){E E':TypeId}{e:Ty}{xs:List (List e.Den)}(he:s.tab.ent q=some (.arr E (.sl E' e) xs))(hfr:Fresh s p)(hk:A.k0≤p)
    (k:∀(vs:List Hdr) (f:Hdr→List e.Den),vs.map f=xs→AL A P ops l Q ⟨s.tm,(p,some (.pl true (.sl E' e) vs f)) :: (q,some (.arr E .vl vs)) :: s.tab⟩):AL A P ops l Q s:=fun a w r=>by
  obtain ⟨vs,f,h,r'⟩:=R.poolO p he hfr hk r
  exact k vs f h a w r'
theorem KJ {x:Operand}{p:Nat}{E:TypeId}{e:Ty}{vs:List Hdr}{f:Hdr→List e.Den}{v:Hdr}(hx:Evl A s x (.dat .vl v))(hp:s.tab.ent p=some (.pl true (.sl E e) vs f))(hv:v∈vs):EvB A s x (false,[.dat (.sl E e) (f v)]):=fun gh a w r=>by
  obtain ⟨_,h3⟩:=r.cx.en p _ hp
  have h1:Rd gh.N .vl w [a.eval x] v:=hx gh a w r
  have h2:[a.eval x]=[hdV v]:=h1.rep
  obtain ⟨fv,k1,k2⟩:=UF h3 v hv
  refine ⟨_,rfl, ?_⟩
  have h4:Own (.sl E e) w fv [a.eval x] (f v):=by rw[h2]; exact k1
  exact h4.rd fun g hg=>r.cx.lt ⟨_,hp⟩ g (k2 g hg)
theorem WV {q p:Nat}{E E':TypeId}{e:Ty}{zs vs:List Hdr}{f:Hdr→List e.Den}(he:s.tab.ent q=some (.arr E .vl zs))(hp:s.tab.ent p=some (.pl true (.sl E' e) vs f))(hz:∃l:List Hdr,l.Perm zs∧l.Sublist vs):
    Wk A s ⟨s.tm,(q,some (.arr E (.sl E' e) (zs.map f))) :: (p,none) :: s.tab⟩:=fun a w r=>by
  obtain ⟨gh,r⟩:=r
  obtain ⟨l,hz1,hz2⟩:=hz
  have hq:s.tab.al q:=⟨_,he⟩
  have hpa:s.tab.al p:=⟨_,hp⟩
  have hne:q≠p:=fun h=>by rw[h,hp] at he; cases he
  have hO:Own (.sl E .vl) w (gh.f q) [gh.h q] zs:=r.cx.en q _ he
  obtain ⟨_,h3⟩:=r.cx.en p _ hp
  obtain ⟨fa,m1,m2⟩:=Qcv hz2 h3
  obtain ⟨fb,m3,m4⟩:=Qey hz1 m2
  have mb:∀g∈fb,g∈gh.f p:=fun g hg=>m1.subset (m3.mem_iff.2 hg)
  have nb:fb.Nodup:=(m3.nodup_iff).1 (m1.nodup (r.cx.nd p hpa))
  have hal:∀t,Tab.al ((q,some (.arr E (.sl E' e) (zs.map f))) :: (p,none) :: s.tab) t→t≠p∧s.tab.al t:=fun t ⟨x,hx⟩=>by
    rw[Qi] at hx
    by_cases e2:t=q
    · rw[e2]; exact ⟨hne,hq⟩
    · rw [if_neg e2, Qi] at hx
      by_cases e1:t=p
      · rw[if_pos e1] at hx; cases hx
      · rw[if_neg e1] at hx; exact ⟨e1,_,hx⟩
  let gh':Gh:=⟨gh.h,fun t=>if t=q then gh.f q++fb else gh.f t,gh.N⟩
  have fq:gh'.f q=gh.f q++fb:=if_pos rfl
  have fo:∀t,t≠q→gh'.f t=gh.f t:=fun t e2=>if_neg e2
  have inn:∀t,s.tab.al t→t≠p→∀g∈gh'.f t,g∈gh.f t∨(t=q∧g∈gh.f p):=fun t _ _ g hg=>by
    by_cases e2:t=q
    · rw [e2, fq] at hg
      rcases List.mem_append.1 hg with hg | hg
      · rw[e2]; exact .inl hg
      · exact .inr ⟨e2,mb g hg⟩
    · rw[fo t e2] at hg; exact .inl hg
  refine ⟨gh',r.step ⟨fun t x hx=> ?_,fun t t' ht ht' hn g hg hg'=> ?_,fun t ht=> ?_,fun t ht g hg hgN=> ?_,r.cx.nl⟩ (fun t ht=> .inl ⟨(hal t ht).2,rfl,fun _=>rfl⟩) (fun g h=>⟨h,rfl⟩) (Zl w) (fun _ _ _=>rfl) (fun g hgN=> .inl hgN) fun t ht g hg=> ?_⟩
  · rw [Qi] at hx
    by_cases e2:t=q
    · rw [if_pos e2] at hx
      cases hx
      show Own (.sl E (.sl E' e)) w (gh'.f t) [gh'.h t] (zs.map f)
      rw[e2,fq]
      rcases hO with ⟨g1,g2,g3⟩ | ⟨g,cap,cur,fps,g1,g2,g3,g4,g5,g6,g7⟩
      · subst g3
        have:fb=[]:=m4.1
        exact .inl ⟨by rw[g1,this]; rfl,g2,rfl⟩
      · obtain ⟨k1, k2⟩ := Qce g7
        refine .inr ⟨g,cap,cur,fb,by rw[g1,k1]; rfl,by rw[List.length_map]; exact g2,g3,by rw[List.length_map]; exact g4,g5,g6, ?_⟩
        have:cur.toList.take ((zs.map f).length*Ty.wd (.sl E' e))=zs.map hdV:=by rw[List.length_map]; exact k2
        rw[this]
        exact m4
    · rw [if_neg e2, Qi] at hx
      by_cases e1:t=p
      · rw[if_pos e1] at hx; cases hx
      · rw [if_neg e1] at hx
        exact (r.cx.en t x hx).mono (fun r' _ ha=>⟨(hal r' ha).2,rfl⟩) (fun g h=>⟨h,rfl⟩) rfl (fo t e2) fun _ _=>rfl
  · obtain ⟨e1, a1⟩ := hal t ht
    obtain ⟨e2,a2⟩:=hal t' ht'
    rcases inn t a1 e1 g hg with h | ⟨h0,h⟩ <;> rcases inn t' a2 e2 g hg' with h' | ⟨h0',h'⟩
    · exact r.cx.dj t t' a1 a2 hn g h h'
    · exact r.cx.dj t p a1 hpa e1 g h h'
    · exact r.cx.dj t' p a2 hpa e2 g h' h
    · exact hn (h0.trans h0'.symm)
  · obtain ⟨e1, a1⟩ := hal t ht
    by_cases e2:t=q
    · rw [e2, fq, List.nodup_append]
      exact ⟨r.cx.nd q hq,nb,fun x hx y hy e=>r.cx.dj q p hq hpa hne x hx (mb x (e▸hy))⟩
    · rw[fo t e2]; exact r.cx.nd t a1
  · obtain ⟨e1, a1⟩ := hal t ht
    rcases inn t a1 e1 g hg with h | ⟨_,h⟩
    · exact r.cx.no t a1 g h hgN
    · exact r.cx.no p hpa g h hgN
  · obtain ⟨e1, a1⟩ := hal t ht
    rcases inn t a1 e1 g hg with h | ⟨_,h⟩
    · exact .inr ⟨t,a1,h⟩
    · exact .inr ⟨p,hpa,h⟩
theorem R.poolJ {p p2:Nat}{E:TypeId}{e:Ty}{vs vs2:List Hdr}{f f2:Hdr→List e.Den}{a:Act}{w:World}(hp:s.tab.ent p=some (.pl true (.sl E e) vs f))(hp2:s.tab.ent p2=some (.pl true (.sl E e) vs2 f2))(hb:Nat.beq p p2=false)(r:R A s a w):
    ∃g:Hdr→List e.Den,(∀v∈vs,g v=f v)∧(∀v∈vs2,g v=f2 v)∧R A ⟨s.tm,(p,some (.pl true (.sl E e) (vs++vs2) g)) :: (p2,none) :: s.tab⟩ a w:=by
  classical
  obtain ⟨gh,r⟩:=r
  have hne:p≠p2:=fun h=>by rw[h,Nat.beq_refl] at hb; cases hb
  have hpa:s.tab.al p:=⟨_,hp⟩
  have hpb:s.tab.al p2:=⟨_,hp2⟩
  obtain ⟨n1,h1⟩:=r.cx.en p _ hp
  obtain ⟨n2,h2⟩:=r.cx.en p2 _ hp2
  let g:Hdr→List e.Den:=fun v=>if v∈vs then f v else f2 v
  have g1:∀v∈vs,g v=f v:=fun v hv=>if_pos hv
  have g2:∀v∈vs2,g v=f2 v:=fun v hv=>by
    by_cases h:v∈vs
    · obtain ⟨fv, k1, _⟩ := UF h1 v h
      obtain ⟨fv',k1',_⟩:=UF h2 v hv
      exact (if_pos h).trans (Ht k1.rep k1'.rep)
    · exact if_neg h
  have hal:∀t,Tab.al ((p,some (.pl true (.sl E e) (vs++vs2) g)) :: (p2,none) :: s.tab) t→t≠p2∧s.tab.al t:=fun t ⟨x,hx⟩=>by
    rw[Qi] at hx
    by_cases e2:t=p
    · rw[e2]; exact ⟨hne,hpa⟩
    · rw [if_neg e2, Qi] at hx
      by_cases e1:t=p2
      · rw[if_pos e1] at hx; cases hx
      · rw[if_neg e1] at hx; exact ⟨e1,_,hx⟩
  let gh':Gh:=⟨gh.h,fun t=>if t=p then gh.f p++gh.f p2 else gh.f t,gh.N⟩
  have fq:gh'.f p=gh.f p++gh.f p2:=if_pos rfl
  have fo:∀t,t≠p→gh'.f t=gh.f t:=fun t e2=>if_neg e2
  have inn:∀t,∀x∈gh'.f t,x∈gh.f t∨(t=p∧x∈gh.f p2):=fun t x hg=>by
    by_cases e2:t=p
    · rw [e2, fq] at hg
      rcases List.mem_append.1 hg with hg | hg
      · rw[e2]; exact .inl hg
      · exact .inr ⟨e2,hg⟩
    · rw[fo t e2] at hg; exact .inl hg
  refine ⟨g,g1,g2,gh',r.step ⟨fun t x hx=> ?_,fun t t' ht ht' hn x hg hg'=> ?_,fun t ht=> ?_,fun t ht x hg hgN=> ?_,r.cx.nl⟩ (fun t ht=> .inl ⟨(hal t ht).2,rfl,fun _=>rfl⟩) (fun x h=>⟨h,rfl⟩) (Zl w) (fun _ _ _=>rfl) (fun x hgN=> .inl hgN) fun t ht x hg=> ?_⟩
  · rw [Qi] at hx
    by_cases e2:t=p
    · rw [if_pos e2] at hx
      cases hx
      rw[e2]
      refine ⟨n1, ?_⟩
      rw[fq]
      exact QfT h1 h2 g1 g2
    · rw [if_neg e2, Qi] at hx
      by_cases e1:t=p2
      · rw[if_pos e1] at hx; cases hx
      · rw [if_neg e1] at hx
        exact (r.cx.en t x hx).mono (fun r' _ ha=>⟨(hal r' ha).2,rfl⟩) (fun x h=>⟨h,rfl⟩) rfl (fo t e2) fun _ _=>rfl
  · obtain ⟨e1, a1⟩ := hal t ht
    obtain ⟨e2,a2⟩:=hal t' ht'
    rcases inn t x hg with h | ⟨h0,h⟩ <;> rcases inn t' x hg' with h' | ⟨h0',h'⟩
    · exact r.cx.dj t t' a1 a2 hn x h h'
    · exact r.cx.dj t p2 a1 hpb e1 x h h'
    · exact r.cx.dj t' p2 a2 hpb e2 x h' h
    · exact hn (h0.trans h0'.symm)
  · obtain ⟨e1, a1⟩ := hal t ht
    by_cases e2:t=p
    · rw [e2, fq, List.nodup_append]
      exact ⟨r.cx.nd p hpa,r.cx.nd p2 hpb,fun x hx y hy e=>r.cx.dj p p2 hpa hpb hne x hx (e▸hy)⟩
    · rw[fo t e2]; exact r.cx.nd t a1
  · obtain ⟨e1, a1⟩ := hal t ht
    rcases inn t x hg with h | ⟨_,h⟩
    · exact r.cx.no t a1 x h hgN
    · exact r.cx.no p2 hpb x h hgN
  · obtain ⟨e1, a1⟩ := hal t ht
    rcases inn t x hg with h | ⟨_,h⟩
    · exact .inr ⟨t,a1,h⟩
    · exact .inr ⟨p2,hpb,h⟩
theorem AL.poolJ {ops:Array Oper}{l:List Oper}{p p2:Nat}{E:TypeId}{e:Ty}{vs vs2:List Hdr}{f f2:Hdr→List e.Den}(hp:s.tab.ent p=some (.pl true (.sl E e) vs f))(hp2:s.tab.ent p2=some (.pl true (.sl E e) vs2 f2))(hb:Nat.beq p p2=false)
    (k:∀g:Hdr→List e.Den,(∀v∈vs,g v=f v)→(∀v∈vs2,g v=f2 v)→AL A P ops l Q ⟨s.tm,(p,some (.pl true (.sl E e) (vs++vs2) g)) :: (p2,none) :: s.tab⟩):AL A P ops l Q s:=fun a w r=>by
  obtain ⟨g,h1,h2,r'⟩:=R.poolJ hp hp2 hb r
  exact k g h1 h2 a w r'
theorem AC.poolJ {p p2:Nat}{E:TypeId}{e:Ty}{vs vs2:List Hdr}{f f2:Hdr→List e.Den}(hp:s.tab.ent p=some (.pl true (.sl E e) vs f))(hp2:s.tab.ent p2=some (.pl true (.sl E e) vs2 f2))(hb:Nat.beq p p2=false)
    (k:∀g:Hdr→List e.Den,(∀v∈vs,g v=f v)→(∀v∈vs2,g v=f2 v)→AC A P c Q ⟨s.tm,(p,some (.pl true (.sl E e) (vs++vs2) g)) :: (p2,none) :: s.tab⟩):AC A P c Q s:=fun a w r=>by
  obtain ⟨g,h1,h2,r'⟩:=R.poolJ hp hp2 hb r
  exact k g h1 h2 a w r'
end
section
variable {A:Amb}{P:Program}{s:St}{f:FuncId}{xs:List Operand}{tys:Array TypeId}{args:List (Bool×List LV)}{d:Nat}{ty:TypeId}{pos:String}{af:Array Edge}{g:Option (Nat×Bool)}{pv:PV}
theorem QaK {x0:Operand}(hc:FC P f args [] 0 (Zq pv))(hE:Qt P f)(h0:Evl A s x0 (.clo f []))(ha:EvLB A s xs args)(ht:pv.tags=[])(hf:pv.fl=true)(hn:Nat.blt d A.n=true):
    Does A P ⟨some d, .call ⟨.value x0,xs.toArray,tys⟩,ty,pos,af,g⟩ s (s.put d pv):=fun a w K Q r hK=>by
  obtain ⟨gh,r⟩:=r
  have hx:a.eval x0= .func (.func f) #[] #[]:=h0 gh a w r (by intro q hq; cases hq)
  have hv:=ha.cms r
  have hcl:YC pv []=true:=by simp[YC,ht,ZT]
  refine Qcd (cs:=[]) hE rfl hx (by
    rw[List.append_nil]
    refine Calls.mono (hc ⟨gh.h,gh.f,fun g=>g < w.heap.size⟩ w _ (We Zv _ w fun g hg=>hg) hv) fun e w' he=> ?_
    obtain ⟨v,pv',T,gh',rfl,⟨rfl,rfl⟩,cx,hp,fr,_⟩:=he
    obtain ⟨c1,c2⟩:=KY hcl
    have hfr:∀q,Tab.al [] q→Fresh s (A.k0+q):=fun q hq=>absurd hq (Zv q)
    have r2:=r.after A.k0 hfr (Nat.le_refl _) (cx.fl rfl) fr.gw (fun g hg=>fr.kp g hg fun q hq=>absurd hq (Zv q)) (fun q hq g hg=>by
      rcases fr.ox q hq g hg with h | ⟨q',h,_⟩
      · exact h
      · exact absurd h (Zv q')) (fun g hg=>hg.elim) fun q e he r hr=> .inl (c2 q e he r hr)
    have r3:=Qe5 (gh2:=gh) hfr c1 r2 (hp.fl (N:=fun _=>False) hf) (fun g hg=>hg.elim) hn
    rw[St.back,PV.ren_id ht] at r3
    exact hK _ _ r3)
end
end Go.Proofs.YtnakmhfjafecpaaGreat
