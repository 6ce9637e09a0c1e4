/- Walks over abstract states: firing. -/
import Derived.Test.YtnakmhfjafecpaaGreatWb
import Derived.Test.YtnakmhfjafecpaaGreatWa
set_option linter.unusedSimpArgs false
set_option linter.unusedVariables false
set_option linter.unusedSectionVars false
namespace Go.Proofs.YtnakmhfjafecpaaGreat
open Go.RowKit
set_option maxRecDepth 100000
set_option maxHeartbeats 4000000
def bAt (m:ByteArray)(p:Int):UInt8:=(m[p.toNat]?).getD 0
theorem QeV {m:ByteArray}{p:Int}{c:UInt8}(h:m[p.toNat]? =some c):bAt m p=c:=by unfold bAt; rw[h]; rfl
theorem QbN (m:ByteArray):m.toList.length=m.size:=by simp[ByteArray.toList_eq]
def ZH {α:Type _}(f:α→Bool)(l:List α):Int:=match l.findIdx? f with | some i=>i | none=> -1
def NoneTo {α:Type _}(f:α→Bool)(l:List α)(k:Nat):Prop:=∀j,j < k→∀x,l[j]? =some x→f x=false
section
variable {α:Type _}{f:α→Bool}{l:List α}{k:Nat}{x:α}
theorem NoneTo.zero:NoneTo f l 0:=fun j hj=>absurd hj (Nat.not_lt_zero j)
theorem NoneTo.step (h:NoneTo f l k)(hx:l[k]? =some x)(hf:f x=false):NoneTo f l (k+1):=fun j hj y hy=>by
  by_cases e:j=k
  · subst e; rw[hx] at hy; cases hy; exact hf
  · exact h j (by omega) y hy
theorem NoneTo.at (h:NoneTo f l k)(hx:l[k]? =some x)(hf:f x=true):ZH f l=k:=by
  obtain ⟨h1,h2⟩:=List.getElem?_eq_some_iff.1 hx
  have:l.findIdx? f=some k:=List.findIdx?_eq_some_iff_getElem.2 ⟨h1,by rw[h2]; exact hf,fun j hj=>by
    have:=h j hj _ (List.getElem?_eq_getElem (by omega))
    simp[this]⟩
  unfold ZH
  rw[this]
theorem NoneTo.no (h:NoneTo f l k)(hk:l.length≤k):ZH f l= -1:=by
  have:l.findIdx? f=none:=List.findIdx?_eq_none_iff.2 fun x hx=>by
    obtain ⟨j,hj⟩:=List.mem_iff_getElem?.1 hx
    have:=(List.getElem?_eq_some_iff.1 hj).1
    exact h j (by omega) x hj
  unfold ZH
  rw[this]
theorem NoneTo.any_no (h:NoneTo f l k)(hk:l.length≤k):l.any f=false:=List.any_eq_false.2 fun x hx=>by
  obtain ⟨j,hj⟩:=List.mem_iff_getElem?.1 hx
  have:=(List.getElem?_eq_some_iff.1 hj).1
  simp[h j (by omega) x hj]
theorem W6 (f:α→Bool)(l:List α):decide (0≤ZH f l)=l.any f:=by
  unfold ZH
  cases h:l.findIdx? f with
  | none=>
    have:=List.findIdx?_eq_none_iff.1 h
    rw[Bool.eq_iff_iff]
    simp only[List.any_eq_true,decide_eq_true_eq]
    constructor
    · intro h; omega
    · rintro ⟨x,hx,hf⟩; rw[this x hx] at hf; cases hf
  | some i=>
    obtain ⟨h1,h2,_⟩:=List.findIdx?_eq_some_iff_getElem.1 h
    have:l.any f=true:=List.any_eq_true.2 ⟨_,List.getElem_mem h1,h2⟩
    rw[this]
    simp
def Yv (f:α→Bool)(l:List α):Nat→List Int
  | 0=>[]
  | k+1=>Yv f l k++(match l[k]? with | some x=>if f x then [(k:Int)] else [] | none=>[])
theorem Qag (hx:l[k]? =some x)(hf:f x=true):Yv f l k++[(k:Int)]=Yv f l (k+1):=by simp[Yv,hx,hf]
theorem QbE (hx:l[k]? =some x)(hf:f x=false):Yv f l k=Yv f l (k+1):=by simp[Yv,hx,hf]
theorem Qah (f:α→Bool)(l:List α)(k:Nat):(Yv f l k).length≤k:=by
  induction k with
  | zero=>simp[Yv]
  | succ k ih=>
    simp only[Yv,List.length_append]
    split
    · split <;> simp <;> omega
    · simp; omega
theorem Qam {f:α→Bool}{l:List α}{k:Nat}{t:Int}(h:t∈Yv f l k):∃x,0≤t∧t < l.length∧t < k∧l[t.toNat]? =some x∧f x=true:=by
  induction k with
  | zero=>simp[Yv] at h
  | succ k ih=>
    simp only[Yv,List.mem_append] at h
    rcases h with h | h
    · obtain ⟨x,h1,h2,h3,h4⟩:=ih h; exact ⟨x,h1,h2,by omega,h4⟩
    · cases hx : l[k]? with
      | none=>rw[hx] at h; simp at h
      | some x=>
        rw[hx] at h
        cases hf:f x with
        | false=>simp[hf] at h
        | true=>
          simp only[hf,if_true,List.mem_singleton] at h
          subst h
          have:=(List.getElem?_eq_some_iff.1 hx).1
          exact ⟨x,by omega,by omega,by omega,by simpa using hx,hf⟩
theorem ZS {l:List α}{k:Nat}{x:α}(hx:l[k]? =some x):l.drop k=x :: l.drop (k+1):=by
  obtain ⟨h1,h2⟩:=List.getElem?_eq_some_iff.1 hx
  rw[List.drop_eq_getElem_cons h1,h2]
end
def VS (m:ByteArray)(ps:List Int):Prop:=∀p∈ps,(0≤p∧p < m.size)∧(bAt m p=48∨bAt m p=49)
def enb (m:ByteArray)(t:QJ):Bool:= !t.1.any fun p=>decide (bAt m p=48)
def Q4 (n:Y0)(m:ByteArray):List Int:=Yv (enb m) n.2 n.2.length
def clr (l:List UInt8):List Int→List UInt8
  | []=>l
  | p :: ps=>clr (l.set p.toNat 48) ps
def UD (l:List UInt8):List Int→Option (List UInt8)
  | []=>some l
  | p :: ps=>if l[p.toNat]? =some 49 then none else UD (l.set p.toNat 49) ps
def Uu (m:ByteArray)(t:QJ):ByteArray×Bool:=match UD (clr m.toList t.1) t.2 with
  | none=>(⟨#[]⟩,false)
  | some l=>(⟨l.toArray⟩,true)
def Zy (n:Y0)(m:ByteArray)(t:Int):ByteArray×Bool:=match n.2[t.toNat]? with
  | none=>(⟨#[]⟩,false)
  | some x=>Uu m x
def ZE (n:Y0)(m:ByteArray)(t:Int):ByteArray×Bool:=if 0≤t then (match n.2[t.toNat]? with
  | none=>(⟨#[]⟩,false)
  | some x=>if enb m x then Uu m x else (⟨#[]⟩,false)) else (⟨#[]⟩,false)
section
variable {n:Y0}{m:ByteArray}{t:Int}{x:QJ}{l:List UInt8}{ps:List Int}{k:Nat}{p:Int}
theorem Qge (hx:ps[k]? =some p):clr l (ps.drop k)=clr (l.set p.toNat 48) (ps.drop (k+1)):=by rw[ZS hx,clr]
theorem Qjj (h:ps.length≤k):clr l (ps.drop k)=l:=by rw[List.drop_eq_nil_of_le h,clr]
theorem QdS (hx:ps[k]? =some p){c:UInt8}(hc:l[p.toNat]? =some c)(hn:decide (c=49)=false):UD l (ps.drop k)=UD (l.set p.toNat 49) (ps.drop (k+1)):=by
  rw[ZS hx,UD,if_neg]
  rw[hc]
  intro h
  cases h
  simp at hn
theorem Qbo (hx:ps[k]? =some p){c:UInt8}(hc:l[p.toNat]? =some c)(hn:decide (c=49)=true):UD l (ps.drop k)=none:=by
  rw[ZS hx,UD,if_pos]
  rw[hc,of_decide_eq_true hn]
theorem HJ (h:ps.length≤k):UD l (ps.drop k)=some l:=by rw[List.drop_eq_nil_of_le h,UD]
theorem Qnk (l:List UInt8)(ps:List Int):(clr l ps).length=l.length:=by
  induction ps generalizing l with
  | nil=>rfl
  | cons p ps ih=>rw[clr,ih,List.length_set]
theorem KH (h:UD (clr m.toList x.1) x.2=none):Uu m x=(⟨#[]⟩,false):=by unfold Uu; rw[h]
theorem UN (h:UD (clr m.toList x.1) x.2=some l):Uu m x=(⟨l.toArray⟩,true):=by unfold Uu; rw[h]
theorem J6 (hx:n.2[t.toNat]? =some x):Zy n m t=Uu m x:=by unfold Zy; rw[hx]
theorem J2 (hx:n.2[t.toNat]? =some x)(h0:0≤t)(he:enb m x=true):ZE n m t=Uu m x:=by
  unfold ZE; rw[if_pos h0,hx]
  show (if enb m x then _ else _)=_
  rw[if_pos he]
theorem Qeh (hx:n.2[t.toNat]? =some x)(he:enb m x=false):ZE n m t=(⟨#[]⟩,false):=by
  unfold ZE; rw[hx]
  show (if 0≤t then (if enb m x then _ else _) else _)=_
  rw[if_neg (show¬enb m x=true by rw[he]; decide),ite_self]
theorem QdY (h:¬(0≤t∧t≤(n.2.length:Int) - 1)):ZE n m t=(⟨#[]⟩,false):=by
  unfold ZE
  by_cases h0:0≤t
  · rw[if_pos h0,List.getElem?_eq_none (by omega)]
  · rw[if_neg h0]
theorem QnF (h0:0≤t)(hx:n.2[t.toNat]? =some x)(he:enb m x=true):ZE n m t=Zy n m t:=by rw[J2 hx h0 he,J6 hx]
def Ji (n:Y0)(m:ByteArray)(t:Int):Bool:=match n.2[t.toNat]? with
  | some x=>enb m x
  | none=>false
theorem Qby (hx:n.2[t.toNat]? =some x):Ji n m t=enb m x:=by unfold Ji; rw[hx]
theorem Ql5 (h:VS m x.1):enb m x=true↔∀p∈x.1,bAt m p=49:=by
  unfold enb
  simp only[Bool.not_eq_true',List.any_eq_false,decide_eq_true_eq]
  constructor
  · intro k p hp
    rcases (h p hp).2 with h1 | h1
    · exact absurd h1 (k p hp)
    · exact h1
  · intro k p hp h1
    rw[k p hp] at h1
    exact absurd h1 (by decide)
theorem Qht {c:UInt8}(hA:∀j,j < k→∀y,ps[j]? =some y→bAt m y=49)(hx:ps[k]? =some p)(hc:m[p.toNat]? =some c)(hb:(!decide (c=49))=false):∀j,j < k+1→∀y,ps[j]? =some y→bAt m y=49:=fun j hj y hy=>by
  by_cases e:j=k
  · subst e; rw [hx] at hy; cases hy
    rw[QeV hc]
    simpa using hb
  · exact hA j (by omega) y hy
theorem QlN {c:UInt8}(hn:n.2[t.toNat]? =some x)(hp:VS m x.1)(hx:x.1[k]? =some p)(hc:m[p.toNat]? =some c)(hb:(!decide (c=49))=true):Ji n m t=false:=by
  rw[Qby hn,Bool.eq_false_iff]
  intro h
  have:=(Ql5 hp).1 h p (List.mem_of_getElem? hx)
  rw[QeV hc] at this
  simp[this] at hb
theorem QkA (hn:n.2[t.toNat]? =some x)(hp:VS m x.1)(hA:∀j,j < k→∀y,x.1[j]? =some y→bAt m y=49)(hk:x.1.length≤k):Ji n m t=true:=by
  rw[Qby hn]
  refine (Ql5 hp).2 fun p h=> ?_
  obtain ⟨j,hj⟩:=List.mem_iff_getElem?.1 h
  have:=(List.getElem?_eq_some_iff.1 hj).1
  exact hA j (by omega) p hj
theorem QcP (hk:k < n.2.length)(h:Ji n m (k:Int)=true):Yv (enb m) n.2 k++[(k:Int)]=Yv (enb m) n.2 (k+1):=by
  have hx:=List.getElem?_eq_getElem hk
  rw[Qby (t:=(k:Int)) (show n.2[((k:Int)).toNat]? =some _ from hx)] at h
  exact Qag hx h
theorem Qep (hk:k < n.2.length)(h:Ji n m (k:Int)=false):Yv (enb m) n.2 k=Yv (enb m) n.2 (k+1):=by
  have hx:=List.getElem?_eq_getElem hk
  rw[Qby (t:=(k:Int)) (show n.2[((k:Int)).toNat]? =some _ from hx)] at h
  exact QbE hx h
end
theorem Je (p:Int)(mark:ByteArray)(h0:0≤p)(h1:p < (mark.size:Int)):FC Tryz.prog 255 [(false,[dI p]),(false,[.ptr 0 0])] [(0,some (.box 9 [dS mark]))] 1 (Is (lB (decide (bAt mark p=48))) [(0,some (.box 9 [dS mark]))]):=by
 refine QN Tryz.func255 rfl rfl Tryz.ntmps255 fun O_ hO w0_ N0_ X_ h0_ f0_=> ?_
 refine AC.fact (QA (x:= .tmp 0) (Qa rfl)) fun hi1=> ?_
 iterate 6 refine w_ ?_
 obtain ⟨c2,hc3⟩:∃z,mark[(p).toNat]? =some z:=⟨_,getElem?_pos _ _ (by omega)⟩
 refine lc (Vo (Qa rfl) (Qa rfl) rfl W9 (by omega) hc3)<|lc (Z7 (Qa rfl) (ZR 48 rfl) rfl) ?_
 iterate 2 refine w_ ?_
 refine Qf ?_
 subst hO
 have e4:(decide (c2=48):Bool)=(decide (bAt mark p=48)):=by
  rw[QeV (by assumption)]
 exact QF _ _ [(0,0)] (Qm rfl (Qd rfl)) ((congrArg (fun z_=>lB z_) e4)) ⟨rfl,trivial⟩ rfl rfl
theorem WG (s:List Int)(mark:ByteArray)(hp:∀p∈s,0≤p∧p < (mark.size:Int)):FC Tryz.prog 218 [(false,[.dat (.sl 3 .int) s]),(false,[.clo 255 [0]])] [(0,some (.box 9 [dS mark]))] 1 (Is (lI (ZH (fun p=>decide (bAt mark p=48)) s)) [(0,some (.box 9 [dS mark]))]):=by
 refine QN Tryz.func218 rfl rfl Tryz.ntmps218 fun O_ hO w0_ N0_ X_ h0_ f0_=> ?_
 iterate 6 refine w_ ?_
 refine AL.fact (Qq (x:= .tmp 6) (Qa rfl)) fun hl1=> ?_
 iterate 4 refine w_ ?_
 refine Qx (fun m_ s_=>∃(k:Nat),k≤s.length∧m_=s.length - k∧(NoneTo (fun p=>decide (bAt mark p=48)) s k)∧s_=⟨[(0,lf (.dat (.sl 3 .int) s)),(1,lf (.clo 255 [0])),(7,lI (s.length:Int)),(8,lI (k:Int))],[(0,some (.box 9 [dS mark]))]⟩) ⟨0,Nat.zero_le _,rfl,NoneTo.zero,rfl⟩ ?_ ?_
 · exact Wk.of [(0,0)] rfl ⟨rfl,rfl,rfl,rfl,trivial⟩ ⟨rfl,trivial⟩ rfl rfl
 rintro m_ s_ ⟨k,hk2,hm3,hno,rfl⟩
 iterate 4 refine w_ ?_
 cases hb4:(decide ((k:Int) < (s.length:Int)))
 ·have hb4':=of_decide_eq_false hb4
  refine w_ ?_
  refine QB ?_
  refine (?_:AC _ _ _ _ _)
  iterate 3 refine w_ ?_
  refine Qf ?_
  subst hO
  have e5:((-1):Int)=(ZH (fun p=>decide (bAt mark p=48)) s):=by
   first | exact (hno.no (by omega)).symm
  exact QF _ _ [(0,0)] (Qm rfl (Qd rfl)) ((congrArg (fun z_=>lI z_) e5)) ⟨rfl,trivial⟩ rfl rfl
 ·have hb4':=of_decide_eq_true hb4
  iterate 12 refine w_ ?_
  obtain ⟨x6,hx7⟩:∃z,s[k]? =some z:=⟨_,List.getElem?_eq_getElem (by omega)⟩
  refine lc (Qh (Qa rfl) (Qa rfl) QE QO rfl (by omega) hx7) ?_
  refine w_ ?_
  refine AL.fact (QA (x:= .tmp 15) (Qa rfl)) fun hi8=>lc (Xi (args0:=[(false,[dI x6])]) (caps:=[0]) 1 [(0,0)] (Je x6 mark (hp _ (List.mem_of_getElem? hx7)).1 (hp _ (List.mem_of_getElem? hx7)).2) QhA rfl (Qa rfl) rfl rfl ⟨_,_,rfl,(Qb rfl),rfl⟩ ⟨rfl,trivial⟩ rfl ⟨trivial,trivial⟩ (nlr rfl)) ?_
  refine w_ ?_
  cases hb9:(decide (bAt mark x6=48))
  ·have hb9':=of_decide_eq_false hb9
   refine w_ ?_
   refine AC.skip ?_
   refine (?_:AC _ _ _ _ _)
   iterate 3 refine w_ ?_
   refine Qk<|QU ⟨k+1,by omega,rfl,hno.step hx7 (by assumption),rfl⟩ (by omega) ?_
   exact Wk.of [(0,0)] rfl ⟨rfl,rfl,rfl,rfl,trivial⟩ ⟨rfl,trivial⟩ rfl rfl
  ·have hb9':=of_decide_eq_true hb9
   iterate 5 refine w_ ?_
   refine Qf ?_
   subst hO
   have e10:((k:Int):Int)=(ZH (fun p=>decide (bAt mark p=48)) s):=by
    exact (hno.at hx7 (by assumption)).symm
   exact QF _ _ [(0,0)] (Qm rfl (Qd rfl)) ((congrArg (fun z_=>lI z_) e10)) ⟨rfl,trivial⟩ rfl rfl
theorem XX (s:List Int)(mark:ByteArray)(hp:∀p∈s,0≤p∧p < (mark.size:Int)):FC Tryz.prog 145 [(false,[.dat (.sl 3 .int) s]),(false,[.clo 255 [0]])] [(0,some (.box 9 [dS mark]))] 1 (Is (lB (s.any (fun p=>decide (bAt mark p=48)))) [(0,some (.box 9 [dS mark]))]):=by
 refine QN Tryz.func145 rfl rfl Tryz.ntmps145 fun O_ hO w0_ N0_ X_ h0_ f0_=> ?_
 iterate 6 refine w_ ?_
 refine lc (Za 1 [(0,0)] (WG s mark hp) JJ ⟨_,_,rfl,(Qb rfl),⟨_,_,rfl,(Qb rfl),rfl⟩⟩ ⟨rfl,trivial⟩ rfl ⟨trivial,trivial⟩ (nlr rfl)) ?_
 iterate 3 refine w_ ?_
 refine Qf ?_
 subst hO
 have e1:(decide (0≤(ZH (fun p=>decide (bAt mark p=48)) s)):Bool)=(s.any (fun p=>decide (bAt mark p=48))):=by
  exact W6 _ _
 exact QF _ _ [(0,0)] (Qm rfl (Qd rfl)) ((congrArg (fun z_=>lB z_) e1)) ⟨rfl,trivial⟩ rfl rfl
theorem Vx (t:List Int×List Int)(mark:ByteArray)(hp:VS mark t.1):FC Tryz.prog 192 [(true,[.dat (.sl 3 .int) t.1, .dat (.sl 3 .int) t.2]),(false,[dS mark])] [] 0 (Zq (lB (enb mark t))):=by
 refine QN Tryz.func192 rfl rfl Tryz.ntmps192 fun O_ hO w0_ N0_ X_ h0_ f0_=> ?_
 refine w_ ?_
 refine lc (Qw 0 (Qb rfl) rfl rfl (Fresh.of rfl) (nlr rfl))<|lc (Qw 1 (Qb rfl) rfl rfl (Fresh.of rfl) (nlr rfl)) ?_
 iterate 5 refine w_ ?_
 refine lc (YB ⟨_,_,rfl,(Qa rfl),rfl,rfl⟩ rfl)<|lc (Za 2 [(0,1)] (XX t.1 mark (fun p h=>(hp p h).1)) JT ⟨_,_,rfl,(Qb rfl),⟨_,_,rfl,(Qb rfl),rfl⟩⟩ ⟨rfl,trivial⟩ rfl ⟨trivial,trivial⟩ (nlr rfl)) ?_
 iterate 3 refine w_ ?_
 refine Qf ?_
 subst hO
 have e1:(!(t.1.any (fun p=>decide (bAt mark p=48))):Bool)=(enb mark t):=by
  rfl
 exact Ql (Qm rfl (Qd rfl)) ((congrArg (fun z_=>lB z_) e1)) rfl
theorem UR (n:Int×(List (List Int×List Int)))(mark:ByteArray)(hnb:∀t∈n.2,VS mark t.1∧VS mark t.2)(hnl:n.2.length≤2000000):FC Tryz.prog 114 [(true,[dI n.1, .dat (.sl 159 (.pr (.sl 3 .int) (.sl 3 .int))) n.2]),(false,[dS mark])] [] 0 (UC 3 .int (Q4 n mark)):=by
 refine QN Tryz.func114 rfl rfl Tryz.ntmps114 fun O_ hO w0_ N0_ X_ h0_ f0_=> ?_
 refine AC.fact (QG (x:= .tmp 0) (i:=0) (Qb rfl) rfl) fun hi1=> ?_
 refine w_ ?_
 refine lc (Qw 0 (Qb rfl) rfl rfl (Fresh.of rfl) (nlr rfl)) ?_
 iterate 3 refine w_ ?_
 refine lc (Qg 1 (e:= .int) QE QO Yf rfl rfl (List.all_eq_true.1 rfl) ⟨rfl,rfl⟩ (by decide) rfl rfl (Fresh.of rfl) (nlr rfl)) ?_
 iterate 6 refine w_ ?_
 refine AL.fact (Qq (x:= .tmp 10) (Qa rfl)) fun hl2=> ?_
 iterate 4 refine w_ ?_
 refine Qx (fun m_ s_=>∃(k:Nat),k≤n.2.length∧m_=n.2.length - k∧s_=⟨[(1,lf (dS mark)),(4,lf (.val (.slice none 0 0))),(5,lR 2),(10,lf (.dat (.sl 159 (.pr (.sl 3 .int) (.sl 3 .int))) n.2)),(11,lI (n.2.length:Int)),(12,lI (k:Int))],[(2,some (.arr 3 .int (Yv (enb mark) n.2 k)))]⟩) ⟨0,Nat.zero_le _,rfl,rfl⟩ ?_ ?_
 · exact Wk.of [(2,1)] rfl ⟨rfl,rfl,rfl,rfl,rfl,rfl,trivial⟩ ⟨(Qy (by first | rfl | simp)),trivial⟩ rfl rfl
 rintro m_ s_ ⟨k,hk3,hm4,rfl⟩
 have hpk:=Qah (enb mark) n.2 k
 iterate 4 refine w_ ?_
 cases hb5:(decide ((k:Int) < (n.2.length:Int)))
 ·have hb5':=of_decide_eq_false hb5
  refine w_ ?_
  refine QB ?_
  refine (?_:AC _ _ _ _ _)
  iterate 4 refine w_ ?_
  refine Qf ?_
  subst hO
  refine ZU (e:= .int) (xs:=(Yv (enb mark) n.2 k)) (Qm rfl (Qd rfl)) rfl ?_
  rw[show k=n.2.length by omega]; rfl
 ·have hb5':=of_decide_eq_true hb5
  iterate 6 refine w_ ?_
  obtain ⟨x6,hx7⟩:∃z,n.2[k]? =some z:=⟨_,List.getElem?_eq_getElem (by omega)⟩
  refine lc (Qh (Qa rfl) (Qa rfl) ZO Zh rfl (by omega) hx7) ?_
  refine w_ ?_
  refine lc (Qp 3 (.pr (.sl 3 .int) (.sl 3 .int)) Vq rfl rfl (Fresh.of rfl) (nlr rfl)) ?_
  refine w_ ?_
  refine lc (Qe (Qa rfl) rfl (Qb rfl) rfl Zh rfl) ?_
  iterate 4 refine w_ ?_
  refine lc (Qn (Vx x6 mark (hnb _ (List.mem_of_getElem? hx7)).1) Qb6 ⟨_,_,rfl,(Qb rfl),⟨_,_,rfl,(Qb rfl),rfl⟩⟩ rfl rfl) ?_
  refine w_ ?_
  cases hb8:(enb mark x6)
  ·refine w_ ?_
   refine AC.skip ?_
   refine (?_:AC _ _ _ _ _)
   iterate 3 refine w_ ?_
   refine Qk<|QU ⟨k+1,by omega,rfl,rfl⟩ (by omega) ?_
   exact Wk.of [(2,2)] rfl ⟨rfl,rfl,rfl,rfl,rfl,rfl,trivial⟩ ⟨(Qy (by first | exact Qag hx7 (by assumption) | exact QbE hx7 (by assumption))),trivial⟩ rfl rfl
  ·iterate 4 refine w_ ?_
   refine lc (Qg 4 (e:= .int) QE QO Yf rfl ⟨_,_,rfl,(Qb rfl),rfl⟩ (List.all_eq_true.1 rfl) ⟨_,_,_,_,rfl,⟨rfl,rfl⟩,⟨rfl,rfl⟩,rfl⟩ (by decide) rfl rfl (Fresh.of rfl) (nlr rfl))<|lc (QQ 5 (Qa rfl) rfl (Qa rfl) rfl rfl QE VB (by first | omega | (simp only[List.length_append,List.length_map,List.length_take,List.length_cons,List.length_nil]; omega) | (simp only[List.length_append,List.length_drop,List.length_take,List.length_cons,List.length_nil]; omega)) rfl (Fresh.of rfl) (nlr rfl)) ?_
   refine w_ ?_
   refine Qk ?_
   refine (?_:AC _ _ _ _ _)
   iterate 3 refine w_ ?_
   refine Qk<|QU ⟨k+1,by omega,rfl,rfl⟩ (by omega) ?_
   exact Wk.of [(2,5)] rfl ⟨rfl,rfl,rfl,rfl,rfl,rfl,trivial⟩ ⟨(Qy (by first | exact Qag hx7 (by assumption) | exact QbE hx7 (by assumption))),trivial⟩ rfl rfl
theorem QfA (n:Int×(List (List Int×List Int)))(mark:ByteArray)(t:Int)(hnb:∀t∈n.2,VS mark t.1∧VS mark t.2)(hnl:n.2.length≤2000000):FC Tryz.prog 254 [(true,[dI n.1, .dat (.sl 159 (.pr (.sl 3 .int) (.sl 3 .int))) n.2]),(false,[dS mark]),(false,[dI t])] [] 0 (Zq (PV.tup [(false,[dS ((ZE n mark t).1)]),(false,[dB ((ZE n mark t).2)])])):=by
 have hml:=QbN mark
 refine QN Tryz.func254 rfl rfl Tryz.ntmps254 fun O_ hO w0_ N0_ X_ h0_ f0_=> ?_
 refine AC.fact (QG (x:= .tmp 0) (i:=0) (Qb rfl) rfl) fun hi1=>AC.fact (QA (x:= .tmp 2) (Qa rfl)) fun hi2=> ?_
 refine w_ ?_
 refine lc (Qw 0 (Qb rfl) rfl rfl (Fresh.of rfl) (nlr rfl)) ?_
 iterate 8 refine w_ ?_
 refine AL.fact (Qq (x:= .tmp 15) (Qa rfl)) fun hl3=> ?_
 iterate 2 refine w_ ?_
 refine lc (Qn (Z3 t 0 ((n.2.length:Int) - 1)) Xf ⟨_,_,rfl,(Qb rfl),⟨_,_,rfl,(Evl.ev (QM rfl)),⟨_,_,rfl,(Qb rfl),rfl⟩⟩⟩ rfl rfl) ?_
 iterate 2 refine w_ ?_
 cases hb4:(decide (0≤t∧t≤((n.2.length:Int) - 1)))
 ·have hb4':=of_decide_eq_false hb4
  iterate 15 refine w_ ?_
  refine Qf ?_
  subst hO
  have e5:((⟨#[]⟩:ByteArray):ByteArray)=((ZE n mark t).1):=by
   (rw[QdY (by omega)]; done)
  have e6:(false:Bool)=((ZE n mark t).2):=by
   (rw[QdY (by omega)]; done)
  exact Ql (QC rfl (Qd rfl) (Qd rfl)) (((congrArg (fun z_=>PV.tup [(false,[dS z_]),(false,[dB false])]) e5)).trans (congrArg (fun z_=>PV.tup [(false,[dS ((ZE n mark t).1)]),(false,[dB z_])]) e6)) rfl
 ·have hb4':=of_decide_eq_true hb4
  iterate 3 refine w_ ?_
  obtain ⟨x,hx8⟩:∃z,n.2[(t).toNat]? =some z:=⟨_,List.getElem?_eq_getElem (by omega)⟩
  have hx1:=(hnb _ (List.mem_of_getElem? hx8)).1
  have hx2:=(hnb _ (List.mem_of_getElem? hx8)).2
  refine lgy rfl rfl (Qh (Qa rfl) (Qa rfl) ZO Zh rfl (by omega) hx8) ?_
  iterate 2 refine w_ ?_
  refine lgy rfl rfl (Qn (Vx x mark hx1) Qb6 ⟨_,_,rfl,(Qb rfl),⟨_,_,rfl,(Qb rfl),rfl⟩⟩ rfl rfl) ?_
  iterate 3 refine w_ ?_
  cases hb9:(enb mark x)
  ·iterate 5 refine w_ ?_
   refine Qf ?_
   subst hO
   have e10:((⟨#[]⟩:ByteArray):ByteArray)=((ZE n mark t).1):=by
    (rw[Qeh (by assumption) (by assumption)]; done)
   have e11:(false:Bool)=((ZE n mark t).2):=by
    (rw[Qeh (by assumption) (by assumption)]; done)
   exact Ql (QC rfl (Qd rfl) (Qd rfl)) (((congrArg (fun z_=>PV.tup [(false,[dS z_]),(false,[dB false])]) e10)).trans (congrArg (fun z_=>PV.tup [(false,[dS ((ZE n mark t).1)]),(false,[dB z_])]) e11)) rfl
  ·iterate 4 refine w_ ?_
   refine lc (Hd 1 (Qa rfl) W9 QV Hm rfl (Fresh.of rfl) (nlr rfl)) ?_
   iterate 7 refine w_ ?_
   refine lc (Qh (Qa rfl) (Qa rfl) ZO Zh rfl (by omega) hx8) ?_
   iterate 2 refine w_ ?_
   refine AL.fact (Qq (x:= .tmp 37) (Qa rfl)) fun hl12=> ?_
   iterate 4 refine w_ ?_
   refine Qx (fun m_ s_=>∃(k:Nat) (l:List UInt8),k≤x.1.length∧m_=x.1.length - k∧(clr mark.toList x.1=clr l (x.1.drop k))∧(l.length=mark.toList.length)∧s_=⟨[(2,lI t),(3,lP 0 0),(6,lf (dS (⟨#[]⟩:ByteArray))),(7,lB false),(8,lR 2),(37,lf (.dat (.sl 3 .int) x.1)),(38,lI (x.1.length:Int)),(39,lI (k:Int))],[(0,some (.box 35 [dI n.1, .dat (.sl 159 (.pr (.sl 3 .int) (.sl 3 .int))) n.2])),(2,some (.bys 5 l))]⟩) ⟨0,mark.toList,Nat.zero_le _,rfl,rfl,rfl,rfl⟩ ?_ ?_
   · exact Wk.of [(0,0),(2,1)] rfl ⟨rfl,rfl,rfl,rfl,rfl,rfl,rfl,rfl,trivial⟩ ⟨rfl,rfl,trivial⟩ rfl rfl
   rintro m_ s_ ⟨k,l,hk13,hm14,hA,hL,rfl⟩
   iterate 4 refine w_ ?_
   cases hb15:(decide ((k:Int) < (x.1.length:Int)))
   ·have hb15':=of_decide_eq_false hb15
    refine w_ ?_
    refine QB ?_
    refine (?_:AC _ _ _ _ _)
    iterate 5 refine w_ ?_
    refine lc (Qh (Qa rfl) (Qa rfl) ZO Zh rfl (by omega) hx8) ?_
    iterate 2 refine w_ ?_
    refine AL.fact (Qq (x:= .tmp 52) (Qa rfl)) fun hl16=> ?_
    iterate 4 refine w_ ?_
    refine Qx (fun m_ s_=>∃(i:Nat) (l2:List UInt8),i≤x.2.length∧m_=x.2.length - i∧(UD (clr mark.toList x.1) x.2=UD l2 (x.2.drop i))∧(l2.length=mark.toList.length)∧s_=⟨[(8,lR 3),(52,lf (.dat (.sl 3 .int) x.2)),(53,lI (x.2.length:Int)),(54,lI (i:Int))],[(3,some (.bys 5 l2))]⟩) ⟨0,l,Nat.zero_le _,rfl,by rw[hA,Qjj (by omega)]; rfl,hL,rfl⟩ ?_ ?_
    · exact Wk.of [(3,2)] rfl ⟨rfl,rfl,rfl,rfl,trivial⟩ ⟨rfl,trivial⟩ rfl rfl
    rintro m_ s_ ⟨i,l2,hk17,hm18,hA2,hL2,rfl⟩
    iterate 4 refine w_ ?_
    cases hb19:(decide ((i:Int) < (x.2.length:Int)))
    ·have hb19':=of_decide_eq_false hb19
     refine w_ ?_
     refine QB ?_
     refine (?_:AC _ _ _ _ _)
     iterate 2 refine w_ ?_
     refine lc (Y2 (ys:=l2) (Qgl (Qa rfl) rfl) QV Hm W9 rfl) ?_
     iterate 3 refine w_ ?_
     refine Qf ?_
     subst hO
     have e20:((⟨(l2).toArray⟩:ByteArray):ByteArray)=((ZE n mark t).1):=by
      (rw[J2 (x:=x) (by assumption) (by omega) (by assumption),UN (hA2.trans (HJ (by omega)))]; done)
     have e21:(true:Bool)=((ZE n mark t).2):=by
      (rw[J2 (x:=x) (by assumption) (by omega) (by assumption),UN (hA2.trans (HJ (by omega)))]; done)
     exact Ql (QC rfl (Qd rfl) (Qd rfl)) (((congrArg (fun z_=>PV.tup [(false,[dS z_]),(false,[dB true])]) e20)).trans (congrArg (fun z_=>PV.tup [(false,[dS ((ZE n mark t).1)]),(false,[dB z_])]) e21)) rfl
    ·have hb19':=of_decide_eq_true hb19
     iterate 5 refine w_ ?_
     obtain ⟨x22,hx23⟩:∃z,x.2[i]? =some z:=⟨_,List.getElem?_eq_getElem (by omega)⟩
     have hrx22:=(hx2 _ (List.mem_of_getElem? hx23)).1
     refine lc (Qh (Qa rfl) (Qa rfl) QE QO rfl (by omega) hx23) ?_
     refine w_ ?_
     refine AL.fact (QA (x:= .tmp 57) (Qa rfl)) fun hi24=> ?_
     iterate 6 refine w_ ?_
     refine lc (Xq (Qa rfl) rfl (Qa rfl) QV QS rfl (by omega) (by first | omega | (simp only[List.length_set]; omega))) ?_
     obtain ⟨x25,hx26⟩:∃z,l2[(x22).toNat]? =some z:=⟨_,List.getElem?_eq_getElem (by omega)⟩
     refine lc (QbH (Qa rfl) rfl hx26 QS rfl)<|lc (Z7 (Qa rfl) (ZR 49 rfl) rfl) ?_
     refine w_ ?_
     cases hb27:(decide (x25=49))
     ·have hb27':=of_decide_eq_false hb27
      iterate 5 refine w_ ?_
      refine lc (Xq (Qa rfl) rfl (Qa rfl) QV QS rfl (by omega) (by first | omega | (simp only[List.length_set]; omega)))<|lc (VE (Qa rfl) rfl (by first | omega | (simp only[List.length_set]; omega)) (ZR 49 rfl) QS)<|Qk ?_
      refine (?_:AC _ _ _ _ _)
      iterate 3 refine w_ ?_
      refine Qk<|QU ⟨i+1,(l2.set ((x22).toNat) 49),by omega,rfl,hA2.trans (QdS hx23 hx26 (by assumption)),by rw[List.length_set]; exact hL2,rfl⟩ (by omega) ?_
      exact Wk.of [(3,3)] rfl ⟨rfl,rfl,rfl,rfl,trivial⟩ ⟨(Qnv (by first | rfl | simp)),trivial⟩ rfl rfl
     ·have hb27':=of_decide_eq_true hb27
      iterate 5 refine w_ ?_
      refine Qf ?_
      subst hO
      have e28:((⟨#[]⟩:ByteArray):ByteArray)=((ZE n mark t).1):=by
       (rw[J2 (x:=x) (by assumption) (by omega) (by assumption),KH (hA2.trans (Qbo hx23 hx26 (by assumption)))]; done)
      have e29:(false:Bool)=((ZE n mark t).2):=by
       (rw[J2 (x:=x) (by assumption) (by omega) (by assumption),KH (hA2.trans (Qbo hx23 hx26 (by assumption)))]; done)
      exact Ql (QC rfl (Qd rfl) (Qd rfl)) (((congrArg (fun z_=>PV.tup [(false,[dS z_]),(false,[dB false])]) e28)).trans (congrArg (fun z_=>PV.tup [(false,[dS ((ZE n mark t).1)]),(false,[dB z_])]) e29)) rfl
   ·have hb15':=of_decide_eq_true hb15
    iterate 5 refine w_ ?_
    obtain ⟨x30,hx31⟩:∃z,x.1[k]? =some z:=⟨_,List.getElem?_eq_getElem (by omega)⟩
    have hrx30:=(hx1 _ (List.mem_of_getElem? hx31)).1
    refine lc (Qh (Qa rfl) (Qa rfl) QE QO rfl (by omega) hx31) ?_
    refine w_ ?_
    refine AL.fact (QA (x:= .tmp 42) (Qa rfl)) fun hi32=> ?_
    iterate 5 refine w_ ?_
    refine lc (Xq (Qa rfl) rfl (Qa rfl) QV QS rfl (by omega) (by first | omega | (simp only[List.length_set]; omega)))<|lc (VE (Qa rfl) rfl (by first | omega | (simp only[List.length_set]; omega)) (ZR 48 rfl) QS)<|Qk ?_
    refine (?_:AC _ _ _ _ _)
    iterate 3 refine w_ ?_
    refine Qk<|QU ⟨k+1,(l.set ((x30).toNat) 48),by omega,rfl,hA.trans (Qge hx31),by rw[List.length_set]; exact hL,rfl⟩ (by omega) ?_
    exact Wk.of [(0,0),(2,2)] rfl ⟨rfl,rfl,rfl,rfl,rfl,rfl,rfl,rfl,trivial⟩ ⟨rfl,(Qnv (by first | rfl | simp)),trivial⟩ rfl rfl
theorem QcV (n:Int×(List (List Int×List Int)))(mark:ByteArray)(t:Int)(hnb:∀t∈n.2,VS mark t.1∧VS mark t.2)(ht:0≤t∧t < (n.2.length:Int)):FC Tryz.prog 184 [(true,[dI n.1, .dat (.sl 159 (.pr (.sl 3 .int) (.sl 3 .int))) n.2]),(false,[dS mark]),(false,[dI t])] [] 0 (Zq (PV.tup [(false,[dS ((Zy n mark t).1)]),(false,[dB ((Zy n mark t).2)])])):=by
 have hml:=QbN mark
 refine QN Tryz.func184 rfl rfl Tryz.ntmps184 fun O_ hO w0_ N0_ X_ h0_ f0_=> ?_
 refine AC.fact (QG (x:= .tmp 0) (i:=0) (Qb rfl) rfl) fun hi1=>AC.fact (QA (x:= .tmp 2) (Qa rfl)) fun hi2=> ?_
 refine w_ ?_
 refine lc (Qw 0 (Qb rfl) rfl rfl (Fresh.of rfl) (nlr rfl)) ?_
 iterate 5 refine w_ ?_
 refine lc (Hd 1 (Qa rfl) W9 QV Hm rfl (Fresh.of rfl) (nlr rfl)) ?_
 iterate 7 refine w_ ?_
 obtain ⟨x,hx4⟩:∃z,n.2[(t).toNat]? =some z:=⟨_,List.getElem?_eq_getElem (by omega)⟩
 have hx1:=(hnb _ (List.mem_of_getElem? hx4)).1
 have hx2:=(hnb _ (List.mem_of_getElem? hx4)).2
 refine lc (Qh (Qa rfl) (Qa rfl) ZO Zh rfl (by omega) hx4) ?_
 iterate 2 refine w_ ?_
 refine AL.fact (Qq (x:= .tmp 20) (Qa rfl)) fun hl5=> ?_
 iterate 4 refine w_ ?_
 refine Qx (fun m_ s_=>∃(k:Nat) (l:List UInt8),k≤x.1.length∧m_=x.1.length - k∧(clr mark.toList x.1=clr l (x.1.drop k))∧(l.length=mark.toList.length)∧s_=⟨[(2,lI t),(3,lP 0 0),(6,lf (dS (⟨#[]⟩:ByteArray))),(7,lB false),(8,lR 2),(20,lf (.dat (.sl 3 .int) x.1)),(21,lI (x.1.length:Int)),(22,lI (k:Int))],[(0,some (.box 35 [dI n.1, .dat (.sl 159 (.pr (.sl 3 .int) (.sl 3 .int))) n.2])),(2,some (.bys 5 l))]⟩) ⟨0,mark.toList,Nat.zero_le _,rfl,rfl,rfl,rfl⟩ ?_ ?_
 · exact Wk.of [(0,0),(2,1)] rfl ⟨rfl,rfl,rfl,rfl,rfl,rfl,rfl,rfl,trivial⟩ ⟨rfl,rfl,trivial⟩ rfl rfl
 rintro m_ s_ ⟨k,l,hk6,hm7,hA,hL,rfl⟩
 iterate 4 refine w_ ?_
 cases hb8:(decide ((k:Int) < (x.1.length:Int)))
 ·have hb8':=of_decide_eq_false hb8
  refine w_ ?_
  refine QB ?_
  refine (?_:AC _ _ _ _ _)
  iterate 5 refine w_ ?_
  refine lc (Qh (Qa rfl) (Qa rfl) ZO Zh rfl (by omega) hx4) ?_
  iterate 2 refine w_ ?_
  refine AL.fact (Qq (x:= .tmp 35) (Qa rfl)) fun hl9=> ?_
  iterate 4 refine w_ ?_
  refine Qx (fun m_ s_=>∃(i:Nat) (l2:List UInt8),i≤x.2.length∧m_=x.2.length - i∧(UD (clr mark.toList x.1) x.2=UD l2 (x.2.drop i))∧(l2.length=mark.toList.length)∧s_=⟨[(8,lR 3),(35,lf (.dat (.sl 3 .int) x.2)),(36,lI (x.2.length:Int)),(37,lI (i:Int))],[(3,some (.bys 5 l2))]⟩) ⟨0,l,Nat.zero_le _,rfl,by rw[hA,Qjj (by omega)]; rfl,hL,rfl⟩ ?_ ?_
  · exact Wk.of [(3,2)] rfl ⟨rfl,rfl,rfl,rfl,trivial⟩ ⟨rfl,trivial⟩ rfl rfl
  rintro m_ s_ ⟨i,l2,hk10,hm11,hA2,hL2,rfl⟩
  iterate 4 refine w_ ?_
  cases hb12:(decide ((i:Int) < (x.2.length:Int)))
  ·have hb12':=of_decide_eq_false hb12
   refine w_ ?_
   refine QB ?_
   refine (?_:AC _ _ _ _ _)
   iterate 2 refine w_ ?_
   refine lc (Y2 (ys:=l2) (Qgl (Qa rfl) rfl) QV Hm W9 rfl) ?_
   iterate 3 refine w_ ?_
   refine Qf ?_
   subst hO
   have e13:((⟨(l2).toArray⟩:ByteArray):ByteArray)=((Zy n mark t).1):=by
    first | (rw[J6 (x:=x) (by assumption),UN (hA2.trans (HJ (by omega)))]; done)
   have e14:(true:Bool)=((Zy n mark t).2):=by
    first | (rw[J6 (x:=x) (by assumption),UN (hA2.trans (HJ (by omega)))]; done)
   exact Ql (QC rfl (Qd rfl) (Qd rfl)) (((congrArg (fun z_=>PV.tup [(false,[dS z_]),(false,[dB true])]) e13)).trans (congrArg (fun z_=>PV.tup [(false,[dS ((Zy n mark t).1)]),(false,[dB z_])]) e14)) rfl
  ·have hb12':=of_decide_eq_true hb12
   iterate 5 refine w_ ?_
   obtain ⟨x15,hx16⟩:∃z,x.2[i]? =some z:=⟨_,List.getElem?_eq_getElem (by omega)⟩
   have hrx15:=(hx2 _ (List.mem_of_getElem? hx16)).1
   refine lc (Qh (Qa rfl) (Qa rfl) QE QO rfl (by omega) hx16) ?_
   refine w_ ?_
   refine AL.fact (QA (x:= .tmp 40) (Qa rfl)) fun hi17=> ?_
   iterate 6 refine w_ ?_
   refine lc (Xq (Qa rfl) rfl (Qa rfl) QV QS rfl (by omega) (by first | omega | (simp only[List.length_set]; omega))) ?_
   obtain ⟨x18,hx19⟩:∃z,l2[(x15).toNat]? =some z:=⟨_,List.getElem?_eq_getElem (by omega)⟩
   refine lc (QbH (Qa rfl) rfl hx19 QS rfl)<|lc (Z7 (Qa rfl) (ZR 49 rfl) rfl) ?_
   refine w_ ?_
   cases hb20:(decide (x18=49))
   ·have hb20':=of_decide_eq_false hb20
    iterate 5 refine w_ ?_
    refine lc (Xq (Qa rfl) rfl (Qa rfl) QV QS rfl (by omega) (by first | omega | (simp only[List.length_set]; omega)))<|lc (VE (Qa rfl) rfl (by first | omega | (simp only[List.length_set]; omega)) (ZR 49 rfl) QS)<|Qk ?_
    refine (?_:AC _ _ _ _ _)
    iterate 3 refine w_ ?_
    refine Qk<|QU ⟨i+1,(l2.set ((x15).toNat) 49),by omega,rfl,hA2.trans (QdS hx16 hx19 (by assumption)),by rw[List.length_set]; exact hL2,rfl⟩ (by omega) ?_
    exact Wk.of [(3,3)] rfl ⟨rfl,rfl,rfl,rfl,trivial⟩ ⟨(Qnv (by first | rfl | simp)),trivial⟩ rfl rfl
   ·have hb20':=of_decide_eq_true hb20
    iterate 5 refine w_ ?_
    refine Qf ?_
    subst hO
    have e21:((⟨#[]⟩:ByteArray):ByteArray)=((Zy n mark t).1):=by
     (rw[J6 (x:=x) (by assumption),KH (hA2.trans (Qbo hx16 hx19 (by assumption)))]; done)
    have e22:(false:Bool)=((Zy n mark t).2):=by
     (rw[J6 (x:=x) (by assumption),KH (hA2.trans (Qbo hx16 hx19 (by assumption)))]; done)
    exact Ql (QC rfl (Qd rfl) (Qd rfl)) (((congrArg (fun z_=>PV.tup [(false,[dS z_]),(false,[dB false])]) e21)).trans (congrArg (fun z_=>PV.tup [(false,[dS ((Zy n mark t).1)]),(false,[dB z_])]) e22)) rfl
 ·have hb8':=of_decide_eq_true hb8
  iterate 5 refine w_ ?_
  obtain ⟨x23,hx24⟩:∃z,x.1[k]? =some z:=⟨_,List.getElem?_eq_getElem (by omega)⟩
  have hrx23:=(hx1 _ (List.mem_of_getElem? hx24)).1
  refine lc (Qh (Qa rfl) (Qa rfl) QE QO rfl (by omega) hx24) ?_
  refine w_ ?_
  refine AL.fact (QA (x:= .tmp 25) (Qa rfl)) fun hi25=> ?_
  iterate 5 refine w_ ?_
  refine lc (Xq (Qa rfl) rfl (Qa rfl) QV QS rfl (by omega) (by first | omega | (simp only[List.length_set]; omega)))<|lc (VE (Qa rfl) rfl (by first | omega | (simp only[List.length_set]; omega)) (ZR 48 rfl) QS)<|Qk ?_
  refine (?_:AC _ _ _ _ _)
  iterate 3 refine w_ ?_
  refine Qk<|QU ⟨k+1,(l.set ((x23).toNat) 48),by omega,rfl,hA.trans (Qge hx24),by rw[List.length_set]; exact hL,rfl⟩ (by omega) ?_
  exact Wk.of [(0,0),(2,2)] rfl ⟨rfl,rfl,rfl,rfl,rfl,rfl,rfl,rfl,trivial⟩ ⟨rfl,(Qnv (by first | rfl | simp)),trivial⟩ rfl rfl
theorem Qa3 (n:Int×(List (List Int×List Int)))(mark:ByteArray)(t:Int)(hnb:∀t∈n.2,VS mark t.1∧VS mark t.2)(ht:0≤t∧t < (n.2.length:Int)):FC Tryz.prog 186 [(true,[dI n.1, .dat (.sl 159 (.pr (.sl 3 .int) (.sl 3 .int))) n.2]),(false,[dS mark]),(false,[dI t])] [] 0 (Zq (lB (Ji n mark t))):=by
 refine QN Tryz.func186 rfl rfl Tryz.ntmps186 fun O_ hO w0_ N0_ X_ h0_ f0_=> ?_
 refine AC.fact (QG (x:= .tmp 0) (i:=0) (Qb rfl) rfl) fun hi1=>AC.fact (QA (x:= .tmp 2) (Qa rfl)) fun hi2=> ?_
 refine w_ ?_
 refine lc (Qw 0 (Qb rfl) rfl rfl (Fresh.of rfl) (nlr rfl)) ?_
 iterate 7 refine w_ ?_
 obtain ⟨x,hx4⟩:∃z,n.2[(t).toNat]? =some z:=⟨_,List.getElem?_eq_getElem (by omega)⟩
 have hx1:=(hnb _ (List.mem_of_getElem? hx4)).1
 refine lc (Qh (Qa rfl) (Qa rfl) ZO Zh rfl (by omega) hx4) ?_
 iterate 2 refine w_ ?_
 refine AL.fact (Qq (x:= .tmp 14) (Qa rfl)) fun hl5=> ?_
 iterate 4 refine w_ ?_
 refine Qx (fun m_ s_=>∃(k:Nat),k≤x.1.length∧m_=x.1.length - k∧(∀j,j < k→∀y,x.1[j]? =some y→bAt mark y=49)∧s_=⟨[(1,lf (dS mark)),(14,lf (.dat (.sl 3 .int) x.1)),(15,lI (x.1.length:Int)),(16,lI (k:Int))],[]⟩) ⟨0,Nat.zero_le _,rfl,fun j hj=>absurd hj (Nat.not_lt_zero j),rfl⟩ ?_ ?_
 · exact Wk.of [] rfl ⟨rfl,rfl,rfl,rfl,trivial⟩ trivial rfl rfl
 rintro m_ s_ ⟨k,hk6,hm7,hA,rfl⟩
 iterate 4 refine w_ ?_
 cases hb8:(decide ((k:Int) < (x.1.length:Int)))
 ·have hb8':=of_decide_eq_false hb8
  refine w_ ?_
  refine QB ?_
  refine (?_:AC _ _ _ _ _)
  iterate 3 refine w_ ?_
  refine Qf ?_
  subst hO
  have e9:(true:Bool)=(Ji n mark t):=by
   first | exact (QkA (by assumption) hx1 hA (by omega)).symm
  exact Ql (Qm rfl (Qd rfl)) ((congrArg (fun z_=>lB z_) e9)) rfl
 ·have hb8':=of_decide_eq_true hb8
  iterate 5 refine w_ ?_
  obtain ⟨x10,hx11⟩:∃z,x.1[k]? =some z:=⟨_,List.getElem?_eq_getElem (by omega)⟩
  have hrx10:=(hx1 _ (List.mem_of_getElem? hx11)).1
  refine lc (Qh (Qa rfl) (Qa rfl) QE QO rfl (by omega) hx11) ?_
  refine w_ ?_
  refine AL.fact (QA (x:= .tmp 19) (Qa rfl)) fun hi12=> ?_
  iterate 5 refine w_ ?_
  obtain ⟨c13,hc14⟩:∃z,mark[(x10).toNat]? =some z:=⟨_,getElem?_pos _ _ (by omega)⟩
  refine lc (Vo (Qa rfl) (Qa rfl) rfl W9 (by omega) hc14)<|lc (YW (Qa rfl) (ZR 49 rfl) rfl) ?_
  refine w_ ?_
  cases hb15:(!decide (c13=49))
  ·have hb15':(c13=49):=Zb hb15
   refine w_ ?_
   refine AC.skip ?_
   refine (?_:AC _ _ _ _ _)
   iterate 3 refine w_ ?_
   refine Qk<|QU ⟨k+1,by omega,rfl,Qht hA hx11 (by assumption) (by assumption),rfl⟩ (by omega) ?_
   exact Wk.of [] rfl ⟨rfl,rfl,rfl,rfl,trivial⟩ trivial rfl rfl
  ·have hb15':¬(c13=49):=Zk hb15
   iterate 4 refine w_ ?_
   refine Qf ?_
   subst hO
   have e16:(false:Bool)=(Ji n mark t):=by
    exact (QlN (by assumption) hx1 hx11 (by assumption) (by assumption)).symm
   exact Ql (Qm rfl (Qd rfl)) ((congrArg (fun z_=>lB z_) e16)) rfl
theorem VF (n:Int×(List (List Int×List Int)))(mark:ByteArray)(hnb:∀t∈n.2,VS mark t.1∧VS mark t.2)(hnl:n.2.length≤2000000):FC Tryz.prog 108 [(true,[dI n.1, .dat (.sl 159 (.pr (.sl 3 .int) (.sl 3 .int))) n.2]),(false,[dS mark])] [] 0 (UC 3 .int (Q4 n mark)):=by
 refine QN Tryz.func108 rfl rfl Tryz.ntmps108 fun O_ hO w0_ N0_ X_ h0_ f0_=> ?_
 refine AC.fact (QG (x:= .tmp 0) (i:=0) (Qb rfl) rfl) fun hi1=> ?_
 refine w_ ?_
 refine lc (Qw 0 (Qb rfl) rfl rfl (Fresh.of rfl) (nlr rfl)) ?_
 iterate 9 refine w_ ?_
 refine AL.fact (Qq (x:= .tmp 8) (Qa rfl)) fun hl2=> ?_
 iterate 4 refine w_ ?_
 refine AC.wk (Wk.nilS 1 5 3 .int rfl (Fresh.of rfl) (nlr rfl)) ?_
 refine Qx (fun m_ s_=>∃(k:Nat),k≤n.2.length∧m_=n.2.length - k∧s_=⟨[(1,lf (dS mark)),(2,lP 0 0),(4,lf (.val (.slice none 0 0))),(5,lR 2),(9,lI (n.2.length:Int)),(10,lI (k:Int))],[(0,some (.box 35 [dI n.1, .dat (.sl 159 (.pr (.sl 3 .int) (.sl 3 .int))) n.2])),(2,some (.arr 3 .int (Yv (enb mark) n.2 k)))]⟩) ⟨0,Nat.zero_le _,rfl,rfl⟩ ?_ ?_
 · exact Wk.of [(0,0),(2,1)] rfl ⟨rfl,rfl,rfl,rfl,rfl,rfl,trivial⟩ ⟨rfl,(Qy (by first | rfl | simp)),trivial⟩ rfl rfl
 rintro m_ s_ ⟨k,hk3,hm4,rfl⟩
 have hpk:=Qah (enb mark) n.2 k
 iterate 4 refine w_ ?_
 cases hb5:(decide ((k:Int) < (n.2.length:Int)))
 ·have hb5':=of_decide_eq_false hb5
  refine w_ ?_
  refine QB ?_
  refine (?_:AC _ _ _ _ _)
  iterate 4 refine w_ ?_
  refine Qf ?_
  subst hO
  refine ZU (e:= .int) (xs:=(Yv (enb mark) n.2 k)) (Qm rfl (Qd rfl)) rfl ?_
  rw[show k=n.2.length by omega]; rfl
 ·have hb5':=of_decide_eq_true hb5
  iterate 12 refine w_ ?_
  refine lc (Qn (Qa3 n mark (k:Int) hnb (by omega)) QhB ⟨_,_,rfl,(Qb rfl),⟨_,_,rfl,(Qb rfl),⟨_,_,rfl,(Qb rfl),rfl⟩⟩⟩ rfl rfl) ?_
  refine w_ ?_
  cases hb6:(Ji n mark (k:Int))
  ·refine w_ ?_
   refine AC.skip ?_
   refine (?_:AC _ _ _ _ _)
   iterate 3 refine w_ ?_
   refine Qk<|QU ⟨k+1,by omega,rfl,rfl⟩ (by omega) ?_
   exact Wk.of [(0,0),(2,2)] rfl ⟨rfl,rfl,rfl,rfl,rfl,rfl,trivial⟩ ⟨rfl,(Qy (by first | exact QcP (by omega) (by assumption) | exact Qep (by omega) (by assumption))),trivial⟩ rfl rfl
  ·iterate 4 refine w_ ?_
   refine lc (Qg 3 (e:= .int) QE QO Yf rfl ⟨_,_,rfl,(Qb rfl),rfl⟩ (List.all_eq_true.1 rfl) ⟨_,_,_,_,rfl,⟨rfl,rfl⟩,⟨rfl,rfl⟩,rfl⟩ (by decide) rfl rfl (Fresh.of rfl) (nlr rfl))<|lc (QQ 4 (Qa rfl) rfl (Qa rfl) rfl rfl QE VB (by first | omega | (simp only[List.length_append,List.length_map,List.length_take,List.length_cons,List.length_nil]; omega) | (simp only[List.length_append,List.length_drop,List.length_take,List.length_cons,List.length_nil]; omega)) rfl (Fresh.of rfl) (nlr rfl)) ?_
   refine w_ ?_
   refine Qk ?_
   refine (?_:AC _ _ _ _ _)
   iterate 3 refine w_ ?_
   refine Qk<|QU ⟨k+1,by omega,rfl,rfl⟩ (by omega) ?_
   exact Wk.of [(0,0),(2,4)] rfl ⟨rfl,rfl,rfl,rfl,rfl,rfl,trivial⟩ ⟨rfl,(Qy (by first | exact QcP (by omega) (by assumption) | exact Qep (by omega) (by assumption))),trivial⟩ rfl rfl
end Go.Proofs.YtnakmhfjafecpaaGreat
