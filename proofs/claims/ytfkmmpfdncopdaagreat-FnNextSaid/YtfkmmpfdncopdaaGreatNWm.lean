/- Walks over abstract states: firing. -/
import Derived.Test.YtfkmmpfdncopdaaGreatNWj
set_option linter.unusedSimpArgs false
set_option linter.unusedVariables false
set_option linter.unusedSectionVars false
namespace Go.Proofs.YtfkmmpfdncopdaaGreat
open Go.RowKit
set_option maxRecDepth 100000
set_option maxHeartbeats 4000000
def bAt (m:ByteArray)(p:Int):UInt8:=(m[p.toNat]?).getD 0
theorem Q2 {m:ByteArray}{p:Int}{c:UInt8}(h:m[p.toNat]? =some c):bAt m p=c:=by unfold bAt; rw[h]; rfl
theorem XA (m:ByteArray):m.toList.length=m.size:=by simp[bc]
def Q4 {α:Type _}(f:α→Bool)(l:List α):Int:=match l.findIdx? f with | some i=>i | none=> -1
def NoneTo {α:Type _}(f:α→Bool)(l:List α)(k:Nat):Prop:=∀j,j < k→∀x,l[j]? =some x→f x=false
section
variable {α:Type _}{f:α→Bool}{l:List α}{k:Nat}{x:α}
theorem NoneTo.zero:NoneTo f l 0:=fun j hj=>absurd hj (b8 j)
theorem NoneTo.step (h:NoneTo f l k)(hx:l[k]? =some x)(hf:f x=false):NoneTo f l (k+1):=fun j hj y hy=>by
  by_cases e:j=k
  · subst e; rw[hx] at hy; cases hy; exact hf
  · exact h j (by omega) y hy
theorem NoneTo.at (h:NoneTo f l k)(hx:l[k]? =some x)(hf:f x=true):Q4 f l=k:=by
  obtain ⟨h1,h2⟩:=ah.1 hx
  have:l.findIdx? f=some k:=bT.2 ⟨h1,by rw[h2]; exact hf,fun j hj=>by
    have:=h j hj _ (aa (by omega))
    simp[this]⟩
  unfold Q4
  rw[this]
theorem NoneTo.no (h:NoneTo f l k)(hk:l.length≤k):Q4 f l= -1:=by
  have:l.findIdx? f=none:=List.findIdx?_eq_none_iff.2 fun x hx=>by
    obtain ⟨j,hj⟩:=aM.1 hx
    have:=(ah.1 hj).1
    exact h j (by omega) x hj
  unfold Q4
  rw[this]
theorem NoneTo.any_no (h:NoneTo f l k)(hk:l.length≤k):l.any f=false:=cq.2 fun x hx=>by
  obtain ⟨j,hj⟩:=aM.1 hx
  have:=(ah.1 hj).1
  simp[h j (by omega) x hj]
theorem Qnj (hx:l[k]? =some x)(hf:f x=true):l.any f=true:=bC.2 ⟨x,ap hx,hf⟩
theorem XL (f:α→Bool)(l:List α):decide (0≤Q4 f l)=l.any f:=by
  unfold Q4
  cases h:l.findIdx? f with
  | none=>
    have:=List.findIdx?_eq_none_iff.1 h
    rw[bU]
    simp only[bC,aV]
    constructor
    · intro h; omega
    · rintro ⟨x,hx,hf⟩; rw[this x hx] at hf; cases hf
  | some i=>
    obtain ⟨h1,h2,_⟩:=bT.1 h
    have:l.any f=true:=bC.2 ⟨_,cI h1,h2⟩
    rw[this]
    simp
def Xp (f:α→Bool)(l:List α):Nat→List Int
  | 0=>[]
  | k+1=>Xp f l k++(match l[k]? with | some x=>if f x then [(k:Int)] else [] | none=>[])
theorem Qka (hx:l[k]? =some x)(hf:f x=true):Xp f l k++[(k:Int)]=Xp f l (k+1):=by simp[Xp,hx,hf]
theorem Qng (hx:l[k]? =some x)(hf:f x=false):Xp f l k=Xp f l (k+1):=by simp[Xp,hx,hf]
theorem Qdx (f:α→Bool)(l:List α)(k:Nat):(Xp f l k).length≤k:=by
  induction k with
  | zero=>simp[Xp]
  | succ k ih=>
    simp only[Xp,ai]
    split
    · split <;> simp <;> omega
    · simp; omega
theorem Qkb {f:α→Bool}{l:List α}{k:Nat}{t:Int}(h:t∈Xp f l k):∃x,0≤t∧t < l.length∧t < k∧l[t.toNat]? =some x∧f x=true:=by
  induction k with
  | zero=>simp[Xp] at h
  | succ k ih=>
    simp only[Xp,aK] at h
    rcases h with h | h
    · obtain ⟨x,h1,h2,h3,h4⟩:=ih h; exact ⟨x,h1,h2,by omega,h4⟩
    · cases hx : l[k]? with
      | none=>rw[hx] at h; simp at h
      | some x=>
        rw[hx] at h
        cases hf:f x with
        | false=>simp[hf] at h
        | true=>
          simp only[hf,if_true,aC] at h
          subst h
          have:=(ah.1 hx).1
          exact ⟨x,by omega,by omega,by omega,by simpa using hx,hf⟩
theorem ZW {l:List α}{k:Nat}{x:α}(hx:l[k]? =some x):l.drop k=x :: l.drop (k+1):=by
  obtain ⟨h1,h2⟩:=ah.1 hx
  rw[br h1,h2]
end
def QaA (m:ByteArray)(ps:List Int):Prop:=∀p∈ps,(0≤p∧p < m.size)∧(bAt m p=48∨bAt m p=49)
def enb (m:ByteArray)(t:QP):Bool:= !t.1.any fun p=>decide (bAt m p=48)
def Ug (n:Y0)(m:ByteArray):List Int:=Xp (enb m) n.2 n.2.length
def clr (l:List UInt8):List Int→List UInt8
  | []=>l
  | p :: ps=>clr (l.set p.toNat 48) ps
def US (l:List UInt8):List Int→Option (List UInt8)
  | []=>some l
  | p :: ps=>if l[p.toNat]? =some 49 then none else US (l.set p.toNat 49) ps
def Uv (m:ByteArray)(t:QP):ByteArray×Bool:=match US (clr m.toList t.1) t.2 with
  | none=>(⟨#[]⟩,false)
  | some l=>(⟨l.toArray⟩,true)
def ZX (n:Y0)(m:ByteArray)(t:Int):ByteArray×Bool:=match n.2[t.toNat]? with
  | none=>(⟨#[]⟩,false)
  | some x=>Uv m x
def Qt0 (n:Y0)(m:ByteArray)(t:Int):ByteArray×Bool:=if 0≤t then (match n.2[t.toNat]? with
  | none=>(⟨#[]⟩,false)
  | some x=>if enb m x then Uv m x else (⟨#[]⟩,false)) else (⟨#[]⟩,false)
section
variable {n:Y0}{m:ByteArray}{t:Int}{x:QP}{l:List UInt8}{ps:List Int}{k:Nat}{p:Int}
theorem Ql2 (hx:ps[k]? =some p):clr l (ps.drop k)=clr (l.set p.toNat 48) (ps.drop (k+1)):=by rw[ZW hx,clr]
theorem Qoe (h:ps.length≤k):clr l (ps.drop k)=l:=by rw[bE h,clr]
theorem QkH (hx:ps[k]? =some p){c:UInt8}(hc:l[p.toNat]? =some c)(hn:decide (c=49)=false):US l (ps.drop k)=US (l.set p.toNat 49) (ps.drop (k+1)):=by
  rw[ZW hx,US,if_neg]
  rw[hc]
  intro h
  cases h
  simp at hn
theorem Qjf (hx:ps[k]? =some p){c:UInt8}(hc:l[p.toNat]? =some c)(hn:decide (c=49)=true):US l (ps.drop k)=none:=by
  rw[ZW hx,US,if_pos]
  rw[hc,ae hn]
theorem QfB (h:ps.length≤k):US l (ps.drop k)=some l:=by rw[bE h,US]
theorem QnF (l:List UInt8)(ps:List Int):(clr l ps).length=l.length:=by
  induction ps generalizing l with
  | nil=>rfl
  | cons p ps ih=>rw[clr,ih,aD]
theorem Qdw (h:US (clr m.toList x.1) x.2=none):Uv m x=(⟨#[]⟩,false):=by unfold Uv; rw[h]
theorem Qbz (h:US (clr m.toList x.1) x.2=some l):Uv m x=(⟨l.toArray⟩,true):=by unfold Uv; rw[h]
theorem QaD (hx:n.2[t.toNat]? =some x):ZX n m t=Uv m x:=by unfold ZX; rw[hx]
def H2 (n:Y0)(m:ByteArray)(t:Int):Bool:=match n.2[t.toNat]? with
  | some x=>enb m x
  | none=>false
theorem QaH (hx:n.2[t.toNat]? =some x):H2 n m t=enb m x:=by unfold H2; rw[hx]
theorem Qlu (h:QaA m x.1):enb m x=true↔∀p∈x.1,bAt m p=49:=by
  unfold enb
  simp only[bM,cq,aV]
  constructor
  · intro k p hp
    rcases (h p hp).2 with h1 | h1
    · exact absurd h1 (k p hp)
    · exact h1
  · intro k p hp h1
    rw[k p hp] at h1
    exact absurd h1 (by decide)
theorem Qiu {c:UInt8}(hA:∀j,j < k→∀y,ps[j]? =some y→bAt m y=49)(hx:ps[k]? =some p)(hc:m[p.toNat]? =some c)(hb:(!decide (c=49))=false):∀j,j < k+1→∀y,ps[j]? =some y→bAt m y=49:=fun j hj y hy=>by
  by_cases e:j=k
  · subst e; rw [hx] at hy; cases hy
    rw[Q2 hc]
    simpa using hb
  · exact hA j (by omega) y hy
theorem Ql6 {c:UInt8}(hn:n.2[t.toNat]? =some x)(hp:QaA m x.1)(hx:x.1[k]? =some p)(hc:m[p.toNat]? =some c)(hb:(!decide (c=49))=true):H2 n m t=false:=by
  rw[QaH hn,cr]
  intro h
  have:=(Qlu hp).1 h p (ap hx)
  rw[Q2 hc] at this
  simp[this] at hb
theorem Qkr (hn:n.2[t.toNat]? =some x)(hp:QaA m x.1)(hA:∀j,j < k→∀y,x.1[j]? =some y→bAt m y=49)(hk:x.1.length≤k):H2 n m t=true:=by
  rw[QaH hn]
  refine (Qlu hp).2 fun p h=> ?_
  obtain ⟨j,hj⟩:=aM.1 h
  have:=(ah.1 hj).1
  exact hA j (by omega) p hj
theorem Qbt (hk:k < n.2.length)(h:H2 n m (k:Int)=true):Xp (enb m) n.2 k++[(k:Int)]=Xp (enb m) n.2 (k+1):=by
  have hx:=aa hk
  rw[QaH (t:=(k:Int)) (show n.2[((k:Int)).toNat]? =some _ from hx)] at h
  exact Qka hx h
theorem Qde (hk:k < n.2.length)(h:H2 n m (k:Int)=false):Xp (enb m) n.2 k=Xp (enb m) n.2 (k+1):=by
  have hx:=aa hk
  rw[QaH (t:=(k:Int)) (show n.2[((k:Int)).toNat]? =some _ from hx)] at h
  exact Qng hx h
end
theorem QbI (n:Int×(List (List Int×List Int)))(mark:ByteArray)(t:Int)(hnb:∀t∈n.2,QaA mark t.1∧QaA mark t.2)(ht:0≤t∧t < (n.2.length:Int)):FC Tryz.prog 290 [(true,[dI n.1, .dat (.sl 237 (.pr (.sl 3 .int) (.sl 3 .int))) n.2]),(false,[dS mark]),(false,[dI t])] [] 0 (QH (PV.tup [(false,[dS ((ZX n mark t).1)]),(false,[dB ((ZX n mark t).2)])])):=by
 have hml:=XA mark
 refine Ql Tryz.func290 rfl rfl Tryz.ntmps290 fun O_ hO w0_ N0_ X_ h0_ f0_=> ?_
 refine acG 0 0 fun hi1=> ?_
 refine acI 2 fun hi2=> ?_
 refine w_ ?_
 refine xbx 0 ?_
 iterate 5 refine w_ ?_
 refine lc (QeR 1 (Qa rfl) Zc UF Qgm rfl (Fresh.of rfl) (nlr rfl)) ?_
 iterate 7 refine w_ ?_
 obtain ⟨x,hx4⟩:∃z,n.2[(t).toNat]? =some z:=⟨_,aa (by omega)⟩
 have hx1:=(hnb _ (ap hx4)).1
 have hx2:=(hnb _ (ap hx4)).2
 iterate 3 refine w_ ?_
 refine alL 20 fun hl5=> ?_
 iterate 4 refine w_ ?_
 refine Qy (fun m_ s_=>∃(k:Nat) (l:List UInt8),k≤x.1.length∧m_=x.1.length - k∧(clr mark.toList x.1=clr l (x.1.drop k))∧(l.length=mark.toList.length)∧s_=⟨[(2,lI t),(3,lP 0 0),(6,lf (dS (⟨#[]⟩:ByteArray))),(7,lB false),(8,lR 2),(20,lf (.dat (.sl 3 .int) x.1)),(21,lI (x.1.length:Int)),(22,lI (k:Int))],[bx 0 80 [dI n.1, .dat (.sl 237 (.pr (.sl 3 .int) (.sl 3 .int))) n.2],(2,some (.bys 5 l))]⟩) ⟨0,mark.toList,aR _,rfl,rfl,rfl,rfl⟩ ?_ ?_
 · exact Wk.of [(2,1)] rfl ⟨rfl,rfl,rfl,rfl,rfl,rfl,rfl,rfl,trivial⟩ ⟨rfl,rfl,trivial⟩ rfl rfl
 rintro m_ s_ ⟨k,l,hk6,hm7,hA,hL,rfl⟩
 iterate 4 refine w_ ?_
 cases hb8:(decide ((k:Int) < (x.1.length:Int)))
 ·have hb8':=ab hb8
  refine w_ ?_
  refine Qj ?_
  refine (?_:AC _ _ _ _ _)
  iterate 8 refine w_ ?_
  refine alL 35 fun hl9=> ?_
  iterate 4 refine w_ ?_
  refine Qy (fun m_ s_=>∃(i:Nat) (l2:List UInt8),i≤x.2.length∧m_=x.2.length - i∧(US (clr mark.toList x.1) x.2=US l2 (x.2.drop i))∧(l2.length=mark.toList.length)∧s_=⟨[(8,lR 3),(35,lf (.dat (.sl 3 .int) x.2)),(36,lI (x.2.length:Int)),(37,lI (i:Int))],[(3,some (.bys 5 l2))]⟩) ⟨0,l,aR _,rfl,by rw[hA,Qoe (by omega)]; rfl,hL,rfl⟩ ?_ ?_
  · exact Wk.of [(3,2)] rfl ⟨rfl,rfl,rfl,rfl,trivial⟩ ⟨rfl,trivial⟩ rfl rfl
  rintro m_ s_ ⟨i,l2,hk10,hm11,hA2,hL2,rfl⟩
  iterate 4 refine w_ ?_
  cases hb12:(decide ((i:Int) < (x.2.length:Int)))
  ·have hb12':=ab hb12
   refine w_ ?_
   refine Qj ?_
   refine (?_:AC _ _ _ _ _)
   iterate 2 refine w_ ?_
   refine lc (VU (ys:=l2) (Qm4 (Qa rfl) rfl) UF Qgm Zc rfl) ?_
   iterate 3 refine w_ ?_
   refine Qb ?_
   have e13:((⟨(l2).toArray⟩:ByteArray):ByteArray)=((ZX n mark t).1):=by
    first | (rw[QaD (x:=x) (by assumption),Qbz (hA2.trans (QfB (by omega)))]; done)
   have e14:(true:Bool)=((ZX n mark t).2):=by
    first | (rw[QaD (x:=x) (by assumption),Qbz (hA2.trans (QfB (by omega)))]; done)
   exact fr_ hO (e:=((congrArg (fun z_=>PV.tup [(false,[dS z_]),(false,[dB true])]) e13)).trans (congrArg (fun z_=>PV.tup [(false,[dS ((ZX n mark t).1)]),(false,[dB z_])]) e14))
  ·have hb12':=ae hb12
   iterate 5 refine w_ ?_
   obtain ⟨x15,hx16⟩:∃z,x.2[i]? =some z:=⟨_,aa (by omega)⟩
   have hrx15:=(hx2 _ (ap hx16)).1
   iterate 2 refine w_ ?_
   refine alI 40 fun hi17=> ?_
   iterate 6 refine w_ ?_
   refine lc (Ul (Qa rfl) rfl (Qa rfl) UF YJ rfl (by omega) (by first | omega | (simp only[aD]; omega))) ?_
   obtain ⟨x18,hx19⟩:∃z,l2[(x15).toNat]? =some z:=⟨_,aa (by omega)⟩
   refine lc (Qhd (Qa rfl) rfl hx19 YJ rfl)<|lc (Zm (Qa rfl) (QG 49 rfl) rfl) ?_
   refine w_ ?_
   cases hb20:(decide (x18=49))
   ·have hb20':=ab hb20
    iterate 5 refine w_ ?_
    refine lc (Ul (Qa rfl) rfl (Qa rfl) UF YJ rfl (by omega) (by first | omega | (simp only[aD]; omega)))<|lc (Qad (Qa rfl) rfl (by first | omega | (simp only[aD]; omega)) (QG 49 rfl) YJ)<|Qd ?_
    refine (?_:AC _ _ _ _ _)
    iterate 3 refine w_ ?_
    refine Qd<|Q0 ⟨i+1,(l2.set ((x15).toNat) 49),by omega,rfl,hA2.trans (QkH hx16 hx19 (by assumption)),by rw[aD]; exact hL2,rfl⟩ (by omega) ?_
    exact Wk.of [] rfl ⟨rfl,rfl,rfl,rfl,trivial⟩ ⟨(Qsc (by first | rfl | simp)),trivial⟩ rfl rfl
   ·have hb20':=ae hb20
    iterate 5 refine w_ ?_
    refine Qb ?_
    have e21:((⟨#[]⟩:ByteArray):ByteArray)=((ZX n mark t).1):=by
     (rw[QaD (x:=x) (by assumption),Qdw (hA2.trans (Qjf hx16 hx19 (by assumption)))]; done)
    have e22:(false:Bool)=((ZX n mark t).2):=by
     (rw[QaD (x:=x) (by assumption),Qdw (hA2.trans (Qjf hx16 hx19 (by assumption)))]; done)
    exact fr_ hO (e:=((congrArg (fun z_=>PV.tup [(false,[dS z_]),(false,[dB false])]) e21)).trans (congrArg (fun z_=>PV.tup [(false,[dS ((ZX n mark t).1)]),(false,[dB z_])]) e22))
 ·have hb8':=ae hb8
  iterate 5 refine w_ ?_
  obtain ⟨x23,hx24⟩:∃z,x.1[k]? =some z:=⟨_,aa (by omega)⟩
  have hrx23:=(hx1 _ (ap hx24)).1
  iterate 2 refine w_ ?_
  refine alI 25 fun hi25=> ?_
  iterate 5 refine w_ ?_
  refine lc (Ul (Qa rfl) rfl (Qa rfl) UF YJ rfl (by omega) (by first | omega | (simp only[aD]; omega)))<|lc (Qad (Qa rfl) rfl (by first | omega | (simp only[aD]; omega)) (QG 48 rfl) YJ)<|Qd ?_
  refine (?_:AC _ _ _ _ _)
  iterate 3 refine w_ ?_
  refine Qd<|Q0 ⟨k+1,(l.set ((x23).toNat) 48),by omega,rfl,hA.trans (Ql2 hx24),by rw[aD]; exact hL,rfl⟩ (by omega) ?_
  exact Wk.of [] rfl ⟨rfl,rfl,rfl,rfl,rfl,rfl,rfl,rfl,trivial⟩ ⟨rfl,(Qsc (by first | rfl | simp)),trivial⟩ rfl rfl
theorem Qag (n:Int×(List (List Int×List Int)))(mark:ByteArray)(t:Int)(hnb:∀t∈n.2,QaA mark t.1∧QaA mark t.2)(ht:0≤t∧t < (n.2.length:Int)):FC Tryz.prog 338 [(true,[dI n.1, .dat (.sl 237 (.pr (.sl 3 .int) (.sl 3 .int))) n.2]),(false,[dS mark]),(false,[dI t])] [] 0 (QH (lB (H2 n mark t))):=by
 refine Ql Tryz.func338 rfl rfl Tryz.ntmps338 fun O_ hO w0_ N0_ X_ h0_ f0_=> ?_
 refine acG 0 0 fun hi1=> ?_
 refine acI 2 fun hi2=> ?_
 refine w_ ?_
 refine xbx 0 ?_
 iterate 7 refine w_ ?_
 obtain ⟨x,hx4⟩:∃z,n.2[(t).toNat]? =some z:=⟨_,aa (by omega)⟩
 have hx1:=(hnb _ (ap hx4)).1
 iterate 3 refine w_ ?_
 refine alL 14 fun hl5=> ?_
 iterate 4 refine w_ ?_
 refine lpK x.1.length (fun k=>∀j,j < k→∀y,x.1[j]? =some y→bAt mark y=49) (fun k=>⟨[(1,lf (dS mark)),(14,lf (.dat (.sl 3 .int) x.1)),(15,lI (x.1.length:Int)),(16,lI (k:Int))],[]⟩) (fun j hj=>absurd hj (b8 j)) ?_ fun k hk6 hA=> ?_
 · exact Wk.of [] rfl ⟨rfl,rfl,rfl,rfl,trivial⟩ trivial rfl rfl
 iterate 4 refine w_ ?_
 cases hb7:(decide ((k:Int) < (x.1.length:Int)))
 ·have hb7':=ab hb7
  refine w_ ?_
  refine Qj ?_
  refine (?_:AC _ _ _ _ _)
  iterate 3 refine w_ ?_
  refine Qb<|fqB hO ?_
  first | exact (Qkr (by assumption) hx1 hA (by omega)).symm
 ·have hb7':=ae hb7
  iterate 5 refine w_ ?_
  obtain ⟨x8,hx9⟩:∃z,x.1[k]? =some z:=⟨_,aa (by omega)⟩
  have hrx8:=(hx1 _ (ap hx9)).1
  iterate 2 refine w_ ?_
  refine alI 19 fun hi10=> ?_
  iterate 5 refine w_ ?_
  obtain ⟨c11,hc12⟩:∃z,mark[(x8).toNat]? =some z:=⟨_,aY _ _ (by omega)⟩
  refine w_ ?_
  refine lc (QD (Qa rfl) (QG 49 rfl) rfl) ?_
  refine w_ ?_
  cases hb13:(!decide (c11=49))
  ·have hb13':(c11=49):=QA hb13
   refine w_ ?_
   refine AC.skip ?_
   refine (?_:AC _ _ _ _ _)
   iterate 3 refine w_ ?_
   refine Qd ?_
   refine lK_ (Qiu hA hx9 (by assumption) (by assumption)) ?_
   exact Wk.of [] rfl ⟨rfl,rfl,rfl,rfl,trivial⟩ trivial rfl rfl
  ·have hb13':¬(c11=49):=QS hb13
   iterate 4 refine w_ ?_
   refine Qb<|fqB hO ?_
   exact (Ql6 (by assumption) hx1 hx9 (by assumption) (by assumption)).symm
theorem JA (n:Int×(List (List Int×List Int)))(mark:ByteArray)(hnb:∀t∈n.2,QaA mark t.1∧QaA mark t.2)(hnl:n.2.length≤2000000):FC Tryz.prog 289 [(true,[dI n.1, .dat (.sl 237 (.pr (.sl 3 .int) (.sl 3 .int))) n.2]),(false,[dS mark])] [] 0 (WC 3 .int (Ug n mark)):=by
 refine Ql Tryz.func289 rfl rfl Tryz.ntmps289 fun O_ hO w0_ N0_ X_ h0_ f0_=> ?_
 refine acG 0 0 fun hi1=> ?_
 refine w_ ?_
 refine xbx 0 ?_
 iterate 9 refine w_ ?_
 refine alL 8 fun hl2=> ?_
 iterate 4 refine w_ ?_
 refine AC.wk (Wk.nilS 1 5 3 .int rfl (Fresh.of rfl) (nlr rfl)) ?_
 refine lp0 n.2.length (fun k=>⟨[(1,lf (dS mark)),(2,lP 0 0),(4,lf (.val (.slice none 0 0))),(5,lR 2),(9,lI (n.2.length:Int)),(10,lI (k:Int))],[bx 0 80 [dI n.1, .dat (.sl 237 (.pr (.sl 3 .int) (.sl 3 .int))) n.2],ar 2 3 .int (Xp (enb mark) n.2 k)]⟩) ?_ fun k hk3=> ?_
 · exact Wk.of [(2,1)] rfl ⟨rfl,rfl,rfl,rfl,rfl,rfl,trivial⟩ ⟨rfl,(Qn (by first | rfl | simp)),trivial⟩ rfl rfl
 have hpk:=Qdx (enb mark) n.2 k
 iterate 4 refine w_ ?_
 cases hb4:(decide ((k:Int) < (n.2.length:Int)))
 ·have hb4':=ab hb4
  refine w_ ?_
  refine Qj ?_
  refine (?_:AC _ _ _ _ _)
  iterate 4 refine w_ ?_
  refine Qb<|fo_ hO ?_
  rw[show k=n.2.length by omega]; rfl
 ·have hb4':=ae hb4
  iterate 12 refine w_ ?_
  refine lc (dK (Qag n mark (k:Int) hnb (by omega)) QgI) ?_
  refine w_ ?_
  cases hb5:(H2 n mark (k:Int))
  ·refine w_ ?_
   refine AC.skip ?_
   refine (?_:AC _ _ _ _ _)
   iterate 3 refine w_ ?_
   refine Qd ?_
   refine l0_ ?_
   exact Wk.of [] rfl ⟨rfl,rfl,rfl,rfl,rfl,rfl,trivial⟩ ⟨rfl,(Qn (by first | exact Qbt (by omega) (by assumption) | exact Qde (by omega) (by assumption))),trivial⟩ rfl rfl
  ·iterate 4 refine w_ ?_
   refine lc (dBs 3 (e:= .int) Vu) ?_
   refine lc (dA 4 Vz) ?_
   refine w_ ?_
   refine Qd ?_
   refine (?_:AC _ _ _ _ _)
   iterate 3 refine w_ ?_
   refine Qd ?_
   refine l0_ ?_
   exact Wk.of [(2,4)] rfl ⟨rfl,rfl,rfl,rfl,rfl,rfl,trivial⟩ ⟨rfl,(Qn (by first | exact Qbt (by omega) (by assumption) | exact Qde (by omega) (by assumption))),trivial⟩ rfl rfl
end Go.Proofs.YtfkmmpfdncopdaaGreat
namespace Go.Proofs.YtfkmmpfdncopdaaGreat
open Go.RowKit
set_option maxRecDepth 100000
set_option maxHeartbeats 4000000
abbrev RS:=List ByteArray×List (Int×Int×Int)×List (Int×Int×Int)
abbrev Qfi:=Int×Int×Bool
def Yg (l:List ByteArray)(x:ByteArray):Int:=Q4 (fun y=>decide (y=x)) l
def goT (n:Y0)(k:Nat)(mk:ByteArray):List Int→RS→RS×Qfi
  | [],st=>(st,(-1, -1,true))
  | t :: ts,st=>
    if (ZX n mk t).2=false then (st,(k,t,false))
    else if 0≤Yg st.1 (ZX n mk t).1 then goT n k mk ts (st.1,st.2.1++[((k:Int),t,Yg st.1 (ZX n mk t).1)],st.2.2)
    else if st.1.length=300 then (st,(-1, -1,false))
    else goT n k mk ts (st.1++[(ZX n mk t).1],st.2.1++[((k:Int),t,(st.1.length:Int))],st.2.2++[((k:Int),t,(st.1.length:Int))])
def goK (n:Y0):Nat→Nat→RS→RS×Qfi
  | 0,_,st=>(st,(-1, -1,true))
  | f+1,k,st=>match st.1[k]? with
    | none=>(st,(-1, -1,true))
    | some mk=>if (goT n k mk (Ug n mk) st).2.2.2=true then goK n f (k+1) (goT n k mk (Ug n mk) st).1 else goT n k mk (Ug n mk) st
def Jh (n:Y0)(f k:Nat)(r:RS×Qfi):RS×Qfi:=if r.2.2.2=true then goK n f (k+1) r.1 else r
def Zr (s:Zq):RS×Qfi:=goK s.1 301 0 ([s.2.2.2],[],[((0:Int),(0:Int),(0:Int))])
def exV (s:Zq):(List ByteArray×List (Int×Int×Int))×Int×Int×Bool:=(((Zr s).1.1,(Zr s).1.2.1),(Zr s).2)
def l4V (s:Zq):(List ByteArray×List (Int×Int×Int))×List (Int×Int×Int)×Int×Int×Bool:=
  (((Zr s).1.1,(Zr s).1.2.1),(Zr s).1.2.2,(if 0≤(Zr s).2.2.1 then (Zr s).2.1 else 0),(Zr s).2.2.1,(!(Zr s).2.2.2&&decide ((Zr s).2.2.1 < 0)))
def QhM:List ByteArray×List (Int×Int×Int):=([],[])
section
variable [∀s,Decidable (StgOk s)]
def Qi (s:Zq):(List ByteArray×List (Int×Int×Int))×Bool:=if StgOk s∧(Zr s).2.2.2=true then (((Zr s).1.1,(Zr s).1.2.1),true) else (QhM,false)
end
theorem QkM (l:List ByteArray)(x y:ByteArray):Yg (l++[y]) x=if 0≤Yg l x then Yg l x else if y=x then (l.length:Int) else -1:=by
  unfold Yg Q4
  rw[List.findIdx?_append]
  cases h:l.findIdx? (fun z=>decide (z=x)) with
  | some i=>simp
  | none=>
    by_cases e:y=x
    · simp[e]
    · simp[e]
def IdxOf (Qt:List ByteArray)(idx:List (ByteArray×Int)):Prop:=∀x,X3 .str idx x=if 0≤Yg Qt x then some (Yg Qt x) else none
section
variable {Qt:List ByteArray}{idx:List (ByteArray×Int)}{x:ByteArray}{v b:List (Int×Int×Int)}{n:Y0}{k f i:Nat}{mk:ByteArray}{t:Int}{ts:List Int}{r:ByteArray×Bool}{j:Int}{s:Zq}{e:Qfi}
theorem IdxOf.new (h:IdxOf Qt idx)(hs:(X3 .str idx x).isSome=false):¬0≤Yg Qt x:=by
  rw[h x] at hs
  intro h0
  rw[if_pos h0] at hs; cases hs
theorem IdxOf.set (h:IdxOf Qt idx)(hs:(X3 .str idx x).isSome=false):IdxOf (Qt++[x]) (Ui .str idx x (Qt.length:Int)):=fun y=>by
  have h0:=h.new hs
  rw[Vi,QkM,h y]
  by_cases e:x=y
  · subst e
    rw[if_pos ((Ty.beq_iff .str x x).2 rfl),if_neg h0,if_pos rfl,if_pos (Int.natCast_nonneg _)]
  · have : Ty.beq .str x y = false := cr.2 fun h => e ((Ty.beq_iff .str x y).1 h)
    rw[if_neg (show¬Ty.beq .str x y=true by rw[this]; decide),if_neg e]
    by_cases h1:0≤Yg Qt y
    · rw[if_pos h1,if_pos h1,if_pos h1]
    · rw[if_neg h1,if_neg h1,if_neg (by decide)]
theorem IdxOf.one (x:ByteArray):IdxOf [x] (Ui .str ([]:List (ByteArray×Int)) x 0):=fun y=>by
  rw[Vi]
  by_cases e:x=y
  · subst e
    rw[if_pos ((Ty.beq_iff .str x x).2 rfl)]
    simp[Yg,Q4]
  · have : Ty.beq .str x y = false := cr.2 fun h => e ((Ty.beq_iff .str x y).1 h)
    rw[if_neg (show¬Ty.beq .str x y=true by rw[this]; decide)]
    simp[Yg,Q4,e,X3]
theorem U0 (hx:ts[i]? =some t)(hr:r=ZX n mk t)(hb:r.2=false):Jh n f k (goT n k mk (ts.drop i) (Qt,v,b))=((Qt,v,b),((k:Int),t,false)):=by
  subst hr
  rw[ZW hx,goT,if_pos hb]
  rfl
theorem QjF (hx:ts[i]? =some t)(hr:r=ZX n mk t)(hb:r.2=true)(hj:0≤Yg Qt r.1∧j=Yg Qt r.1):Jh n f k (goT n k mk (ts.drop i) (Qt,v,b))=Jh n f k (goT n k mk (ts.drop (i+1)) (Qt,v++[((k:Int),t,j)],b)):=by
  subst hr
  rw[ZW hx,goT,if_neg (by rw[hb]; decide),if_pos hj.1,hj.2]
theorem Vc (hx:ts[i]? =some t)(hr:r=ZX n mk t)(hb:r.2=true)(hj:¬0≤Yg Qt r.1)(hl:(Qt.length:Int)=300):Jh n f k (goT n k mk (ts.drop i) (Qt,v,b))=((Qt,v,b),(-1, -1,false)):=by
  subst hr
  rw[ZW hx,goT,if_neg (by rw[hb]; decide),if_neg hj,if_pos (show Qt.length=300 by omega)]
  rfl
theorem Qje (hx:ts[i]? =some t)(hr:r=ZX n mk t)(hb:r.2=true)(hj:¬0≤Yg Qt r.1)(hl:¬(Qt.length:Int)=300):Jh n f k (goT n k mk (ts.drop i) (Qt,v,b))=Jh n f k (goT n k mk (ts.drop (i+1)) (Qt++[r.1],v++[((k:Int),t,(Qt.length:Int))],b++[((k:Int),t,(Qt.length:Int))])):=by
  subst hr
  rw[ZW hx,goT,if_neg (by rw[hb]; decide),if_neg hj,if_neg (show¬Qt.length=300 by omega)]
theorem QnR (hi:ts.length≤i)(hk:k < 300):Jh n (300 - k) k (goT n k mk (ts.drop i) (Qt,v,b))=goK n (301 - (k+1)) (k+1) (Qt,v,b):=by
  rw[bE hi,goT,show 301 - (k+1)=300 - k by omega]
  rfl
theorem QqI (hx:Qt[k]? =some mk)(hk:k < 300):goK n (301 - k) k (Qt,v,b)=Jh n (300 - k) k (goT n k mk (Ug n mk) (Qt,v,b)):=by
  rw[show 301 - k=(300 - k)+1 by omega,goK]
  simp only[hx]
  rfl
theorem U6 (hk:Qt.length≤k):goK n f k (Qt,v,b)=((Qt,v,b),(-1, -1,true)):=by
  cases f with
  | zero=>rfl
  | succ f=>
    rw[goK]
    simp only[bp hk]
theorem QhR (h:Zr s=((Qt,v,b),e)):l4V s=((Qt,v),b,(if 0≤e.2.1 then e.1 else 0),e.2.1,(!e.2.2&&decide (e.2.1 < 0))):=by
  unfold l4V; rw[h]
theorem Kd (h:Zr s=((Qt,v,b),((k:Int),t,false)))(h0:0≤t):l4V s=((Qt,v),b,(k:Int),t,false):=by
  rw[QhR h]
  simp[h0]
theorem Va (h:Zr s=((Qt,v,b),(-1, -1,false))):l4V s=((Qt,v),b,0, -1,true):=by
  rw[QhR h]; rfl
theorem Hi (h:Zr s=((Qt,v,b),(-1, -1,true))):l4V s=((Qt,v),b,0, -1,false):=by
  rw[QhR h]; rfl
theorem Qnk {m:ByteArray}{n:Int}(h:JX m n){p:Int}(h0:0≤p)(h1:p < n):(0≤p∧p < m.size)∧(bAt m p=48∨bAt m p=49):=by
  obtain ⟨h2,h3⟩:=h
  have hp:p.toNat < m.size:=by omega
  refine ⟨⟨h0,by omega⟩, ?_⟩
  have e:bAt m p=m[p.toNat]:=by unfold bAt; rw[aY m p.toNat hp]; rfl
  rw[e]
  rcases h2 p.toNat hp hp with h | h
  · exact .inl (UInt8.toNat_inj.1 h)
  · exact .inr (UInt8.toNat_inj.1 h)
theorem Qd7 {m:ByteArray}{n:Int}(h:JX m n){ps:List Int}(hr:Uy ps (n - 1)):QaA m ps:=fun p hp=>by
  obtain ⟨j,hj⟩:=aM.1 hp
  have:=(hr j (ah.1 hj).1 p hj).1
  exact Qnk h (by omega) (by omega)
theorem Qqf (hv:Y1 n)(h:JX mk n.1):∀t∈n.2,QaA mk t.1∧QaA mk t.2:=fun t ht=>⟨Qd7 h (hv.2.2 t ht).2.1,Qd7 h (hv.2.2 t ht).2.2⟩
theorem XW (hx:(Ug n mk)[i]? =some t):0≤t∧t < n.2.length:=by
  obtain ⟨x,h1,h2,_⟩:=Qkb (ap hx)
  exact ⟨h1,h2⟩
theorem QfR (n:Y0)(mk:ByteArray):(Ug n mk).length≤n.2.length:=Qdx _ _ _
def LBits (l:List UInt8):Prop:=∀c∈l,c=48∨c=49
theorem LBits.set {l:List UInt8}(h:LBits l){c:UInt8}(hc:c=48∨c=49)(i:Nat):LBits (l.set i c):=fun d hd=>by
  rcases c9 hd with h1 | h1
  · exact h d h1
  · rw[h1]; exact hc
theorem LBits.clr {l:List UInt8}(h:LBits l)(ps:List Int):LBits (clr l ps):=by
  induction ps generalizing l with
  | nil=>exact h
  | cons p ps ih=>exact ih (h.set (.inl rfl) _)
theorem LBits.put {l l':List UInt8}(h:LBits l){ps:List Int}(hp:US l ps=some l'):LBits l'∧l'.length=l.length:=by
  induction ps generalizing l with
  | nil=>rw[US] at hp; cases hp; exact ⟨h,rfl⟩
  | cons p ps ih=>
    rw[US] at hp
    split at hp
    · cases hp
    · obtain ⟨h1, h2⟩ := ih (h.set (.inr rfl) _) hp
      exact ⟨h1,by rw[h2,aD]⟩
theorem Qkl {m:ByteArray}{n:Int}(h:JX m n):LBits m.toList:=fun c hc=>by
  rw[bc] at hc
  obtain ⟨i,hi,e⟩:=List.getElem_of_mem hc
  have h2:i < m.size:=by simpa using hi
  have h3:=h.1 i h2 h2
  have h4:m[i]=c:=by rw[← e]; rfl
  rw[h4] at h3
  rcases h3 with h | h
  · exact .inl (UInt8.toNat_inj.1 h)
  · exact .inr (UInt8.toNat_inj.1 h)
theorem QjS {l:List UInt8}{n:Int}(h:LBits l)(hl:(l.length:Int)=n):JX ⟨l.toArray⟩ n:=by
  refine ⟨fun k hk hk'=> ?_,by rw[← hl]; rfl⟩
  have h1:(⟨l.toArray⟩:ByteArray)[k]∈l:=by
    show l.toArray[k]∈l
    simp
  rcases h _ h1 with h | h
  · exact .inl (by rw[h]; rfl)
  · exact .inr (by rw[h]; rfl)
theorem Qbm (hm:JX mk n.1)(hr:r=ZX n mk t)(h:r.2=true):JX r.1 n.1:=by
  subst hr
  unfold ZX at h ⊢
  cases hx:n.2[t.toNat]? with
  | none=>rw[hx] at h; cases h
  | some x=>
    rw[hx] at h
    simp only at h ⊢
    unfold Uv at h ⊢
    cases hp:US (clr mk.toList x.1) x.2 with
    | none=>rw[hp] at h; cases h
    | some l=>
      obtain ⟨h1,h2⟩:=((Qkl hm).clr x.1).put hp
      refine QjS h1 ?_
      rw[h2,QnF,XA]
      exact hm.2
theorem Qi1 {p:ByteArray→Prop}(h:∀m∈Qt,p m)(hx:p x):∀m∈Qt++[x],p m:=fun m hm=>by
  rcases aK.1 hm with h1 | h1
  · exact h m h1
  · rw[aC.1 h1]; exact hx
theorem Ql9 (h:Qt[k]? =some mk):(Qt++[x])[k]? =some mk:=by
  rw[bf (ah.1 h).1]; exact h
end
theorem Qci (Qt:List ByteArray)(m:ByteArray):FC Tryz.prog 291 [(false,[.dat (.sl 9 .str) Qt]),(false,[dS m])] [] 0 (QH (lI (Yg Qt m))):=by
 refine Ql Tryz.func291 rfl rfl Tryz.ntmps291 fun O_ hO w0_ N0_ X_ h0_ f0_=> ?_
 iterate 6 refine w_ ?_
 refine alL 7 fun hl1=> ?_
 iterate 4 refine w_ ?_
 refine lpK Qt.length (fun k=>NoneTo (fun y=>decide (y=m)) Qt k) (fun k=>⟨[(1,lf (dS m)),(7,lf (.dat (.sl 9 .str) Qt)),(8,lI (Qt.length:Int)),(9,lI (k:Int))],[]⟩) (NoneTo.zero) ?_ fun k hk2 hno=> ?_
 · exact Wk.of [] rfl ⟨rfl,rfl,rfl,rfl,trivial⟩ trivial rfl rfl
 iterate 4 refine w_ ?_
 cases hb3:(decide ((k:Int) < (Qt.length:Int)))
 ·have hb3':=ab hb3
  refine w_ ?_
  refine Qj ?_
  refine (?_:AC _ _ _ _ _)
  iterate 3 refine w_ ?_
  refine Qb<|fqI hO ?_
  first | exact (hno.no (by omega)).symm
 ·have hb3':=ae hb3
  iterate 6 refine w_ ?_
  obtain ⟨x4,hx5⟩:∃z,Qt[k]? =some z:=⟨_,aa (by omega)⟩
  iterate 10 refine w_ ?_
  cases hb6:(decide (x4=m))
  ·have hb6':=ab hb6
   refine w_ ?_
   refine AC.skip ?_
   refine (?_:AC _ _ _ _ _)
   iterate 3 refine w_ ?_
   refine Qd ?_
   refine lK_ (hno.step hx5 (by assumption)) ?_
   exact Wk.of [] rfl ⟨rfl,rfl,rfl,rfl,trivial⟩ trivial rfl rfl
  ·have hb6':=ae hb6
   iterate 5 refine w_ ?_
   refine Qb<|fqI hO ?_
   exact (hno.at hx5 (by assumption)).symm
theorem Qas (s:(Int×(List (List Int×List Int)))×(List (ByteArray×Int))×(List (Int×Bool))×ByteArray)(hs:StgOk s):FC Tryz.prog 234 [(true,[dI s.1.1, .dat (.sl 237 (.pr (.sl 3 .int) (.sl 3 .int))) s.1.2, .dat (.sl 203 (.pr .str .int)) s.2.1, .dat (.sl 120 (.pr .int .bool)) s.2.2.1,dS s.2.2.2])] [] 0 (Is (ag [.ref 0, .ref 1, .ref 2,dI ((l4V s).2.2.1),dI ((l4V s).2.2.2.1),dB ((l4V s).2.2.2.2)]) [ar 0 9 .str (((l4V s).1).1),ar 1 184 (.pr .int (.pr .int .int)) (((l4V s).1).2),ar 2 184 (.pr .int (.pr .int .int)) ((l4V s).2.1)]):=by
 have hnl:=hs.net.2.1
 refine Ql Tryz.func234 rfl rfl Tryz.ntmps234 fun O_ hO w0_ N0_ X_ h0_ f0_=> ?_
 refine acG 0 0 fun hi1=> ?_
 refine w_ ?_
 refine xbx 0 ?_
 refine lc (xal 1 (.pr (.pr (.sl 9 .str) (.sl 184 (.pr .int (.pr .int .int)))) (.pr (.sl 184 (.pr .int (.pr .int .int))) (.pr .int (.pr .int .bool)))) QaO) ?_
 iterate 4 refine w_ ?_
 refine lc (dBs 2 (e:= .str) Yb) ?_
 refine lc (Qp Qa3 ⟨_,_,rfl,(Qm rfl),rfl⟩ (aB.1 rfl) rfl rfl)<|lc (Qp QaK rfl (aB.1 rfl) rfl rfl) ?_
 refine lc (dBs 3 (e:=(.pr .int (.pr .int .int))) VQ (hab:=by exact ⟨_,_,_,_,rfl,⟨[dI 0],[dI 0,dI 0],_,_,_,_,rfl,rfl,⟨rfl,rfl⟩,⟨[dI 0],[dI 0],_,_,_,_,rfl,rfl,⟨rfl,rfl⟩,⟨rfl,rfl⟩,rfl⟩,rfl⟩,⟨rfl,rfl⟩,rfl⟩)) ?_
 refine lc (Qp QoX ⟨_,_,rfl,(Qm rfl),⟨_,_,rfl,(Qm rfl),⟨_,_,rfl,(Evl.ev (Qo rfl)),rfl⟩⟩⟩ (aB.1 rfl) rfl rfl)<|lc (xal 4 (.pr (.pr (.sl 9 .str) (.sl 184 (.pr .int (.pr .int .int)))) (.pr (.sl 184 (.pr .int (.pr .int .int))) (.pr .int (.pr .int .bool)))) QaO) ?_
 iterate 7 refine w_ ?_
 refine AC.wk (Qu 6 (p:=4) (off:=1) 184 (.pr .int (.pr .int .int)) rfl rfl (Fresh.of rfl) (nlr rfl)) ?_
 refine Qy (fun m_ s_=>∃(k:Nat) (Qt:List ByteArray) (moves:List (Int×Int×Int)) (by_:List (Int×Int×Int)),k≤300∧m_=300 - k∧(Zr s=goK s.1 (301 - k) k (Qt,moves,by_))∧(∀m∈Qt,JX m s.1.1)∧(Qt.length≤300)∧(moves.length≤24*k)∧(by_.length≤24*k+1)∧s_=⟨[(1,lP 0 0),(2,lP 1 0),(3,lP 4 0),(4,lI (k:Int))],[bx 0 83 [dI s.1.1, .dat (.sl 237 (.pr (.sl 3 .int) (.sl 3 .int))) s.1.2, .dat (.sl 203 (.pr .str .int)) s.2.1, .dat (.sl 120 (.pr .int .bool)) s.2.2.1,dS s.2.2.2],bx 1 245 [.val (.slice none 0 0), .val (.slice none 0 0), .val (.slice none 0 0),dI 0,dI 0,dB false],bx 4 245 [.ref 5, .ref 7, .ref 8,dI 0,dI (-1),dB false],ar 5 9 .str Qt,ar 7 184 (.pr .int (.pr .int .int)) moves,ar 8 184 (.pr .int (.pr .int .int)) by_]⟩) ⟨0,[s.2.2.2],([]:((.sl 184 (.pr .int (.pr .int .int))):Ty).Den),[(0,0,0)],aR _,rfl,rfl,(by intro m hm; rw[aC.1 hm]; exact hs.bits),(aG rfl),(aG rfl),(aG rfl),rfl⟩ ?_ ?_
 · exact Wk.of [(5,2),(7,6),(8,3)] rfl ⟨rfl,rfl,rfl,rfl,trivial⟩ ⟨rfl,rfl,rfl,(Qn (by first | rfl | simp)),(Qn (by first | rfl | simp)),(Qn (by first | rfl | simp)),trivial⟩ rfl rfl
 rintro m_ s_ ⟨k,Qt,moves,by_,hk2,hm3,hA,hB,hl,hv,hy,rfl⟩
 iterate 9 refine w_ ?_
 cases hb4:(decide ((k:Int) < (Qt.length:Int)))
 ·have hb4':=ab hb4
  refine w_ ?_
  refine Qj ?_
  refine (?_:AC _ _ _ _ _)
  iterate 4 refine w_ ?_
  refine Qb ?_
  have e5:(0:Int)=((l4V s).2.2.1):=by
   (rw[Hi (hA.trans (U6 (by omega)))]; done)
  have e6:((-1):Int)=((l4V s).2.2.2.1):=by
   (rw[Hi (hA.trans (U6 (by omega)))]; done)
  have e7:(false:Bool)=((l4V s).2.2.2.2):=by
   (rw[Hi (hA.trans (U6 (by omega)))]; done)
  exact fi_ [(0,5),(1,7),(2,8)] hO ⟨(Qn (by (rw[Hi (hA.trans (U6 (by omega)))]; done))),(Qn (by (rw[Hi (hA.trans (U6 (by omega)))]; done))),(Qn (by (rw[Hi (hA.trans (U6 (by omega)))]; done))),trivial⟩ (h0:=(((congrArg (fun z_=>ag [.ref 5, .ref 7, .ref 8,dI z_,dI (-1),dB false]) e5)).trans (congrArg (fun z_=>ag [.ref 5, .ref 7, .ref 8,dI ((l4V s).2.2.1),dI z_,dB false]) e6)).trans (congrArg (fun z_=>ag [.ref 5, .ref 7, .ref 8,dI ((l4V s).2.2.1),dI ((l4V s).2.2.2.1),dB z_]) e7))
 ·have hb4':=ae hb4
  iterate 4 refine w_ ?_
  obtain ⟨mk,hx9⟩:∃z,Qt[k]? =some z:=⟨_,aa (by omega)⟩
  have hbm:=hB _ (ap hx9)
  have hnp:=Qqf hs.net hbm
  have hel:=QfR s.1 mk
  apply dW (i6 25 _ _ _ _ _ _ (io 31 (lf (.ept 5 1 k 0)) :: io 32 (lf (dS mk)) :: io 33 (lf (.dat (.sl 3 .int) (Ug s.1 mk))) :: i2 34 _ _ [])) [0,0,3,3,3,31,3,3,0,0,1023]
  iterate 6 refine z_ ?_
  refine zz (fun _ h_=>ac (ZL (e:= .str) (h_.v rfl) (h_.en 5 rfl) (h_.v rfl) Zd ZH rfl (by omega) (by first | omega | (simp only[aD]; omega))) rfl)<|zz (fun _ h_=>ac (Z7 (e:= .str) (h_.v rfl) (h_.n 5 rfl) hx9 rfl ZH rfl rfl) rfl) ?_
  refine zz (fun _ h_=>ac (dK (JA s.1 mk hnp (by omega)).frozen Qhf) rfl) ?_
  iterate 2 refine z_ ?_
  exact zN
  refine w_ ?_
  refine Qy (fun m_ s_=>∃(i:Nat) (marks2:List ByteArray) (moves2:List (Int×Int×Int)) (by2:List (Int×Int×Int)),i≤(Ug s.1 mk).length∧m_=(Ug s.1 mk).length - i∧(Zr s=Jh s.1 (300 - k) k (goT s.1 k mk ((Ug s.1 mk).drop i) (marks2,moves2,by2)))∧(∀m∈marks2,JX m s.1.1)∧(marks2.length≤300)∧(marks2[k]? =some mk)∧(moves2.length≤24*k+i)∧(by2.length≤24*k+1+i)∧s_=⟨[(1,lP 0 0),(2,lP 1 0),(3,lP 4 0),(4,lI (k:Int)),(17,lI (k:Int)),(18,lP 4 0),(19,lP 4 0),(21,lI (Qt.length:Int)),(22,lB true),(25,lP 0 0),(26,ag [dI s.1.1, .dat (.sl 237 (.pr (.sl 3 .int) (.sl 3 .int))) s.1.2]),(27,lP 4 0),(28,lP 4 0),(30,lI (k:Int)),(32,lf (dS mk)),(33,lf (.dat (.sl 3 .int) (Ug s.1 mk))),(34,lI ((Ug s.1 mk).length:Int)),(35,lI (i:Int))],[bx 0 83 [dI s.1.1, .dat (.sl 237 (.pr (.sl 3 .int) (.sl 3 .int))) s.1.2, .dat (.sl 203 (.pr .str .int)) s.2.1, .dat (.sl 120 (.pr .int .bool)) s.2.2.1,dS s.2.2.2],bx 1 245 [.val (.slice none 0 0), .val (.slice none 0 0), .val (.slice none 0 0),dI 0,dI 0,dB false],bx 4 245 [.ref 9, .ref 10, .ref 11,dI 0,dI (-1),dB false],ar 9 9 .str marks2,ar 10 184 (.pr .int (.pr .int .int)) moves2,ar 11 184 (.pr .int (.pr .int .int)) by2]⟩) ⟨0,Qt,moves,by_,aR _,rfl,hA.trans (QqI hx9 (by omega)),hB,hl,hx9,(by omega),(by omega),rfl⟩ ?_ ?_
  · exact Wk.of [(9,5),(10,7),(11,8)] rfl ⟨rfl,rfl,rfl,rfl,rfl,rfl,rfl,rfl,rfl,rfl,rfl,rfl,rfl,rfl,rfl,rfl,rfl,rfl,trivial⟩ ⟨rfl,rfl,rfl,rfl,rfl,rfl,trivial⟩ rfl rfl
  rintro m_ s_ ⟨i,marks2,moves2,by2,hk10,hm11,hA2,hB2,hl2,hM2,hv2,hy2,rfl⟩
  have hk2:=(ah.1 hM2).1
  iterate 4 refine w_ ?_
  cases hb12:(decide ((i:Int) < ((Ug s.1 mk).length:Int)))
  ·have hb12':=ab hb12
   refine w_ ?_
   refine Qj ?_
   refine (?_:AC _ _ _ _ _)
   iterate 4 refine w_ ?_
   refine Qd<|Q0 ⟨k+1,marks2,moves2,by2,by omega,rfl,hA2.trans (QnR (by omega) (by omega)),hB2,hl2,(by omega),(by omega),rfl⟩ (by omega) ?_
   exact Wk.of [(5,9),(7,10),(8,11)] rfl ⟨rfl,rfl,rfl,rfl,trivial⟩ ⟨rfl,rfl,rfl,rfl,rfl,rfl,trivial⟩ rfl rfl
  ·have hb12':=ae hb12
   iterate 5 refine w_ ?_
   obtain ⟨x13,hx14⟩:∃z,(Ug s.1 mk)[i]? =some z:=⟨_,aa (by omega)⟩
   iterate 2 refine w_ ?_
   refine alI 38 fun hi15=> ?_
   iterate 2 refine w_ ?_
   apply dW (i6 40 _ _ _ _ _ _ (io 46 (lf (.ept 9 1 k 0)) :: io 47 (lf (dS mk)) :: io 48 _ :: io 49 (PV.tup [(false,[dS ((ZX s.1 mk x13).1)]),(false,[dB ((ZX s.1 mk x13).2)])]) :: io 39 _ :: i2 50 _ _ (i2 7 _ _ []))) [0,0,3,3,3,31,3,3,255,0,0,0,2048,4096,0]
   iterate 6 refine z_ ?_
   refine zz (fun _ h_=>ac (ZL (e:= .str) (h_.v rfl) (h_.en 9 rfl) (h_.v rfl) Zd ZH rfl (by omega) (by first | omega | (simp only[aD]; omega))) rfl)<|zz (fun _ h_=>ac (Z7 (e:= .str) (h_.v rfl) (h_.n 9 rfl) hM2 rfl ZH rfl rfl) rfl) ?_
   refine z_ ?_
   refine zz (fun _ h_=>ac (dK (QbI s.1 mk x13 hnp (XW hx14)) Qic) rfl) ?_
   iterate 5 refine z_ ?_
   exact zN
   iterate 5 refine w_ ?_
   cases hb16:((ZX s.1 mk x13).2)
   ·iterate 15 refine w_ ?_
    refine Qb ?_
    have e17:((k:Int):Int)=((l4V s).2.2.1):=by
     (rw[Kd (hA2.trans (U0 hx14 rfl (by assumption))) (XW hx14).1]; done)
    have e18:(x13:Int)=((l4V s).2.2.2.1):=by
     (rw[Kd (hA2.trans (U0 hx14 rfl (by assumption))) (XW hx14).1]; done)
    have e19:(false:Bool)=((l4V s).2.2.2.2):=by
     (rw[Kd (hA2.trans (U0 hx14 rfl (by assumption))) (XW hx14).1]; done)
    exact fi_ [(0,9),(1,10),(2,11)] hO ⟨(Qn (by (rw[Kd (hA2.trans (U0 hx14 rfl (by assumption))) (XW hx14).1]; done))),(Qn (by (rw[Kd (hA2.trans (U0 hx14 rfl (by assumption))) (XW hx14).1]; done))),(Qn (by (rw[Kd (hA2.trans (U0 hx14 rfl (by assumption))) (XW hx14).1]; done))),trivial⟩ (h0:=(((congrArg (fun z_=>ag [.ref 9, .ref 10, .ref 11,dI z_,dI x13,dB false]) e17)).trans (congrArg (fun z_=>ag [.ref 9, .ref 10, .ref 11,dI ((l4V s).2.2.1),dI z_,dB false]) e18)).trans (congrArg (fun z_=>ag [.ref 9, .ref 10, .ref 11,dI ((l4V s).2.2.1),dI ((l4V s).2.2.2.1),dB z_]) e19))
   ·iterate 7 refine w_ ?_
    refine lc (dB_ (Qci marks2 ((ZX s.1 mk x13).1)) QhK) ?_
    iterate 7 refine w_ ?_
    cases hb20:(decide ((Yg marks2 ((ZX s.1 mk x13).1)) < 0))
    ·have hb20':=ab hb20
     iterate 9 refine w_ ?_
     refine lc (Qp QaK ⟨_,_,rfl,(Qm rfl),⟨_,_,rfl,(Qm rfl),⟨_,_,rfl,(Qm rfl),rfl⟩⟩⟩ (aB.1 rfl) rfl rfl) ?_
     refine lc (dBs 12 (e:=(.pr .int (.pr .int .int))) VQ (hab:=by exact ⟨_,_,_,_,rfl,⟨[dI (k:Int)],[dI x13,dI (Yg marks2 ((ZX s.1 mk x13).1))],_,_,_,_,rfl,rfl,⟨rfl,rfl⟩,⟨[dI x13],[dI (Yg marks2 ((ZX s.1 mk x13).1))],_,_,_,_,rfl,rfl,⟨rfl,rfl⟩,⟨rfl,rfl⟩,rfl⟩,rfl⟩,⟨rfl,rfl⟩,rfl⟩)) ?_
     refine lc (dA 13 Qeg) ?_
     iterate 3 refine w_ ?_
     refine Qd ?_
     refine (?_:AC _ _ _ _ _)
     iterate 3 refine w_ ?_
     refine Qd<|Q0 ⟨i+1,marks2,(moves2++([((k:Int),x13,Yg marks2 ((ZX s.1 mk x13).1))])),by2,by omega,rfl,by first | exact hA2.trans (QjF hx14 rfl (by assumption) ⟨by omega,rfl⟩) | exact hA2.trans (Qje hx14 rfl (by assumption) (by omega) (by assumption)),by first | exact hB2 | exact Qi1 hB2 (Qbm (hB2 _ (ap hM2)) rfl (by assumption)),(by omega),by first | exact hM2 | exact Ql9 hM2,(by simp only[ai,au,aF]; omega),(by omega),rfl⟩ (by omega) ?_
     exact Wk.of [(10,13)] rfl ⟨rfl,rfl,rfl,rfl,rfl,rfl,rfl,rfl,rfl,rfl,rfl,rfl,rfl,rfl,rfl,rfl,rfl,rfl,trivial⟩ ⟨rfl,rfl,rfl,rfl,(Qn (by first | rfl | simp)),rfl,trivial⟩ rfl rfl
    ·have hb20':=ae hb20
     iterate 9 refine w_ ?_
     cases hb21:(decide ((marks2.length:Int)=300))
     ·have hb21':=ab hb21
      iterate 14 refine w_ ?_
      refine lc (dBs 14 (e:= .str) Yb) ?_
      refine lc (dA 15 Y6) ?_
      iterate 10 refine w_ ?_
      refine lc (Qp QaK ⟨_,_,rfl,(Qm rfl),⟨_,_,rfl,(Qm rfl),⟨_,_,rfl,(Qm rfl),rfl⟩⟩⟩ (aB.1 rfl) rfl rfl) ?_
      refine lc (dBs 16 (e:=(.pr .int (.pr .int .int))) VQ (hab:=by exact ⟨_,_,_,_,rfl,⟨[dI (k:Int)],[dI x13,dI (marks2.length:Int)],_,_,_,_,rfl,rfl,⟨rfl,rfl⟩,⟨[dI x13],[dI (marks2.length:Int)],_,_,_,_,rfl,rfl,⟨rfl,rfl⟩,⟨rfl,rfl⟩,rfl⟩,rfl⟩,⟨rfl,rfl⟩,rfl⟩)) ?_
      refine lc (dA 17 Qeg) ?_
      iterate 10 refine w_ ?_
      refine lc (Qp QaK ⟨_,_,rfl,(Qm rfl),⟨_,_,rfl,(Qm rfl),⟨_,_,rfl,(Qm rfl),rfl⟩⟩⟩ (aB.1 rfl) rfl rfl) ?_
      refine lc (dBs 18 (e:=(.pr .int (.pr .int .int))) VQ (hab:=by exact ⟨_,_,_,_,rfl,⟨[dI (k:Int)],[dI x13,dI (marks2.length:Int)],_,_,_,_,rfl,rfl,⟨rfl,rfl⟩,⟨[dI x13],[dI (marks2.length:Int)],_,_,_,_,rfl,rfl,⟨rfl,rfl⟩,⟨rfl,rfl⟩,rfl⟩,rfl⟩,⟨rfl,rfl⟩,rfl⟩)) ?_
      refine lc (dA 19 Qeg) ?_
      iterate 3 refine w_ ?_
      refine Qd ?_
      refine (?_:AC _ _ _ _ _)
      iterate 3 refine w_ ?_
      refine Qd<|Q0 ⟨i+1,(marks2++([(ZX s.1 mk x13).1])),(moves2++([((k:Int),x13,(marks2.length:Int))])),(by2++([((k:Int),x13,(marks2.length:Int))])),by omega,rfl,by first | exact hA2.trans (QjF hx14 rfl (by assumption) ⟨by omega,rfl⟩) | exact hA2.trans (Qje hx14 rfl (by assumption) (by omega) (by assumption)),by first | exact hB2 | exact Qi1 hB2 (Qbm (hB2 _ (ap hM2)) rfl (by assumption)),(by (simp only[ai,au,aF]; omega)),by first | exact hM2 | exact Ql9 hM2,(by simp only[ai,au,aF]; omega),(by (simp only[ai,au,aF]; omega)),rfl⟩ (by omega) ?_
      exact Wk.of [(9,15),(10,19),(11,17)] rfl ⟨rfl,rfl,rfl,rfl,rfl,rfl,rfl,rfl,rfl,rfl,rfl,rfl,rfl,rfl,rfl,rfl,rfl,rfl,trivial⟩ ⟨rfl,rfl,rfl,(Qn (by first | rfl | simp)),(Qn (by first | rfl | simp)),(Qn (by first | rfl | simp)),trivial⟩ rfl rfl
     ·have hb21':=ae hb21
      iterate 9 refine w_ ?_
      refine Qb ?_
      have e22:(0:Int)=((l4V s).2.2.1):=by
       (rw[Va (hA2.trans (Vc hx14 rfl (by assumption) (by omega) (by assumption)))]; done)
      have e23:((-1):Int)=((l4V s).2.2.2.1):=by
       (rw[Va (hA2.trans (Vc hx14 rfl (by assumption) (by omega) (by assumption)))]; done)
      have e24:(true:Bool)=((l4V s).2.2.2.2):=by
       (rw[Va (hA2.trans (Vc hx14 rfl (by assumption) (by omega) (by assumption)))]; done)
      exact fi_ [(0,9),(1,10),(2,11)] hO ⟨(Qn (by (rw[Va (hA2.trans (Vc hx14 rfl (by assumption) (by omega) (by assumption)))]; done))),(Qn (by (rw[Va (hA2.trans (Vc hx14 rfl (by assumption) (by omega) (by assumption)))]; done))),(Qn (by (rw[Va (hA2.trans (Vc hx14 rfl (by assumption) (by omega) (by assumption)))]; done))),trivial⟩ (h0:=(((congrArg (fun z_=>ag [.ref 9, .ref 10, .ref 11,dI z_,dI (-1),dB true]) e22)).trans (congrArg (fun z_=>ag [.ref 9, .ref 10, .ref 11,dI ((l4V s).2.2.1),dI z_,dB true]) e23)).trans (congrArg (fun z_=>ag [.ref 9, .ref 10, .ref 11,dI ((l4V s).2.2.1),dI ((l4V s).2.2.2.1),dB z_]) e24))
end Go.Proofs.YtfkmmpfdncopdaaGreat
namespace Go.Proofs.YtfkmmpfdncopdaaGreat
open Go.RowKit
set_option maxRecDepth 100000
set_option maxHeartbeats 4000000
abbrev DMv:=Int×Int×Int
abbrev DAr:=Int×Int×Bool×Int
def Qcx (ls:List ZF)(t:Int):ZF:=(ls[t.toNat]?).getD (0,false)
theorem QeI {ls:List ZF}{t:Int}{y:ZF}(h:ls[t.toNat]? =some y):Qcx ls t=y:=by unfold Qcx; rw[h]; rfl
def QjH (ls:List ZF)(m:DMv):DAr:=(m.1,(Qcx ls m.2.1).1,(Qcx ls m.2.1).2,m.2.2)
def Qv (ls:List ZF)(ms:List DMv):List DAr:=ms.map (QjH ls)
def bv (l:List UInt8)(i:Nat):UInt8:=(l[i]?).getD 0
theorem Z2 {l:List UInt8}{i:Nat}{c:UInt8}(h:l[i]? =some c):bv l i=c:=by unfold bv; rw[h]; rfl
def agr (vs:List UInt8)(i j:Nat):List UInt8×Bool×Bool:=
  if bv vs i=bv vs j then (vs,true,false) else if bv vs i=0 then (vs.set i (bv vs j),true,true) else if bv vs j=0 then (vs.set j (bv vs i),true,true) else (vs,false,false)
def agb (vs:List UInt8)(i:Nat)(c:UInt8):List UInt8×Bool×Bool:=
  if bv vs i=c then (vs,true,false) else if bv vs i=0 then (vs.set i c,true,true) else (vs,false,false)
section
variable {vs vs':List UInt8}{i j k:Nat}{a b c:UInt8}
theorem Qm1 (h1:vs[i]? =some a)(h2:vs[j]? =some b):agr vs i j=if a=b then (vs,true,false) else if a=0 then (vs.set i b,true,true) else if b=0 then (vs.set j a,true,true) else (vs,false,false):=by
  unfold agr; rw[Z2 h1,Z2 h2]
theorem QgX (h1:vs[i]? =some a):agb vs i c=if a=c then (vs,true,false) else if a=0 then (vs.set i c,true,true) else (vs,false,false):=by
  unfold agb; rw[Z2 h1]
theorem Qpa (vs:List UInt8)(i j:Nat):(agr vs i j).1.length=vs.length:=by
  unfold agr; split <;> try rfl
  split <;> try simp
  split <;> simp
theorem QeD (vs:List UInt8)(i:Nat)(c:UInt8):(agb vs i c).1.length=vs.length:=by
  unfold agb; split <;> try rfl
  split <;> simp
def XQ (vs:List UInt8):Nat:=(vs.filter fun c=>c=0).length
theorem QmL (n:Nat):XQ (List.replicate n 0)=n:=by simp[XQ]
theorem Qcs {l:List UInt8}(h:l[i]? =some 0)(hc:c≠0):XQ (l.set i c)+1=XQ l:=by
  induction l generalizing i with
  | nil=>simp at h
  | cons x l ih=>
    cases i with
    | zero=>
      simp only[bO,bk] at h
      subst h
      simp[XQ,hc]
    | succ i=>
      have:=ih (i:=i) (by simpa using h)
      simp only[XQ,cK,dd] at this ⊢
      split <;> simp_all
theorem QoY (h1:i < vs.length)(h2:j < vs.length):XQ (agr vs i j).1≤XQ vs∧((agr vs i j).2.2=true→XQ (agr vs i j).1 < XQ vs)∧((agr vs i j).2.1=true→(agr vs i j).2.2=false→(agr vs i j).1=vs):=by
  have e1:=aa h1
  have e2:=aa h2
  rw[Qm1 e1 e2]
  split
  · simp
  · rename_i h3
    split
    · rename_i h4
      rw[h4] at e1 h3
      have:=Qcs e1 (c:=vs[j]) (fun h=>h3 h.symm)
      simp; omega
    · rename_i h4
      split
      · rename_i h5
        rw[h5] at e2
        have:=Qcs e2 h4
        simp; omega
      · simp
theorem QjD (h1:i < vs.length)(hc:c≠0):XQ (agb vs i c).1≤XQ vs∧((agb vs i c).2.2=true→XQ (agb vs i c).1 < XQ vs)∧((agb vs i c).2.1=true→(agb vs i c).2.2=false→(agb vs i c).1=vs):=by
  have e1:=aa h1
  rw[QgX e1]
  split
  · simp
  · split
    · rename_i h4
      rw[h4] at e1
      have:=Qcs e1 hc
      simp; omega
    · simp
end
def UL (sig:Int)(a:DAr)(vs:List UInt8):Option (List UInt8×Bool):=
  if a.2.1=sig then
    (if (agb vs a.1.toNat (if (!a.2.2.1)=true then 49 else 48)).2.1=true∧(agb (agb vs a.1.toNat (if (!a.2.2.1)=true then 49 else 48)).1 a.2.2.2.toNat (if a.2.2.1=true then 49 else 48)).2.1=true then
      some ((agb (agb vs a.1.toNat (if (!a.2.2.1)=true then 49 else 48)).1 a.2.2.2.toNat (if a.2.2.1=true then 49 else 48)).1,(agb vs a.1.toNat (if (!a.2.2.1)=true then 49 else 48)).2.2||(agb (agb vs a.1.toNat (if (!a.2.2.1)=true then 49 else 48)).1 a.2.2.2.toNat (if a.2.2.1=true then 49 else 48)).2.2)
    else none)
  else if (agr vs a.1.toNat a.2.2.2.toNat).2.1=true then some ((agr vs a.1.toNat a.2.2.2.toNat).1,(agr vs a.1.toNat a.2.2.2.toNat).2.2) else none
def Vl (sig:Int):List DAr→List UInt8→Bool→Option (List UInt8×Bool)
  | [],vs,ch=>some (vs,ch)
  | a :: rs,vs,ch=>match UL sig a vs with
    | none=>none
    | some (vs',c)=>Vl sig rs vs' (ch||c)
def Jj (sig:Int)(arcs:List DAr):Nat→List UInt8→Option (List UInt8)
  | 0,vs=>some vs
  | f+1,vs=>match Vl sig arcs vs false with
    | none=>none
    | some (vs',ch)=>if ch=true then Jj sig arcs f vs' else some vs'
def Qt3 (sig:Int)(arcs:List DAr)(f:Nat):Option (List UInt8×Bool)→Option (List UInt8)
  | none=>none
  | some (vs',ch)=>if ch=true then Jj sig arcs f vs' else some vs'
def fz (c:UInt8):UInt8:=if c=0 then 48 else c
def Wg (n:Nat)(arcs:List DAr)(sig:Int):List UInt8×Bool:=match Jj sig arcs (n+1) (List.replicate n 0) with
  | none=>([],false)
  | some vs=>(vs.map fz,true)
def InR (n:Int)(a:DAr):Prop:=(0≤a.1∧a.1 < n)∧0≤a.2.2.2∧a.2.2.2 < n
section
variable {sig n:Int}{a:DAr}{vs vs':List UInt8}{arcs rs:List DAr}{ch ch' c:Bool}{f k:Nat}
theorem QeM (b:Bool):(if b=true then (49:UInt8) else 48)≠0:=by split <;> decide
theorem K1 (hr:InR vs.length a)(h:UL sig a vs=some (vs',c)):vs'.length=vs.length∧XQ vs'≤XQ vs∧(c=true→XQ vs' < XQ vs)∧(c=false→vs'=vs):=by
  obtain ⟨⟨r1,r2⟩,r3,r4⟩:=hr
  unfold UL at h
  have hf0:=QeM (!a.2.2.1)
  have ht0:=QeM a.2.2.1
  generalize (if (!a.2.2.1)=true then (49:UInt8) else 48)=f0 at h hf0
  generalize (if a.2.2.1=true then (49:UInt8) else 48)=t0 at h ht0
  have k1:=QjD (vs:=vs) (i:=a.1.toNat) (c:=f0) (by omega) hf0
  have k2:=QjD (vs:=(agb vs a.1.toNat f0).1) (i:=a.2.2.2.toNat) (c:=t0) (by rw[QeD]; omega) ht0
  have k3:=QoY (vs:=vs) (i:=a.1.toNat) (j:=a.2.2.2.toNat) (by omega) (by omega)
  have l1:=QeD vs a.1.toNat f0
  have l2:=QeD (agb vs a.1.toNat f0).1 a.2.2.2.toNat t0
  have l3:=Qpa vs a.1.toNat a.2.2.2.toNat
  generalize agb (agb vs a.1.toNat f0).1 a.2.2.2.toNat t0=g2 at h k2 l2
  generalize agb vs a.1.toNat f0=g1 at h k1 k2 l1 l2
  generalize agr vs a.1.toNat a.2.2.2.toNat=g3 at h k3 l3
  split at h
  · split at h
    · rename_i h1
      simp only[bk,Prod.mk.injEq] at h
      obtain ⟨rfl,rfl⟩:=h
      refine ⟨l2.trans l1,bw k2.1 k1.1,fun hc=> ?_,fun hc=> ?_⟩
      · rcases Bool.or_eq_true_iff.1 hc with h | h
        · exact Nat.lt_of_le_of_lt k2.1 (k1.2.1 h)
        · exact bh (k2.2.1 h) k1.1
      · obtain ⟨e1, e2⟩ := cV.1 hc
        rw[k2.2.2 h1.2 e2,k1.2.2 h1.1 e1]
    · cases h
  · split at h
    · rename_i h1
      simp only[bk,Prod.mk.injEq] at h
      obtain ⟨rfl,rfl⟩:=h
      exact ⟨l3,k3.1,k3.2.1,k3.2.2 h1⟩
    · cases h
theorem QbW {m:Nat}(hr:∀a∈rs,InR m a)(hl:vs.length=m)(h:Vl sig rs vs ch=some (vs',ch')):vs'.length=m∧XQ vs'≤XQ vs∧(ch'=true→ch=true∨XQ vs' < XQ vs)∧(ch'=false→vs'=vs∧ch=false):=by
  induction rs generalizing vs ch with
  | nil=>rw[Vl] at h; cases h; exact ⟨hl,aO _,fun h=> .inl h,fun h=>⟨rfl,h⟩⟩
  | cons a rs ih=>
    rw[Vl] at h
    cases hs:UL sig a vs with
    | none=>rw[hs] at h; cases h
    | some r=>
      obtain ⟨v1,c1⟩:=r
      rw[hs] at h
      obtain ⟨h1,h2,h3,h4⟩:=K1 (by rw[hl]; exact hr a (az ..)) hs
      obtain ⟨k1,k2,k3,k4⟩:=ih (fun b hb=>hr b (ax _ hb)) (h1.trans hl) h
      refine ⟨k1,bw k2 h2,fun e=> ?_,fun e=> ?_⟩
      · rcases k3 e with h | h
        · rcases Bool.or_eq_true_iff.1 h with h | h
          · exact .inl h
          · exact .inr (Nat.lt_of_le_of_lt k2 (h3 h))
        · exact .inr (bh h h2)
      · obtain ⟨e1, e2⟩ := k4 e
        obtain ⟨e3,e4⟩:=cV.1 e2
        exact ⟨e1.trans (h4 e4),e3⟩
theorem Jx {n:Nat}(h:Jj sig arcs (n+1) (List.replicate n 0)=none):Wg n arcs sig=([],false):=by unfold Wg; rw[h]
theorem Qk0 {n:Nat}(h:Jj sig arcs (n+1) (List.replicate n 0)=some vs):Wg n arcs sig=(vs.map fz,true):=by unfold Wg; rw[h]
def QtW (vs:List UInt8)(k:Nat):List UInt8:=(vs.take k).map fz++vs.drop k
end
end Go.Proofs.YtfkmmpfdncopdaaGreat
