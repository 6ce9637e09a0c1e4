/- Walks over abstract states: tidied lists of numbers; labels; which signals are no inputs; the name of the next state signal. -/
import Derived.Test.YtgpdhgadmjfokaaGreatGVi
import Derived.Test.YtgpdhgadmjfokaaGreatGFz
set_option linter.unusedSimpArgs false
set_option linter.unusedVariables false
set_option linter.unusedSectionVars false
namespace Go.Proofs.YtgpdhgadmjfokaaGreat
open Go.RowKit
set_option maxRecDepth 100000
set_option maxHeartbeats 4000000
def swL (as_:List DAr)(l:Int×Bool):List Int:=(as_.filter fun a=>decide (a.2.1=l.1∧a.2.2.1=l.2)).map fun a=>a.2.2.2
def QE (c:DSg)(sig:Int):Bool:=decide (0≤sig)&&decide (((c.1[sig.toNat]?).getD (ByteArray.empty,0)).2=1)
def QQ (l:List QB)(k:Nat):List Int:=((List.range k).filter fun i=> !decide (((l[i]?).getD (ByteArray.empty,0)).2=1)).map fun i=>((i:Nat):Int)
def Qsl (c:DSg):ByteArray:=if Zp (fun x:QB=>decide (x.1=(⟨#[122,48]⟩:ByteArray))) c.1 < 0 then ⟨#[122,48]⟩ else if Zp (fun x:QB=>decide (x.1=(⟨#[122,49]⟩:ByteArray))) c.1 < 0 then ⟨#[122,49]⟩ else ⟨#[122,50]⟩
section
variable {c:DSg}{l:List Int}{as_:List DAr}{a:DAr}{p:Int×Bool}{k:Nat}{n m y sig:Int}{x:QB}{ss:List QB}
theorem WO {p r:Int×Bool}(h:Ty.beq (.pr .int .bool) p r=true):p.1=r.1∧p.2=r.2:=by rw[(Ty.beq_iff _ _ _).1 h]; exact ⟨rfl,rfl⟩
theorem QaU {p r:Int×Bool}(h:Ty.beq (.pr .int .bool) p r=false):¬(p.1=r.1∧p.2=r.2):=fun g=>by
  have:p=r:=Prod.ext g.1 g.2
  rw[(Ty.beq_iff _ _ _).2 this] at h; cases h
theorem J6 (hx:ss[k]? =some x)(h:¬x.2=1):QQ ss k++[(k:Int)]=QQ ss (k+1):=by
  unfold QQ
  rw[cp,bO,cC]; simp[hx,h]
theorem QbZ (hx:ss[k]? =some x)(h:x.2=1):QQ ss k=QQ ss (k+1):=by
  unfold QQ
  rw[cp,bO,cC]; simp[hx,h]
theorem JX:(QQ ss k).length≤k:=by unfold QQ; rw[aN]; exact bA (bX ..) (by simp)
theorem JD:y∈QQ ss k↔∃i:Nat,y=(i:Int)∧i < k∧¬((ss[i]?).getD (ByteArray.empty,0)).2=1:=by
  unfold QQ
  simp only[bB,be,cd,c9,cQ]
  constructor
  · rintro ⟨i,⟨h1,h2⟩,rfl⟩; exact ⟨i,rfl,h1,h2⟩
  · rintro ⟨i,rfl,h1,h2⟩; exact ⟨i,⟨h1,h2⟩,rfl⟩
theorem QiH (h:¬0≤sig):false=QE c sig:=by unfold QE; rw[aF h]; rfl
theorem Kh (h:0≤sig)(hx:c.1[sig.toNat]? =some x):decide (x.2=1)=QE c sig:=by unfold QE; rw[aI h,hx]; rfl
theorem Qo3 (hP:∀j:Nat,(j:Int) < m→∀y,l[j]? =some y→y < n)(h:l[m.toNat]? =some n):l=Z7 ltI n l:=
  (QcB (k:=m.toNat) (fun j hj y hy=>by have:=hP j (by omega) y hy; simp[ltI,this]) h (by simp[ltI])).symm
theorem Qp7 (hP:∀j:Nat,(j:Int) < m→∀y,l[j]? =some y→y < n)(h0:0≤m)(h1:m≤(l.length:Int))(h:∀y,l[m.toNat]? =some y→¬y < n∧y≠n):l.take m.toNat++n :: l.drop m.toNat=Z7 ltI n l:=
  (Qir (k:=m.toNat) (fun j hj y hy=>by have:=hP j (by omega) y hy; simp[ltI,this]) (by omega) fun y hy=>by have:=h y hy; simp[ltI,this]).symm
theorem Qix (hP:∀j:Nat,(j:Int) < m→∀y,l[j]? =some y→y < n)(h0:0≤m)(h1:m≤(l.length:Int))(h:∀y,l[m.toNat]? =some y→¬y < n∧y≠n):
    (([]++(l.take (0+m.toNat)).drop 0)++[n])++(l.take (m.toNat+(l.length - m.toNat))).drop m.toNat=Z7 ltI n l:=by
  rw[← Qp7 hP h0 h1 h,show m.toNat+(l.length - m.toNat)=l.length by omega,List.take_length]
  simp
abbrev QsI:List ByteArray:=[(⟨#[122,48]⟩:ByteArray),(⟨#[122,49]⟩:ByteArray)]
end
theorem KH (l:List Int)(hl:l.length≤1000000):FC Tryz.prog 110 [(false,[.ref 0])] [ar 0 3 .int l] 0 (Yo 3 .int (ofG ltI l)):=by
 refine Qn Tryz.func110 rfl rfl Tryz.ntmps110 fun O_ hO w0_ N0_ X_ h0_ f0_=> ?_
 iterate 5 refine w_ ?_
 refine lc (dP 1 [] (QiV l (by omega)) Qbj) ?_
 iterate 3 refine w_ ?_
 refine lc (dP 2 [] (QhF (Y7 l) (by rw[UI]; omega)) QaE) ?_
 iterate 2 refine w_ ?_
 refine Qb<|fo_ hO ?_
 exact Qng _
theorem Qcb (l:List Int)(n:Int):FC Tryz.prog 285 [(false,[.dat (.sl 3 .int) l]),(false,[dI n])] [] 0 (QY (lB (decide (n∈l)))):=by
 refine Qn Tryz.func285 rfl rfl Tryz.ntmps285 fun O_ hO w0_ N0_ X_ h0_ f0_=> ?_
 refine acI 1 fun hi1=> ?_
 iterate 6 refine w_ ?_
 refine alL 7 fun hl2=> ?_
 iterate 4 refine w_ ?_
 refine lpK l.length (fun k=>∀j,j < k→∀y,l[j]? =some y→¬y=n) (fun k=>⟨[(1,lI n),(7,lf (.dat (.sl 3 .int) l)),(8,lI (l.length:Int)),(9,lI (k:Int))],[]⟩) ((fun j hj=>absurd hj (br j))) ?_ fun k hk3 hno=> ?_
 · exact Wk.of [] rfl ⟨rfl,rfl,rfl,rfl,trivial⟩ trivial rfl rfl
 iterate 4 refine w_ ?_
 cases hb4:(decide ((k:Int) < (l.length:Int)))
 ·have hb4':=ae hb4
  refine w_ ?_
  refine Qh ?_
  refine (?_:AC _ _ _ _ _)
  iterate 3 refine w_ ?_
  refine Qb<|fqB hO ?_
  first | exact (aF fun hm=>by obtain ⟨j,hj⟩:=aT.1 hm; exact hno j (by have:=(ah.1 hj).1; omega) n hj rfl).symm
 ·have hb4':=ab hb4
  iterate 5 refine w_ ?_
  obtain ⟨x5,hx6⟩:∃z,l[k]? =some z:=⟨_,aa (by omega)⟩
  iterate 2 refine w_ ?_
  refine alI 12 fun hi7=> ?_
  iterate 7 refine w_ ?_
  cases hb8:(decide (x5=n))
  ·have hb8':=ae hb8
   refine w_ ?_
   refine AC.skip ?_
   refine (?_:AC _ _ _ _ _)
   iterate 3 refine w_ ?_
   refine Qc ?_
   refine lK_ ((Y2 hno hx6 (by assumption))) ?_
   exact Wk.of [] rfl ⟨rfl,rfl,rfl,rfl,trivial⟩ trivial rfl rfl
  ·have hb8':=ab hb8
   iterate 4 refine w_ ?_
   refine Qb<|fqB hO ?_
   exact (aI (by have:=aj hx6; simp_all)).symm
theorem U2 (l:List Int)(n:Int)(hl:l.length≤1000000000):FC Tryz.prog 367 [(false,[.ref 0]),(false,[dI n])] [ar 0 3 .int l] 0 (Yo 3 .int (Z7 ltI n l)):=by
 refine Qn Tryz.func367 rfl rfl Tryz.ntmps367 fun O_ hO w0_ N0_ X_ h0_ f0_=> ?_
 refine acI 1 fun hi1=> ?_
 iterate 8 refine w_ ?_
 refine QK (fun m_ s_=>∃(m:Int),m_=((l.length:Int) - m).toNat∧(0≤m∧m≤(l.length:Int))∧(∀j:Nat,(j:Int) < m→∀y,l[j]? =some y→y < n)∧s_=⟨[(0,lR 0),(1,lI n),(4,lf (.val (.slice none 0 0))),(5,lI m)],[ar 0 3 .int l]⟩) ⟨0,rfl,(by omega),(fun j hj=>by omega),rfl⟩ ?_ ?_
 · exact Wk.of [] rfl ⟨rfl,rfl,rfl,rfl,trivial⟩ ⟨rfl,trivial⟩ rfl rfl
 rintro m_ s_ ⟨m,hm3,hm,hP,rfl⟩
 iterate 7 refine w_ ?_
 cases hb4:(decide (m < (l.length:Int)))
 ·have hb4':=ae hb4
  iterate 9 refine w_ ?_
  refine Qh ?_
  refine (?_:AC _ _ _ _ _)
  iterate 7 refine w_ ?_
  have hb5:(decide (m < (l.length:Int)))=false:=hb4
  try rw[hb5]
  iterate 11 refine w_ ?_
  refine lc (dBs 1 (e:= .int) ZL) ?_
  iterate 2 refine w_ ?_
  refine lc (ZD (e:= .int) (a:=0) (b:=(m).toNat) (l:=none) (h:=(some m)) (Qa rfl) rfl (by exact trivial) (by exact (Qa rfl)) Q9 Zn rfl (by first | (simp only[au,ap]; omega) | omega | (simp only[au,ap,ao,aw,aD]; omega)) (by first | (simp only[au,ap]; omega) | omega | (simp only[au,ap,ao,aw,aD]; omega)) (by first | (simp only[au,ap]; omega) | omega | (simp only[au,ap,ao,aw,aD]; omega)) (by first | rfl | simp) (by first | rfl | simp))<|lc (Zs 2 (Qa rfl) rfl (Wj (e:= .int) (Qa rfl) rfl (by omega)) rfl Q9 YO (by first | omega | (simp only[ao,aN,aw,ax,aK]; omega) | (simp only[ao,bu,aw,ax,aK]; omega)) rfl (Fresh.of rfl) (nlr rfl)) ?_
  iterate 5 refine w_ ?_
  refine lc (dBs 3 (e:= .int) ZL) ?_
  refine lc (dA 4 YO) ?_
  iterate 6 refine w_ ?_
  refine lc (ZD (e:= .int) (a:=(m).toNat) (b:=l.length - (m).toNat) (l:=(some m)) (h:=none) (Qa rfl) rfl (by exact (Qa rfl)) (by exact trivial) Q9 Zn rfl (by first | (simp only[au,ap]; omega) | omega | (simp only[au,ap,ao,aw,aD]; omega)) (by first | (simp only[au,ap]; omega) | omega | (simp only[au,ap,ao,aw,aD]; omega)) (by first | (simp only[au,ap]; omega) | omega | (simp only[au,ap,ao,aw,aD]; omega)) (by first | rfl | simp) (by first | rfl | simp))<|lc (Zs 5 (Qa rfl) rfl (Wj (e:= .int) (Qa rfl) rfl (by omega)) rfl Q9 YO (by first | omega | (simp only[ao,aN,aw,ax,aK]; omega) | (simp only[ao,bu,aw,ax,aK]; omega)) rfl (Fresh.of rfl) (nlr rfl)) ?_
  iterate 2 refine w_ ?_
  refine Qb<|fo_ hO ?_
  exact Qix hP (by omega) (by omega) (fun z hz=>by simp_all)
 ·have hb4':=ab hb4
  iterate 3 refine w_ ?_
  obtain ⟨y,hx7⟩:∃z,l[(m).toNat]? =some z:=⟨_,aa (by omega)⟩
  iterate 5 refine w_ ?_
  cases hb8:(decide (y < n))
  ·have hb8':=ae hb8
   refine w_ ?_
   refine Qh ?_
   refine (?_:AC _ _ _ _ _)
   iterate 7 refine w_ ?_
   have hb9:(decide (m < (l.length:Int)))=true:=hb4
   try rw[hb9]
   iterate 8 refine w_ ?_
   refine cd_ (fun hb10 hb10'=> ?_) fun hb10 hb10'=> ?_
   ·iterate 2 refine w_ ?_
    refine lc (dBs 6 (e:= .int) ZL) ?_
    iterate 2 refine w_ ?_
    refine lc (ZD (e:= .int) (a:=0) (b:=(m).toNat) (l:=none) (h:=(some m)) (Qa rfl) rfl (by exact trivial) (by exact (Qa rfl)) Q9 Zn rfl (by first | (simp only[au,ap]; omega) | omega | (simp only[au,ap,ao,aw,aD]; omega)) (by first | (simp only[au,ap]; omega) | omega | (simp only[au,ap,ao,aw,aD]; omega)) (by first | (simp only[au,ap]; omega) | omega | (simp only[au,ap,ao,aw,aD]; omega)) (by first | rfl | simp) (by first | rfl | simp))<|lc (Zs 7 (Qa rfl) rfl (Wj (e:= .int) (Qa rfl) rfl (by omega)) rfl Q9 YO (by first | omega | (simp only[ao,aN,aw,ax,aK]; omega) | (simp only[ao,bu,aw,ax,aK]; omega)) rfl (Fresh.of rfl) (nlr rfl)) ?_
    iterate 5 refine w_ ?_
    refine lc (dBs 8 (e:= .int) ZL) ?_
    refine lc (dA 9 YO) ?_
    iterate 6 refine w_ ?_
    refine lc (ZD (e:= .int) (a:=(m).toNat) (b:=l.length - (m).toNat) (l:=(some m)) (h:=none) (Qa rfl) rfl (by exact (Qa rfl)) (by exact trivial) Q9 Zn rfl (by first | (simp only[au,ap]; omega) | omega | (simp only[au,ap,ao,aw,aD]; omega)) (by first | (simp only[au,ap]; omega) | omega | (simp only[au,ap,ao,aw,aD]; omega)) (by first | (simp only[au,ap]; omega) | omega | (simp only[au,ap,ao,aw,aD]; omega)) (by first | rfl | simp) (by first | rfl | simp))<|lc (Zs 10 (Qa rfl) rfl (Wj (e:= .int) (Qa rfl) rfl (by omega)) rfl Q9 YO (by first | omega | (simp only[ao,aN,aw,ax,aK]; omega) | (simp only[ao,bu,aw,ax,aK]; omega)) rfl (Fresh.of rfl) (nlr rfl)) ?_
    iterate 2 refine w_ ?_
    refine Qb<|fo_ hO ?_
    exact Qix hP (by omega) (by omega) (fun z hz=>by simp_all)
   ·iterate 4 refine w_ ?_
    refine Qb<|fo_ hO ?_
    exact Qo3 hP (by simp_all)
  ·have hb8':=ab hb8
   iterate 7 refine w_ ?_
   refine Qc<|Zq ⟨(m+1),rfl,(by omega),(fun j hj z hz=>by by_cases e:j=m.toNat <;> first | (subst e; simp_all; done) | exact hP j (by omega) z hz),rfl⟩ (by omega) ?_
   exact Wk.of [] rfl ⟨rfl,rfl,rfl,rfl,trivial⟩ ⟨rfl,trivial⟩ rfl rfl
theorem VJ (c:(List (ByteArray×Int))×List ByteArray×(List (Int×Int×Bool×Int)))(sig:Int)(hs:sig < (c.1.length:Int)):FC Tryz.prog 97 [(true,[.dat (.sl 44 (.pr .str .int)) c.1, .dat (.sl 9 .str) c.2.1, .dat (.sl 46 (.pr .int (.pr .int (.pr .bool .int)))) c.2.2]),(false,[dI sig])] [] 0 (QY (lB (QE c sig))):=by
 refine Qn Tryz.func97 rfl rfl Tryz.ntmps97 fun O_ hO w0_ N0_ X_ h0_ f0_=> ?_
 refine acI 1 fun hi1=> ?_
 refine w_ ?_
 refine xbx 0 ?_
 iterate 6 refine w_ ?_
 cases hb2:(decide (0≤sig))
 ·have hb2':=ae hb2
  iterate 10 refine w_ ?_
  refine Qb<|fqB hO ?_
  first | exact QiH (by assumption)
 ·have hb2':=ab hb2
  iterate 3 refine w_ ?_
  obtain ⟨x3,hx4⟩:∃z,c.1[(sig).toNat]? =some z:=⟨_,aa (by omega)⟩
  iterate 7 refine w_ ?_
  refine Qb<|fqB hO ?_
  exact Kh (by assumption) hx4
theorem Hu (c:(List (ByteArray×Int))×List ByteArray×(List (Int×Int×Bool×Int)))(hl:c.1.length≤100000):FC Tryz.prog 226 [(true,[.dat (.sl 44 (.pr .str .int)) c.1, .dat (.sl 9 .str) c.2.1, .dat (.sl 46 (.pr .int (.pr .int (.pr .bool .int)))) c.2.2])] [] 0 (Yo 3 .int (QQ c.1 c.1.length)):=by
 refine Qn Tryz.func226 rfl rfl Tryz.ntmps226 fun O_ hO w0_ N0_ X_ h0_ f0_=> ?_
 refine w_ ?_
 refine xbx 0 ?_
 iterate 3 refine w_ ?_
 refine lc (dBs 1 (e:= .int) ZL) ?_
 iterate 6 refine w_ ?_
 refine alL 8 fun hl1=> ?_
 iterate 4 refine w_ ?_
 refine lp0 c.1.length (fun k=>⟨[(2,lf (.val (.slice none 0 0))),(3,lR 2),(8,lf (.dat (.sl 44 (.pr .str .int)) c.1)),(9,lI (c.1.length:Int)),(10,lI (k:Int))],[ar 2 3 .int (QQ c.1 k)]⟩) ?_ fun k hk2=> ?_
 · exact Wk.of [(2,1)] rfl ⟨rfl,rfl,rfl,rfl,rfl,trivial⟩ ⟨(Qj (rfl)),trivial⟩ rfl rfl
 have hfl:=JX (ss:=c.1) (k:=k)
 iterate 4 refine w_ ?_
 cases hb3:(decide ((k:Int) < (c.1.length:Int)))
 ·have hb3':=ae hb3
  refine w_ ?_
  refine Qh ?_
  refine (?_:AC _ _ _ _ _)
  iterate 4 refine w_ ?_
  refine Qb<|fo_ hO ?_
  (congr 1; omega)
 ·have hb3':=ab hb3
  iterate 6 refine w_ ?_
  obtain ⟨x4,hx5⟩:∃z,c.1[k]? =some z:=⟨_,aa (by omega)⟩
  iterate 2 refine w_ ?_
  refine lc (xal 3 (.pr .str .int) JH) ?_
  iterate 6 refine w_ ?_
  refine alI 16 fun hi6=> ?_
  iterate 2 refine w_ ?_
  cases hb7:(!decide (x4.2=1))
  ·have hb7':(x4.2=1):=QV hb7
   refine w_ ?_
   refine AC.skip ?_
   refine (?_:AC _ _ _ _ _)
   iterate 3 refine w_ ?_
   refine Qc ?_
   refine l0_ ?_
   exact Wk.of [] rfl ⟨rfl,rfl,rfl,rfl,rfl,trivial⟩ ⟨(Qj (by first | exact J6 hx5 (by assumption) | exact QbZ hx5 (by assumption))),trivial⟩ rfl rfl
  ·have hb7':¬(x4.2=1):=Za hb7
   iterate 4 refine w_ ?_
   refine lc (dBs 4 (e:= .int) ZL) ?_
   refine lc (dA 5 YO) ?_
   refine w_ ?_
   refine Qc ?_
   refine (?_:AC _ _ _ _ _)
   iterate 3 refine w_ ?_
   refine Qc ?_
   refine l0_ ?_
   exact Wk.of [(2,5)] rfl ⟨rfl,rfl,rfl,rfl,rfl,trivial⟩ ⟨(Qj (by first | exact J6 hx5 (by assumption) | exact QbZ hx5 (by assumption))),trivial⟩ rfl rfl
end Go.Proofs.YtgpdhgadmjfokaaGreat
namespace Go.Proofs.YtgpdhgadmjfokaaGreat
open Go.RowKit
set_option maxRecDepth 100000
set_option maxHeartbeats 4000000
abbrev W9 (a:DAr)(l:Int×Bool):Prop:=a.2.1=l.1∧a.2.2.1=l.2
def ixE (as_:List DAr):List (Int×Int):=as_.zipIdx.map fun x=>(x.1.1,(x.2:Int))
inductive ClS (as_:List DAr) (p r:Int×Bool):Int→Prop
  | base {a:DAr}:a∈as_→W9 a p→ClS as_ p r a.2.2.2
  | step {a:DAr}:a∈as_→ClS as_ p r a.1→¬W9 a r→ClS as_ p r a.2.2.2
def Qep (p:Int×Bool)(l:List Int)(a:DAr):List Int:=if W9 a p then Z7 ltI a.2.2.2 l else l
def Xy (r:Int×Bool)(l:List Int)(a:DAr):List Int:=if a.1∈l∧¬W9 a r then Z7 ltI a.2.2.2 l else l
def QJ {α:Type}(f:α→α):Nat→α→α
  | 0,x=>x
  | n+1,x=>f (QJ f n x)
def Ud (c:DSg)(p r:Int×Bool):List Int:=QJ (fun l=>c.2.2.foldl (Xy r) l) c.2.1.length (c.2.2.foldl (Qep p) [])
theorem Qls {α:Type}{f:α→α}{I:α→Prop}{m:α→Nat}{n:Nat}(hI:∀x,I x→I (f x))(hm:∀x,I x→m x≤n)(hs:∀x,I x→f x=x∨m x < m (f x)){x:α}(hx:I x):f (QJ f n x)=QJ f n x:=by
  have h1:∀k,I (QJ f k x):=fun k=>by
    induction k with
    | zero=>exact hx
    | succ k ih=>exact hI _ ih
  have h2:∀k,f (QJ f k x)=QJ f k x∨k≤m (QJ f k x):=fun k=>by
    induction k with
    | zero=>exact .inr (aU _)
    | succ k ih=>
      rcases ih with h | h
      · exact .inl (by show f (f (QJ f k x))=f (QJ f k x); rw[h,h])
      · rcases hs _ (h1 k) with h3 | h3
        · exact .inl (by show f (f (QJ f k x))=f (QJ f k x); rw[h3,h3])
        · exact .inr (by show k+1≤m (f (QJ f k x)); omega)
  rcases h2 n with h | h
  · exact h
  · rcases hs _ (h1 n) with h3 | h3
    · exact h3
    · have:=hm _ (hI _ (h1 n)); omega
section
variable {c:DSg}{as_:List DAr}{a:DAr}{p r:Int×Bool}{k i j n:Nat}{l out ts ys L:List Int}{seen:List Bool}{x y o q at_:Int}
theorem Jf:(ixE as_).length=as_.length:=by simp[ixE]
theorem Qhp (hx:as_[k]? =some a):(ixE as_)[k]? =some (a.1,(k:Int)):=by simp[ixE,List.getElem?_zipIdx,hx]
theorem QiM {e:Int×Int}:e∈ixE as_↔∃(j:Nat) (a:DAr),as_[j]? =some a∧e=(a.1,(j:Int)):=by
  rw[aT]
  constructor
  · rintro ⟨j, hj⟩
    have hl:=(ah.1 hj).1
    rw[Jf] at hl
    have ha:as_[j]? =some as_[j]:=aa hl
    rw[Qhp ha] at hj
    exact ⟨j,_,ha,by simpa using hj.symm⟩
  · rintro ⟨j,a,ha,rfl⟩; exact ⟨j,Qhp ha⟩
theorem Qcr (hr:∀a∈as_,0≤a.1)(hy:(Q1 n (ixE as_))[i]? =some ys):x∈ys↔∃(j:Nat) (a:DAr),as_[j]? =some a∧a.1=(i:Int)∧x=(j:Int):=by
  have hi:i < n:=by have:=(ah.1 hy).1; rw[YF] at this; exact this
  have h:=Qcz (es:=ixE as_) (l:=List.replicate n []) (i:=i) (t:=x) (fun e he=>by obtain ⟨j,a,ha,rfl⟩:=QiM.1 he; exact hr a (aj ha))
  have hy':((ixE as_).foldl JT (List.replicate n []))[i]? =some ys:=hy
  rw[hy'] at h
  simp only[ap,c7,hi,if_true,cH,aD,true_and,false_or] at h
  rw[h,QiM]
  constructor
  · rintro ⟨j,a,ha,e⟩; exact ⟨j,a,ha,by have:=congrArg Prod.fst e; exact this.symm,congrArg Prod.snd e⟩
  · rintro ⟨j,a,ha,e1,e2⟩; exact ⟨j,a,ha,by rw[e1,e2]⟩
theorem Qdt:∀{l:List Int} {lo hi:Int},l.Pairwise (fun x y=>ltI x y=true)→(∀x∈l,lo≤x∧x < hi)→lo≤hi→(l.length:Int)≤hi - lo
  | [],_,_,_,_,h=>by simp; omega
  | x :: l,lo,hi,h1,h2,h3=>by
    obtain ⟨h4,h5⟩:=bN.1 h1
    have h6:=h2 x (aB ..)
    have:=Qdt (l:=l) (lo:=x+1) (hi:=hi) h5 (fun y hy=>by have k1:=h4 y hy; have k2:=h2 y (aC _ hy); simp only[ltI,aS] at k1; omega) (by omega)
    simp only[ax]; omega
theorem Qkm (h:l.Nodup)(hr:∀x∈l,0≤x∧x < (n:Int)):l.length≤n:=by
  have h1:(Y7 l).Nodup:=(Wd l).nodup_iff.2 h
  have h2:(Y7 l).Pairwise fun x y=>ltI x y=true:=by
    have:=(Vo l).and h1
    exact this.imp fun ⟨k1,k2⟩=>by simp only[ltI,aS]; omega
  have:=Qdt h2 (lo:=0) (hi:=n) (fun x hx=>hr x (UC.1 hx)) (by omega)
  rw[UI] at this
  omega
abbrev Qr0 (l:List Int):Prop:=l.Pairwise fun x y=>ltI x y=true
theorem Qb3:∀(x:Int) (l:List Int),Z7 ltI x l=l∨(Z7 ltI x l).length=l.length+1
  | x,[]=> .inr rfl
  | x,y :: l=>by
    unfold Z7
    split
    · rcases Qb3 x l with h | h
      · exact .inl (by rw[h])
      · exact .inr (by simp[h])
    · split
      · exact .inl rfl
      · exact .inr rfl
theorem Qfv:Xy r l a=l∨(Xy r l a).length=l.length+1:=by
  unfold Xy
  split
  · exact Qb3 _ _
  · exact .inl rfl
theorem KP:∀(as_:List DAr) (l:List Int),as_.foldl (Xy r) l=l∨l.length < (as_.foldl (Xy r) l).length
  | [],l=> .inl rfl
  | a :: as_,l=>by
    rw[aL]
    rcases KP as_ (Xy r l a) with h | h <;> rcases Qfv (r:=r) (l:=l) (a:=a) with h2 | h2
    · exact .inl (by rw[h,h2])
    · exact .inr (by rw[h]; omega)
    · rw[h2] at h ⊢; exact .inr h
    · exact .inr (by omega)
structure BlS (c:DSg) (p r:Int×Bool) (l:List Int):Prop where
  str:Qr0 l
  cl:∀x∈l,ClS c.2.2 p r x
theorem BlS.put (h:BlS c p r l)(hx:ClS c.2.2 p r x):BlS c p r (Z7 ltI x l):=⟨Ju Zo h.str,fun y hy=>by
  rcases Z4.1 hy with rfl | hy
  · exact hx
  · exact h.cl y hy⟩
theorem JR:∀{as_:List DAr} {l:List Int},(∀a∈as_,a∈c.2.2)→BlS c p r l→BlS c p r (as_.foldl (Qep p) l)∧(∀x∈l,x∈as_.foldl (Qep p) l)∧∀a∈as_,W9 a p→a.2.2.2∈as_.foldl (Qep p) l
  | [],l,_,h=>⟨h,fun x hx=>hx,fun a ha=>by cases ha⟩
  | a :: as_,l,hs,h=>by
    have h1:BlS c p r (Qep p l a)∧(∀x∈l,x∈Qep p l a)∧(W9 a p→a.2.2.2∈Qep p l a):=by
      unfold Qep
      split
      · rename_i hl
        exact ⟨h.put (.base (hs a (aB ..)) hl),fun x hx=>Z4.2 (.inr hx),fun _=>Z4.2 (.inl rfl)⟩
      · rename_i hl
        exact ⟨h,fun x hx=>hx,fun hp=>absurd hp hl⟩
    obtain ⟨i1,i2,i3⟩:=JR (l:=Qep p l a) (fun b hb=>hs b (aC _ hb)) h1.1
    refine ⟨i1,fun x hx=>i2 x (h1.2.1 x hx),fun b hb hp=> ?_⟩
    rcases aJ.1 hb with rfl | hb
    · exact i2 _ (h1.2.2 hp)
    · exact i3 b hb hp
theorem Xr:∀{as_:List DAr} {l:List Int},(∀a∈as_,a∈c.2.2)→BlS c p r l→BlS c p r (as_.foldl (Xy r) l)∧(∀x∈l,x∈as_.foldl (Xy r) l)∧∀a∈as_,a.1∈l→¬W9 a r→a.2.2.2∈as_.foldl (Xy r) l
  | [],l,_,h=>⟨h,fun x hx=>hx,fun a ha=>by cases ha⟩
  | a :: as_,l,hs,h=>by
    have h1:BlS c p r (Xy r l a)∧(∀x∈l,x∈Xy r l a)∧(a.1∈l→¬W9 a r→a.2.2.2∈Xy r l a):=by
      unfold Xy
      split
      · rename_i hl
        exact ⟨h.put (.step (hs a (aB ..)) (h.cl _ hl.1) hl.2),fun x hx=>Z4.2 (.inr hx),fun _ _=>Z4.2 (.inl rfl)⟩
      · rename_i hl
        exact ⟨h,fun x hx=>hx,fun h1 h2=>absurd ⟨h1,h2⟩ hl⟩
    obtain ⟨i1,i2,i3⟩:=Xr (l:=Xy r l a) (fun b hb=>hs b (aC _ hb)) h1.1
    refine ⟨i1,fun x hx=>i2 x (h1.2.1 x hx),fun b hb hp hn=> ?_⟩
    rcases aJ.1 hb with rfl | hb
    · exact i2 _ (h1.2.2 hp hn)
    · exact i3 b hb (h1.2.1 _ hp) hn
theorem Qn8 (hr:∀a∈as_,0≤a.2.2.2∧a.2.2.2 < (n:Int))(h:ClS as_ p r x):0≤x∧x < (n:Int):=by
  cases h with
  | base h1 _=>exact hr _ h1
  | step h1 _ _=>exact hr _ h1
theorem QaS {f:List Int→List Int}(hf:∀l,BlS c p r l→BlS c p r (f l)∧∀x∈l,x∈f l)(h:BlS c p r l):∀k,BlS c p r (QJ f k l)∧∀x∈l,x∈QJ f k l
  | 0=>⟨h,fun x hx=>hx⟩
  | k+1=>by
    obtain ⟨h1,h2⟩:=QaS hf h k
    obtain ⟨h3,h4⟩:=hf _ h1
    exact ⟨h3,fun x hx=>h4 x (h2 x hx)⟩
theorem QaO (c:DSg)(p r:Int×Bool):BlS c p r (Ud c p r):=
  (QaS (fun l hl=>⟨(Xr (fun _ h=>h) hl).1,(Xr (fun _ h=>h) hl).2.1⟩) (JR (fun _ h=>h) ⟨cE,fun x hx=>by cases hx⟩).1 _).1
theorem QfU (hr:∀a∈c.2.2,InR c.2.1.length a):x∈Ud c p r↔ClS c.2.2 p r x:=by
  have h0:BlS c p r ([]:List Int):=⟨cE,fun x hx=>by cases hx⟩
  obtain ⟨a1,a2,a3⟩:=JR (as_:=c.2.2) (fun _ h=>h) h0
  have hrt:∀a∈c.2.2,0≤a.2.2.2∧a.2.2.2 < (c.2.1.length:Int):=fun a ha=>(hr a ha).2
  have hfx:=Qls (f:=fun l=>c.2.2.foldl (Xy r) l) (I:=BlS c p r) (m:=List.length) (n:=c.2.1.length) (fun l hl=>(Xr (fun _ h=>h) hl).1)
    (fun l hl=>by have:=Qdt hl.str (lo:=0) (hi:=c.2.1.length) (fun x hx=>Qn8 hrt (hl.cl x hx)) (by omega); omega) (fun l _=>KP _ _) a1
  have hsub:=(QaS (f:=fun l=>c.2.2.foldl (Xy r) l) (fun l hl=>⟨(Xr (fun _ h=>h) hl).1,(Xr (fun _ h=>h) hl).2.1⟩) a1 c.2.1.length)
  refine ⟨(QaO c p r).cl x,fun h=> ?_⟩
  induction h with
  | base h1 h2=>exact hsub.2 _ (a3 _ h1 h2)
  | step h1 _ h2 ih=>
    have:=(Xr (r:=r) (fun _ h=>h) hsub.1).2.2 _ h1 ih h2
    rw[hfx] at this
    exact this
def mkS (n:Nat)(l:List Int):List Bool:=l.foldl (fun s x=>s.set x.toNat true) (List.replicate n false)
theorem Qm1:(mkS n l).length=n:=by
  unfold mkS
  have:∀(l:List Int) (s:List Bool),(l.foldl (fun s x=>s.set x.toNat true) s).length=s.length:=fun l=>by
    induction l with
    | nil=>intro s; rfl
    | cons x l ih=>intro s; rw[aL,ih,ay]
  rw[this]; simp
theorem QpF (hr:∀x∈l,0≤x∧x < (n:Int))(h0:0≤x)(h1:x < (n:Int)):(mkS n l)[x.toNat]? =some true↔x∈l:=by
  unfold mkS
  have:∀(l:List Int) (s:List Bool),s.length=n→(∀x∈l,0≤x∧x < (n:Int))→((l.foldl (fun s x=>s.set x.toNat true) s)[x.toNat]? =some true↔s[x.toNat]? =some true∨x∈l):=fun l=>by
    induction l with
    | nil=>intro s _ _; simp
    | cons y l ih=>
      intro s hs hr
      have hy:=hr y (aB ..)
      rw[aL,ih _ (by rw[ay]; exact hs) fun z hz=>hr z (aC _ hz),aJ]
      by_cases e:x=y
      · subst e
        rw[aY (by omega)]; simp
      · rw[b7 (by omega)]; simp[e]
  rw[this l _ (by simp) hr]
  simp[c7]
structure BlI (c:DSg) (p r:Int×Bool) (at_:Int) (out:List Int) (seen:List Bool):Prop where
  rng:0≤at_∧at_≤(out.length:Int)
  nd:out.Nodup
  q:∀x∈out,(0≤x∧x < (c.2.1.length:Int))∧ClS c.2.2 p r x
  sn:seen.length=c.2.1.length
  se:∀x,0≤x→x < (c.2.1.length:Int)→(seen[x.toNat]? =some true↔x∈out)
  base:∀a∈c.2.2,W9 a p→a.2.2.2∈out
  cl:∀(j:Nat) (o:Int),(j:Int) < at_→out[j]? =some o→∀a∈c.2.2,a.1=o→¬W9 a r→a.2.2.2∈out
theorem QdL:x∈swL as_ p↔∃a∈as_,W9 a p∧a.2.2.2=x:=by
  unfold swL
  simp only[bB,be,aS]
  constructor
  · rintro ⟨a,⟨h1,h2⟩,h3⟩; exact ⟨a,h1,h2,h3⟩
  · rintro ⟨a,h1,h2,h3⟩; exact ⟨a,⟨h1,h2⟩,h3⟩
theorem QmY (hr:∀a∈c.2.2,InR c.2.1.length a)(h:out=ofG ltI (swL c.2.2 p))(hx:x∈out):0≤x∧x < (c.2.1.length:Int):=by
  subst h
  obtain ⟨a,h1,_,rfl⟩:=QdL.1 ((Xb Zo _).1 hx)
  exact (hr a h1).2
theorem QjJ (h:Qr0 l):l.Nodup:=h.imp fun h=>by simp only[ltI,aS] at h; omega
theorem BlI.start (hr:∀a∈c.2.2,InR c.2.1.length a)(h:out=ofG ltI (swL c.2.2 p))(hs:seen=mkS c.2.1.length out):BlI c p r 0 out seen where
  rng:=by omega
  nd:=by rw[h]; exact QjJ (Vj Zo _)
  q x hx:=⟨QmY hr h hx,by
    rw[h] at hx
    obtain ⟨a,h1,h2,rfl⟩:=QdL.1 ((Xb Zo _).1 hx)
    exact .base h1 h2⟩
  sn:=by rw[hs,Qm1]
  se x h0 h1:=by rw[hs]; exact QpF (fun y hy=>QmY hr h hy) h0 h1
  base a h1 h2:=by rw[h]; exact (Xb Zo _).2 (QdL.2 ⟨a,h1,h2,rfl⟩)
  cl j o hj:=by omega
theorem BlI.few (h:BlI c p r at_ out seen):out.length≤c.2.1.length:=Qkm h.nd fun x hx=>(h.q x hx).1
theorem BlI.inr (h:BlI c p r at_ out seen)(hx:out[k]? =some x):0≤x∧x < (c.2.1.length:Int):=(h.q x (aj hx)).1
theorem BlI.push (h:BlI c p r at_ out seen)(hr:∀a∈c.2.2,InR c.2.1.length a)(ho:o∈out)(ha:a∈c.2.2)(h1:a.1=o)(h2:¬W9 a r)(hs:seen[a.2.2.2.toNat]? =some false):BlI c p r at_ (out++[a.2.2.2]) (seen.set a.2.2.2.toNat true):=by
  have hra:=(hr a ha).2
  have hno:a.2.2.2∉out:=fun hm=>by have:=(h.se _ hra.1 hra.2).2 hm; rw[hs] at this; cases this
  have hk:=h.sn
  refine ⟨by have:=h.rng; simp; omega, ?_,fun x hx=> ?_,by rw[ay]; exact hk,fun x h0 h3=> ?_,fun b hb hl=>aX _ (h.base b hb hl),fun j o' hj hx b hb e1 e2=> ?_⟩
  · rw [bd]
    exact ⟨h.nd,by simp,fun x hx y hy e=>by rw[aR] at hy; rw[e,hy] at hx; exact hno hx⟩
  · rcases aO.1 hx with hx | hx
    · exact h.q x hx
    · rw [aR] at hx; subst hx
      exact ⟨hra, .step ha (by rw[h1]; exact (h.q o ho).2) h2⟩
  · rw [aO, aR]
    by_cases e:x=a.2.2.2
    · subst e; rw[aY (by omega)]; simp
    · rw[b7 (by omega),h.se x h0 h3]; simp[e]
  · have hjl := h.rng
    rw[ba (by omega)] at hx
    exact aX _ (h.cl j o' hj hx b hb e1 e2)
theorem QrM (h:BlI c p r at_ out seen)(h0:at_ < (out.length:Int))(ho:out[at_.toNat]? =some o)(hc:∀a∈c.2.2,a.1=o→¬W9 a r→a.2.2.2∈out):BlI c p r (at_+1) out seen:=by
  refine ⟨by have:=h.rng; omega,h.nd,h.q,h.sn,h.se,h.base,fun j o' hj hx=> ?_⟩
  by_cases e:(j:Int)=at_
  · have : j = at_.toNat := by omega
    subst this
    rw[ho] at hx; cases hx
    exact hc
  · exact h.cl j o' (by omega) hx
theorem Qsb (h:BlI c p r at_ out seen)(hr:∀a∈c.2.2,InR c.2.1.length a)(h0:¬at_ < (out.length:Int)):ofG ltI out=Ud c p r:=by
  refine TO.ext Zo (Vj Zo _) (QaO c p r).str fun x=> ?_
  rw[Xb Zo,QfU hr]
  refine ⟨fun hx=>(h.q x hx).2,fun hx=> ?_⟩
  induction hx with
  | base h1 h2=>exact h.base _ h1 h2
  | step h1 _ h2 ih=>
    obtain ⟨j,hj⟩:=aT.1 ih
    have:=(ah.1 hj).1
    exact h.cl j _ (by omega) hj _ h1 rfl h2
end
section
variable {c:DSg}{as_:List DAr}{a:DAr}{p r:Int×Bool}{k i j n:Nat}{l:List Int}
end
theorem JE (c:(List (ByteArray×Int))×List ByteArray×(List (Int×Int×Bool×Int)))(hr:∀a∈c.2.2,InR c.2.1.length a)(hl:c.2.2.length≤4000∧c.2.1.length≤300):FC Tryz.prog 479 [(true,[.dat (.sl 44 (.pr .str .int)) c.1, .dat (.sl 9 .str) c.2.1, .dat (.sl 46 (.pr .int (.pr .int (.pr .bool .int)))) c.2.2])] [] 0 (Yo 32 (.sl 3 .int) (Q1 c.2.1.length (ixE c.2.2))):=by
 refine Qn Tryz.func479 rfl rfl Tryz.ntmps479 fun O_ hO w0_ N0_ X_ h0_ f0_=> ?_
 refine w_ ?_
 refine xbx 0 ?_
 iterate 5 refine w_ ?_
 refine alL 7 fun hl1=> ?_
 refine w_ ?_
 refine lc (YD 1 (e:=(.sl 3 .int)) (n:=c.2.1.length) (Qa rfl) (Qa rfl) Xp QmP rfl (by omega) (by omega) rfl (Fresh.of rfl) (nlr rfl)) ?_
 iterate 6 refine w_ ?_
 refine alL 11 fun hl2=> ?_
 iterate 4 refine w_ ?_
 refine lp0 c.2.2.length (fun k=>⟨[(2,lf (.val (.slice none 0 0))),(3,lR 2),(11,lf (.dat (.sl 46 (.pr .int (.pr .int (.pr .bool .int)))) c.2.2)),(12,lI (c.2.2.length:Int)),(13,lI (k:Int))],[(2,some (.arr 32 (.sl 3 .int) (Q1 c.2.1.length ((ixE c.2.2).take k))))]⟩) ?_ fun k hk3=> ?_
 · exact Wk.of [(2,1)] rfl ⟨rfl,rfl,rfl,rfl,rfl,trivial⟩ ⟨(Qj (by simp only[dh]; rfl)),trivial⟩ rfl rfl
 iterate 4 refine w_ ?_
 cases hb4:(decide ((k:Int) < (c.2.2.length:Int)))
 ·have hb4':=ae hb4
  refine w_ ?_
  refine Qh ?_
  refine (?_:AC _ _ _ _ _)
  iterate 4 refine w_ ?_
  refine Qb<|fo_ hO ?_
  (rw[QO (by rw[Jf]; omega)]; done)
 ·have hb4':=ab hb4
  iterate 6 refine w_ ?_
  obtain ⟨ar,hx6⟩:∃z,c.2.2[k]? =some z:=⟨_,aa (by omega)⟩
  iterate 2 refine w_ ?_
  refine lc (xal 3 (.pr .int (.pr .int (.pr .bool .int))) ZJ) ?_
  iterate 3 refine w_ ?_
  obtain ⟨⟨he1,he2⟩,_⟩:=hr _ (aj hx6)
  have hn1:=YF (n:=c.2.1.length) (es:=(ixE c.2.2).take k)
  obtain ⟨ys,hys⟩:∃z,(Q1 c.2.1.length ((ixE c.2.2).take k))[ar.1.toNat]? =some z:=⟨_,aa (by omega)⟩
  have hyf:=Vd hys
  have hltk:((ixE c.2.2).take k).length≤c.2.2.length:=by simp only[aw,Jf]; omega
  have hcA:=Qlx hys
  have hpA:ar.1.toNat*1+0 < (QZ (.sl 3 .int) (Q1 c.2.1.length ((ixE c.2.2).take k))).length:=by rw[Ws]; show ar.1.toNat*1+0 < (Q1 c.2.1.length ((ixE c.2.2).take k)).length*1; omega
  refine AC.wk (Qaq (q:=2) rfl (by omega))<|AC.wk (UG 4 (q:=2) (p:=ar.1.toNat*1+0) (E':=3) (e':= .int) (ys:=ys) rfl (hcA) (Fresh.of rfl) (aH rfl)) ?_
  apply dV (i6 18 _ _ _ _ _ _ [io 24 (lf (.ept 2 1 ((ar.1).toNat) 0)),io 25 (lR 4),io 26 _,⟨some 27,lR 5,[(5,some (.arr 3 .int ([(k:Int)])))]⟩,⟨some 28,lR 6,[(6,some (.arr 3 .int (ys++([(k:Int)])))),(4,none),(5,none)]⟩,io 29 (lf (.ept 2 1 ((ar.1).toNat) 0)),⟨none,lf (.val undef),[(2,some (.obx 32 1 ((Q1 c.2.1.length ((ixE c.2.2).take k)).length) (QZ (.sl 3 .int) (Q1 c.2.1.length ((ixE c.2.2).take k))) [((ar.1).toNat*1+0, .ref 6),(ar.1.toNat*1+0, .ref 4)]))]⟩]) [0,1,1,7,15,15,7,7,255,255,7,0,0]
  iterate 6 refine z_ ?_
  refine zz (fun _ h_=>ac (Z8 (h_.v rfl) (h_.en 2 rfl) (h_.v rfl) Xp Yt rfl (by omega) (by omega)) rfl) ?_
  refine zz (fun _ h_=>ac (Vk (h_.v rfl) (h_.n 2 rfl) (show (ovr _ _)[ar.1.toNat*1+0]? =some (.ref 4) from by simp only[ovr,bq,ay,hpA,hcA,dD,if_true,if_false,↓reduceIte]) (h_.n 4 rfl) Yt rfl) rfl) ?_
  refine z_ ?_
  refine zz (fun _ h_=>ac (dBs 5 (e:= .int) ZL) rfl) ?_
  refine zz (fun _ h_=>ac (dA 6 YO) rfl) ?_
  refine zz (fun _ h_=>ac (Z8 (h_.v rfl) (h_.en 2 rfl) (h_.v rfl) Xp Yt rfl (by omega) (by omega)) rfl) ?_
  refine zz (fun _ h_=>ac (Ww (t:=4) (h_.v rfl) (h_.n 2 rfl) (show (ovr _ _)[ar.1.toNat*1+0]? =some (.ref 4) from by simp only[ovr,bq,ay,hpA,hcA,dD,if_true,if_false,↓reduceIte]) (h_.v rfl) (h_.n 6 rfl) Yt) rfl) ?_
  exact zN
  refine (?_:AC _ _ _ _ _)
  refine AC.wk (K4 (q:=2) (t:=6) (p:=ar.1.toNat*1+0) rfl (by simp only[ovr,bq,ay,hpA,hcA,dD,if_true,if_false,↓reduceIte]) rfl) ?_
  refine AC.wk (KG (q:=2) (e:=(.sl 3 .int)) ((Q1 c.2.1.length ((ixE c.2.2).take k)).set ar.1.toNat (ys++[(k:Int)])) rfl (by simp only[ay]) (by simp only[ovr,dn]; exact QaF hys)) ?_
  iterate 3 refine w_ ?_
  refine Qc ?_
  refine l0_ ?_
  exact Wk.of [] rfl ⟨rfl,rfl,rfl,rfl,rfl,trivial⟩ ⟨(Qj (Qbi (e:=(ar.1,(k:Int))) (Qhp hx6) hys)),trivial⟩ rfl rfl
end Go.Proofs.YtgpdhgadmjfokaaGreat
namespace Go.Proofs.YtgpdhgadmjfokaaGreat
open Go.RowKit
set_option maxRecDepth 100000
set_option maxHeartbeats 4000000
def sg0 (n:Nat)(block:List Int):List UInt8:=(List.range n).map fun k:Nat=>if (k:Int)∈block then (49:UInt8) else 48
def Qk0 (block:List Int)(s:List UInt8)(a:DAr):List UInt8:=if¬a.1∈block∧a.2.2.2∈block then s.set a.2.2.2.toNat 43 else if a.1∈block∧¬a.2.2.2∈block then s.set a.2.2.2.toNat 45 else s
def inA (c:DSg)(a:DAr):Bool:=decide (a.2.1 < 0)||decide (((c.1[a.2.1.toNat]?).getD (ByteArray.empty,0)).2=1)
def sAt (s:List UInt8)(x:Int):UInt8:=(s[x.toNat]?).getD 0
def UU (c:DSg)(block:List Int)(s:List UInt8)(a:DAr):List UInt8:=if (sAt s a.1=43∨sAt s a.1=45)∧inA c a=true∧(a.1∈block↔a.2.2.2∈block) then s.set a.2.2.2.toNat (sAt s a.1) else s
def Qmw (c:DSg)(block:List Int)(s:List UInt8):List UInt8:=c.2.2.foldl (UU c block) s
def QrA (c:DSg)(block:List Int):List UInt8:=c.2.2.foldl (Qk0 block) (sg0 c.2.1.length block)
def Qsu (c:DSg)(block:List Int):List UInt8:=QJ (Qmw c block) c.2.1.length (QrA c block)
def Qp6 (c:DSg)(block:List Int):ByteArray:=⟨(Qsu c block).toArray⟩
structure SI (n:Nat) (block:List Int) (s:List UInt8):Prop where
  len:s.length=n
  at_:∀x:Int,0≤x→x < (n:Int)→(x∈block∧(sAt s x=49∨sAt s x=43))∨(¬x∈block∧(sAt s x=48∨sAt s x=45))
def nMk (s:List UInt8):Nat:=(s.filter fun x=>decide (x=43∨x=45)).length
def cMk (s:List UInt8):Nat:=(s.filter fun x=> !decide (x=43∨x=45)).length
section
variable {c:DSg}{as_:List DAr}{a:DAr}{block:List Int}{k i n m:Nat}{s s2 sg:List UInt8}{x y:Int}{z zf zt u v:UInt8}{ch:Bool}
theorem Qkn {α:Type}{l:List α}{j:Nat}{w:α}(h:l[j]? =some w):l.set j w=l:=by
  apply bL
  intro i
  by_cases e:j=i
  · subst e; rw[aY (ah.1 h).1,h]
  · rw[b7 e]
theorem QnZ (h:s[x.toNat]? =some z):sAt s x=z:=by unfold sAt; rw[h]; rfl
theorem QnU (hl:s.length=n)(h0:0≤y)(h1:y < (n:Int))(h2:0≤x):sAt (s.set y.toNat z) x=if x=y then z else sAt s x:=by
  unfold sAt
  by_cases e:x=y
  · subst e; rw[aY (by omega),if_pos rfl]; rfl
  · rw[b7 (by omega),if_neg e]
theorem SI.set (h:SI n block s)(h0:0≤y)(h1:y < (n:Int))(hz:(y∈block∧z=43)∨(¬y∈block∧z=45)):SI n block (s.set y.toNat z):=by
  refine ⟨by rw[ay]; exact h.len,fun x k0 k1=> ?_⟩
  rw[QnU h.len h0 h1 k0]
  by_cases e:x=y
  · subst e
    rw[if_pos rfl]
    rcases hz with ⟨g1,g2⟩ | ⟨g1,g2⟩
    · exact .inl ⟨g1, .inr g2⟩
    · exact .inr ⟨g1, .inr g2⟩
  · rw[if_neg e]; exact h.at_ x k0 k1
theorem Qr7 (h:SI n block s)(ha:InR n a):SI n block (Qk0 block s a):=by
  unfold Qk0
  split
  · rename_i g; exact h.set ha.2.1 ha.2.2 (.inl ⟨g.2,rfl⟩)
  · split
    · rename_i g; exact h.set ha.2.1 ha.2.2 (.inr ⟨g.2,rfl⟩)
    · exact h
theorem SI.val (h:SI n block s)(ha:InR n a)(h1:sAt s a.1=43∨sAt s a.1=45)(h2:a.1∈block↔a.2.2.2∈block):(a.2.2.2∈block∧sAt s a.1=43)∨(¬a.2.2.2∈block∧sAt s a.1=45):=by
  rcases h.at_ a.1 ha.1.1 ha.1.2 with ⟨g1,g2⟩ | ⟨g1,g2⟩
  · refine .inl ⟨h2.1 g1, ?_⟩
    rcases g2 with g2 | g2
    · rw[g2] at h1; rcases h1 with h1 | h1 <;> exact absurd h1 (by decide)
    · exact g2
  · refine .inr ⟨fun g => g1 (h2.2 g), ?_⟩
    rcases g2 with g2 | g2
    · rw[g2] at h1; rcases h1 with h1 | h1 <;> exact absurd h1 (by decide)
    · exact g2
theorem Qfj (q:UInt8→Bool):∀{s:List UInt8} {j:Nat} {u v:UInt8},s[j]? =some u→q u=false→q v=true→((s.set j v).filter q).length=(s.filter q).length+1
  | [],j,u,v,h,_,_=>by simp at h
  | w :: s,0,u,v,h,h1,h2=>by
    simp at h; subst h
    simp[h1,h2]
  | w :: s,j+1,u,v,h,h1,h2=>by
    have ih:=Qfj q (s:=s) (j:=j) (by simpa using h) h1 h2
    rw[cX]
    by_cases e:q w=true
    · rw[cU e,cU e,ax,ax,ih]
    · rw[cr e,cr e,ih]
theorem Qdl (q:UInt8→Bool):∀{s:List UInt8} {j:Nat} {u v:UInt8},s[j]? =some u→q u=true→q v=false→((s.set j v).filter q).length+1=(s.filter q).length
  | [],j,u,v,h,_,_=>by simp at h
  | w :: s,0,u,v,h,h1,h2=>by
    simp at h; subst h
    simp[h1,h2]
  | w :: s,j+1,u,v,h,h1,h2=>by
    have ih:=Qdl q (s:=s) (j:=j) (by simpa using h) h1 h2
    rw[cX]
    by_cases e:q w=true
    · rw[cU e,cU e,ax,ax,ih]
    · rw[cr e,cr e,ih]
theorem QhR (h:SI n block s)(ha:InR n a):SI n block (UU c block s a)∧(UU c block s a=s∨(nMk s < nMk (UU c block s a)∧cMk (UU c block s a) < cMk s)):=by
  unfold UU
  split
  · rename_i g
    have hv:=h.val ha g.1 g.2.2
    refine ⟨h.set ha.2.1 ha.2.2 hv, ?_⟩
    have hl:=h.len
    have hg:s[a.2.2.2.toNat]? =some (sAt s a.2.2.2):=by
      unfold sAt
      rw[aa (by have:=ha.2; omega)]; rfl
    by_cases e:sAt s a.2.2.2=sAt s a.1
    · exact .inl (by rw[← e]; exact Qkn hg)
    · right
      have hu:¬(sAt s a.2.2.2=43∨sAt s a.2.2.2=45):=fun hu=>by
        rcases h.at_ a.2.2.2 ha.2.1 ha.2.2 with ⟨g1,g2⟩ | ⟨g1,g2⟩ <;> rcases hv with ⟨v1,v2⟩ | ⟨v1,v2⟩
        · rcases g2 with g2 | g2
          · rw[g2] at hu; rcases hu with hu | hu <;> exact absurd hu (by decide)
          · exact e (g2.trans v2.symm)
        · exact v1 g1
        · exact g1 v1
        · rcases g2 with g2 | g2
          · rw[g2] at hu; rcases hu with hu | hu <;> exact absurd hu (by decide)
          · exact e (g2.trans v2.symm)
      constructor
      · unfold nMk
        rw[Qfj _ hg (aF hu) (aI g.1)]; omega
      · unfold cMk
        have:=Qdl (fun x=> !decide (x=43∨x=45)) hg (by simp only[aF hu]; rfl) (v:=sAt s a.1) (by simp only[aI g.1]; rfl)
        omega
  · exact ⟨h, .inl rfl⟩
structure PI (c:DSg) (block:List Int) (sg:List UInt8) (i:Nat) (s:List UInt8) (ch:Bool):Prop where
  si:SI c.2.1.length block s
  eq:Qmw c block sg=(c.2.2.drop i).foldl (UU c block) s
  no:ch=false→s=sg
  yes:ch=true→cMk s < cMk sg
  le:cMk s≤cMk sg
theorem PI.start (h:SI c.2.1.length block sg):PI c block sg 0 sg false:=⟨h,rfl,fun _=>rfl,(fun h=>by cases h),aQ _⟩
theorem Qi5 (hx:as_[i]? =some a):as_.drop i=a :: as_.drop (i+1):=by
  obtain ⟨h1,h2⟩:=ah.1 hx
  rw[cK h1,h2]
theorem PI.skip (h:PI c block sg i s ch)(hx:c.2.2[i]? =some a)(hn:UU c block s a=s):PI c block sg (i+1) s ch:=⟨h.si,by rw[h.eq,Qi5 hx,aL,hn],h.no,h.yes,h.le⟩
theorem Qsk (h:PI c block sg i s ch)(hr:∀a∈c.2.2,InR c.2.1.length a)(hx:c.2.2[i]? =some a)(h1:s[a.1.toNat]? =some u)(h2:s[a.2.2.2.toNat]? =some v)(hm:u=43∨u=45)(hi:inA c a=true)(hb:a.1∈block↔a.2.2.2∈block)(hne:¬v=u):PI c block sg (i+1) (s.set a.2.2.2.toNat u) true:=by
  have ha:=hr a (aj hx)
  have hmv:UU c block s a=s.set a.2.2.2.toNat u:=by
    unfold UU
    rw[QnZ h1,if_pos ⟨hm,hi,hb⟩]
  obtain ⟨k1,k2⟩:=QhR (c:=c) h.si ha
  rw[hmv] at k1 k2
  have k3:¬s.set a.2.2.2.toNat u=s:=fun e=>by
    have h3:(s.set a.2.2.2.toNat u)[a.2.2.2.toNat]? =some u:=aY (ah.1 h2).1
    rw[e,h2] at h3
    cases h3; exact hne rfl
  have k4:=(k2.resolve_left k3).2
  have:=h.le
  exact ⟨k1,by rw[h.eq,Qi5 hx,aL,hmv],(fun h=>by cases h),fun _=>by omega,by omega⟩
theorem PI.end_ (h:PI c block sg i s ch)(hi:c.2.2.length≤i):s=Qmw c block sg:=by rw[h.eq,bJ hi]; rfl
theorem Qdv {c:DSg}{a:DAr}(h:Vt (c.1.length:Int) (a.2.1,a.2.2.1)):a.2.1 < (c.1.length:Int):=by
  rcases h with h | h
  · have:=h.2; simp only at this; omega
  · have:=h.1; simp only at this; omega
end
end Go.Proofs.YtgpdhgadmjfokaaGreat
namespace Go.Proofs.YtgpdhgadmjfokaaGreat
open Go.RowKit
set_option maxRecDepth 100000
set_option maxHeartbeats 4000000
def sgF (n:Nat)(block:List Int)(k:Nat):List UInt8:=sg0 k block++List.replicate (n - k) 0
def okB (c:DSg)(p r:Int×Bool):Bool:=QoM c (Qp6 c (Ud c p r))&&(decide (0 < ((Ud c p r).length:Int))&&decide (((Ud c p r).length:Int) < (c.2.1.length:Int)))
def Qs1 (c:DSg)(p r:Int×Bool):ByteArray:=if okB c p r=true then Qp6 c (Ud c p r) else ⟨#[]⟩
section
variable {c:DSg}{as_:List DAr}{a:DAr}{block:List Int}{k i j n:Nat}{s:List UInt8}{u:UInt8}{p r:Int×Bool}{x:QB}
end
end Go.Proofs.YtgpdhgadmjfokaaGreat
