/- Abstract states: an own slice whose elements are frozen slices. No program is named here. -/
import Derived.Test.YtfkmmpfdncopdaaGreatBc
import Derived.Test.YtfkmmpfdncopdaaGreatStr
import Derived.Test.YtfkmmpfdncopdaaGreatProg
import Derived.KernelRfl
set_option linter.unusedSimpArgs false
set_option linter.unusedVariables false
set_option linter.unusedSectionVars false
namespace Go.Proofs.YtfkmmpfdncopdaaGreat
open Go.RowKit
section
variable {N:Nat→Prop}{w:World}{e:Ty}
theorem FzL.len:∀{vs:List Hdr} {xs:List e.Den},FzL N w e vs xs→vs.length=xs.length
  | [],xs,h=>by rw[show xs=[] from h]; rfl
  | v :: vs,_,⟨x,r,h1,_,h3⟩=>by rw[h1,aq,aq,FzL.len h3]
theorem FzL.app:∀{vs:List Hdr} {xs:List e.Den} {vs2:List Hdr} {ys:List e.Den},FzL N w e vs xs→FzL N w e vs2 ys→FzL N w e (vs++vs2) (xs++ys)
  | [],_,_,_,h,k=>by rw[show _=[] from h]; exact k
  | v :: vs,_,_,_,⟨x,r,h1,h2,h3⟩,k=>⟨x,r++_,by rw[h1]; rfl,h2,FzL.app h3 k⟩
theorem FzL.at:∀{vs:List Hdr} {xs:List e.Den} {j:Nat} {y:e.Den},FzL N w e vs xs→xs[j]? =some y→∃z,vs[j]? =some z∧Rd N e w [hdV z] y
  | [],_,_,_,h,hy=>by rw[show _=[] from h] at hy; cases hy
  | v :: vs,_,0,y,⟨x,r,h1,h2,h3⟩,hy=>by subst h1; cases hy; exact ⟨v,rfl,h2⟩
  | v :: vs,_,j+1,y,⟨x,r,h1,h2,h3⟩,hy=>by subst h1; exact FzL.at (j:=j) h3 hy
theorem FzL.mem:∀{vs:List Hdr} {xs:List e.Den},FzL N w e vs xs→∀v∈vs,∃x,Rd N e w [hdV v] x
  | [],_,_,_,hv=>by cases hv
  | u :: vs,_,⟨x,r,_,h2,h3⟩,v,hv=>by
    rcases aC.1 hv with rfl | hv
    · exact ⟨x,h2⟩
    · exact FzL.mem h3 v hv
theorem FzL.of {f:Hdr→e.Den}:∀{vs:List Hdr},(∀v∈vs,Rd N e w [hdV v] (f v))→FzL N w e vs (vs.map f)
  | [],_=>rfl
  | v :: vs,h=>⟨f v,vs.map f,rfl,h v (ay ..),FzL.of fun u hu=>h u (ax _ hu)⟩
theorem Qor {E:TypeId}{e:Ty}:∀{vs:List Hdr} {xs:List (List e.Den)},FzL N w (.sl E e) vs xs→vs.map (rdF E e w)=xs∧∀v∈vs,Rd N (.sl E e) w [hdV v] (rdF E e w v)
  | [],_,h=>⟨by rw[show _=[] from h]; rfl,fun _ h=>by cases h⟩
  | v :: vs,_,⟨x,r,h1,h2,h3⟩=>by
    obtain ⟨k1,k2⟩:=Qor h3
    have h4:rdF E e w v=x:=Qoi h2.rep
    refine ⟨by rw[bg,k1,h4,h1],fun u hu=> ?_⟩
    rcases aC.1 hu with rfl | hu
    · rw[h4]; exact h2
    · exact k2 u hu
end
section
variable {A:Amb}{P:Program}{s:St}
end
section
variable {A:Amb}{P:Program}{s:St}{x y:Operand}{d:Nat}{T ty:TypeId}{pos:String}{af:Array Edge}{g:Option (Nat×Bool)}
@[reducible] def QqE (s:St) (d t:Nat) (used:List Nat) (E:TypeId) (e:Ty) (xs:List e.Den):St:=⟨(d,lf (.ref t)) :: s.tm,(t,some (.fz E e xs)) :: (VJ used++s.tab)⟩
end
end Go.Proofs.YtfkmmpfdncopdaaGreat
namespace Go.Proofs.YtfkmmpfdncopdaaGreat
open Go.RowKit
set_option maxRecDepth 100000
set_option maxHeartbeats 4000000
def swL (as_:List DAr)(l:Int×Bool):List Int:=(as_.filter fun a=>decide (a.2.1=l.1∧a.2.2.1=l.2)).map fun a=>a.2.2.2
def WZ (c:DSg)(sig:Int):Bool:=decide (0≤sig)&&decide (((c.1[sig.toNat]?).getD (ByteArray.empty,0)).2=1)
def Yk (l:List Qy)(k:Nat):List Int:=((List.range k).filter fun i=> !decide (((l[i]?).getD (ByteArray.empty,0)).2=1)).map fun i=>((i:Nat):Int)
def QrO (c:DSg):ByteArray:=if Zb (fun x:Qy=>decide (x.1=(⟨#[122,48]⟩:ByteArray))) c.1 < 0 then ⟨#[122,48]⟩ else if Zb (fun x:Qy=>decide (x.1=(⟨#[122,49]⟩:ByteArray))) c.1 < 0 then ⟨#[122,49]⟩ else ⟨#[122,50]⟩
section
variable {c:DSg}{l:List Int}{as_:List DAr}{a:DAr}{p:Int×Bool}{k:Nat}{n m y sig:Int}{x:Qy}{ss:List Qy}
theorem Qjc (hx:ss[k]? =some x)(h:¬x.2=1):Yk ss k++[(k:Int)]=Yk ss (k+1):=by
  unfold Yk
  rw[cH,bA,bS]; simp[hx,h]
theorem QjX (hx:ss[k]? =some x)(h:x.2=1):Yk ss k=Yk ss (k+1):=by
  unfold Yk
  rw[cH,bA,bS]; simp[hx,h]
theorem Qjk:(Yk ss k).length≤k:=by unfold Yk; rw[aQ]; exact bn (cp ..) (by simp)
theorem Qmm (h:¬0≤sig):false=WZ c sig:=by unfold WZ; rw[az h]; rfl
theorem QdW (h:0≤sig)(hx:c.1[sig.toNat]? =some x):decide (x.2=1)=WZ c sig:=by unfold WZ; rw[aJ h,hx]; rfl
theorem QoA (hP:∀j:Nat,(j:Int) < m→∀y,l[j]? =some y→y < n)(h:l[m.toNat]? =some n):l=Q2 ltI n l:=
  (JA (k:=m.toNat) (fun j hj y hy=>by have:=hP j (by omega) y hy; simp[ltI,this]) h (by simp[ltI])).symm
theorem QoK (hP:∀j:Nat,(j:Int) < m→∀y,l[j]? =some y→y < n)(h0:0≤m)(h1:m≤(l.length:Int))(h:∀y,l[m.toNat]? =some y→¬y < n∧y≠n):l.take m.toNat++n :: l.drop m.toNat=Q2 ltI n l:=
  (QdQ (k:=m.toNat) (fun j hj y hy=>by have:=hP j (by omega) y hy; simp[ltI,this]) (by omega) fun y hy=>by have:=h y hy; simp[ltI,this]).symm
theorem QhR (hP:∀j:Nat,(j:Int) < m→∀y,l[j]? =some y→y < n)(h0:0≤m)(h1:m≤(l.length:Int))(h:∀y,l[m.toNat]? =some y→¬y < n∧y≠n):
    (([]++(l.take (0+m.toNat)).drop 0)++[n])++(l.take (m.toNat+(l.length - m.toNat))).drop m.toNat=Q2 ltI n l:=by
  rw[← QoK hP h0 h1 h,show m.toNat+(l.length - m.toNat)=l.length by omega,cZ]
  simp
abbrev Qrb:List ByteArray:=[(⟨#[122,48]⟩:ByteArray),(⟨#[122,49]⟩:ByteArray)]
end
theorem U7 (l:List Int)(n:Int)(hl:l.length≤1000000000):FC Tryz.prog 319 [(false,[.ref 0]),(false,[dI n])] [ar 0 3 .int l] 0 (Wv 3 .int (Q2 ltI n l)):=by
 refine Qj Tryz.func319 rfl rfl Tryz.ntmps319 fun O_ hO w0_ N0_ X_ h0_ f0_=> ?_
 refine acI 1 fun hi1=> ?_
 iterate 8 refine w_ ?_
 refine QE (fun m_ s_=>∃(m:Int),m_=((l.length:Int) - m).toNat∧(0≤m∧m≤(l.length:Int))∧(∀j:Nat,(j:Int) < m→∀y,l[j]? =some y→y < n)∧s_=⟨[(0,lR 0),(1,lI n),(4,lf (.val (.slice none 0 0))),(5,lI m)],[ar 0 3 .int l]⟩) ⟨0,rfl,(by omega),(fun j hj=>by omega),rfl⟩ ?_ ?_
 · exact Wk.of [] rfl ⟨rfl,rfl,rfl,rfl,trivial⟩ ⟨rfl,trivial⟩ rfl rfl
 rintro m_ s_ ⟨m,hm3,hm,hP,rfl⟩
 iterate 7 refine w_ ?_
 cases hb4:(decide (m < (l.length:Int)))
 ·have hb4':=ab hb4
  iterate 9 refine w_ ?_
  refine Qi ?_
  refine (?_:AC _ _ _ _ _)
  iterate 7 refine w_ ?_
  have hb5:(decide (m < (l.length:Int)))=false:=hb4
  try rw[hb5]
  iterate 11 refine w_ ?_
  refine lc (dBs 1 (e:= .int) Xy) ?_
  iterate 2 refine w_ ?_
  refine lc (ZF (e:= .int) (a:=0) (b:=(m).toNat) (l:=none) (h:=(some m)) (Qa rfl) rfl (by exact trivial) (by exact (Qa rfl)) Xg U8 rfl (by first | (simp only[ai,ah]; omega) | omega | (simp only[ai,ah,ak,ap,aB]; omega)) (by first | (simp only[ai,ah]; omega) | omega | (simp only[ai,ah,ak,ap,aB]; omega)) (by first | (simp only[ai,ah]; omega) | omega | (simp only[ai,ah,ak,ap,aB]; omega)) (by first | rfl | simp) (by first | rfl | simp))<|lc (Zh 2 (Qa rfl) rfl (Wp (e:= .int) (Qa rfl) rfl (by omega)) rfl Xg Wo (by first | omega | (simp only[ak,aQ,ap,aq,aD]; omega) | (simp only[ak,bh,ap,aq,aD]; omega)) rfl (Fresh.of rfl) (nlr rfl)) ?_
  iterate 5 refine w_ ?_
  refine lc (dBs 3 (e:= .int) Xy) ?_
  refine lc (dA 4 Wo) ?_
  iterate 6 refine w_ ?_
  refine lc (ZF (e:= .int) (a:=(m).toNat) (b:=l.length - (m).toNat) (l:=(some m)) (h:=none) (Qa rfl) rfl (by exact (Qa rfl)) (by exact trivial) Xg U8 rfl (by first | (simp only[ai,ah]; omega) | omega | (simp only[ai,ah,ak,ap,aB]; omega)) (by first | (simp only[ai,ah]; omega) | omega | (simp only[ai,ah,ak,ap,aB]; omega)) (by first | (simp only[ai,ah]; omega) | omega | (simp only[ai,ah,ak,ap,aB]; omega)) (by first | rfl | simp) (by first | rfl | simp))<|lc (Zh 5 (Qa rfl) rfl (Wp (e:= .int) (Qa rfl) rfl (by omega)) rfl Xg Wo (by first | omega | (simp only[ak,aQ,ap,aq,aD]; omega) | (simp only[ak,bh,ap,aq,aD]; omega)) rfl (Fresh.of rfl) (nlr rfl)) ?_
  iterate 2 refine w_ ?_
  refine Qb<|fo_ hO ?_
  exact QhR hP (by omega) (by omega) (fun z hz=>by simp_all)
 ·have hb4':=ae hb4
  iterate 3 refine w_ ?_
  obtain ⟨y,hx7⟩:∃z,l[(m).toNat]? =some z:=⟨_,aa (by omega)⟩
  iterate 5 refine w_ ?_
  cases hb8:(decide (y < n))
  ·have hb8':=ab hb8
   refine w_ ?_
   refine Qi ?_
   refine (?_:AC _ _ _ _ _)
   iterate 7 refine w_ ?_
   have hb9:(decide (m < (l.length:Int)))=true:=hb4
   try rw[hb9]
   iterate 8 refine w_ ?_
   refine cd_ (fun hb10 hb10'=> ?_) fun hb10 hb10'=> ?_
   ·iterate 2 refine w_ ?_
    refine lc (dBs 6 (e:= .int) Xy) ?_
    iterate 2 refine w_ ?_
    refine lc (ZF (e:= .int) (a:=0) (b:=(m).toNat) (l:=none) (h:=(some m)) (Qa rfl) rfl (by exact trivial) (by exact (Qa rfl)) Xg U8 rfl (by first | (simp only[ai,ah]; omega) | omega | (simp only[ai,ah,ak,ap,aB]; omega)) (by first | (simp only[ai,ah]; omega) | omega | (simp only[ai,ah,ak,ap,aB]; omega)) (by first | (simp only[ai,ah]; omega) | omega | (simp only[ai,ah,ak,ap,aB]; omega)) (by first | rfl | simp) (by first | rfl | simp))<|lc (Zh 7 (Qa rfl) rfl (Wp (e:= .int) (Qa rfl) rfl (by omega)) rfl Xg Wo (by first | omega | (simp only[ak,aQ,ap,aq,aD]; omega) | (simp only[ak,bh,ap,aq,aD]; omega)) rfl (Fresh.of rfl) (nlr rfl)) ?_
    iterate 5 refine w_ ?_
    refine lc (dBs 8 (e:= .int) Xy) ?_
    refine lc (dA 9 Wo) ?_
    iterate 6 refine w_ ?_
    refine lc (ZF (e:= .int) (a:=(m).toNat) (b:=l.length - (m).toNat) (l:=(some m)) (h:=none) (Qa rfl) rfl (by exact (Qa rfl)) (by exact trivial) Xg U8 rfl (by first | (simp only[ai,ah]; omega) | omega | (simp only[ai,ah,ak,ap,aB]; omega)) (by first | (simp only[ai,ah]; omega) | omega | (simp only[ai,ah,ak,ap,aB]; omega)) (by first | (simp only[ai,ah]; omega) | omega | (simp only[ai,ah,ak,ap,aB]; omega)) (by first | rfl | simp) (by first | rfl | simp))<|lc (Zh 10 (Qa rfl) rfl (Wp (e:= .int) (Qa rfl) rfl (by omega)) rfl Xg Wo (by first | omega | (simp only[ak,aQ,ap,aq,aD]; omega) | (simp only[ak,bh,ap,aq,aD]; omega)) rfl (Fresh.of rfl) (nlr rfl)) ?_
    iterate 2 refine w_ ?_
    refine Qb<|fo_ hO ?_
    exact QhR hP (by omega) (by omega) (fun z hz=>by simp_all)
   ·iterate 4 refine w_ ?_
    refine Qb<|fo_ hO ?_
    exact QoA hP (by simp_all)
  ·have hb8':=ae hb8
   iterate 7 refine w_ ?_
   refine Qd<|Q5 ⟨(m+1),rfl,(by omega),(fun j hj z hz=>by by_cases e:j=m.toNat <;> first | (subst e; simp_all; done) | exact hP j (by omega) z hz),rfl⟩ (by omega) ?_
   exact Wk.of [] rfl ⟨rfl,rfl,rfl,rfl,trivial⟩ ⟨rfl,trivial⟩ rfl rfl
theorem Xb (l:List ByteArray)(hl:l.length≤1000000000):FC Tryz.prog 83 [(false,[.dat (.sl 9 .str) l])] [] 0 (Wv 9 .str l):=by
 refine Qj Tryz.func83 rfl rfl Tryz.ntmps83 fun O_ hO w0_ N0_ X_ h0_ f0_=> ?_
 iterate 4 refine w_ ?_
 refine lc (dBs 0 (e:= .str) ZZ) ?_
 refine w_ ?_
 refine lc (Zh 1 (Qa rfl) rfl (Evl.rep (Qa rfl)) rfl ZE YS (by first | omega | (simp only[ak,aQ,ap,aq,aD]; omega) | (simp only[ak,bh,ap,aq,aD]; omega)) rfl (Fresh.of rfl) (nlr rfl)) ?_
 iterate 2 refine w_ ?_
 refine Qb<|fo_ hO ?_
 rfl
theorem KN (c:(List (ByteArray×Int))×List ByteArray×(List (Int×Int×Bool×Int)))(sig:Int)[∀c,Decidable (SgOk c)]:FC Tryz.prog 173 [(true,[.dat (.sl 203 (.pr .str .int)) c.1, .dat (.sl 9 .str) c.2.1, .dat (.sl 136 (.pr .int (.pr .int (.pr .bool .int)))) c.2.2]),(false,[dI sig])] [] 0 (QU (lB (decide (SgOk c∧0≤sig∧sig≤(c.1.length:Int) - 1)))):=by
 refine Qj Tryz.func173 rfl rfl Tryz.ntmps173 fun O_ hO w0_ N0_ X_ h0_ f0_=> ?_
 refine acI 1 fun hi1=> ?_
 refine w_ ?_
 refine xbx 0 ?_
 iterate 4 refine w_ ?_
 refine lc (dK (YK c) QbZ) ?_
 refine w_ ?_
 cases hb2:(decide (SgOk c))
 ·have hb2':=ab hb2
  iterate 9 refine w_ ?_
  refine Qb<|fqB hO ?_
  (simp_all; done)
 ·have hb2':=ae hb2
  iterate 3 refine w_ ?_
  refine alL 10 fun hl3=> ?_
  iterate 2 refine w_ ?_
  refine lgy rfl rfl (dK (QX sig 0 ((c.1.length:Int) - 1)) ZV) ?_
  iterate 3 refine w_ ?_
  refine Qb<|fqB hO ?_
  (simp_all; done)
end Go.Proofs.YtfkmmpfdncopdaaGreat
namespace Go.Proofs.YtfkmmpfdncopdaaGreat
open Go.RowKit
set_option maxRecDepth 100000
set_option maxHeartbeats 4000000
abbrev Vb (a:DAr)(l:Int×Bool):Prop:=a.2.1=l.1∧a.2.2.1=l.2
def ixE (as_:List DAr):List (Int×Int):=as_.zipIdx.map fun x=>(x.1.1,(x.2:Int))
inductive ClS (as_:List DAr) (p r:Int×Bool):Int→Prop
  | base {a:DAr}:a∈as_→Vb a p→ClS as_ p r a.2.2.2
  | step {a:DAr}:a∈as_→ClS as_ p r a.1→¬Vb a r→ClS as_ p r a.2.2.2
def Qc9 (p:Int×Bool)(l:List Int)(a:DAr):List Int:=if Vb a p then Q2 ltI a.2.2.2 l else l
def Xw (r:Int×Bool)(l:List Int)(a:DAr):List Int:=if a.1∈l∧¬Vb a r then Q2 ltI a.2.2.2 l else l
def X0 {α:Type}(f:α→α):Nat→α→α
  | 0,x=>x
  | n+1,x=>f (X0 f n x)
def Kc (c:DSg)(p r:Int×Bool):List Int:=X0 (fun l=>c.2.2.foldl (Xw r) l) c.2.1.length (c.2.2.foldl (Qc9 p) [])
theorem QkK {α:Type}{f:α→α}{I:α→Prop}{m:α→Nat}{n:Nat}(hI:∀x,I x→I (f x))(hm:∀x,I x→m x≤n)(hs:∀x,I x→f x=x∨m x < m (f x)){x:α}(hx:I x):f (X0 f n x)=X0 f n x:=by
  have h1:∀k,I (X0 f k x):=fun k=>by
    induction k with
    | zero=>exact hx
    | succ k ih=>exact hI _ ih
  have h2:∀k,f (X0 f k x)=X0 f k x∨k≤m (X0 f k x):=fun k=>by
    induction k with
    | zero=>exact .inr (aS _)
    | succ k ih=>
      rcases ih with h | h
      · exact .inl (by show f (f (X0 f k x))=f (X0 f k x); rw[h,h])
      · rcases hs _ (h1 k) with h3 | h3
        · exact .inl (by show f (f (X0 f k x))=f (X0 f k x); rw[h3,h3])
        · exact .inr (by show k+1≤m (f (X0 f k x)); omega)
  rcases h2 n with h | h
  · exact h
  · rcases hs _ (h1 n) with h3 | h3
    · exact h3
    · have:=hm _ (hI _ (h1 n)); omega
section
variable {c:DSg}{as_:List DAr}{a:DAr}{p r:Int×Bool}{k i j n:Nat}{l out ts ys L:List Int}{seen:List Bool}{x y o q at_:Int}
theorem Qdr:∀{l:List Int} {lo hi:Int},l.Pairwise (fun x y=>ltI x y=true)→(∀x∈l,lo≤x∧x < hi)→lo≤hi→(l.length:Int)≤hi - lo
  | [],_,_,_,_,h=>by simp; omega
  | x :: l,lo,hi,h1,h2,h3=>by
    obtain ⟨h4,h5⟩:=bi.1 h1
    have h6:=h2 x (ay ..)
    have:=Qdr (l:=l) (lo:=x+1) (hi:=hi) h5 (fun y hy=>by have k1:=h4 y hy; have k2:=h2 y (ax _ hy); simp only[ltI,aT] at k1; omega) (by omega)
    simp only[aq]; omega
theorem QiZ (h:l.Nodup)(hr:∀x∈l,0≤x∧x < (n:Int)):l.length≤n:=by
  have h1:(Qbp l).Nodup:=(KF l).nodup_iff.2 h
  have h2:(Qbp l).Pairwise fun x y=>ltI x y=true:=by
    have:=(Qde l).and h1
    exact this.imp fun ⟨k1,k2⟩=>by simp only[ltI,aT]; omega
  have:=Qdr h2 (lo:=0) (hi:=n) (fun x hx=>hr x (Qje.1 hx)) (by omega)
  rw[QiH] at this
  omega
abbrev Qqh (l:List Int):Prop:=l.Pairwise fun x y=>ltI x y=true
theorem Qau:∀(x:Int) (l:List Int),Q2 ltI x l=l∨(Q2 ltI x l).length=l.length+1
  | x,[]=> .inr rfl
  | x,y :: l=>by
    unfold Q2
    split
    · rcases Qau x l with h | h
      · exact .inl (by rw[h])
      · exact .inr (by simp[h])
    · split
      · exact .inl rfl
      · exact .inr rfl
theorem QeU:Xw r l a=l∨(Xw r l a).length=l.length+1:=by
  unfold Xw
  split
  · exact Qau _ _
  · exact .inl rfl
theorem Jl:∀(as_:List DAr) (l:List Int),as_.foldl (Xw r) l=l∨l.length < (as_.foldl (Xw r) l).length
  | [],l=> .inl rfl
  | a :: as_,l=>by
    rw[bq]
    rcases Jl as_ (Xw r l a) with h | h <;> rcases QeU (r:=r) (l:=l) (a:=a) with h2 | h2
    · exact .inl (by rw[h,h2])
    · exact .inr (by rw[h]; omega)
    · rw[h2] at h ⊢; exact .inr h
    · exact .inr (by omega)
structure BlS (c:DSg) (p r:Int×Bool) (l:List Int):Prop where
  str:Qqh l
  cl:∀x∈l,ClS c.2.2 p r x
theorem BlS.put (h:BlS c p r l)(hx:ClS c.2.2 p r x):BlS c p r (Q2 ltI x l):=⟨V5 Wq h.str,fun y hy=>by
  rcases Yp.1 hy with rfl | hy
  · exact hx
  · exact h.cl y hy⟩
theorem Jz:∀{as_:List DAr} {l:List Int},(∀a∈as_,a∈c.2.2)→BlS c p r l→BlS c p r (as_.foldl (Qc9 p) l)∧(∀x∈l,x∈as_.foldl (Qc9 p) l)∧∀a∈as_,Vb a p→a.2.2.2∈as_.foldl (Qc9 p) l
  | [],l,_,h=>⟨h,fun x hx=>hx,fun a ha=>by cases ha⟩
  | a :: as_,l,hs,h=>by
    have h1:BlS c p r (Qc9 p l a)∧(∀x∈l,x∈Qc9 p l a)∧(Vb a p→a.2.2.2∈Qc9 p l a):=by
      unfold Qc9
      split
      · rename_i hl
        exact ⟨h.put (.base (hs a (ay ..)) hl),fun x hx=>Yp.2 (.inr hx),fun _=>Yp.2 (.inl rfl)⟩
      · rename_i hl
        exact ⟨h,fun x hx=>hx,fun hp=>absurd hp hl⟩
    obtain ⟨i1,i2,i3⟩:=Jz (l:=Qc9 p l a) (fun b hb=>hs b (ax _ hb)) h1.1
    refine ⟨i1,fun x hx=>i2 x (h1.2.1 x hx),fun b hb hp=> ?_⟩
    rcases aC.1 hb with rfl | hb
    · exact i2 _ (h1.2.2 hp)
    · exact i3 b hb hp
theorem Xr:∀{as_:List DAr} {l:List Int},(∀a∈as_,a∈c.2.2)→BlS c p r l→BlS c p r (as_.foldl (Xw r) l)∧(∀x∈l,x∈as_.foldl (Xw r) l)∧∀a∈as_,a.1∈l→¬Vb a r→a.2.2.2∈as_.foldl (Xw r) l
  | [],l,_,h=>⟨h,fun x hx=>hx,fun a ha=>by cases ha⟩
  | a :: as_,l,hs,h=>by
    have h1:BlS c p r (Xw r l a)∧(∀x∈l,x∈Xw r l a)∧(a.1∈l→¬Vb a r→a.2.2.2∈Xw r l a):=by
      unfold Xw
      split
      · rename_i hl
        exact ⟨h.put (.step (hs a (ay ..)) (h.cl _ hl.1) hl.2),fun x hx=>Yp.2 (.inr hx),fun _ _=>Yp.2 (.inl rfl)⟩
      · rename_i hl
        exact ⟨h,fun x hx=>hx,fun h1 h2=>absurd ⟨h1,h2⟩ hl⟩
    obtain ⟨i1,i2,i3⟩:=Xr (l:=Xw r l a) (fun b hb=>hs b (ax _ hb)) h1.1
    refine ⟨i1,fun x hx=>i2 x (h1.2.1 x hx),fun b hb hp hn=> ?_⟩
    rcases aC.1 hb with rfl | hb
    · exact i2 _ (h1.2.2 hp hn)
    · exact i3 b hb (h1.2.1 _ hp) hn
theorem Qnn (hr:∀a∈as_,0≤a.2.2.2∧a.2.2.2 < (n:Int))(h:ClS as_ p r x):0≤x∧x < (n:Int):=by
  cases h with
  | base h1 _=>exact hr _ h1
  | step h1 _ _=>exact hr _ h1
theorem QaR {f:List Int→List Int}(hf:∀l,BlS c p r l→BlS c p r (f l)∧∀x∈l,x∈f l)(h:BlS c p r l):∀k,BlS c p r (X0 f k l)∧∀x∈l,x∈X0 f k l
  | 0=>⟨h,fun x hx=>hx⟩
  | k+1=>by
    obtain ⟨h1,h2⟩:=QaR hf h k
    obtain ⟨h3,h4⟩:=hf _ h1
    exact ⟨h3,fun x hx=>h4 x (h2 x hx)⟩
theorem Qbf (c:DSg)(p r:Int×Bool):BlS c p r (Kc c p r):=
  (QaR (fun l hl=>⟨(Xr (fun _ h=>h) hl).1,(Xr (fun _ h=>h) hl).2.1⟩) (Jz (fun _ h=>h) ⟨bW,fun x hx=>by cases hx⟩).1 _).1
theorem Qgh (hr:∀a∈c.2.2,InR c.2.1.length a):x∈Kc c p r↔ClS c.2.2 p r x:=by
  have h0:BlS c p r ([]:List Int):=⟨bW,fun x hx=>by cases hx⟩
  obtain ⟨a1,a2,a3⟩:=Jz (as_:=c.2.2) (fun _ h=>h) h0
  have hrt:∀a∈c.2.2,0≤a.2.2.2∧a.2.2.2 < (c.2.1.length:Int):=fun a ha=>(hr a ha).2
  have hfx:=QkK (f:=fun l=>c.2.2.foldl (Xw r) l) (I:=BlS c p r) (m:=List.length) (n:=c.2.1.length) (fun l hl=>(Xr (fun _ h=>h) hl).1)
    (fun l hl=>by have:=Qdr hl.str (lo:=0) (hi:=c.2.1.length) (fun x hx=>Qnn hrt (hl.cl x hx)) (by omega); omega) (fun l _=>Jl _ _) a1
  have hsub:=(QaR (f:=fun l=>c.2.2.foldl (Xw r) l) (fun l hl=>⟨(Xr (fun _ h=>h) hl).1,(Xr (fun _ h=>h) hl).2.1⟩) a1 c.2.1.length)
  refine ⟨(Qbf c p r).cl x,fun h=> ?_⟩
  induction h with
  | base h1 h2=>exact hsub.2 _ (a3 _ h1 h2)
  | step h1 _ h2 ih=>
    have:=(Xr (r:=r) (fun _ h=>h) hsub.1).2.2 _ h1 ih h2
    rw[hfx] at this
    exact this
def mkS (n:Nat)(l:List Int):List Bool:=l.foldl (fun s x=>s.set x.toNat true) (List.replicate n false)
theorem Qm4:(mkS n l).length=n:=by
  unfold mkS
  have:∀(l:List Int) (s:List Bool),(l.foldl (fun s x=>s.set x.toNat true) s).length=s.length:=fun l=>by
    induction l with
    | nil=>intro s; rfl
    | cons x l ih=>intro s; rw[bq,ih,aA]
  rw[this]; simp
theorem QoT (hr:∀x∈l,0≤x∧x < (n:Int))(h0:0≤x)(h1:x < (n:Int)):(mkS n l)[x.toNat]? =some true↔x∈l:=by
  unfold mkS
  have:∀(l:List Int) (s:List Bool),s.length=n→(∀x∈l,0≤x∧x < (n:Int))→((l.foldl (fun s x=>s.set x.toNat true) s)[x.toNat]? =some true↔s[x.toNat]? =some true∨x∈l):=fun l=>by
    induction l with
    | nil=>intro s _ _; simp
    | cons y l ih=>
      intro s hs hr
      have hy:=hr y (ay ..)
      rw[bq,ih _ (by rw[aA]; exact hs) fun z hz=>hr z (ax _ hz),aC]
      by_cases e:x=y
      · subst e
        rw[aU (by omega)]; simp
      · rw[aY (by omega)]; simp[e]
  rw[this l _ (by simp) hr]
  simp[c9]
structure BlI (c:DSg) (p r:Int×Bool) (at_:Int) (out:List Int) (seen:List Bool):Prop where
  rng:0≤at_∧at_≤(out.length:Int)
  nd:out.Nodup
  q:∀x∈out,(0≤x∧x < (c.2.1.length:Int))∧ClS c.2.2 p r x
  sn:seen.length=c.2.1.length
  se:∀x,0≤x→x < (c.2.1.length:Int)→(seen[x.toNat]? =some true↔x∈out)
  base:∀a∈c.2.2,Vb a p→a.2.2.2∈out
  cl:∀(j:Nat) (o:Int),(j:Int) < at_→out[j]? =some o→∀a∈c.2.2,a.1=o→¬Vb a r→a.2.2.2∈out
theorem Qdv:x∈swL as_ p↔∃a∈as_,Vb a p∧a.2.2.2=x:=by
  unfold swL
  simp only[b8,cj,aT]
  constructor
  · rintro ⟨a,⟨h1,h2⟩,h3⟩; exact ⟨a,h1,h2,h3⟩
  · rintro ⟨a,h1,h2,h3⟩; exact ⟨a,⟨h1,h2⟩,h3⟩
theorem QkF (hr:∀a∈c.2.2,InR c.2.1.length a)(h:out=ofG ltI (swL c.2.2 p))(hx:x∈out):0≤x∧x < (c.2.1.length:Int):=by
  subst h
  obtain ⟨a,h1,_,rfl⟩:=Qdv.1 ((UN Wq _).1 hx)
  exact (hr a h1).2
theorem Qi8 (h:Qqh l):l.Nodup:=h.imp fun h=>by simp only[ltI,aT] at h; omega
theorem BlI.start (hr:∀a∈c.2.2,InR c.2.1.length a)(h:out=ofG ltI (swL c.2.2 p))(hs:seen=mkS c.2.1.length out):BlI c p r 0 out seen where
  rng:=by omega
  nd:=by rw[h]; exact Qi8 (QY Wq _)
  q x hx:=⟨QkF hr h hx,by
    rw[h] at hx
    obtain ⟨a,h1,h2,rfl⟩:=Qdv.1 ((UN Wq _).1 hx)
    exact .base h1 h2⟩
  sn:=by rw[hs,Qm4]
  se x h0 h1:=by rw[hs]; exact QoT (fun y hy=>QkF hr h hy) h0 h1
  base a h1 h2:=by rw[h]; exact (UN Wq _).2 (Qdv.2 ⟨a,h1,h2,rfl⟩)
  cl j o hj:=by omega
theorem BlI.few (h:BlI c p r at_ out seen):out.length≤c.2.1.length:=QiZ h.nd fun x hx=>(h.q x hx).1
theorem BlI.inr (h:BlI c p r at_ out seen)(hx:out[k]? =some x):0≤x∧x < (c.2.1.length:Int):=(h.q x (ao hx)).1
theorem BlI.push (h:BlI c p r at_ out seen)(hr:∀a∈c.2.2,InR c.2.1.length a)(ho:o∈out)(ha:a∈c.2.2)(h1:a.1=o)(h2:¬Vb a r)(hs:seen[a.2.2.2.toNat]? =some false):BlI c p r at_ (out++[a.2.2.2]) (seen.set a.2.2.2.toNat true):=by
  have hra:=(hr a ha).2
  have hno:a.2.2.2∉out:=fun hm=>by have:=(h.se _ hra.1 hra.2).2 hm; rw[hs] at this; cases this
  have hk:=h.sn
  refine ⟨by have:=h.rng; simp; omega, ?_,fun x hx=> ?_,by rw[aA]; exact hk,fun x h0 h3=> ?_,fun b hb hl=>aP _ (h.base b hb hl),fun j o' hj hx b hb e1 e2=> ?_⟩
  · rw [ba]
    exact ⟨h.nd,by simp,fun x hx y hy e=>by rw[aE] at hy; rw[e,hy] at hx; exact hno hx⟩
  · rcases aH.1 hx with hx | hx
    · exact h.q x hx
    · rw [aE] at hx; subst hx
      exact ⟨hra, .step ha (by rw[h1]; exact (h.q o ho).2) h2⟩
  · rw [aH, aE]
    by_cases e:x=a.2.2.2
    · subst e; rw[aU (by omega)]; simp
    · rw[aY (by omega),h.se x h0 h3]; simp[e]
  · have hjl := h.rng
    rw[b9 (by omega)] at hx
    exact aP _ (h.cl j o' hj hx b hb e1 e2)
theorem BlI.next (h:BlI c p r at_ out seen)(h0:at_ < (out.length:Int))(ho:out[at_.toNat]? =some o)(hc:∀a∈c.2.2,a.1=o→¬Vb a r→a.2.2.2∈out):BlI c p r (at_+1) out seen:=by
  refine ⟨by have:=h.rng; omega,h.nd,h.q,h.sn,h.se,h.base,fun j o' hj hx=> ?_⟩
  by_cases e:(j:Int)=at_
  · have : j = at_.toNat := by omega
    subst this
    rw[ho] at hx; cases hx
    exact hc
  · exact h.cl j o' (by omega) hx
theorem Qqx (h:BlI c p r at_ out seen)(hr:∀a∈c.2.2,InR c.2.1.length a)(h0:¬at_ < (out.length:Int)):ofG ltI out=Kc c p r:=by
  refine TO.ext Wq (QY Wq _) (Qbf c p r).str fun x=> ?_
  rw[UN Wq,Qgh hr]
  refine ⟨fun hx=>(h.q x hx).2,fun hx=> ?_⟩
  induction hx with
  | base h1 h2=>exact h.base _ h1 h2
  | step h1 _ h2 ih=>
    obtain ⟨j,hj⟩:=aM.1 ih
    have:=(aj.1 hj).1
    exact h.cl j _ (by omega) hj _ h1 rfl h2
end
section
variable {c:DSg}{as_:List DAr}{a:DAr}{p r:Int×Bool}{k i j n:Nat}{l:List Int}
end
end Go.Proofs.YtfkmmpfdncopdaaGreat
namespace Go.Proofs.YtfkmmpfdncopdaaGreat
open Go.RowKit
set_option maxRecDepth 100000
set_option maxHeartbeats 4000000
def sg0 (n:Nat)(block:List Int):List UInt8:=(List.range n).map fun k:Nat=>if (k:Int)∈block then (49:UInt8) else 48
def Qkn (block:List Int)(s:List UInt8)(a:DAr):List UInt8:=if¬a.1∈block∧a.2.2.2∈block then s.set a.2.2.2.toNat 43 else if a.1∈block∧¬a.2.2.2∈block then s.set a.2.2.2.toNat 45 else s
def inA (c:DSg)(a:DAr):Bool:=decide (a.2.1 < 0)||decide (((c.1[a.2.1.toNat]?).getD (ByteArray.empty,0)).2=1)
def sAt (s:List UInt8)(x:Int):UInt8:=(s[x.toNat]?).getD 0
def Ka (c:DSg)(block:List Int)(s:List UInt8)(a:DAr):List UInt8:=if (sAt s a.1=43∨sAt s a.1=45)∧inA c a=true∧(a.1∈block↔a.2.2.2∈block) then s.set a.2.2.2.toNat (sAt s a.1) else s
def Qlf (c:DSg)(block:List Int)(s:List UInt8):List UInt8:=c.2.2.foldl (Ka c block) s
def Qps (c:DSg)(block:List Int):List UInt8:=c.2.2.foldl (Qkn block) (sg0 c.2.1.length block)
def Qrn (c:DSg)(block:List Int):List UInt8:=X0 (Qlf c block) c.2.1.length (Qps c block)
def Qp8 (c:DSg)(block:List Int):ByteArray:=⟨(Qrn c block).toArray⟩
structure SI (n:Nat) (block:List Int) (s:List UInt8):Prop where
  len:s.length=n
  at_:∀x:Int,0≤x→x < (n:Int)→(x∈block∧(sAt s x=49∨sAt s x=43))∨(¬x∈block∧(sAt s x=48∨sAt s x=45))
def nMk (s:List UInt8):Nat:=(s.filter fun x=>decide (x=43∨x=45)).length
def cMk (s:List UInt8):Nat:=(s.filter fun x=> !decide (x=43∨x=45)).length
section
variable {c:DSg}{as_:List DAr}{a:DAr}{block:List Int}{k i n m:Nat}{s s2 sg:List UInt8}{x y:Int}{z zf zt u v:UInt8}{ch:Bool}
theorem Qjp {α:Type}{l:List α}{j:Nat}{w:α}(h:l[j]? =some w):l.set j w=l:=by
  apply bt
  intro i
  by_cases e:j=i
  · subst e; rw[aU (aj.1 h).1,h]
  · rw[aY e]
theorem QmS (h:s[x.toNat]? =some z):sAt s x=z:=by unfold sAt; rw[h]; rfl
theorem QmQ (hl:s.length=n)(h0:0≤y)(h1:y < (n:Int))(h2:0≤x):sAt (s.set y.toNat z) x=if x=y then z else sAt s x:=by
  unfold sAt
  by_cases e:x=y
  · subst e; rw[aU (by omega),if_pos rfl]; rfl
  · rw[aY (by omega),if_neg e]
theorem SI.set (h:SI n block s)(h0:0≤y)(h1:y < (n:Int))(hz:(y∈block∧z=43)∨(¬y∈block∧z=45)):SI n block (s.set y.toNat z):=by
  refine ⟨by rw[aA]; exact h.len,fun x k0 k1=> ?_⟩
  rw[QmQ h.len h0 h1 k0]
  by_cases e:x=y
  · subst e
    rw[if_pos rfl]
    rcases hz with ⟨g1,g2⟩ | ⟨g1,g2⟩
    · exact .inl ⟨g1, .inr g2⟩
    · exact .inr ⟨g1, .inr g2⟩
  · rw[if_neg e]; exact h.at_ x k0 k1
theorem Qqq (h:SI n block s)(ha:InR n a):SI n block (Qkn block s a):=by
  unfold Qkn
  split
  · rename_i g; exact h.set ha.2.1 ha.2.2 (.inl ⟨g.2,rfl⟩)
  · split
    · rename_i g; exact h.set ha.2.1 ha.2.2 (.inr ⟨g.2,rfl⟩)
    · exact h
theorem SI.val (h:SI n block s)(ha:InR n a)(h1:sAt s a.1=43∨sAt s a.1=45)(h2:a.1∈block↔a.2.2.2∈block):(a.2.2.2∈block∧sAt s a.1=43)∨(¬a.2.2.2∈block∧sAt s a.1=45):=by
  rcases h.at_ a.1 ha.1.1 ha.1.2 with ⟨g1,g2⟩ | ⟨g1,g2⟩
  · refine .inl ⟨h2.1 g1, ?_⟩
    rcases g2 with g2 | g2
    · rw[g2] at h1; rcases h1 with h1 | h1 <;> exact absurd h1 (by decide)
    · exact g2
  · refine .inr ⟨fun g => g1 (h2.2 g), ?_⟩
    rcases g2 with g2 | g2
    · rw[g2] at h1; rcases h1 with h1 | h1 <;> exact absurd h1 (by decide)
    · exact g2
theorem Qeg (q:UInt8→Bool):∀{s:List UInt8} {j:Nat} {u v:UInt8},s[j]? =some u→q u=false→q v=true→((s.set j v).filter q).length=(s.filter q).length+1
  | [],j,u,v,h,_,_=>by simp at h
  | w :: s,0,u,v,h,h1,h2=>by
    simp at h; subst h
    simp[h1,h2]
  | w :: s,j+1,u,v,h,h1,h2=>by
    have ih:=Qeg q (s:=s) (j:=j) (by simpa using h) h1 h2
    rw[cE]
    by_cases e:q w=true
    · rw[List.filter_cons_of_pos e,List.filter_cons_of_pos e,aq,aq,ih]
    · rw[List.filter_cons_of_neg e,List.filter_cons_of_neg e,ih]
theorem QbQ (q:UInt8→Bool):∀{s:List UInt8} {j:Nat} {u v:UInt8},s[j]? =some u→q u=true→q v=false→((s.set j v).filter q).length+1=(s.filter q).length
  | [],j,u,v,h,_,_=>by simp at h
  | w :: s,0,u,v,h,h1,h2=>by
    simp at h; subst h
    simp[h1,h2]
  | w :: s,j+1,u,v,h,h1,h2=>by
    have ih:=QbQ q (s:=s) (j:=j) (by simpa using h) h1 h2
    rw[cE]
    by_cases e:q w=true
    · rw[List.filter_cons_of_pos e,List.filter_cons_of_pos e,aq,aq,ih]
    · rw[List.filter_cons_of_neg e,List.filter_cons_of_neg e,ih]
theorem QgZ (h:SI n block s)(ha:InR n a):SI n block (Ka c block s a)∧(Ka c block s a=s∨(nMk s < nMk (Ka c block s a)∧cMk (Ka c block s a) < cMk s)):=by
  unfold Ka
  split
  · rename_i g
    have hv:=h.val ha g.1 g.2.2
    refine ⟨h.set ha.2.1 ha.2.2 hv, ?_⟩
    have hl:=h.len
    have hg:s[a.2.2.2.toNat]? =some (sAt s a.2.2.2):=by
      unfold sAt
      rw[aa (by have:=ha.2; omega)]; rfl
    by_cases e:sAt s a.2.2.2=sAt s a.1
    · exact .inl (by rw[← e]; exact Qjp hg)
    · right
      have hu:¬(sAt s a.2.2.2=43∨sAt s a.2.2.2=45):=fun hu=>by
        rcases h.at_ a.2.2.2 ha.2.1 ha.2.2 with ⟨g1,g2⟩ | ⟨g1,g2⟩ <;> rcases hv with ⟨v1,v2⟩ | ⟨v1,v2⟩
        · rcases g2 with g2 | g2
          · rw[g2] at hu; rcases hu with hu | hu <;> exact absurd hu (by decide)
          · exact e (g2.trans v2.symm)
        · exact v1 g1
        · exact g1 v1
        · rcases g2 with g2 | g2
          · rw[g2] at hu; rcases hu with hu | hu <;> exact absurd hu (by decide)
          · exact e (g2.trans v2.symm)
      constructor
      · unfold nMk
        rw[Qeg _ hg (az hu) (aJ g.1)]; omega
      · unfold cMk
        have:=QbQ (fun x=> !decide (x=43∨x=45)) hg (by simp only[az hu]; rfl) (v:=sAt s a.1) (by simp only[aJ g.1]; rfl)
        omega
  · exact ⟨h, .inl rfl⟩
structure PI (c:DSg) (block:List Int) (sg:List UInt8) (i:Nat) (s:List UInt8) (ch:Bool):Prop where
  si:SI c.2.1.length block s
  eq:Qlf c block sg=(c.2.2.drop i).foldl (Ka c block) s
  no:ch=false→s=sg
  yes:ch=true→cMk s < cMk sg
  le:cMk s≤cMk sg
theorem PI.start (h:SI c.2.1.length block sg):PI c block sg 0 sg false:=⟨h,rfl,fun _=>rfl,(fun h=>by cases h),aO _⟩
theorem Qic (hx:as_[i]? =some a):as_.drop i=a :: as_.drop (i+1):=by
  obtain ⟨h1,h2⟩:=aj.1 hx
  rw[List.drop_eq_getElem_cons h1,h2]
theorem PI.skip (h:PI c block sg i s ch)(hx:c.2.2[i]? =some a)(hn:Ka c block s a=s):PI c block sg (i+1) s ch:=⟨h.si,by rw[h.eq,Qic hx,bq,hn],h.no,h.yes,h.le⟩
theorem QqQ (h:PI c block sg i s ch)(hr:∀a∈c.2.2,InR c.2.1.length a)(hx:c.2.2[i]? =some a)(h1:s[a.1.toNat]? =some u)(h2:s[a.2.2.2.toNat]? =some v)(hm:u=43∨u=45)(hi:inA c a=true)(hb:a.1∈block↔a.2.2.2∈block)(hne:¬v=u):PI c block sg (i+1) (s.set a.2.2.2.toNat u) true:=by
  have ha:=hr a (ao hx)
  have hmv:Ka c block s a=s.set a.2.2.2.toNat u:=by
    unfold Ka
    rw[QmS h1,if_pos ⟨hm,hi,hb⟩]
  obtain ⟨k1,k2⟩:=QgZ (c:=c) h.si ha
  rw[hmv] at k1 k2
  have k3:¬s.set a.2.2.2.toNat u=s:=fun e=>by
    have h3:(s.set a.2.2.2.toNat u)[a.2.2.2.toNat]? =some u:=aU (aj.1 h2).1
    rw[e,h2] at h3
    cases h3; exact hne rfl
  have k4:=(k2.resolve_left k3).2
  have:=h.le
  exact ⟨k1,by rw[h.eq,Qic hx,bq,hmv],(fun h=>by cases h),fun _=>by omega,by omega⟩
theorem PI.end_ (h:PI c block sg i s ch)(hi:c.2.2.length≤i):s=Qlf c block sg:=by rw[h.eq,bw hi]; rfl
end
end Go.Proofs.YtfkmmpfdncopdaaGreat
namespace Go.Proofs.YtfkmmpfdncopdaaGreat
open Go.RowKit
set_option maxRecDepth 100000
set_option maxHeartbeats 4000000
def sgF (n:Nat)(block:List Int)(k:Nat):List UInt8:=sg0 k block++List.replicate (n - k) 0
def okB (c:DSg)(p r:Int×Bool):Bool:=QnB c (Qp8 c (Kc c p r))&&(decide (0 < ((Kc c p r).length:Int))&&decide (((Kc c p r).length:Int) < (c.2.1.length:Int)))
def Qrt (c:DSg)(p r:Int×Bool):ByteArray:=if okB c p r=true then Qp8 c (Kc c p r) else ⟨#[]⟩
section
variable {c:DSg}{as_:List DAr}{a:DAr}{block:List Int}{k i j n:Nat}{s:List UInt8}{u:UInt8}{p r:Int×Bool}{x:Qy}
end
end Go.Proofs.YtfkmmpfdncopdaaGreat
namespace Go.Proofs.YtfkmmpfdncopdaaGreat
open Go.RowKit
set_option maxRecDepth 100000
set_option maxHeartbeats 4000000
structure SgW (c:DSg):Prop where
  sig8:c.1.length≤8
  some_:1≤c.2.1.length∧c.2.1.length≤300
  few:c.2.2.length≤4000
  arcs:∀a∈c.2.2,InR c.2.1.length a∧VS (c.1.length:Int) (a.2.1,a.2.2.1)
theorem SgOk.w {c:DSg}(h:SgOk c):SgW c:=⟨h.sigs.2.2,h.some_,h.few,fun a ha=>⟨KW (h.arcs a ha),(h.arcs a ha).2.2.1⟩⟩
def mkV (l:Int×Bool):Int:=(if l.2=true then 2 else 1)*2 ^ (2*l.1).toNat
def orA (s:List Int)(a:DAr):List Int:=if 0≤a.2.1 then s.set a.1.toNat (((((s[a.1.toNat]?).getD 0).toNat ||| (mkV (a.2.1,a.2.2.1)).toNat:Nat)):Int) else s
def QrD (n:Nat)(as_:List DAr):List Int:=as_.foldl orA (List.replicate n 0)
def mAt (l:List Int)(x:Int):Int:=(l[x.toNat]?).getD 0
def QnE (m:Int)(s:Int):Bool:=decide ((((m / 2 ^ (2*s).toNat).toNat &&& (3:Int).toNat:Nat):Int)=0)
def Qrz (masks pair:List Int)(s:Int):Bool:= !(QnE (mAt masks (mAt pair 0)) s==QnE (mAt masks (mAt pair 1)) s)
def Xa (c:DSg)(k s:Int):Bool:=c.2.2.any fun a=>decide (a.1=k∧a.2.1=s)
def cdA (c:DSg)(j:Nat):ByteArray:=(c.2.1[j]?).getD ByteArray.empty
def QqU (c:DSg)(f:Nat→Nat→Bool)(i k:Nat):List (List Int):=((List.range k).filter fun j=>decide (i < j)&&(decide (cdA c j=cdA c i)&&f i j)).map fun j:Nat=>[(i:Int),(j:Int)]
def Qrk (c:DSg)(f:Nat→Nat→Bool)(i:Nat):List (List Int):=(List.range i).flatMap fun i=>QqU c f i c.2.1.length
def Qqi (c:DSg)(i j:Nat):Bool:=(Yk c.1 c.1.length).any fun s=> !(Xa c i s==Xa c j s)
def Qpw (c:DSg):List (List Int):=Qrk c (Qqi c) c.2.1.length
section
variable {c:DSg}{as_:List DAr}{a:DAr}{i j k n:Nat}{f g:Nat→Nat→Bool}{s x y m:Int}{l masks pair:List Int}{u v:ByteArray}
end
section
variable {c:DSg}{f:Nat→Nat→Bool}{i:Nat}{m:Int}{u v:ByteArray}
end
end Go.Proofs.YtfkmmpfdncopdaaGreat
namespace Go.Proofs.YtfkmmpfdncopdaaGreat
open Go.RowKit
set_option maxRecDepth 100000
set_option maxHeartbeats 4000000
def Qry (c:DSg)(s:ByteArray):Bool:=c.2.2.any fun a=>QqO s a&&WZ c a.2.1
def Qpr (f:DAr→Bool)(as_:List DAr)(k:Nat):List Int:=((List.range k).filter fun i=>match as_[i]? with | some a=>f a | none=>false).map fun i=>((i:Nat):Int)
def exL (c:DSg)(q sig:Int)(up:Bool):Bool:=c.2.2.any fun a=>decide (a.1=q∧a.2.1=sig∧a.2.2.1=up)
def QoJ (c:DSg)(sig:Int)(up:Bool)(a:DAr):Bool:= !decide (a.2.1=sig)&&(exL c a.1 sig up&& !exL c a.2.2.2 sig up)
def QqN (c:DSg)(sig:Int)(a:DAr):Bool:=QoJ c sig false a||QoJ c sig true a
abbrev Qqn (c:DSg)(sig:Int)(k:Nat):List Int:=Qpr (QqN c sig) c.2.2 k
def Qq4 (c:DSg)(k:Nat):Int:=((Yk c.1 k).map fun s=>((Qqn c s c.2.2.length).length:Int)).sum
def QrC (c:DSg):Int:=Qq4 c c.1.length
def Qrg (sig:Int)(up:Bool)(l:List Int)(a:DAr):List Int:=if a.2.1=sig∧a.2.2.1=up then Q2 ltI a.1 l else l
def exS (sig:Int)(up:Bool)(as_:List DAr):List Int:=as_.foldl (Qrg sig up) []
def Qog (c:DSg)(sig:Int)(up:Bool)(l:List Int)(k:Nat):List Int:=(Qpr (QoJ c sig up) c.2.2 k).foldl (fun l i=>Q2 ltI i l) l
def QrS (c:DSg)(sig:Int):Nat→List Int
  | 0=>[]
  | 1=>Qog c sig false [] c.2.2.length
  | _=>Qog c sig true (Qog c sig false [] c.2.2.length) c.2.2.length
section
variable {c:DSg}{as_:List DAr}{a:DAr}{i j k n:Nat}{s:ByteArray}{sig q x y:Int}{up:Bool}{l:List Int}{f g:DAr→Bool}
def QrL (c:DSg)(l:List Int):Int:=(l.map fun s=>((Qqn c s c.2.2.length).length:Int)).sum
end
end Go.Proofs.YtfkmmpfdncopdaaGreat
namespace Go.Proofs.YtfkmmpfdncopdaaGreat
open Go.RowKit
set_option maxRecDepth 100000
set_option maxHeartbeats 4000000
section
variable {c:DSg}{as_:List DAr}{a:DAr}{i j k n:Nat}{s q:Int}{z:Qy}
theorem QmZ (hx:c.2.2[k]? =some a)(h1:a.1=q)(h2:a.2.1=s):true=Xa c q s:=(bR.2 ⟨a,ao hx,aJ ⟨h1,h2⟩⟩).symm
theorem Qop (hn:∀j,j < k→∀a,c.2.2[j]? =some a→¬(a.1=q∧a.2.1=s))(hk:c.2.2.length≤k):false=Xa c q s:=(cc.2 fun a ha=>by
  obtain ⟨j,hj⟩:=aM.1 ha
  have:=(aj.1 hj).1
  simpa using hn j (by omega) a hj).symm
end
theorem KS (c:(List (ByteArray×Int))×List ByteArray×(List (Int×Int×Bool×Int)))(k:Int)(sig:Int):FC Tryz.prog 205 [(true,[.dat (.sl 203 (.pr .str .int)) c.1, .dat (.sl 9 .str) c.2.1, .dat (.sl 136 (.pr .int (.pr .int (.pr .bool .int)))) c.2.2]),(false,[dI k]),(false,[dI sig])] [] 0 (QU (lB (Xa c k sig))):=by
 refine Qj Tryz.func205 rfl rfl Tryz.ntmps205 fun O_ hO w0_ N0_ X_ h0_ f0_=> ?_
 refine acI 1 fun hi1=> ?_
 refine acI 2 fun hi2=> ?_
 refine w_ ?_
 refine xbx 0 ?_
 iterate 6 refine w_ ?_
 refine alL 10 fun hl3=> ?_
 iterate 4 refine w_ ?_
 refine lpK c.2.2.length (fun i=>∀j,j < i→∀a,c.2.2[j]? =some a→¬(a.1=k∧a.2.1=sig)) (fun i=>⟨[(1,lI k),(2,lI sig),(10,lf (.dat (.sl 136 (.pr .int (.pr .int (.pr .bool .int)))) c.2.2)),(11,lI (c.2.2.length:Int)),(12,lI (i:Int))],[]⟩) ((fun j hj=>absurd hj (bc j))) ?_ fun i hk4 hno=> ?_
 · exact Wk.of [] rfl ⟨rfl,rfl,rfl,rfl,rfl,trivial⟩ trivial rfl rfl
 iterate 4 refine w_ ?_
 cases hb5:(decide ((i:Int) < (c.2.2.length:Int)))
 ·have hb5':=ab hb5
  refine w_ ?_
  refine Qi ?_
  refine (?_:AC _ _ _ _ _)
  iterate 3 refine w_ ?_
  refine Qb<|fqB hO ?_
  first | exact Qop hno (by omega)
 ·have hb5':=ae hb5
  iterate 5 refine w_ ?_
  obtain ⟨x6,hx7⟩:∃z,c.2.2[i]? =some z:=⟨_,aa (by omega)⟩
  iterate 2 refine w_ ?_
  refine lc (xal 1 (.pr .int (.pr .int (.pr .bool .int))) Vr) ?_
  iterate 5 refine w_ ?_
  refine alI 17 fun hi8=> ?_
  iterate 3 refine w_ ?_
  cases hb9:(decide (x6.1=k))
  ·have hb9':=ab hb9
   iterate 7 refine w_ ?_
   refine AC.skip ?_
   refine (?_:AC _ _ _ _ _)
   iterate 3 refine w_ ?_
   refine Qd ?_
   refine lK_ ((Y5 hno hx7 (by first | (exact fun g=>absurd g.1 (by assumption)) | (exact fun g=>absurd g.2 (by assumption))))) ?_
   exact Wk.of [] rfl ⟨rfl,rfl,rfl,rfl,rfl,trivial⟩ trivial rfl rfl
  ·have hb9':=ae hb9
   iterate 6 refine w_ ?_
   cases hb10:(decide (x6.2.1=sig))
   ·have hb10':=ab hb10
    refine w_ ?_
    refine AC.skip ?_
    refine (?_:AC _ _ _ _ _)
    iterate 3 refine w_ ?_
    refine Qd ?_
    refine lK_ ((Y5 hno hx7 (by first | (exact fun g=>absurd g.1 (by assumption)) | (exact fun g=>absurd g.2 (by assumption))))) ?_
    exact Wk.of [] rfl ⟨rfl,rfl,rfl,rfl,rfl,trivial⟩ trivial rfl rfl
   ·have hb10':=ae hb10
    iterate 4 refine w_ ?_
    refine Qb<|fqB hO ?_
    exact QmZ hx7 (by assumption) (by assumption)
end Go.Proofs.YtfkmmpfdncopdaaGreat
namespace Go.Proofs.YtfkmmpfdncopdaaGreat
open Go.RowKit
attribute [local irreducible] TF
abbrev QoX:Type:=ZA×ZA
end Go.Proofs.YtfkmmpfdncopdaaGreat
