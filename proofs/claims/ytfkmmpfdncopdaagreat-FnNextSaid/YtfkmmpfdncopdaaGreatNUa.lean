/- Walks over abstract states: valid state graphs, the program. -/
import Derived.Test.YtfkmmpfdncopdaaGreatNVa
import Derived.Test.YtfkmmpfdncopdaaGreatNAg
import Derived.Test.YtfkmmpfdncopdaaGreatNWj
import Derived.Shelf.Lays
import Derived.Shelf.Lays2
import Derived.Shelf.Slices.In.SortNone
import Derived.Shelf.Slices.In.CompactI
import Derived.Test.YtfkmmpfdncopdaaGreatNApp
set_option linter.unusedSimpArgs false
set_option linter.unusedVariables false
set_option linter.unusedSectionVars false
namespace Go.Proofs.YtfkmmpfdncopdaaGreat
open Go.RowKit
set_option maxRecDepth 100000
set_option maxHeartbeats 4000000
section
variable {c:DSg}{a:DAr}{x y:ByteArray}{k:Nat}
theorem Qjv (h:¬(0≤a.1∧a.1≤(c.2.1.length:Int) - 1)):¬YV c a:=fun g=>h g.1
theorem QiK (h:¬(0≤a.2.2.2∧a.2.2.2≤(c.2.1.length:Int) - 1)):¬YV c a:=fun g=>h g.2.1
theorem Qjy (h:¬UH (c.1.length:Int) (a.2.1,a.2.2.1)):¬YV c a:=fun g=>h g.2.2.1
theorem QiG (hx:c.2.1[a.1.toNat]? =some x)(hy:c.2.1[a.2.2.2.toNat]? =some y)(h:¬Fit a x y):¬YV c a:=fun g=>h (by have:=g.2.2.2; rwa [Xo hx,Xo hy] at this)
theorem QqL (h1:0≤a.1∧a.1≤(c.2.1.length:Int) - 1)(h2:0≤a.2.2.2∧a.2.2.2≤(c.2.1.length:Int) - 1)(h3:UH (c.1.length:Int) (a.2.1,a.2.2.1))(hx:c.2.1[a.1.toNat]? =some x)(hy:c.2.1[a.2.2.2.toNat]? =some y)(h:Fit a x y):YV c a:=
  ⟨h1,h2,h3,by rw[Xo hx,Xo hy]; exact h⟩
end
theorem YW (c:(List (ByteArray×Int))×List ByteArray×(List (Int×Int×Bool×Int)))[∀c,Decidable (SgOk c)]:FC Tryz.prog 62 [(true,[.dat (.sl 203 (.pr .str .int)) c.1, .dat (.sl 9 .str) c.2.1, .dat (.sl 136 (.pr .int (.pr .int (.pr .bool .int)))) c.2.2])] [] 0 (QH (lB (decide (SgOk c)))):=by
 classical
 refine Ql Tryz.func62 rfl rfl Tryz.ntmps62 fun O_ hO w0_ N0_ X_ h0_ f0_=> ?_
 refine w_ ?_
 refine xbx 0 ?_
 iterate 6 refine w_ ?_
 refine lc (dK (KM c.1) QgO) ?_
 iterate 2 refine w_ ?_
 cases hb1:(decide (Y3 c.1))
 ·have hb1':=ab hb1
  iterate 17 refine w_ ?_
  refine Qb<|fqB hO ?_
  exact QlH (by assumption)
 ·have hb1':=ae hb1
  iterate 2 refine w_ ?_
  refine alL 14 fun hl2=> ?_
  refine w_ ?_
  refine lgy rfl rfl (dK (QM (c.2.1.length:Int) 1 300) ZG) ?_
  iterate 3 refine w_ ?_
  cases hb3:(decide (1≤(c.2.1.length:Int)∧(c.2.1.length:Int)≤300))
  ·have hb3':=ab hb3
   iterate 10 refine w_ ?_
   refine Qb<|fqB hO ?_
   exact Ql5 (by assumption)
  ·have hb3':=ae hb3
   iterate 2 refine w_ ?_
   refine alL 21 fun hl4=> ?_
   iterate 4 refine w_ ?_
   refine cd_ (fun hb5 hb5'=> ?_) fun hb5 hb5'=> ?_
   ·iterate 4 refine w_ ?_
    refine alL 26 fun hl6=> ?_
    iterate 8 refine w_ ?_
    refine alL 30 fun hl7=> ?_
    iterate 4 refine w_ ?_
    refine lpK c.2.1.length (fun k=>∀j,j < k→∀x,c.2.1[j]? =some x→ZQ x (c.1.length:Int)) (fun k=>⟨[(1,lP 0 0),(3,lI ((c.2.1.length:Int) - 1)),(30,lf (.dat (.sl 9 .str) c.2.1)),(31,lI (c.2.1.length:Int)),(32,lI (k:Int))],[bx 0 28 [.dat (.sl 203 (.pr .str .int)) c.1, .dat (.sl 9 .str) c.2.1, .dat (.sl 136 (.pr .int (.pr .int (.pr .bool .int)))) c.2.2]]⟩) ((fun j hj=>absurd hj (b8 j))) ?_ fun k hk8 hB=> ?_
    · exact Wk.of [] rfl ⟨rfl,rfl,rfl,rfl,rfl,trivial⟩ ⟨rfl,trivial⟩ rfl rfl
    iterate 4 refine w_ ?_
    cases hb9:(decide ((k:Int) < (c.2.1.length:Int)))
    ·have hb9':=ab hb9
     refine w_ ?_
     refine Qj ?_
     refine (?_:AC _ _ _ _ _)
     iterate 4 refine w_ ?_
     refine alL 44 fun hl10=> ?_
     iterate 4 refine w_ ?_
     refine lpK c.2.2.length (fun i=>∀j,j < i→∀a,c.2.2[j]? =some a→YV c a) (fun i=>⟨[(1,lP 0 0),(3,lI ((c.2.1.length:Int) - 1)),(44,lf (.dat (.sl 136 (.pr .int (.pr .int (.pr .bool .int)))) c.2.2)),(45,lI (c.2.2.length:Int)),(46,lI (i:Int))],[bx 0 28 [.dat (.sl 203 (.pr .str .int)) c.1, .dat (.sl 9 .str) c.2.1, .dat (.sl 136 (.pr .int (.pr .int (.pr .bool .int)))) c.2.2]]⟩) ((fun j hj=>absurd hj (b8 j))) ?_ fun i hk11 hR=> ?_
     · exact Wk.of [] rfl ⟨rfl,rfl,rfl,rfl,rfl,trivial⟩ ⟨rfl,trivial⟩ rfl rfl
     iterate 4 refine w_ ?_
     cases hb12:(decide ((i:Int) < (c.2.2.length:Int)))
     ·have hb12':=ab hb12
      refine w_ ?_
      refine Qj ?_
      refine (?_:AC _ _ _ _ _)
      apply dW (i5 92 _ _ _ _ _ [io 97 (lf (.dat (.sl 258 (.pr .int .int)) (ZI c.2.2))),io 98 (lf (.dat (.sl 3 .int) (KB (c.2.1.length:Int).toNat (ZI c.2.2)))),io 99 (lB ((KB (c.2.1.length:Int).toNat (ZI c.2.2)).any (fun y=>decide ((-1)=y)))),io 100 _,io 2 _]) [0,0,0,7,7,7,0,0,0,0]
      iterate 5 refine z_ ?_
      refine zz (fun _ h_=>ac (dK (Hf c.2.2 (by omega)).frozen Qht) rfl) ?_
      refine zz (fun _ h_=>ac (dK (Jt (c.2.1.length:Int) (ZI c.2.2) 0 (by omega) (Qct (fun a ha=>Jm (YK hR (by omega) a ha))) (by simp only[ZI,aP]; omega) rfl).frozen Qiq) rfl) ?_
      refine zz (fun _ h_=>ac (dK (Wx (KB (c.2.1.length:Int).toNat (ZI c.2.2)) (-1)) Qg0) rfl) ?_
      iterate 2 refine z_ ?_
      exact zN
      refine Qb<|fqB hO ?_
      exact (Qli (by omega) (Qct (fun a ha=>Jm (YK hR (by omega) a ha)))).trans (Qmf (by assumption) (by assumption) (by assumption) (YK hB (by omega)) (YK hR (by omega)))
     ·have hb12':=ae hb12
      iterate 5 refine w_ ?_
      obtain ⟨ar,hx14⟩:∃z,c.2.2[i]? =some z:=⟨_,aa (by omega)⟩
      iterate 2 refine w_ ?_
      refine lc (xal 1 (.pr .int (.pr .int (.pr .bool .int))) V0) ?_
      iterate 2 refine w_ ?_
      cases hb15:(decide (0≤ar.1∧ar.1≤((c.2.1.length:Int) - 1)))
      ·have hb15':=ab hb15
       apply dW (i3 50 _ _ _ (io 53 (lB false) :: i9 54 _ _ _ _ _ _ _ _ _ (i9 63 _ _ _ _ _ _ _ _ _ (i9 72 _ _ _ _ _ _ _ _ _ (i9 81 _ _ _ _ _ _ _ _ _ [io 90 _]))))) [0,0,3,0,0,0,0,0,192,0,0,0,0,0,0,24576,24576,0,253952,253952,253952,0,0,0,0,0,33554432,33554432,234881024,234881024,33554432,33554432,4261412864,4261412864,17146314752,17146314752,4261412864,4261412864,0,0,0]
       iterate 3 refine z_ ?_
       refine zz (fun _ h_=>ac (Zh (hb15) (dK (QM ar.1 0 ((c.2.1.length:Int) - 1)) ZG)) rfl) ?_
       iterate 37 refine z_ ?_
       exact zN
       iterate 4 refine w_ ?_
       refine Qb<|fqB hO ?_
       exact QcI hx14 (by first | exact Qjv (by assumption) | exact QiK (by assumption) | exact Qjy (by assumption) | exact QiG (x:=cx) (y:=cy) (by assumption) (by assumption) (by assumption))
      ·have hb15':=ae hb15
       cases hb16:(decide (0≤ar.2.2.2∧ar.2.2.2≤((c.2.1.length:Int) - 1)))
       ·have hb16':=ab hb16
        apply dW (i3 50 _ _ _ (io 53 (lB true) :: i5 54 _ _ _ _ _ (io 59 (lB false) :: i9 60 _ _ _ _ _ _ _ _ _ (i9 69 _ _ _ _ _ _ _ _ _ (i9 78 _ _ _ _ _ _ _ _ _ (i4 87 _ _ _ _ [])))))) [0,0,3,0,0,0,0,0,192,0,0,0,0,0,0,24576,24576,0,253952,253952,253952,0,0,0,0,0,33554432,33554432,234881024,234881024,33554432,33554432,4261412864,4261412864,17146314752,17146314752,4261412864,4261412864,0,0,0]
        iterate 3 refine z_ ?_
        refine zz (fun _ h_=>ac (Zh (hb15) (dK (QM ar.1 0 ((c.2.1.length:Int) - 1)) ZG)) rfl) ?_
        iterate 5 refine z_ ?_
        refine zz (fun _ h_=>day rfl (h_.k rfl) (Zh (hb16) (dK (QM ar.2.2.2 0 ((c.2.1.length:Int) - 1)) ZG)) rfl) ?_
        iterate 31 refine z_ ?_
        exact zN
        iterate 4 refine w_ ?_
        refine Qb<|fqB hO ?_
        exact QcI hx14 (by first | exact Qjv (by assumption) | exact QiK (by assumption) | exact Qjy (by assumption) | exact QiG (x:=cx) (y:=cy) (by assumption) (by assumption) (by assumption))
       ·have hb16':=ae hb16
        cases hb17:(decide (UH (c.1.length:Int) (ar.2.1,ar.2.2.1)))
        ·have hb17':=ab hb17
         apply dW (i3 50 _ _ _ (io 53 (lB true) :: i5 54 _ _ _ _ _ (io 59 (lB true) :: i7 60 _ _ _ _ _ _ _ (io 67 (ag [dI ar.2.1,dB ar.2.2.1]) :: i3 68 _ _ _ (io 71 (lB false) :: i9 72 _ _ _ _ _ _ _ _ _ (i9 81 _ _ _ _ _ _ _ _ _ [io 90 _])))))) [0,0,3,0,0,0,0,0,192,0,0,0,0,0,0,24576,24576,0,253952,253952,253952,0,0,0,0,0,33554432,33554432,234881024,234881024,33554432,33554432,4261412864,4261412864,17146314752,17146314752,4261412864,4261412864,0,0,0]
         iterate 3 refine z_ ?_
         refine zz (fun _ h_=>ac (Zh (hb15) (dK (QM ar.1 0 ((c.2.1.length:Int) - 1)) ZG)) rfl) ?_
         iterate 5 refine z_ ?_
         refine zz (fun _ h_=>day rfl (h_.k rfl) (Zh (hb16) (dK (QM ar.2.2.2 0 ((c.2.1.length:Int) - 1)) ZG)) rfl) ?_
         iterate 7 refine z_ ?_
         refine zz (fun _ h_=>day rfl (h_.k rfl) (Qp UX ⟨_,_,rfl,(h_.w rfl),⟨_,_,rfl,(h_.w rfl),rfl⟩⟩ (aB.1 rfl) rfl rfl) rfl) ?_
         iterate 3 refine z_ ?_
         refine zz (fun _ h_=>day rfl (h_.k rfl) (Zh (hb17) (dK (UA (ar.2.1,ar.2.2.1) (c.1.length:Int) (by have:=(‹Y3 c.1›).2.2; omega)) Qcm)) rfl) ?_
         iterate 19 refine z_ ?_
         exact zN
         iterate 4 refine w_ ?_
         refine Qb<|fqB hO ?_
         exact QcI hx14 (by first | exact Qjv (by assumption) | exact QiK (by assumption) | exact Qjy (by assumption) | exact QiG (x:=cx) (y:=cy) (by assumption) (by assumption) (by assumption))
        ·have hb17':=ae hb17
         obtain ⟨cx,hx19⟩:∃z,c.2.1[(ar.1).toNat]? =some z:=⟨_,aa (by omega)⟩
         have hzcx:ZQ cx (c.1.length:Int)→cx.size=c.1.length:=fun h=>by have:=h.2; omega
         have hwcx:c.2.1.length≤k→cx.size=c.1.length:=fun h=>hzcx (YK hB h _ (ap hx19))
         obtain ⟨cy,hx21⟩:∃z,c.2.1[(ar.2.2.2).toNat]? =some z:=⟨_,aa (by omega)⟩
         have hzcy:ZQ cy (c.1.length:Int)→cy.size=c.1.length:=fun h=>by have:=h.2; omega
         have hwcy:c.2.1.length≤k→cy.size=c.1.length:=fun h=>hzcy (YK hB h _ (ap hx21))
         apply dW (i3 50 _ _ _ (io 53 (lB true) :: i5 54 _ _ _ _ _ (io 59 (lB true) :: i7 60 _ _ _ _ _ _ _ (io 67 (ag [dI ar.2.1,dB ar.2.2.1]) :: i3 68 _ _ _ (io 71 (lB true) :: i9 72 _ _ _ _ _ _ _ _ _ (i7 81 _ _ _ _ _ _ _ (io 88 (lB (decide (Fit ar cx cy))) :: i2 89 _ _ []))))))) [0,0,3,0,0,0,0,0,192,0,0,0,0,0,0,24576,24576,0,253952,253952,253952,0,0,0,0,0,33554432,33554432,234881024,234881024,33554432,33554432,4261412864,4261412864,17146314752,17146314752,4261412864,4261412864,0,0,0]
         iterate 3 refine z_ ?_
         refine zz (fun _ h_=>ac (Zh (hb15) (dK (QM ar.1 0 ((c.2.1.length:Int) - 1)) ZG)) rfl) ?_
         iterate 5 refine z_ ?_
         refine zz (fun _ h_=>day rfl (h_.k rfl) (Zh (hb16) (dK (QM ar.2.2.2 0 ((c.2.1.length:Int) - 1)) ZG)) rfl) ?_
         iterate 7 refine z_ ?_
         refine zz (fun _ h_=>day rfl (h_.k rfl) (Qp UX ⟨_,_,rfl,(h_.w rfl),⟨_,_,rfl,(h_.w rfl),rfl⟩⟩ (aB.1 rfl) rfl rfl) rfl) ?_
         iterate 3 refine z_ ?_
         refine zz (fun _ h_=>day rfl (h_.k rfl) (Zh (hb17) (dK (UA (ar.2.1,ar.2.2.1) (c.1.length:Int) (by have:=(‹Y3 c.1›).2.2; omega)) Qcm)) rfl) ?_
         iterate 16 refine z_ ?_
         refine zz (fun _ h_=>day rfl (h_.k rfl) (dK (JB ar cx cy (by have:=hwcx (by omega); have:=hwcy (by omega); omega)) QhW) rfl) ?_
         iterate 2 refine z_ ?_
         exact zN
         cases hb22:(decide (Fit ar cx cy))
         ·have hb22':=ab hb22
          iterate 4 refine w_ ?_
          refine Qb<|fqB hO ?_
          exact QcI hx14 (by first | exact Qjv (by assumption) | exact QiK (by assumption) | exact Qjy (by assumption) | exact QiG (x:=cx) (y:=cy) (by assumption) (by assumption) (by assumption))
         ·have hb22':=ae hb22
          refine w_ ?_
          refine AC.skip ?_
          refine (?_:AC _ _ _ _ _)
          iterate 3 refine w_ ?_
          refine Qd ?_
          refine lK_ ((XB hR hx14 (QqL (by assumption) (by assumption) (by assumption) (x:=cx) (y:=cy) (by assumption) (by assumption) (by assumption)))) ?_
          exact Wk.of [] rfl ⟨rfl,rfl,rfl,rfl,rfl,trivial⟩ ⟨rfl,trivial⟩ rfl rfl
    ·have hb9':=ae hb9
     iterate 5 refine w_ ?_
     obtain ⟨x23,hx24⟩:∃z,c.2.1[k]? =some z:=⟨_,aa (by omega)⟩
     have hzx23:ZQ x23 (c.1.length:Int)→x23.size=c.1.length:=fun h=>by have:=h.2; omega
     have hwx23:c.2.1.length≤k→x23.size=c.1.length:=fun h=>hzx23 (YK hB h _ (ap hx24))
     iterate 8 refine w_ ?_
     refine alL 38 fun hl25=> ?_
     refine w_ ?_
     refine lc (dK (Qck x23 (c.1.length:Int)) Qh2) ?_
     iterate 2 refine w_ ?_
     cases hb26:(decide (ZQ x23 (c.1.length:Int)))
     ·have hb26':=ab hb26
      iterate 4 refine w_ ?_
      refine Qb<|fqB hO ?_
      exact Qni hx24 (by assumption)
     ·have hb26':=ae hb26
      refine w_ ?_
      refine AC.skip ?_
      refine (?_:AC _ _ _ _ _)
      iterate 3 refine w_ ?_
      refine Qd ?_
      refine lK_ ((XB hB hx24 (by assumption))) ?_
      exact Wk.of [] rfl ⟨rfl,rfl,rfl,rfl,rfl,trivial⟩ ⟨rfl,trivial⟩ rfl rfl
   ·iterate 3 refine w_ ?_
    refine Qb<|fqB hO ?_
    exact Qm2 (by assumption)
end Go.Proofs.YtfkmmpfdncopdaaGreat
namespace Go.Proofs.YtfkmmpfdncopdaaGreat
open Go.RowKit
set_option maxRecDepth 100000
set_option maxHeartbeats 4000000
def QtG (a b:UInt8):Bool:=decide (a=b)||(decide (a=48)&&decide (b=43))||(decide (a=43)&&decide (b=49))||(decide (a=49)&&decide (b=45))||(decide (a=45)&&decide (b=48))||(decide (a=43)&&decide (b=45))||(decide (a=45)&&decide (b=43))
def Qpp (s:ByteArray):Prop:=∀x∈s.toList,x=48∨x=43∨x=49∨x=45
instance (s:ByteArray):Decidable (Qpp s):=inferInstanceAs (Decidable (∀x∈s.toList,x=48∨x=43∨x=49∨x=45))
def SignsOk (c:DSg)(s:ByteArray):Prop:=Qpp s∧s.size=c.2.1.length∧SgOk c
instance (c:DSg) (s:ByteArray) [Decidable (SgOk c)]:Decidable (SignsOk c s):=inferInstanceAs (Decidable (_∧_))
def Qpj (c:DSg)(s:ByteArray):Bool:=c.2.2.all fun a=>QtG (bAt s a.1) (bAt s a.2.2.2)
def QtF (s:ByteArray)(a:DAr):Bool:=(decide (bAt s a.1=43)&&(decide (bAt s a.2.2.2=49)||decide (bAt s a.2.2.2=45)))||(decide (bAt s a.1=45)&&(decide (bAt s a.2.2.2=48)||decide (bAt s a.2.2.2=43)))
def okP (c:DSg)(s:ByteArray)[Decidable (SgOk c)]:Bool:=decide (SignsOk c s)&&Qpj c s
def Qt4 (as_:List DAr)(q:Int):List DAr:=as_.filter fun a=>decide (a.1=q)
def Qtj:ByteArray:=⟨#[48,43,49,45,48]⟩
section
variable {a b x:UInt8}{k i:Nat}{s:ByteArray}{c:DSg}{l:List DAr}{e:DAr}{q:Int}
section
variable [Decidable (SignsOk c s)]
end
theorem SignsOk.at_ (h:SignsOk c s)(ha:e∈c.2.2):(0≤e.1∧e.1 < (s.size:Int))∧0≤e.2.2.2∧e.2.2.2 < (s.size:Int):=by
  have h1:=Jm (h.2.2.arcs e ha)
  rw[h.2.1]
  exact h1
end
end Go.Proofs.YtfkmmpfdncopdaaGreat
namespace Go.Proofs.YtfkmmpfdncopdaaGreat
open Go.RowKit
set_option maxRecDepth 100000
set_option maxHeartbeats 4000000
def DelI {α:Type _}(p:α→Bool)(l0 l:List α)(i j:Int):Prop:=(0≤i∧i < j∧j≤(l.length:Int))∧l.length=l0.length∧l.take i.toNat=(l0.take j.toNat).filter p∧l.drop j.toNat=l0.drop j.toNat
section
variable {α:Type _}{p f:α→Bool}{l0 l:List α}{i j:Int}{x:α}
theorem VR (f:α→Bool)(l:List α):(Q4 f l= -1∧∀x∈l,f x=false)∨∃(k:Nat) (x:α),Q4 f l=(k:Int)∧l[k]? =some x∧f x=true∧NoneTo f l k:=by
  unfold Q4
  cases h:l.findIdx? f with
  | none=>exact .inl ⟨rfl,fun x hx=>by simpa using List.findIdx?_eq_none_iff.1 h x hx⟩
  | some k=>
    obtain ⟨h1,h2,h3⟩:=bT.1 h
    exact .inr ⟨k,l[k],rfl,aa h1,h2,fun j hj y hy=>by
      obtain ⟨h4,h5⟩:=ah.1 hy
      have:=h3 j hj
      rw[h5] at this
      simpa using this⟩
theorem Qfr (f:α→Bool)(l:List α): -1≤Q4 f l∧Q4 f l < (l.length:Int):=by
  rcases VR f l with ⟨h,_⟩ | ⟨k,x,h,h2,_⟩
  · omega
  · have := (ah.1 h2).1
    omega
theorem Qaa (h:Q4 f l= -1):l=l.filter fun x=> !f x:=by
  rcases VR f l with ⟨_,h2⟩ | ⟨k,_,h2,_⟩
  · exact (cv.2 fun x hx=>by rw[h2 x hx]; rfl).symm
  · omega
theorem DelI.start (h:¬Q4 f l= -1):DelI (fun x=> !f x) l l (Q4 f l) (Q4 f l+1):=by
  rcases VR f l with ⟨h2,_⟩ | ⟨k,x,h2,h3,h4,h5⟩
  · exact absurd h2 h
  · have hk := (ah.1 h3).1
    rw[h2]
    refine ⟨by omega,rfl, ?_,rfl⟩
    rw[show ((k:Int)+1).toNat=k+1 by omega,show ((k:Int)).toNat=k by omega,QQ h3,bH]
    have:([x].filter fun x=> !f x)=[]:=by simp[h4]
    rw[this,bF]
    refine (cv.2 fun y hy=> ?_).symm
    obtain ⟨n,hn⟩:=aM.1 hy
    have hn2:=(ah.1 hn).1
    rw[aq] at hn2
    rw[List.getElem?_take_of_lt (by omega)] at hn
    rw[h5 n (by omega) y hn]; rfl
theorem DelI.at_ (h:DelI p l0 l i j)(hx:l[j.toNat]? =some x):l0[j.toNat]? =some x:=by
  obtain ⟨h1,h2,h3,h4⟩:=h
  have:=congrArg (fun l:List α=>l[0]?) h4
  simpa [hx] using this.symm
theorem DelI.lt (h:DelI p l0 l i j)(hx:l[j.toNat]? =some x):j < (l.length:Int):=by
  have:=(ah.1 hx).1
  obtain ⟨h1,_⟩:=h
  omega
theorem DelI.drop_ (h:DelI p l0 l i j)(hx:l[j.toNat]? =some x)(hp:p x=false):DelI p l0 l i (j+1):=by
  have h0:=h.at_ hx
  have hl:=h.lt hx
  obtain ⟨h1,h2,h3,h4⟩:=h
  refine ⟨by omega,h2, ?_, ?_⟩
  · rw[show (j+1).toNat=j.toNat+1 by omega,QQ h0,bH,h3]; simp[hp]
  · have := congrArg (List.drop 1) h4
    rw[d7,d7] at this
    rw[show (j+1).toNat=j.toNat+1 by omega]
    exact this
theorem DelI.keep (h:DelI p l0 l i j)(hx:l[j.toNat]? =some x)(hp:p x=true):DelI p l0 (l.set i.toNat x) (i+1) (j+1):=by
  have h0:=h.at_ hx
  have hl:=h.lt hx
  obtain ⟨h1,h2,h3,h4⟩:=h
  refine ⟨by rw[aD]; omega,by rw[aD]; exact h2, ?_, ?_⟩
  · have hg : (l.set i.toNat x)[i.toNat]? = some x := aW (by omega)
    rw[show (j+1).toNat=j.toNat+1 by omega,show (i+1).toNat=i.toNat+1 by omega,QQ hg,QQ h0,bH,List.take_set_of_le (aO _),h3]
    simp[hp]
  · have := congrArg (List.drop 1) h4
    rw[d7,d7] at this
    rw[show (j+1).toNat=j.toNat+1 by omega,List.drop_set_of_lt (by omega)]
    exact this
theorem DelI.end_ {z:List α}(h:DelI p l0 l i j)(hj:¬j < (l.length:Int))(n:Nat)(hn:n=i.toNat):(l.take i.toNat++z).take n=l0.filter p:=by
  obtain ⟨h1,h2,h3,h4⟩:=h
  subst hn
  rw[List.take_left' (by rw[aq]; omega),h3,aU (by omega)]
end
theorem Hv (l:List (ByteArray×Int))(name:ByteArray):FC Tryz.prog 361 [(false,[.dat (.sl 203 (.pr .str .int)) l]),(false,[dS name])] [] 0 (QH (lI (Q4 (fun x:Qz=>decide (x.1=name)) l))):=by
 refine Ql Tryz.func361 rfl rfl Tryz.ntmps361 fun O_ hO w0_ N0_ X_ h0_ f0_=> ?_
 iterate 6 refine w_ ?_
 refine alL 7 fun hl1=> ?_
 iterate 4 refine w_ ?_
 refine lpK l.length (fun k=>NoneTo (fun x:Qz=>decide (x.1=name)) l k) (fun k=>⟨[(1,lf (dS name)),(7,lf (.dat (.sl 203 (.pr .str .int)) l)),(8,lI (l.length:Int)),(9,lI (k:Int))],[]⟩) (NoneTo.zero) ?_ fun k hk2 hno=> ?_
 · exact Wk.of [] rfl ⟨rfl,rfl,rfl,rfl,trivial⟩ trivial rfl rfl
 iterate 4 refine w_ ?_
 cases hb3:(decide ((k:Int) < (l.length:Int)))
 ·have hb3':=ab hb3
  refine w_ ?_
  refine Qj ?_
  refine (?_:AC _ _ _ _ _)
  iterate 3 refine w_ ?_
  refine Qb<|fqI hO ?_
  first | exact (hno.no (by omega)).symm
 ·have hb3':=ae hb3
  iterate 6 refine w_ ?_
  obtain ⟨x4,hx5⟩:∃z,l[k]? =some z:=⟨_,aa (by omega)⟩
  iterate 2 refine w_ ?_
  refine lc (xal 0 (.pr .str .int) JV) ?_
  iterate 9 refine w_ ?_
  cases hb6:(decide (x4.1=name))
  ·have hb6':=ab hb6
   refine w_ ?_
   refine AC.skip ?_
   refine (?_:AC _ _ _ _ _)
   iterate 3 refine w_ ?_
   refine Qd ?_
   refine lK_ (hno.step hx5 (by assumption)) ?_
   exact Wk.of [] rfl ⟨rfl,rfl,rfl,rfl,trivial⟩ trivial rfl rfl
  ·have hb6':=ae hb6
   iterate 5 refine w_ ?_
   refine Qb<|fqI hO ?_
   exact (hno.at hx5 (by assumption)).symm
end Go.Proofs.YtfkmmpfdncopdaaGreat
namespace Go.Proofs.YtfkmmpfdncopdaaGreat
open Go.RowKit
theorem QaG:∀{t:Ty} {w:World} {cs:List Value} {x y:t.Den},Rep t w cs x→Rep t w cs y→x=y
  | .int,_,_,x,y,h,k=>by have h1:=h.1; have h2:=k.1; rw[h1] at h2; simpa using h2
  | .bool,_,_,x,y,h,k=>by have h1:_=_:=h; have h2:_=_:=k; rw[h1] at h2; simpa using h2
  | .str,_,_,x,y,h,k=>by have h1:=h.1; have h2:=k.1; rw[h1] at h2; simpa using h2
  | .u8,_,_,x,y,h,k=>by
    have h1:_=_:=h; have h2:_=_:=k; rw[h1] at h2
    simp only[aI,Value.int.injEq,and_true,true_and] at h2
    exact UInt8.toNat_inj.1 (by omega)
  | .vl,_,_,x,y,h,k=>by
    have h1:_=_:=h; have h2:_=_:=k; rw[h1] at h2
    exact Qjg (by simpa using h2)
  | .sl E e,w,cs,xs,ys,⟨A,c,h1,h2,h3,h4⟩,⟨A',c',k1,k2,k3,k4⟩=>by
    rw[h1] at k1
    simp only[aI,Value.slice.injEq,and_true] at k1
    obtain ⟨rfl,hl,rfl⟩:=k1
    apply bA
    intro i
    rcases cO i xs.length with hi | hi
    · obtain ⟨b, o, e1, g1⟩ := h4 (by omega)
      obtain ⟨b',o',e2,g2⟩:=k4 (by omega)
      rw[e1] at e2
      cases e2
      obtain ⟨ds,r1,r2⟩:=g1 i xs[i] (aa hi)
      obtain ⟨ds',s1,s2⟩:=g2 i ys[i] (aa (by omega))
      have hd:ds=ds':=by
        apply bA
        intro j
        have l1:=r1.len
        have l2:=s1.len
        rcases cO j e.wd with hj | hj
        · have a1 := r2 j ds[j] (aa (by omega))
          have a2:=s2 j ds'[j] (aa (by omega))
          rw[a1] at a2
          rw[aa (by omega),aa (by omega)]
          exact a2
        · rw[bp (by omega),bp (by omega)]
      subst hd
      rw[aa hi,aa (by omega),QaG r1 s1]
    · rw[bp hi,bp (by omega)]
  | .pr a b,w,cs,x,y,⟨l,r,h1,h2,h3⟩,⟨l',r',k1,k2,k3⟩=>by
    rw[h1] at k1
    obtain ⟨rfl,rfl⟩:=List.append_inj k1 (by rw[h2.len,k2.len])
    exact Prod.ext (QaG h2 k2) (QaG h3 k3)
theorem Qp0 {E:TypeId}{e:Ty}{w:World}{fp:List Nat}{cs:List Value}{x:List e.Den}(h:Own (.sl E e) w fp cs x):∃v:Hdr,cs=[hdV v]:=by
  rcases h with ⟨_,h,_⟩ | ⟨g,cap,cur,fps,_,h,_⟩
  · exact ⟨none,h⟩
  · exact ⟨some (g,0,x.length,cap),h⟩
open Classical in
noncomputable def rdF (E:TypeId) (e:Ty) (w:World) (v:Hdr):List e.Den:=if h:∃x,Rep (.sl E e) w [hdV v] x then h.choose else []
theorem QqY {E:TypeId}{e:Ty}{w:World}{v:Hdr}{x:List e.Den}(h:Rep (.sl E e) w [hdV v] x):rdF E e w v=x:=by
  have hx:∃x,Rep (.sl E e) w [hdV v] x:=⟨x,h⟩
  unfold rdF
  rw[dif_pos hx]
  exact QaG hx.choose_spec h
theorem Qi9 {E:TypeId}{e:Ty}{w:World}{f:Hdr→List e.Den}:∀{vs:List Hdr} {fp:List Nat},OwnL (Own (.sl E e) w) fp (vs.map hdV) (vs.map f)→∀v∈vs,∃fv,Own (.sl E e) w fv [hdV v] (f v)∧∀g∈fv,g∈fp
  | [],_,_,v,hv=>by cases hv
  | u :: vs,fp,h,v,hv=>by
    obtain ⟨f1,f2,c1,c2,rfl,h2,h3,h4⟩:=h
    obtain ⟨z,rfl⟩:=Qp0 h3
    simp only[bg,cJ,cP,aI] at h2
    obtain ⟨h5,rfl⟩:=h2
    rcases aE.1 hv with rfl | hv
    · exact ⟨f1,by rw[h5]; exact h3,fun g hg=>aQ _ hg⟩
    · obtain ⟨fv, k1, k2⟩ := Qi9 h4 v hv
      exact ⟨fv,k1,fun g hg=>aT _ (k2 g hg)⟩
section
variable {A:Amb}{P:Program}{s:St}{Q:Exit→St→Prop}{c:Code}
theorem Evl.pl {x:Operand}{p:Nat}{e:Ty}{vs:List Hdr}{f:Hdr→e.Den}{v:Hdr}(hx:Evl A s x (.dat .vl v))(hp:s.tab.ent p=some (.pl false e vs f))(hv:v∈vs):Evl A s x (.dat e (f v)):=fun gh a w r=>by
  obtain ⟨_,_,h3⟩:=r.cx.en p _ hp
  have h1:Rd gh.N .vl w [a.eval x] v:=hx gh a w r
  have h2:[a.eval x]=[hdV v]:=h1.rep
  show Rd gh.N e w [a.eval x] (f v)
  rw[h2]
  exact h3 v hv
end
end Go.Proofs.YtfkmmpfdncopdaaGreat
namespace Go.Proofs.YtfkmmpfdncopdaaGreat
open Go.RowKit
section
variable {α:Type}[DecidableEq α][Inhabited α]
omit [Inhabited α] in
theorem Qds (y:α):∀l:List α,Q7 (l++[y])=Q7 l++(if l.getLast? =some y then [] else [y])
  | []=>by simp[Q7]
  | [x]=>by
    by_cases h:x=y
    · simp[Q7,h]
    · simp[Q7,h]
  | x :: z :: l=>by
    have ih:=Qds y (z :: l)
    have hl:(x :: z :: l).getLast? =(z :: l).getLast? :=by simp
    rw[hl]
    show (if x=z then Q7 ((z :: l)++[y]) else x :: Q7 ((z :: l)++[y]))=(if x=z then Q7 (z :: l) else x :: Q7 (z :: l))++_
    rw[ih]
    split <;> simp
omit [Inhabited α] in
end
def QtV (P:Program)(f:FuncId):Prop:=∀(blk cap:Nat) (zs:List Int) (w:World),Sort.Holds (Value.int .i64) w blk 0 zs.toArray→zs.length≤9223372036854775807→zs.length≤cap→
  Calls P f #[.slice (some ⟨blk,0,none⟩) zs.length cap] w fun e w'=>e= .returned (.slice (some ⟨blk,0,none⟩) (Q7 zs).length cap)∧∃q,w'=Sort.putRow (Value.int .i64) (Sort.ahead w q) blk 0 (Q7 zs++List.replicate (zs.length - (Q7 zs).length) 0).toArray
def QrP (P:Program)(f:FuncId):Prop:=∀w:World,Calls P f #[.slice none 0 0] w fun e w'=>e= .returned (.slice none 0 0)∧w'=w
def Qre:Go.Shelf.Ren:=⟨fun | 189=>237 | 125=>240 | 257=>292 | 128=>302 | 129=>303 | 294=>339 | 295=>340 | 296=>341 | 297=>342 | 298=>343 | 299=>344 | 216=>345 | 300=>346 | 301=>347 | 328=>372 | 329=>349 | 330=>350 | 331=>373 | 332=>374 | 215=>375 | 343=>393 | n=>n,fun | 28=>35 | 3=>3 | 46=>252 | 0=>0 | 51=>314 | 53=>91 | 4=>4 | 183=>308 | 182=>307 | 131=>66 | 5=>5 | 9=>9 | 218=>341 | 222=>345 | 228=>360 | 229=>361 | n=>n,fun | n=>n⟩
def QoF:Go.Shelf.Ren:=⟨fun | 20=>238 | n=>n,fun | 22=>35 | 3=>3 | 4=>4 | 0=>0 | n=>n,fun | n=>n⟩
end Go.Proofs.YtfkmmpfdncopdaaGreat
namespace Go.Proofs.YtfkmmpfdncopdaaGreat
open Go.RowKit
section
variable {E:TypeId}{e:Ty}{w:World}{f:Hdr→List e.Den}
end
section
variable {A:Amb}{P:Program}{s:St}{Q:Exit→St→Prop}{c:Code}
theorem QsW {x:Operand}{p:Nat}{E:TypeId}{e:Ty}{vs:List Hdr}{f:Hdr→List e.Den}{v:Hdr}(hx:Evl A s x (.dat .vl v))(hp:s.tab.ent p=some (.pl true (.sl E e) vs f))(hv:v∈vs):EvB A s x (false,[.dat (.sl E e) (f v)]):=fun gh a w r=>by
  obtain ⟨_,h3⟩:=r.cx.en p _ hp
  have h1:Rd gh.N .vl w [a.eval x] v:=hx gh a w r
  have h2:[a.eval x]=[hdV v]:=h1.rep
  obtain ⟨fv,k1,k2⟩:=Qi9 h3 v hv
  refine ⟨_,rfl, ?_⟩
  have h4:Own (.sl E e) w fv [a.eval x] (f v):=by rw[h2]; exact k1
  exact h4.rd fun g hg=>r.cx.lt ⟨_,hp⟩ g (k2 g hg)
end
section
variable {A:Amb}{P:Program}{s:St}{f:FuncId}{xs:List Operand}{tys:Array TypeId}{args:List (Bool×List LV)}{d:Nat}{ty:TypeId}{pos:String}{af:Array Edge}{g:Option (Nat×Bool)}{pv:PV}
end
end Go.Proofs.YtfkmmpfdncopdaaGreat
namespace Go.Proofs.YtfkmmpfdncopdaaGreat
open Go.RowKit
def ltP:List Int→List Int→Bool
  | [],[]=>false
  | [],_ :: _=>true
  | _ :: _,[]=>false
  | x :: a,y :: b=>if x < y then true else if y < x then false else ltP a b
def QrG (x y:Int):Int:=if x < y then -1 else if y < x then 1 else 0
def QtR:List Int→List Int→Int
  | [],[]=>0
  | [],_ :: _=> -1
  | _ :: _,[]=>1
  | x :: a,y :: b=>if QrG x y=0 then QtR a b else QrG x y
end Go.Proofs.YtfkmmpfdncopdaaGreat
namespace Go.Proofs.YtfkmmpfdncopdaaGreat
open Go.RowKit
section
variable {N:Nat→Prop}{w:World}{e:Ty}
theorem FzL.len:∀{vs:List Hdr} {xs:List e.Den},FzL N w e vs xs→vs.length=xs.length
  | [],xs,h=>by rw[show xs=[] from h]; rfl
  | v :: vs,_,⟨x,r,h1,_,h3⟩=>by rw[h1,au,au,FzL.len h3]
theorem FzL.app:∀{vs:List Hdr} {xs:List e.Den} {vs2:List Hdr} {ys:List e.Den},FzL N w e vs xs→FzL N w e vs2 ys→FzL N w e (vs++vs2) (xs++ys)
  | [],_,_,_,h,k=>by rw[show _=[] from h]; exact k
  | v :: vs,_,_,_,⟨x,r,h1,h2,h3⟩,k=>⟨x,r++_,by rw[h1]; rfl,h2,FzL.app h3 k⟩
theorem FzL.at:∀{vs:List Hdr} {xs:List e.Den} {j:Nat} {y:e.Den},FzL N w e vs xs→xs[j]? =some y→∃z,vs[j]? =some z∧Rd N e w [hdV z] y
  | [],_,_,_,h,hy=>by rw[show _=[] from h] at hy; cases hy
  | v :: vs,_,0,y,⟨x,r,h1,h2,h3⟩,hy=>by subst h1; cases hy; exact ⟨v,rfl,h2⟩
  | v :: vs,_,j+1,y,⟨x,r,h1,h2,h3⟩,hy=>by subst h1; exact FzL.at (j:=j) h3 hy
theorem FzL.mem:∀{vs:List Hdr} {xs:List e.Den},FzL N w e vs xs→∀v∈vs,∃x,Rd N e w [hdV v] x
  | [],_,_,_,hv=>by cases hv
  | u :: vs,_,⟨x,r,_,h2,h3⟩,v,hv=>by
    rcases aE.1 hv with rfl | hv
    · exact ⟨x,h2⟩
    · exact FzL.mem h3 v hv
theorem FzL.of {f:Hdr→e.Den}:∀{vs:List Hdr},(∀v∈vs,Rd N e w [hdV v] (f v))→FzL N w e vs (vs.map f)
  | [],_=>rfl
  | v :: vs,h=>⟨f v,vs.map f,rfl,h v (az ..),FzL.of fun u hu=>h u (ax _ hu)⟩
theorem Qrb {E:TypeId}{e:Ty}:∀{vs:List Hdr} {xs:List (List e.Den)},FzL N w (.sl E e) vs xs→vs.map (rdF E e w)=xs∧∀v∈vs,Rd N (.sl E e) w [hdV v] (rdF E e w v)
  | [],_,h=>⟨by rw[show _=[] from h]; rfl,fun _ h=>by cases h⟩
  | v :: vs,_,⟨x,r,h1,h2,h3⟩=>by
    obtain ⟨k1,k2⟩:=Qrb h3
    have h4:rdF E e w v=x:=QqY h2.rep
    refine ⟨by rw[bg,k1,h4,h1],fun u hu=> ?_⟩
    rcases aE.1 hu with rfl | hu
    · rw[h4]; exact h2
    · exact k2 u hu
end
section
variable {A:Amb}{P:Program}{s:St}
end
section
variable {A:Amb}{P:Program}{s:St}{x y:Operand}{d:Nat}{T ty:TypeId}{pos:String}{af:Array Edge}{g:Option (Nat×Bool)}
@[reducible] def QtN (s:St) (d t:Nat) (used:List Nat) (E:TypeId) (e:Ty) (xs:List e.Den):St:=⟨(d,lf (.ref t)) :: s.tm,(t,some (.fz E e xs)) :: (Uc used++s.tab)⟩
theorem VN {i:Nat}(E:TypeId)(e:Ty)(hi:lk s.tm i=some (lf (.val (.slice none 0 0)))):Wk A s ⟨(i,lf (.dat (.sl E e) [])) :: s.tm,s.tab⟩:=fun a w r=>by
  obtain ⟨gh,r⟩:=r
  obtain ⟨v,h1,l,h2,h3⟩:=r.tm i _ hi
  simp only[aI,and_true] at h2
  subst h2
  have hv:v= .slice none 0 0:=h3
  refine ⟨_,r.know h1 (pv:=lf (.dat (.sl E e) [])) ⟨_,rfl, ?_⟩⟩
  rw[hv]
  exact (Evl.nil (A:=A) (s:=s) (E:=E) (e:=e)) gh a w r
end
end Go.Proofs.YtfkmmpfdncopdaaGreat
namespace Go.Proofs.YtfkmmpfdncopdaaGreat
open Go.RowKit
set_option maxRecDepth 100000
set_option maxHeartbeats 4000000
def swL (as_:List DAr)(l:Int×Bool):List Int:=(as_.filter fun a=>decide (a.2.1=l.1∧a.2.2.1=l.2)).map fun a=>a.2.2.2
def W5 (c:DSg)(sig:Int):Bool:=decide (0≤sig)&&decide (((c.1[sig.toNat]?).getD (ByteArray.empty,0)).2=1)
def Yn (l:List Qz)(k:Nat):List Int:=((List.range k).filter fun i=> !decide (((l[i]?).getD (ByteArray.empty,0)).2=1)).map fun i=>((i:Nat):Int)
def Qus (c:DSg):ByteArray:=if Q4 (fun x:Qz=>decide (x.1=(⟨#[122,48]⟩:ByteArray))) c.1 < 0 then ⟨#[122,48]⟩ else if Q4 (fun x:Qz=>decide (x.1=(⟨#[122,49]⟩:ByteArray))) c.1 < 0 then ⟨#[122,49]⟩ else ⟨#[122,50]⟩
section
variable {c:DSg}{l:List Int}{as_:List DAr}{a:DAr}{p:Int×Bool}{k:Nat}{n m y sig:Int}{x:Qz}{ss:List Qz}
theorem Qky (hx:ss[k]? =some x)(h:¬x.2=1):Yn ss k++[(k:Int)]=Yn ss (k+1):=by
  unfold Yn
  rw[cE,bH,ce]; simp[hx,h]
theorem QmA (hx:ss[k]? =some x)(h:x.2=1):Yn ss k=Yn ss (k+1):=by
  unfold Yn
  rw[cE,bH,ce]; simp[hx,h]
theorem Qkz:(Yn ss k).length≤k:=by unfold Yn; rw[aP]; exact bw (cB ..) (by simp)
theorem Qof (h:¬0≤sig):false=W5 c sig:=by unfold W5; rw[ay h]; rfl
theorem QeX (h:0≤sig)(hx:c.1[sig.toNat]? =some x):decide (x.2=1)=W5 c sig:=by unfold W5; rw[aJ h,hx]; rfl
theorem QqD (hP:∀j:Nat,(j:Int) < m→∀y,l[j]? =some y→y < n)(h:l[m.toNat]? =some n):l=QN ltI n l:=
  (J6 (k:=m.toNat) (fun j hj y hy=>by have:=hP j (by omega) y hy; simp[ltI,this]) h (by simp[ltI])).symm
theorem QpU (hP:∀j:Nat,(j:Int) < m→∀y,l[j]? =some y→y < n)(h0:0≤m)(h1:m≤(l.length:Int))(h:∀y,l[m.toNat]? =some y→¬y < n∧y≠n):l.take m.toNat++n :: l.drop m.toNat=QN ltI n l:=
  (QeT (k:=m.toNat) (fun j hj y hy=>by have:=hP j (by omega) y hy; simp[ltI,this]) (by omega) fun y hy=>by have:=h y hy; simp[ltI,this]).symm
theorem Qjd (hP:∀j:Nat,(j:Int) < m→∀y,l[j]? =some y→y < n)(h0:0≤m)(h1:m≤(l.length:Int))(h:∀y,l[m.toNat]? =some y→¬y < n∧y≠n):
    (([]++(l.take (0+m.toNat)).drop 0)++[n])++(l.take (m.toNat+(l.length - m.toNat))).drop m.toNat=QN ltI n l:=by
  rw[← QpU hP h0 h1 h,show m.toNat+(l.length - m.toNat)=l.length by omega,db]
  simp
abbrev QtA:List ByteArray:=[(⟨#[122,48]⟩:ByteArray),(⟨#[122,49]⟩:ByteArray)]
end
theorem Kz (l:List Int)(n:Int)(hl:l.length≤1000000000):FC Tryz.prog 319 [(false,[.ref 0]),(false,[dI n])] [ar 0 3 .int l] 0 (WC 3 .int (QN ltI n l)):=by
 refine Ql Tryz.func319 rfl rfl Tryz.ntmps319 fun O_ hO w0_ N0_ X_ h0_ f0_=> ?_
 refine acI 1 fun hi1=> ?_
 iterate 8 refine w_ ?_
 refine Qy (fun m_ s_=>∃(m:Int),m_=((l.length:Int) - m).toNat∧(0≤m∧m≤(l.length:Int))∧(∀j:Nat,(j:Int) < m→∀y,l[j]? =some y→y < n)∧s_=⟨[(0,lR 0),(1,lI n),(4,lf (.val (.slice none 0 0))),(5,lI m)],[ar 0 3 .int l]⟩) ⟨0,rfl,(by omega),(fun j hj=>by omega),rfl⟩ ?_ ?_
 · exact Wk.of [] rfl ⟨rfl,rfl,rfl,rfl,trivial⟩ ⟨rfl,trivial⟩ rfl rfl
 rintro m_ s_ ⟨m,hm3,hm,hP,rfl⟩
 iterate 7 refine w_ ?_
 cases hb4:(decide (m < (l.length:Int)))
 ·have hb4':=ab hb4
  iterate 9 refine w_ ?_
  refine Qj ?_
  refine (?_:AC _ _ _ _ _)
  iterate 7 refine w_ ?_
  have hb5:(decide (m < (l.length:Int)))=false:=hb4
  try rw[hb5]
  iterate 11 refine w_ ?_
  refine lc (dBs 1 (e:= .int) Vu) ?_
  iterate 2 refine w_ ?_
  refine lc (Zo (e:= .int) (a:=0) (b:=(m).toNat) (l:=none) (h:=(some m)) (Qa rfl) rfl (by exact trivial) (by exact (Qa rfl)) Xq Kw rfl (by first | (simp only[ak,aj]; omega) | omega | (simp only[ak,aj,ai,aq,aA]; omega)) (by first | (simp only[ak,aj]; omega) | omega | (simp only[ak,aj,ai,aq,aA]; omega)) (by first | (simp only[ak,aj]; omega) | omega | (simp only[ak,aj,ai,aq,aA]; omega)) (by first | rfl | simp) (by first | rfl | simp))<|lc (Za 2 (Qa rfl) rfl (WE (e:= .int) (Qa rfl) rfl (by omega)) rfl Xq Vz (by first | omega | (simp only[ai,aP,aq,au,aF]; omega) | (simp only[ai,bd,aq,au,aF]; omega)) rfl (Fresh.of rfl) (nlr rfl)) ?_
  iterate 5 refine w_ ?_
  refine lc (dBs 3 (e:= .int) Vu) ?_
  refine lc (dA 4 Vz) ?_
  iterate 6 refine w_ ?_
  refine lc (Zo (e:= .int) (a:=(m).toNat) (b:=l.length - (m).toNat) (l:=(some m)) (h:=none) (Qa rfl) rfl (by exact (Qa rfl)) (by exact trivial) Xq Kw rfl (by first | (simp only[ak,aj]; omega) | omega | (simp only[ak,aj,ai,aq,aA]; omega)) (by first | (simp only[ak,aj]; omega) | omega | (simp only[ak,aj,ai,aq,aA]; omega)) (by first | (simp only[ak,aj]; omega) | omega | (simp only[ak,aj,ai,aq,aA]; omega)) (by first | rfl | simp) (by first | rfl | simp))<|lc (Za 5 (Qa rfl) rfl (WE (e:= .int) (Qa rfl) rfl (by omega)) rfl Xq Vz (by first | omega | (simp only[ai,aP,aq,au,aF]; omega) | (simp only[ai,bd,aq,au,aF]; omega)) rfl (Fresh.of rfl) (nlr rfl)) ?_
  iterate 2 refine w_ ?_
  refine Qb<|fo_ hO ?_
  exact Qjd hP (by omega) (by omega) (fun z hz=>by simp_all)
 ·have hb4':=ae hb4
  iterate 3 refine w_ ?_
  obtain ⟨y,hx7⟩:∃z,l[(m).toNat]? =some z:=⟨_,aa (by omega)⟩
  iterate 5 refine w_ ?_
  cases hb8:(decide (y < n))
  ·have hb8':=ab hb8
   refine w_ ?_
   refine Qj ?_
   refine (?_:AC _ _ _ _ _)
   iterate 7 refine w_ ?_
   have hb9:(decide (m < (l.length:Int)))=true:=hb4
   try rw[hb9]
   iterate 8 refine w_ ?_
   refine cd_ (fun hb10 hb10'=> ?_) fun hb10 hb10'=> ?_
   ·iterate 2 refine w_ ?_
    refine lc (dBs 6 (e:= .int) Vu) ?_
    iterate 2 refine w_ ?_
    refine lc (Zo (e:= .int) (a:=0) (b:=(m).toNat) (l:=none) (h:=(some m)) (Qa rfl) rfl (by exact trivial) (by exact (Qa rfl)) Xq Kw rfl (by first | (simp only[ak,aj]; omega) | omega | (simp only[ak,aj,ai,aq,aA]; omega)) (by first | (simp only[ak,aj]; omega) | omega | (simp only[ak,aj,ai,aq,aA]; omega)) (by first | (simp only[ak,aj]; omega) | omega | (simp only[ak,aj,ai,aq,aA]; omega)) (by first | rfl | simp) (by first | rfl | simp))<|lc (Za 7 (Qa rfl) rfl (WE (e:= .int) (Qa rfl) rfl (by omega)) rfl Xq Vz (by first | omega | (simp only[ai,aP,aq,au,aF]; omega) | (simp only[ai,bd,aq,au,aF]; omega)) rfl (Fresh.of rfl) (nlr rfl)) ?_
    iterate 5 refine w_ ?_
    refine lc (dBs 8 (e:= .int) Vu) ?_
    refine lc (dA 9 Vz) ?_
    iterate 6 refine w_ ?_
    refine lc (Zo (e:= .int) (a:=(m).toNat) (b:=l.length - (m).toNat) (l:=(some m)) (h:=none) (Qa rfl) rfl (by exact (Qa rfl)) (by exact trivial) Xq Kw rfl (by first | (simp only[ak,aj]; omega) | omega | (simp only[ak,aj,ai,aq,aA]; omega)) (by first | (simp only[ak,aj]; omega) | omega | (simp only[ak,aj,ai,aq,aA]; omega)) (by first | (simp only[ak,aj]; omega) | omega | (simp only[ak,aj,ai,aq,aA]; omega)) (by first | rfl | simp) (by first | rfl | simp))<|lc (Za 10 (Qa rfl) rfl (WE (e:= .int) (Qa rfl) rfl (by omega)) rfl Xq Vz (by first | omega | (simp only[ai,aP,aq,au,aF]; omega) | (simp only[ai,bd,aq,au,aF]; omega)) rfl (Fresh.of rfl) (nlr rfl)) ?_
    iterate 2 refine w_ ?_
    refine Qb<|fo_ hO ?_
    exact Qjd hP (by omega) (by omega) (fun z hz=>by simp_all)
   ·iterate 4 refine w_ ?_
    refine Qb<|fo_ hO ?_
    exact QqD hP (by simp_all)
  ·have hb8':=ae hb8
   iterate 7 refine w_ ?_
   refine Qd<|Q0 ⟨(m+1),rfl,(by omega),(fun j hj z hz=>by by_cases e:j=m.toNat <;> first | (subst e; simp_all; done) | exact hP j (by omega) z hz),rfl⟩ (by omega) ?_
   exact Wk.of [] rfl ⟨rfl,rfl,rfl,rfl,trivial⟩ ⟨rfl,trivial⟩ rfl rfl
theorem Us (l:List ByteArray)(hl:l.length≤1000000000):FC Tryz.prog 83 [(false,[.dat (.sl 9 .str) l])] [] 0 (WC 9 .str l):=by
 refine Ql Tryz.func83 rfl rfl Tryz.ntmps83 fun O_ hO w0_ N0_ X_ h0_ f0_=> ?_
 iterate 4 refine w_ ?_
 refine lc (dBs 0 (e:= .str) Yb) ?_
 refine w_ ?_
 refine lc (Za 1 (Qa rfl) rfl (Evl.rep (Qa rfl)) rfl Zd Y6 (by first | omega | (simp only[ai,aP,aq,au,aF]; omega) | (simp only[ai,bd,aq,au,aF]; omega)) rfl (Fresh.of rfl) (nlr rfl)) ?_
 iterate 2 refine w_ ?_
 refine Qb<|fo_ hO ?_
 rfl
theorem JN (c:(List (ByteArray×Int))×List ByteArray×(List (Int×Int×Bool×Int)))(sig:Int)[∀c,Decidable (SgOk c)]:FC Tryz.prog 173 [(true,[.dat (.sl 203 (.pr .str .int)) c.1, .dat (.sl 9 .str) c.2.1, .dat (.sl 136 (.pr .int (.pr .int (.pr .bool .int)))) c.2.2]),(false,[dI sig])] [] 0 (QH (lB (decide (SgOk c∧0≤sig∧sig≤(c.1.length:Int) - 1)))):=by
 refine Ql Tryz.func173 rfl rfl Tryz.ntmps173 fun O_ hO w0_ N0_ X_ h0_ f0_=> ?_
 refine acI 1 fun hi1=> ?_
 refine w_ ?_
 refine xbx 0 ?_
 iterate 4 refine w_ ?_
 refine lc (dK (YW c) Qc4) ?_
 refine w_ ?_
 cases hb2:(decide (SgOk c))
 ·have hb2':=ab hb2
  iterate 9 refine w_ ?_
  refine Qb<|fqB hO ?_
  (simp_all; done)
 ·have hb2':=ae hb2
  iterate 3 refine w_ ?_
  refine alL 10 fun hl3=> ?_
  iterate 2 refine w_ ?_
  refine lgy rfl rfl (dK (QM sig 0 ((c.1.length:Int) - 1)) ZG) ?_
  iterate 3 refine w_ ?_
  refine Qb<|fqB hO ?_
  (simp_all; done)
end Go.Proofs.YtfkmmpfdncopdaaGreat
