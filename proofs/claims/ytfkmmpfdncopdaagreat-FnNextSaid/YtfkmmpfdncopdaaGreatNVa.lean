/- Walks over abstract states: valid state graphs, the reference. -/
import Derived.Test.YtfkmmpfdncopdaaGreatNWx
import Derived.Test.YtfkmmpfdncopdaaGreatNAk
import Derived.Laws.Bits64b
set_option linter.unusedSimpArgs false
set_option linter.unusedVariables false
set_option linter.unusedSectionVars false
namespace Go.Proofs.YtfkmmpfdncopdaaGreat
set_option maxHeartbeats 4000000
set_option maxRecDepth 100000
open Go.RowKit
set_option maxRecDepth 100000
set_option maxHeartbeats 4000000
structure SgOk (c:DSg):Prop where
  sigs:Y3 c.1
  some_:1≤c.2.1.length∧c.2.1.length≤300
  few:c.2.2.length≤4000
  codes:∀x∈c.2.1,ZQ x (c.1.length:Int)
  arcs:∀a∈c.2.2,YV c a
  all:Qaj c.2.1.length (ZI c.2.2)
theorem XB {α:Type}{p:α→Prop}{l:List α}{k:Nat}{x:α}(h:∀j,j < k→∀x,l[j]? =some x→p x)(hx:l[k]? =some x)(hp:p x):∀j,j < k+1→∀x,l[j]? =some x→p x:=fun j hj y hy=>by
  by_cases e:j=k
  · subst e; rw[hx] at hy; cases hy; exact hp
  · exact h j (by omega) y hy
theorem YK {α:Type}{p:α→Prop}{l:List α}{k:Nat}(h:∀j,j < k→∀x,l[j]? =some x→p x)(hk:l.length≤k):∀x∈l,p x:=fun x hx=>by
  obtain ⟨j,hj⟩:=aM.1 hx
  have:=(ah.1 hj).1
  exact h j (by omega) x hj
theorem Jm {c:DSg}{a:DAr}(h:YV c a):InR c.2.1.length a:=by
  obtain ⟨⟨h1,h2⟩,⟨h3,h4⟩,_⟩:=h
  exact ⟨⟨h1,by omega⟩,h3,by omega⟩
section
variable {c:DSg}[Decidable (SgOk c)]{x:ByteArray}{a:DAr}{k i:Nat}
theorem QlH (h:¬Y3 c.1):false=decide (SgOk c):=(ay fun g=>h g.sigs).symm
theorem Ql5 (h:¬((1:Int)≤(c.2.1.length:Int)∧(c.2.1.length:Int)≤300)):false=decide (SgOk c):=(ay fun g=>h (by have:=g.some_; omega)).symm
theorem Qm2 (h:(4000:Int) < (c.2.2.length:Int)):false=decide (SgOk c):=(ay fun g=>by have:=g.few; omega).symm
theorem Qni (hx:c.2.1[k]? =some x)(h:¬ZQ x (c.1.length:Int)):false=decide (SgOk c):=(ay fun g=>h (g.codes x (ap hx))).symm
theorem QcI (hx:c.2.2[k]? =some a)(h:¬YV c a):false=decide (SgOk c):=(ay fun g=>h (g.arcs a (ap hx))).symm
theorem Qmf [Decidable (Qaj c.2.1.length (ZI c.2.2))](h1:Y3 c.1)(h2:(1:Int)≤(c.2.1.length:Int)∧(c.2.1.length:Int)≤300)(h3:¬(4000:Int) < (c.2.2.length:Int))(h4:∀x∈c.2.1,ZQ x (c.1.length:Int))(h5:∀a∈c.2.2,YV c a):
    decide (Qaj c.2.1.length (ZI c.2.2))=decide (SgOk c):=bL.2 ⟨fun h=>⟨h1,by omega,by omega,h4,h5,h⟩,fun g=>g.all⟩
end
theorem Qbd (c:(List (ByteArray×Int))×List ByteArray×(List (Int×Int×Bool×Int)))[∀c,Decidable (SgOk c)]:FC Tryz.prog 67 [(true,[.dat (.sl 203 (.pr .str .int)) c.1, .dat (.sl 9 .str) c.2.1, .dat (.sl 136 (.pr .int (.pr .int (.pr .bool .int)))) c.2.2])] [] 0 (QH (lB (decide (SgOk c)))):=by
 classical
 refine Ql Tryz.func67 rfl rfl Tryz.ntmps67 fun O_ hO w0_ N0_ X_ h0_ f0_=> ?_
 refine w_ ?_
 refine xbx 0 ?_
 iterate 6 refine w_ ?_
 refine lc (dK (JK c.1) Qgz) ?_
 iterate 2 refine w_ ?_
 cases hb1:(decide (Y3 c.1))
 ·have hb1':=ab hb1
  iterate 17 refine w_ ?_
  refine Qb<|fqB hO ?_
  exact QlH (by assumption)
 ·have hb1':=ae hb1
  iterate 2 refine w_ ?_
  refine alL 13 fun hl2=> ?_
  refine w_ ?_
  refine lgy rfl rfl (dK (YT (c.2.1.length:Int) 1 300) XG) ?_
  iterate 3 refine w_ ?_
  cases hb3:(decide (1≤(c.2.1.length:Int)∧(c.2.1.length:Int)≤300))
  ·have hb3':=ab hb3
   iterate 10 refine w_ ?_
   refine Qb<|fqB hO ?_
   exact Ql5 (by assumption)
  ·have hb3':=ae hb3
   iterate 2 refine w_ ?_
   refine alL 20 fun hl4=> ?_
   iterate 4 refine w_ ?_
   refine cd_ (fun hb5 hb5'=> ?_) fun hb5 hb5'=> ?_
   ·iterate 5 refine w_ ?_
    refine alL 25 fun hl6=> ?_
    iterate 4 refine w_ ?_
    refine lpK c.2.1.length (fun k=>∀j,j < k→∀x,c.2.1[j]? =some x→ZQ x (c.1.length:Int)) (fun k=>⟨[(1,lP 0 0),(25,lf (.dat (.sl 9 .str) c.2.1)),(26,lI (c.2.1.length:Int)),(27,lI (k:Int))],[bx 0 28 [.dat (.sl 203 (.pr .str .int)) c.1, .dat (.sl 9 .str) c.2.1, .dat (.sl 136 (.pr .int (.pr .int (.pr .bool .int)))) c.2.2]]⟩) ((fun j hj=>absurd hj (b8 j))) ?_ fun k hk7 hB=> ?_
    · exact Wk.of [] rfl ⟨rfl,rfl,rfl,rfl,trivial⟩ ⟨rfl,trivial⟩ rfl rfl
    iterate 4 refine w_ ?_
    cases hb8:(decide ((k:Int) < (c.2.1.length:Int)))
    ·have hb8':=ab hb8
     refine w_ ?_
     refine Qj ?_
     refine (?_:AC _ _ _ _ _)
     iterate 4 refine w_ ?_
     refine alL 39 fun hl9=> ?_
     iterate 4 refine w_ ?_
     refine lpK c.2.2.length (fun i=>∀j,j < i→∀a,c.2.2[j]? =some a→YV c a) (fun i=>⟨[(1,lP 0 0),(39,lf (.dat (.sl 136 (.pr .int (.pr .int (.pr .bool .int)))) c.2.2)),(40,lI (c.2.2.length:Int)),(41,lI (i:Int))],[bx 0 28 [.dat (.sl 203 (.pr .str .int)) c.1, .dat (.sl 9 .str) c.2.1, .dat (.sl 136 (.pr .int (.pr .int (.pr .bool .int)))) c.2.2]]⟩) ((fun j hj=>absurd hj (b8 j))) ?_ fun i hk10 hR=> ?_
     · exact Wk.of [] rfl ⟨rfl,rfl,rfl,rfl,trivial⟩ ⟨rfl,trivial⟩ rfl rfl
     iterate 4 refine w_ ?_
     cases hb11:(decide ((i:Int) < (c.2.2.length:Int)))
     ·have hb11':=ab hb11
      refine w_ ?_
      refine Qj ?_
      refine (?_:AC _ _ _ _ _)
      iterate 2 refine w_ ?_
      refine lc (dK (QcP c (by omega) (fun a ha=>Jm (YK hR (by omega) a ha))) QhG) ?_
      iterate 2 refine w_ ?_
      refine Qb<|fqB hO ?_
      exact Qmf (by assumption) (by assumption) (by assumption) (YK hB (by omega)) (YK hR (by omega))
     ·have hb11':=ae hb11
      iterate 5 refine w_ ?_
      obtain ⟨x12,hx13⟩:∃z,c.2.2[i]? =some z:=⟨_,aa (by omega)⟩
      iterate 2 refine w_ ?_
      refine lc (xal 1 (.pr .int (.pr .int (.pr .bool .int))) V0) ?_
      iterate 5 refine w_ ?_
      refine lc (dK (QcN c x12 (YK hB (by omega)) (by have:=(‹Y3 c.1›).2.2; omega)) Qh1) ?_
      iterate 2 refine w_ ?_
      cases hb14:(decide (YV c x12))
      ·have hb14':=ab hb14
       iterate 4 refine w_ ?_
       refine Qb<|fqB hO ?_
       exact QcI hx13 (by assumption)
      ·have hb14':=ae hb14
       refine w_ ?_
       refine AC.skip ?_
       refine (?_:AC _ _ _ _ _)
       iterate 3 refine w_ ?_
       refine Qd ?_
       refine lK_ ((XB hR hx13 (by assumption))) ?_
       exact Wk.of [] rfl ⟨rfl,rfl,rfl,rfl,trivial⟩ ⟨rfl,trivial⟩ rfl rfl
    ·have hb8':=ae hb8
     iterate 5 refine w_ ?_
     obtain ⟨x15,hx16⟩:∃z,c.2.1[k]? =some z:=⟨_,aa (by omega)⟩
     iterate 8 refine w_ ?_
     refine alL 33 fun hl17=> ?_
     refine w_ ?_
     refine lc (dK (UQ x15 (c.1.length:Int)) Qcn) ?_
     iterate 2 refine w_ ?_
     cases hb18:(decide (ZQ x15 (c.1.length:Int)))
     ·have hb18':=ab hb18
      iterate 4 refine w_ ?_
      refine Qb<|fqB hO ?_
      exact Qni hx16 (by assumption)
     ·have hb18':=ae hb18
      refine w_ ?_
      refine AC.skip ?_
      refine (?_:AC _ _ _ _ _)
      iterate 3 refine w_ ?_
      refine Qd ?_
      refine lK_ ((XB hB hx16 (by assumption))) ?_
      exact Wk.of [] rfl ⟨rfl,rfl,rfl,rfl,trivial⟩ ⟨rfl,trivial⟩ rfl rfl
   ·iterate 3 refine w_ ?_
    refine Qb<|fqB hO ?_
    exact Qm2 (by assumption)
end Go.Proofs.YtfkmmpfdncopdaaGreat
namespace Go.Proofs.YtfkmmpfdncopdaaGreat
set_option maxHeartbeats 4000000
set_option maxRecDepth 100000
open Go.RowKit
set_option maxRecDepth 100000
set_option maxHeartbeats 4000000
section
variable {A:Amb}{P:Program}{s:St}{x y:Operand}{d:Nat}{T T' ty:TypeId}{pos:String}{af:Array Edge}{g:Option (Nat×Bool)}{n a b:Int}
theorem Qgf (h:0≤n∧n≤9223372036854775807):IntKind.u64.wrap n=n:=by
  simp[IntKind.wrap,IntKind.bits,IntKind.signed]
  omega
theorem QlX (h:0≤n∧n≤9223372036854775807):IntKind.i64.wrap n=n:=IntWalk.i64_in _ (by omega)
theorem V6 (hx:Evl A s x (dI n))(hs:P.underlying T=some (.int .i64))(hd:P.underlying T'=some (.int .u64))(h0:0≤n)(hn:Nat.blt d A.n=true):
    Does A P ⟨some d, .convert T T' x,ty,pos,af,g⟩ s (s.put d (lf (.val (.int .u64 n)))):=
  Qg rfl hn fun gh a w r=>by
    have h2:=hx.i r
    have h3:=(LVR.int (hx gh a w r)).2
    have e2:=Qgf (n:=n) (by omega)
    refine ⟨.int .u64 n, ?_,_,rfl,rfl⟩
    simp only[execOp,h2,convert,run_underlying hs,run_underlying hd,aw,aH,Conv.intToInt,e2]
    simp
theorem Ja (hx:Evl A s x (.val (.int .u64 n)))(hs:P.underlying T=some (.int .u64))(hd:P.underlying T'=some (.int .i64))(h0:0≤n∧n≤9223372036854775807)(hn:Nat.blt d A.n=true):
    Does A P ⟨some d, .convert T T' x,ty,pos,af,g⟩ s (s.put d (lf (dI n))):=
  Qg rfl hn fun gh a w r=>by
    have h2:a.eval x= .int .u64 n:=hx gh a w r
    have e2:=QlX h0
    refine ⟨.int .i64 n, ?_,_,rfl,Ye (by omega)⟩
    simp only[execOp,h2,convert,run_underlying hs,run_underlying hd,aw,aH,Conv.intToInt,e2]
    simp
theorem Qda (hx:Evl A s x (.val (.int .u64 a)))(hy:Evl A s y (.val (.int .u64 b)))(hn:Nat.blt d A.n=true):Does A P ⟨some d, .binOp .gtr T x y T',ty,pos,af,g⟩ s (s.put d (lf (dB (decide (b < a))))):=
  Qg rfl hn fun gh a' w r=>by
    have h1:a'.eval x= .int .u64 a:=hx gh a' w r
    have h2:a'.eval y= .int .u64 b:=hy gh a' w r
    refine ⟨.bool (decide (b < a)), ?_,_,rfl,ZC⟩
    simp only[execOp,h1,h2,eqGuard_at_int,binOp,Op.intCmp]
    simp
end
theorem Ql8 (n:Nat)(hn:n≤1000000):bits BinOp.and IntKind.u64 (n:Int) 4294967295=n:=by
  have h:=bits_and_u64_nat n 4294967295 (by omega) (by decide)
  rw[show ((4294967295:Nat):Int)=4294967295 from rfl] at h
  rw[h,show (4294967295:Nat)=2 ^ 32 - 1 from rfl,Nat.and_two_pow_sub_one_eq_mod,da (by omega)]
theorem QnV (n:Nat)(w:World)(hn:n≤1000000):Calls Tryz.prog 284 #[.int .u64 1, .int .u64 n] w fun e w'=>e= .returned (.tuple #[.int .u64 0, .int .u64 n])∧w'=w:=by
  have h1:bits BinOp.and IntKind.u64 1 4294967295=1:=by decide
  have h2:=Ql8 n hn
  have h3:(n:Int) / 4294967296=0:=by omega
  have h4:=Qgf (n:=n) (by omega)
  have h5:IntKind.u64.wrap 0=0:=by decide
  have h6:bits BinOp.and IntKind.u64 0 4294967295=0:=by decide
  go_enter Tryz.func284,Tryz.ntmps284
  go_wp2
  go_ret2
  exact ⟨rfl,rfl⟩
theorem Qq3 (a n:Int)(ha:a=1)(hn:0≤n∧n≤1000000):FC Tryz.prog 284 [(false,[.val (.int .u64 a)]),(false,[.val (.int .u64 n)])] [] 0 (QH (.tup [(false,[.val (.int .u64 0)]),(false,[.val (.int .u64 n)])])):=QlA fun gh w vs h=>by
  obtain ⟨v1,vs1,rfl,⟨l1,e1,k1⟩,v2,vs2,rfl,⟨l2,e2,k2⟩,rfl⟩:=h
  simp only[aI,and_true] at e1 e2
  subst e1 e2 ha
  have k1:v1= .int .u64 1:=k1
  have k2:v2= .int .u64 n:=k2
  subst k1 k2
  obtain ⟨m,rfl⟩:∃m:Nat,n=m:=⟨n.toNat,by omega⟩
  refine Calls.mono (QnV m w (by omega)) fun e w' he=> ?_
  obtain ⟨rfl,rfl⟩:=he
  exact ⟨_,rfl,QJ _,[.int .u64 0, .int .u64 m],rfl,_,_,rfl,⟨_,rfl,rfl⟩,_,_,rfl,⟨_,rfl,rfl⟩,rfl⟩
theorem QjG {v:Int}{m k:Nat}:cpy (List.replicate m v++List.replicate k (0:Int)) m k ((((List.replicate m v++List.replicate k (0:Int))).take (0+m)).drop 0)=List.replicate (m+min m k) v++List.replicate (k - min m k) 0:=by
  have h1:(List.replicate m v++List.replicate k (0:Int)).take m=List.replicate m v:=List.take_left' (by simp)
  have h2:(List.replicate m v++List.replicate k (0:Int)).drop (m+min m k)=List.replicate (k - min m k) 0:=by
    rw[List.drop_append,aA,bE (by simp),cP,List.drop_replicate]
    congr 1
    omega
  rw[cpy,bn,dp,h1,aA,h2,List.take_replicate,cu (Nat.min_le_left _ _),List.replicate_append_replicate]
theorem Qk7 {n v:Int}(hn:0≤n):cpy (List.replicate n.toNat (Ty.zero .int)) 0 (List.replicate n.toNat (Ty.zero .int)).length [v]=List.replicate (((min [v].length (List.replicate n.toNat (Ty.zero .int)).length:Nat):Int)).toNat v++List.replicate (n.toNat - (((min [v].length (List.replicate n.toNat (Ty.zero .int)).length:Nat):Int)).toNat) 0:=by
  have h:=QjG (v:=v) (m:=0) (k:=n.toNat)
  have e:(Ty.zero .int:Int)=0:=rfl
  cases hk:n.toNat with
  | zero=>simp[cpy]
  | succ k=>simp[cpy,e,List.replicate_succ]
theorem QkV {n m v:Int}{l:List Int}(h0:0≤m)(h1:m≤n)(hl:l=List.replicate m.toNat v++List.replicate (n.toNat - m.toNat) 0)(hL:l.length=n.toNat):
    cpy l m.toNat (l.length - m.toNat) ((l.take (0+m.toNat)).drop 0)=List.replicate (m+((min ((l.take (0+m.toNat)).drop 0).length (l.length - m.toNat):Nat):Int)).toNat v++List.replicate (n.toNat - (m+((min ((l.take (0+m.toNat)).drop 0).length (l.length - m.toNat):Nat):Int)).toNat) 0:=by
  have hlen:((l.take (0+m.toNat)).drop 0).length=m.toNat:=by simp[hL]; omega
  rw[hlen,hL]
  rw[hl,QjG]
  congr 2 <;> omega
theorem W8 (s:List Int)(n:Int)(v:Int)(hs:s=[v])(hn:0≤n∧n≤1000000):FC Tryz.prog 246 [(false,[.dat (.sl 3 .int) s]),(false,[dI n])] [] 0 (WC 3 .int (List.replicate n.toNat v)):=by
 have hs1:(s.length:Int)=1:=by rw[hs]; rfl
 have hneg:decide (n < 0)=false:=ay (by omega)
 have hbig:decide ((9223372036854775807:Int) < n)=false:=ay (by omega)
 have hrl:(List.replicate n.toNat (Ty.zero .int)).length=n.toNat:=aA ..
 refine Ql Tryz.func246 rfl rfl Tryz.ntmps246 fun O_ hO w0_ N0_ X_ h0_ f0_=> ?_
 refine acI 1 fun hi1=> ?_
 iterate 8 refine w_ ?_
 cases hb2:(decide (n < 0))
 ·have hb2':=ab hb2
  iterate 4 refine w_ ?_
  refine alL 13 fun hl3=> ?_
  refine w_ ?_
  refine lc (V6 (Qa rfl) Jv QeK (by omega) rfl) ?_
  refine w_ ?_
  refine lc (V6 (Qa rfl) Jv QeK (by omega) rfl) ?_
  refine lc (dK (Qq3 (s.length:Int) n hs1 hn) Qhz) ?_
  iterate 9 refine w_ ?_
  refine lc (Qda (Qa rfl) Evl.val rfl) ?_
  refine w_ ?_
  cases hb4:(decide ((0:Int) < (0:Int)))
  ·have hb4':=ab hb4
   refine w_ ?_
   refine lgy rfl rfl (Qda (Qa rfl) Evl.val rfl) ?_
   iterate 2 refine w_ ?_
   cases hb5:(decide ((9223372036854775807:Int) < n))
   ·have hb5':=ab hb5
    iterate 4 refine w_ ?_
    refine lc (Ja (Qa rfl) QeK Jv (by omega) rfl)<|lc (Qcy 0 (e:= .int) (n:=n) (Qa rfl) (Qa rfl) Xq Qlj rfl (by omega) (by omega) (by omega) rfl (Fresh.of rfl) (nlr rfl)) ?_
    iterate 5 refine w_ ?_
    refine lc (Qcz (e:= .int) (xs:=List.replicate (n).toNat (Ty.zero .int)) (lo:=0) (n:=(List.replicate (n).toNat (Ty.zero .int)).length) (ys:=s) (QmS (Qa rfl) rfl) rfl (by omega) (Evl.rep (Qa rfl)) rfl rfl Xq Qlj rfl) ?_
    iterate 4 refine w_ ?_
    refine Qy (fun m_ s_=>∃(m:Int) (l:List Int),m_=(n - m).toNat∧(0≤m∧m≤n∧(0 < n→0 < m))∧(l=List.replicate m.toNat v++List.replicate (n.toNat - m.toNat) 0)∧(l.length=n.toNat)∧s_=⟨[(4,lf (.val (.slice none 0 0))),(7,lR 1),(8,lI m)],[ar 1 3 .int l]⟩) ⟨((min s.length ((List.replicate (n).toNat (Ty.zero .int)).length):Nat):Int),cpy (List.replicate (n).toNat (Ty.zero .int)) 0 ((List.replicate (n).toNat (Ty.zero .int)).length) s,rfl,(by rw[hrl,hs]; simp; omega),(by rw[hs]; exact Qk7 hn.1),(by rw[Qe5 (by omega)]; exact hrl),rfl⟩ ?_ ?_
    · exact Wk.of [(1,0)] rfl ⟨rfl,rfl,rfl,trivial⟩ ⟨(Qn (by first | rfl | simp)),trivial⟩ rfl rfl
    rintro m_ s_ ⟨m,l,hm7,hm,hl,hL,rfl⟩
    iterate 7 refine w_ ?_
    cases hb8:(decide (m < (l.length:Int)))
    ·have hb8':=ab hb8
     refine w_ ?_
     refine Qj ?_
     refine (?_:AC _ _ _ _ _)
     iterate 4 refine w_ ?_
     refine Qb<|fo_ hO ?_
     rw[hl,show n.toNat - m.toNat=0 by omega,show m.toNat=n.toNat by omega]; simp
    ·have hb8':=ae hb8
     iterate 3 refine w_ ?_
     apply dV (i3 38 _ _ _ (io 41 (lf (.sub 1 1 ((m).toNat) (l.length - (m).toNat))) :: i2 42 _ _ [io 44 (lf (.sub 1 1 0 ((m).toNat))),⟨some 45,lI ((min ((l.take (0+((m).toNat))).drop 0).length (l.length - (m).toNat):Nat):Int),[ar 1 3 .int (cpy l ((m).toNat) (l.length - (m).toNat) ((l.take (0+((m).toNat))).drop 0))]⟩,io 46 _,io 8 _])) [0,1,3,1,15,31,15,1,0,0]
     iterate 3 refine z_ ?_
     refine zz (fun _ h_=>ac (Zo (e:= .int) (a:=(m).toNat) (b:=l.length - (m).toNat) (l:=(some m)) (h:=none) (h_.v rfl) (h_.en 1 rfl) (by exact (h_.v rfl)) (by exact trivial) Xq Kw rfl (by first | (simp only[ak,aj]; omega) | omega | (simp only[ak,aj,ai,aq,aA]; omega)) (by first | (simp only[ak,aj]; omega) | omega | (simp only[ak,aj,ai,aq,aA]; omega)) (by first | (simp only[ak,aj]; omega) | omega | (simp only[ak,aj,ai,aq,aA]; omega)) (by first | rfl | simp) (by first | rfl | simp)) rfl) ?_
     iterate 2 refine z_ ?_
     refine zz (fun _ h_=>ac (Zo (e:= .int) (a:=0) (b:=(m).toNat) (l:=none) (h:=(some m)) (h_.v rfl) (h_.en 1 rfl) (by exact trivial) (by exact (h_.v rfl)) Xq Kw rfl (by first | (simp only[ak,aj]; omega) | omega | (simp only[ak,aj,ai,aq,aA]; omega)) (by first | (simp only[ak,aj]; omega) | omega | (simp only[ak,aj,ai,aq,aA]; omega)) (by first | (simp only[ak,aj]; omega) | omega | (simp only[ak,aj,ai,aq,aA]; omega)) (by first | rfl | simp) (by first | rfl | simp)) rfl)<|zz (fun _ h_=>ac (Qcz (e:= .int) (xs:=l) (lo:=(m).toNat) (n:=l.length - (m).toNat) (ys:=(l.take (0+((m).toNat))).drop 0) (Qmc (h_.v rfl) (h_.en 1 rfl)) (h_.en 1 rfl) (by omega) (WE (e:= .int) (h_.v rfl) (h_.en 1 rfl) (by omega)) rfl rfl Xq Qlj rfl) rfl) ?_
     iterate 2 refine z_ ?_
     exact zN
     refine Q0 ⟨(m+((min ((l.take (0+((m).toNat))).drop 0).length (l.length - (m).toNat):Nat):Int)),(cpy l ((m).toNat) (l.length - (m).toNat) ((l.take (0+((m).toNat))).drop 0)),rfl,(by simp only[bd,aq,hL]; omega),(QkV hm.1 hm.2.1 hl hL),(by rw[Qe5 (by omega)]; exact hL),rfl⟩ (by simp only[bd,aq,hL]; omega) ?_
     exact Wk.of [] rfl ⟨rfl,rfl,rfl,trivial⟩ ⟨(Qn (by first | rfl | simp)),trivial⟩ rfl rfl
   · exact absurd (hb5.symm.trans (show (decide ((9223372036854775807:Int) < n))=false from hbig)) (by decide)
  · exact absurd (hb4.symm.trans (show (decide ((0:Int) < (0:Int)))=false from (by decide))) (by decide)
 · exact absurd (hb2.symm.trans (show (decide (n < 0))=false from hneg)) (by decide)
end Go.Proofs.YtfkmmpfdncopdaaGreat
namespace Go.Proofs.YtfkmmpfdncopdaaGreat
set_option maxHeartbeats 4000000
set_option maxRecDepth 100000
open Go.RowKit
set_option maxRecDepth 100000
set_option maxHeartbeats 4000000
def Qar (l:List (List Int))(e:Int×Int):List (List Int):=l.modify e.1.toNat (· ++[e.2])
def Z6 (n:Nat)(es:List (Int×Int)):List (List Int):=es.foldl Qar (List.replicate n [])
def bfT (o:Int):List Int→List Int×List Int→List Int×List Int
  | [],st=>st
  | t :: ts,st=>if (st.1[t.toNat]?).getD 0 < 0 then bfT o ts (st.1.set t.toNat ((st.1[o.toNat]?).getD 0+1),st.2++[t]) else bfT o ts st
def bfK (nx:List (List Int)):Nat→Nat→List Int×List Int→List Int
  | 0,_,st=>st.1
  | f+1,k,st=>match st.2[k]? with
    | none=>st.1
    | some o=>bfK nx f (k+1) (bfT o ((nx[o.toNat]?).getD []) st)
def KB (n:Nat)(es:List (Int×Int)):List Int:=bfK (Z6 n es) (n+1) 0 ((List.replicate n (-1)).set 0 0,[0])
def QcU (l:List Int):Nat:=(l.filter (· < 0)).length
structure BI (n:Nat) (es:List (Int×Int)) (st:List Int×List Int):Prop where
  len:st.1.length=n
  cnt:QcU st.1+st.2.length=n
  q:∀x∈st.2,(0≤x∧x < n)∧Rch es x∧∃v,st.1[x.toNat]? =some v∧0≤v
  nn:∀(i:Nat) v,st.1[i]? =some v→0≤v→(i:Int)∈st.2
  rng:∀v∈st.1, -1≤v∧v≤(st.2.length:Int)
section
variable {n k i f:Nat}{es:List (Int×Int)}{e:Int×Int}{l ts ys q out:List Int}{o t c w:Int}{nx:List (List Int)}{st:List Int×List Int}
theorem Qg5 {α:Type _}{l:List α}{i:Nat}{x:α}{g:α→α}(h:l[i]? =some x):l.set i (g x)=l.modify i g:=by
  apply bA
  intro j
  rw[cD]
  by_cases e:i=j
  · subst e; rw[aW (ah.1 h).1,h]; simp
  · rw[b6 e]; simp[e]
theorem QjL {l:List (List Int)}:(es.foldl Qar l).length=l.length:=by
  induction es generalizing l with
  | nil=>rfl
  | cons e es ih=>rw[bu,ih]; simp[Qar]
theorem Kg:(Z6 n es).length=n:=by unfold Z6; rw[QjL]; simp
theorem QgF (hx:es[k]? =some e)(hy:(Z6 n (es.take k))[e.1.toNat]? =some ys):(Z6 n (es.take k)).set e.1.toNat (ys++[e.2])=Z6 n (es.take (k+1)):=by
  rw[Qg5 (g:=(· ++[e.2])) hy,QQ hx]
  simp[Z6,List.foldl_append,Qar]
theorem Qj3 {l:List (List Int)}{i:Nat}{t:Int}(hr:∀e∈es,0≤e.1):t∈((es.foldl Qar l)[i]?).getD []↔t∈(l[i]?).getD []∨(i < l.length∧((i:Int),t)∈es):=by
  induction es generalizing l with
  | nil=>simp
  | cons e es ih=>
    rw[bu,ih (fun e he=>hr e (ax _ he))]
    have h0:=hr e (az ..)
    have hl:(Qar l e).length=l.length:=by simp[Qar]
    rw[hl]
    have h1:t∈((Qar l e)[i]?).getD []↔t∈(l[i]?).getD []∨(i < l.length∧((i:Int),t)=e):=by
      unfold Qar
      rw[cD]
      by_cases e2:e.1.toNat=i
      · cases h : l[i]? with
        | none=>
          have:=List.getElem?_eq_none_iff.1 h
          simp[e2]
          intro h3; omega
        | some x=>
          have:=(ah.1 h).1
          simp[e2,this]
          have:((i:Int),t)=e↔t=e.2:=⟨fun h=>by rw[← h],fun h=>Prod.ext (by show (i:Int)=e.1; omega) h⟩
          rw[this]
      · simp [e2]
        intro _ h3
        exact absurd (show e.1.toNat=i by rw[← h3]; rfl) e2
    rw[h1,aE]
    constructor
    · rintro ((h | ⟨h, h2⟩) | ⟨h, h2⟩)
      · exact .inl h
      · exact .inr ⟨h, .inl h2⟩
      · exact .inr ⟨h, .inr h2⟩
    · rintro (h | ⟨h, h2 | h2⟩)
      · exact .inl (.inl h)
      · exact .inl (.inr ⟨h,h2⟩)
      · exact .inr ⟨h,h2⟩
theorem QdK {i:Nat}(hr:∀e∈es,InE n e)(hy:(Z6 n es)[i]? =some ys):t∈ys↔((i:Int),t)∈es:=by
  have h:=Qj3 (l:=List.replicate n []) (i:=i) (t:=t) (es:=es) (fun e he=>(hr e he).1.1)
  have hi:i < n:=by have:=(ah.1 hy).1; rwa [Kg] at this
  change t∈((Z6 n es)[i]?).getD []↔_ at h
  rw[hy] at h
  simpa [hi] using h
theorem Qc0 {i:Nat}(hy:(Z6 n es)[i]? =some ys):ys.length≤es.length:=by
  have:∀(l:List (List Int)) (i:Nat) (ys:List Int),(es.foldl Qar l)[i]? =some ys→ys.length≤((l[i]?).getD []).length+es.length:=by
    clear hy
    induction es with
    | nil=>intro l i ys h; simp at h; simp[h]
    | cons e es ih=>
      intro l i ys h
      rw[bu] at h
      have:=ih _ _ _ h
      have h2:(((Qar l e)[i]?).getD []).length≤((l[i]?).getD []).length+1:=by
        unfold Qar
        rw[cD]
        cases hl:l[i]? with
        | none=>simp
        | some x=>by_cases e2:e.1.toNat=i <;> simp[e2]
      rw[au]; omega
  have h:=this _ _ _ hy
  have h0:(((List.replicate n ([]:List Int))[i]?).getD []).length=0:=by
    rw[ck]; split <;> rfl
  omega
theorem QnG (hx:ts[i]? =some t)(hc:out[t.toNat]? =some c)(hn:c < 0)(ho:out[o.toNat]? =some w):bfT o (ts.drop i) (out,q)=bfT o (ts.drop (i+1)) (out.set t.toNat (w+1),q++[t]):=by
  rw[ZW hx,bfT]
  simp[hc,ho,hn]
theorem Qly (hx:ts[i]? =some t)(hc:out[t.toNat]? =some c)(hn:¬c < 0):bfT o (ts.drop i) (out,q)=bfT o (ts.drop (i+1)) (out,q):=by
  rw[ZW hx,bfT]
  simp only[hc,aj,if_neg hn]
theorem Qo2 (h:ts.length≤i):bfT o (ts.drop i) st=st:=by rw[bE h,bfT]
theorem QqM (hq:q[k]? =some o)(hy:nx[o.toNat]? =some ts)(hk:k < n+1):bfK nx (n+1 - k) k (out,q)=bfK nx (n+1 - (k+1)) (k+1) (bfT o (ts.drop 0) (out,q)):=by
  rw[show n+1 - k=(n+1 - (k+1))+1 by omega,bfK]
  simp[hq,hy]
theorem Qok (h:q.length≤k):bfK nx f k (out,q)=out:=by
  cases f with
  | zero=>rfl
  | succ f=>rw[bfK]; simp[bp h]
theorem Qgs {l:List Int}(h:l[i]? =some c)(hc:c < 0)(hw:0≤w):QcU (l.set i w)+1=QcU l:=by
  induction l generalizing i with
  | nil=>simp at h
  | cons x l ih=>
    cases i with
    | zero=>
      simp only[bO,bk] at h
      subst h
      simp[QcU,hc,show¬w < 0 by omega]
    | succ i=>
      have:=ih (i:=i) (by simpa using h)
      simp only[QcU,cK,dd] at this ⊢
      split <;> simp_all
theorem BI.step (h:BI n es (out,q))(hr:∀e∈es,InE n e)(ho:o∈q)(he:(o,t)∈es)(hc:out[t.toNat]? =some c)(hn:c < 0)(hw:out[o.toNat]? =some w):BI n es (out.set t.toNat (w+1),q++[t]):=by
  obtain ⟨h1,h2,h3,h4,h5⟩:=h
  have hw0:0≤w:=by
    obtain ⟨_,_,v,h6,h7⟩:=h3 o ho
    have h6:out[o.toNat]? =some v:=h6
    rw[hw] at h6; cases h6; exact h7
  have hw1:=h5 w (ap hw)
  have htl:=(ah.1 hc).1
  obtain ⟨_,ht0,ht1⟩:=hr _ he
  have ht0:0≤t:=ht0
  have ht1:t < (n:Int):=ht1
  refine ⟨by simpa using h1, ?_, ?_, ?_, ?_⟩
  · have h6 := Qgs hc hn (show 0 ≤ w + 1 by omega)
    have h2:QcU out+q.length=n:=h2
    show QcU (out.set t.toNat (w+1))+(q++[t]).length=n
    rw[ai,cQ]; omega
  · intro x hx
    show (0≤x∧x < n)∧Rch es x∧∃v,(out.set t.toNat (w+1))[x.toNat]? =some v∧0≤v
    rcases aK.1 hx with hx | hx
    · obtain ⟨h6, h7, v, h8, h9⟩ := h3 x hx
      refine ⟨h6,h7, ?_⟩
      by_cases e2:t.toNat=x.toNat
      · exact ⟨w+1,by rw[← e2,aW htl],by omega⟩
      · exact ⟨v,by rw[b6 e2]; exact h8,h9⟩
    · rw [aC] at hx
      subst hx
      exact ⟨⟨ht0,ht1⟩, .step (h3 o ho).2.1 he,w+1,aW htl,by omega⟩
  · intro i v hv h0
    have hv:(out.set t.toNat (w+1))[i]? =some v:=hv
    show (i:Int)∈q++[t]
    by_cases e2:t.toNat=i
    · exact aK.2 (.inr (by rw[aC]; omega))
    · rw [b6 e2] at hv
      exact aK.2 (.inl (h4 i v hv h0))
  · intro v hv
    show -1≤v∧v≤((q++[t]).length:Int)
    rw[ai,cQ]
    have hw1':w≤(q.length:Int):=hw1.2
    rcases c9 hv with h6 | h6
    · have h7 := h5 v h6
      have h8:v≤(q.length:Int):=h7.2
      omega
    · omega
theorem BI.q_le (h:BI n es (out,q)):q.length≤n:=by have:=h.cnt; simp only at this; omega
theorem BI.at_ (h:BI n es (out,q))(hq:q[k]? =some o):(0≤o∧o < n)∧o∈q:=⟨(h.q o (ap hq)).1,ap hq⟩
theorem QeE (hr:∀e∈es,InE n e):∀(ts:List Int) (st:List Int×List Int),BI n es st→o∈st.2→(∀t∈ts,(o,t)∈es)→BI n es (bfT o ts st)∧(∃r,(bfT o ts st).2=st.2++r)∧∀t∈ts,t∈(bfT o ts st).2
  | [],st,h,_,_=>⟨h,⟨[],by simp[bfT]⟩,fun t ht=>by cases ht⟩
  | t :: ts,st,h,ho,he=>by
    have he1:=he t (az ..)
    obtain ⟨_,ht0,ht1⟩:=hr _ he1
    have ht0:0≤t:=ht0
    have ht1:t < (n:Int):=ht1
    obtain ⟨c,hc⟩:∃c,st.1[t.toNat]? =some c:=⟨_,aa (by rw[h.len]; omega)⟩
    obtain ⟨w,hw,_⟩:=(h.q o ho).2.2
    rw[bfT,hc,hw]
    simp only[aj]
    split
    · rename_i hn
      have h2:=BI.step (out:=st.1) (q:=st.2) h hr ho he1 hc hn hw
      obtain ⟨g1,⟨r,g2⟩,g3⟩:=QeE hr ts _ h2 (aK.2 (.inl ho)) (fun t ht=>he t (ax _ ht))
      refine ⟨g1,⟨[t]++r,by rw[g2]; simp⟩,fun x hx=> ?_⟩
      rcases aE.1 hx with rfl | hx
      · rw[g2]; simp
      · exact g3 x hx
    · rename_i hn
      obtain ⟨g1,⟨r,g2⟩,g3⟩:=QeE hr ts st h ho (fun t ht=>he t (ax _ ht))
      refine ⟨g1,⟨r,g2⟩,fun x hx=> ?_⟩
      rcases aE.1 hx with rfl | hx
      · have := h.nn _ _ hc (by omega)
        rw[show ((x.toNat:Nat):Int)=x by omega] at this
        rw[g2]; exact aK.2 (.inl this)
      · exact g3 x hx
theorem QiY (hr:∀e∈es,InE n e):∀(f k:Nat) (st:List Int×List Int),BI n es st→n+1≤f+k→k≤st.2.length→(∀j o,j < k→st.2[j]? =some o→∀t,(o,t)∈es→t∈st.2)→
    ∃r,BI n es (bfK (Z6 n es) f k st,st.2++r)∧∀o∈st.2++r,∀t,(o,t)∈es→t∈st.2++r
  | 0,k,st,h,hf,hk,_=>by have:=BI.q_le (out:=st.1) (q:=st.2) h; omega
  | f+1,k,st,h,hf,hk,hcl=>by
    rw[bfK]
    cases hq:st.2[k]? with
    | none=>
      refine ⟨[],by simpa using h,fun o ho t ht=> ?_⟩
      rw[bF] at ho ⊢
      obtain ⟨j,hj⟩:=aM.1 ho
      have h1:=(ah.1 hj).1
      have h2:=List.getElem?_eq_none_iff.1 hq
      exact hcl j o (by omega) hj t ht
    | some o=>
      simp only
      have ho:=ap hq
      obtain ⟨ho0,ho1⟩:=(h.q o ho).1
      obtain ⟨ys,hy⟩:∃ys,(Z6 n es)[o.toNat]? =some ys:=⟨_,aa (by rw[Kg]; omega)⟩
      rw[hy,aj]
      have hm:∀t,t∈ys↔(o,t)∈es:=fun t=>by
        have:=QdK (t:=t) hr hy
        rwa [show ((o.toNat:Nat):Int)=o by omega] at this
      obtain ⟨g1,⟨r,g2⟩,g3⟩:=QeE hr ys st h ho (fun t ht=>(hm t).1 ht)
      have hkl:=(ah.1 hq).1
      obtain ⟨r2,k1,k2⟩:=QiY hr f (k+1) (bfT o ys st) g1 (by omega) (by rw[g2,ai]; omega) (fun j o' hj hjo t ht=>by
        rw[g2] at hjo ⊢
        rw[bf (by omega)] at hjo
        by_cases e2:j=k
        · subst e2
          rw[hq] at hjo; cases hjo
          rw[← g2]; exact g3 t ((hm t).2 ht)
        · exact aK.2 (.inl (hcl j o' (by omega) hjo t ht)))
      rw[g2,aZ] at k1 k2
      exact ⟨r++r2,k1,k2⟩
theorem BI.start (hn:1≤n):BI n es ((List.replicate n (-1)).set 0 0,[0]):=by
  have h0:(List.replicate n (-1:Int))[0]? =some (-1):=by rw[ck,if_pos (by omega)]
  refine ⟨by simp, ?_, ?_, ?_, ?_⟩
  · have h1 := Qgs (w := 0) h0 (by decide) (by decide)
    have h2:QcU (List.replicate n (-1:Int))=n:=by simp[QcU]
    show QcU ((List.replicate n (-1)).set 0 0)+1=n
    omega
  · intro x hx
    rw[aC.1 hx]
    exact ⟨⟨by omega,by omega⟩, .zero,0,aW (by simp; omega),by decide⟩
  · intro i v hv h1
    have hv:((List.replicate n (-1:Int)).set 0 0)[i]? =some v:=hv
    by_cases e2:0=i
    · subst e2; simp
    · rw [b6 e2, ck] at hv
      split at hv
      · cases hv; omega
      · cases hv
  · intro v hv
    show -1≤v∧v≤1
    rcases c9 hv with h | h
    · rw[cF h]; omega
    · omega
theorem Qkh (hn:1≤n)(hr:∀e∈es,InE n e):∃r,BI n es (KB n es,[0]++r)∧∀o∈[0]++r,∀t,(o,t)∈es→t∈[0]++r:=
  QiY hr (n+1) 0 _ (BI.start hn) (by omega) (aR _) (fun j o hj=>absurd hj (b8 j))
theorem Qli [Decidable (Qaj n es)](hn:1≤n)(hr:∀e∈es,InE n e):(!((KB n es).any fun y=>decide (-1=y)))=decide (Qaj n es):=by
  obtain ⟨r,h,hc⟩:=Qkh hn hr
  have hq:∀u,Rch es u→u∈[0]++r:=fun u hu=>by
    induction hu with
    | zero=>simp
    | step _ he ih=>exact hc _ ih _ he
  rw[bU,aV,bM,cq]
  constructor
  · intro g k hk
    have hl:k < (KB n es).length:=by have:=h.len; simp only at this; omega
    have h1:=cI hl
    have h2:=g _ h1
    have h3:=(h.rng _ h1).1
    have h4:=h.nn k _ (aa hl) (by simp only[aV] at h2; omega)
    exact (h.q _ h4).2.1
  · intro g x hx
    obtain ⟨k,hk⟩:=aM.1 hx
    have hl:=(ah.1 hk).1
    have hl2:k < n:=by have:=h.len; simp only at this; omega
    obtain ⟨_,_,v,h5,h6⟩:=h.q _ (hq _ (g k hl2))
    have h5:(KB n es)[((k:Int)).toNat]? =some v:=h5
    rw[show ((k:Int)).toNat=k by omega,hk] at h5
    cases h5
    simp only[aV]; omega
end
theorem Qqe {xs:List (List Int)}{i:Nat}{ys:List Int}(h:xs[i]? =some ys):(Q9 (.sl 3 .int) xs)[i*1+0]? =some (.dat (.sl 3 .int) ys):=K6 (e:= .sl 3 .int) (j:=0) h rfl
theorem Qiw {xs:List (List Int)}{i:Nat}{x ys:List Int}(h:xs[i]? =some x):(Q9 (.sl 3 .int) xs).set (i*1+0) (.dat (.sl 3 .int) ys)=Q9 (.sl 3 .int) (xs.set i ys):=
  (KI (e:= .sl 3 .int) (j:=0) (x':=ys) h rfl (by decide)).symm
theorem Jt (n:Int)(l:List (Int×Int))(start:Int)(hn:1≤n∧n≤300)(hl:∀e∈l,InE n.toNat e)(hll:l.length≤4000)(hst:start=0):FC Tryz.prog 158 [(false,[dI n]),(false,[.dat (.sl 258 (.pr .int .int)) l]),(false,[dI start])] [] 0 (WC 3 .int (KB n.toNat l)):=by
 refine Ql Tryz.func158 rfl rfl Tryz.ntmps158 fun O_ hO w0_ N0_ X_ h0_ f0_=> ?_
 refine acI 0 fun hi1=> ?_
 refine acI 2 fun hi2=> ?_
 iterate 3 refine w_ ?_
 apply dW [⟨some 15,lR 0,[ar 0 3 .int ([(-1)])]⟩,io 16 (lI n),⟨some 17,lR 1,[ar 1 3 .int (List.replicate n.toNat (-1))]⟩,io 18 (lI n),⟨some 19,lR 2,[ar 2 35 (.sl 3 .int) (List.replicate (n).toNat (Ty.zero (.sl 3 .int)))]⟩,io 7 (lR 1),io 8 _] [0,1,0,7,7,24,0]
 refine zz (fun _ h_=>ac (dBs 0 (e:= .int) Vu) rfl) ?_
 refine z_ ?_
 refine zz (fun _ h_=>ac (dOB 1 (W8 ([(-1)]) n (-1) rfl (by omega)) QgV) rfl) ?_
 refine z_ ?_
 refine zz (fun _ h_=>ac (Qcy 2 (e:=(.sl 3 .int)) (n:=n) (h_.v rfl) (h_.v rfl) QeJ Qqj rfl (by omega) (by omega) (by omega) rfl (h_.fr 2 rfl) (nlr rfl)) rfl) ?_
 iterate 2 refine z_ ?_
 exact zN
 iterate 3 refine w_ ?_
 refine alL 20 fun hl3=> ?_
 iterate 4 refine w_ ?_
 refine lp0 l.length (fun k=>⟨[(2,lI start),(6,lf (.val (.slice none 0 0))),(7,lR 1),(8,lR 3),(20,lf (.dat (.sl 258 (.pr .int .int)) l)),(21,lI (l.length:Int)),(22,lI (k:Int))],[ar 1 3 .int (List.replicate n.toNat (-1)),ar 3 35 (.sl 3 .int) (Z6 n.toNat (l.take k))]⟩) ?_ fun k hk4=> ?_
 · exact Wk.of [(3,2)] rfl ⟨rfl,rfl,rfl,rfl,rfl,rfl,rfl,trivial⟩ ⟨rfl,(Qn (by simp only[List.take_zero]; rfl)),trivial⟩ rfl rfl
 iterate 4 refine w_ ?_
 cases hb5:(decide ((k:Int) < (l.length:Int)))
 ·have hb5':=ab hb5
  refine w_ ?_
  refine Qj ?_
  refine (?_:AC _ _ _ _ _)
  refine ZS ?_
  have hke:Z6 n.toNat (l.take k)=Z6 n.toNat l:=by rw[ZK (by omega)]
  refine AC.wk (QhN 8 (q:=3) (e:=(.sl 3 .int)) (xs:=Z6 n.toNat (l.take k)) rfl rfl) ?_
  rw[hke]
  have hrl:(List.replicate n.toNat (-1:Int)).length=n.toNat:=aA ..
  have hnl:=Kg (n:=n.toNat) (es:=l)
  iterate 4 refine w_ ?_
  obtain ⟨x6,hx7⟩:∃z,(List.replicate n.toNat (-1))[(start).toNat]? =some z:=⟨_,aa (by omega)⟩
  refine lc (Qs (e:= .int) (z':=0) (Qa rfl) rfl hx7 rfl (Evl.ev (Qo rfl)) rfl Kw rfl rfl) ?_
  iterate 3 refine w_ ?_
  refine lc (dBs 4 (e:= .int) Vu) ?_
  iterate 7 refine w_ ?_
  refine Qy (fun m_ s_=>∃(k:Nat) (out:List Int) (q:List Int),k≤n.toNat∧m_=n.toNat - k∧(KB n.toNat l=bfK (Z6 n.toNat l) (n.toNat+1 - k) k (out,q))∧(BI n.toNat l (out,q))∧s_=⟨[(6,lf (.val (.slice none 0 0))),(7,lR 5),(8,lf (.dat (.sl 35 (.sl 3 .int)) (Z6 n.toNat l))),(11,lR 6),(12,lI (k:Int))],[ar 5 3 .int out,ar 6 3 .int q]⟩) ⟨0,(List.replicate n.toNat (-1)).set ((start).toNat) 0,[start],aR _,rfl,(by rw[hst]; rfl),(by rw[hst]; exact BI.start (by omega)),rfl⟩ ?_ ?_
  · exact Wk.of [(5,1),(6,4)] rfl ⟨rfl,rfl,rfl,rfl,rfl,trivial⟩ ⟨(Qn (by first | rfl | simp)),(Qn (by first | rfl | simp)),trivial⟩ rfl rfl
  rintro m_ s_ ⟨k,out,q,hk8,hm9,hA,hI,rfl⟩
  have hqn:=hI.q_le
  have hql:out.length=n.toNat:=hI.len
  iterate 7 refine w_ ?_
  cases hb10:(decide ((k:Int) < (q.length:Int)))
  ·have hb10':=ab hb10
   refine w_ ?_
   refine Qj ?_
   refine (?_:AC _ _ _ _ _)
   iterate 4 refine w_ ?_
   refine Qb<|fo_ hO ?_
   rw[hA,Qok (by omega)]
  ·have hb10':=ae hb10
   iterate 9 refine w_ ?_
   obtain ⟨o,hx12⟩:∃z,q[k]? =some z:=⟨_,aa (by omega)⟩
   have hok0:=hI.at_ hx12
   refine w_ ?_
   refine alI 55 fun hi13=> ?_
   obtain ⟨ts,hx15⟩:∃z,(Z6 n.toNat l)[(o).toNat]? =some z:=⟨_,aa (by omega)⟩
   have htm:=Qc0 hx15
   have hmem:∀t∈ts,(o,t)∈l:=fun t ht=>by have:=(QdK hl hx15).1 ht; rwa [show ((o.toNat:Nat):Int)=o by omega] at this
   iterate 2 refine w_ ?_
   refine alL 57 fun hl16=> ?_
   iterate 4 refine w_ ?_
   refine Qy (fun m_ s_=>∃(i:Nat) (out2:List Int) (q2:List Int),i≤ts.length∧m_=ts.length - i∧(KB n.toNat l=bfK (Z6 n.toNat l) (n.toNat+1 - (k+1)) (k+1) (bfT o (ts.drop i) (out2,q2)))∧(BI n.toNat l (out2,q2))∧(q2[k]? =some o)∧s_=⟨[(6,lf (.val (.slice none 0 0))),(7,lR 7),(8,lf (.dat (.sl 35 (.sl 3 .int)) (Z6 n.toNat l))),(11,lR 8),(12,lI (k:Int)),(45,lI (k:Int)),(47,lI (q.length:Int)),(48,lB true),(51,lf (.dat (.sl 35 (.sl 3 .int)) (Z6 n.toNat l))),(53,lI (k:Int)),(55,lI o),(56,lf (.elt (.sl 3 .int) ts 0)),(57,lf (.dat (.sl 3 .int) ts)),(58,lI (ts.length:Int)),(59,lI (i:Int))],[ar 7 3 .int out2,ar 8 3 .int q2]⟩) ⟨0,out,q,aR _,rfl,(hA.trans (QqM hx12 hx15 (by omega))),hI,hx12,rfl⟩ ?_ ?_
   · exact Wk.of [(7,5),(8,6)] rfl ⟨rfl,rfl,rfl,rfl,rfl,rfl,rfl,rfl,rfl,rfl,rfl,rfl,rfl,rfl,rfl,trivial⟩ ⟨rfl,rfl,trivial⟩ rfl rfl
   rintro m_ s_ ⟨i,out2,q2,hk17,hm18,hA2,hI2,hQ2,rfl⟩
   have hqn2:=hI2.q_le
   have hql2:out2.length=n.toNat:=hI2.len
   have hok:=hI2.at_ hQ2
   have hkl:=(ah.1 hQ2).1
   iterate 4 refine w_ ?_
   cases hb19:(decide ((i:Int) < (ts.length:Int)))
   ·have hb19':=ab hb19
    refine w_ ?_
    refine Qj ?_
    refine (?_:AC _ _ _ _ _)
    iterate 4 refine w_ ?_
    refine Qd<|Q0 ⟨k+1,out2,q2,by omega,rfl,(by rw[hA2,Qo2 (by omega)]),hI2,rfl⟩ (by omega) ?_
    exact Wk.of [(5,7),(6,8)] rfl ⟨rfl,rfl,rfl,rfl,rfl,trivial⟩ ⟨rfl,rfl,trivial⟩ rfl rfl
   ·have hb19':=ae hb19
    iterate 5 refine w_ ?_
    obtain ⟨x20,hx21⟩:∃z,ts[i]? =some z:=⟨_,aa (by omega)⟩
    obtain ⟨_,ht0x20,ht1x20⟩:=hl _ (hmem _ (ap hx21))
    have ht0x20:0≤x20:=ht0x20
    have ht1x20:x20 < (n.toNat:Int):=ht1x20
    iterate 2 refine w_ ?_
    refine alI 62 fun hi22=> ?_
    iterate 6 refine w_ ?_
    obtain ⟨x23,hx24⟩:∃z,out2[(x20).toNat]? =some z:=⟨_,aa (by omega)⟩
    have hrgx23: -1≤x23∧x23≤(q2.length:Int):=hI2.rng _ (ap hx24)
    refine w_ ?_
    refine alI 66 fun hi25=> ?_
    iterate 2 refine w_ ?_
    cases hb26:(decide (x23 < 0))
    ·have hb26':=ab hb26
     refine w_ ?_
     refine AC.skip ?_
     refine (?_:AC _ _ _ _ _)
     iterate 3 refine w_ ?_
     refine Qd<|Q0 ⟨i+1,out2,q2,by omega,rfl,(by (rw[hA2,Qly hx21 (by assumption) (by assumption)]; done)),(by exact hI2),(by exact hQ2),rfl⟩ (by omega) ?_
     exact Wk.of [] rfl ⟨rfl,rfl,rfl,rfl,rfl,rfl,rfl,rfl,rfl,rfl,rfl,rfl,rfl,rfl,rfl,trivial⟩ ⟨rfl,rfl,trivial⟩ rfl rfl
    ·have hb26':=ae hb26
     iterate 10 refine w_ ?_
     obtain ⟨x27,hx28⟩:∃z,out2[(o).toNat]? =some z:=⟨_,aa (by omega)⟩
     have hrgx27: -1≤x27∧x27≤(q2.length:Int):=hI2.rng _ (ap hx28)
     refine w_ ?_
     refine alI 76 fun hi29=> ?_
     iterate 2 refine w_ ?_
     refine lc (Qs (e:= .int) (z':=x27+1) (Qa rfl) rfl hx24 rfl (Qm rfl) rfl Kw rfl rfl) ?_
     iterate 4 refine w_ ?_
     refine lc (dBs 9 (e:= .int) Vu) ?_
     refine lc (dA 10 Vz) ?_
     refine w_ ?_
     refine Qd ?_
     refine (?_:AC _ _ _ _ _)
     iterate 3 refine w_ ?_
     refine Qd ?_
     refine Q0 ⟨i+1,(out2.set ((x20).toNat) (x27+1)),(q2++([x20])),by omega,rfl,(by (rw[hA2,QnG hx21 (by assumption) (by assumption) (by assumption)]; done)),(by exact hI2.step hl hok.2 (hmem _ (ap hx21)) (by assumption) (by assumption) (by assumption)),(by (rw[bf hkl]; exact hQ2)),rfl⟩ (by omega) ?_
     exact Wk.of [(8,10)] rfl ⟨rfl,rfl,rfl,rfl,rfl,rfl,rfl,rfl,rfl,rfl,rfl,rfl,rfl,rfl,rfl,trivial⟩ ⟨(Qn (by first | rfl | simp)),(Qn (by first | rfl | simp)),trivial⟩ rfl rfl
 ·have hb5':=ae hb5
  iterate 5 refine w_ ?_
  obtain ⟨e,hx31⟩:∃z,l[k]? =some z:=⟨_,aa (by omega)⟩
  iterate 2 refine w_ ?_
  refine lc (xal 11 (.pr .int .int) Qa6) ?_
  iterate 2 refine w_ ?_
  have hin:=hl _ (ap hx31)
  have hn1:=Kg (n:=n.toNat) (es:=l.take k)
  obtain ⟨⟨he1,he2⟩,he3,he4⟩:=hin
  obtain ⟨ys,hys⟩:∃z,(Z6 n.toNat (l.take k))[e.1.toNat]? =some z:=⟨_,aa (by omega)⟩
  have hyf:=Qc0 hys
  have hltk:(l.take k).length≤l.length:=by simp only[aq]; omega
  have hcA:=Qqe hys
  have hpA:e.1.toNat*1+0 < (Q9 (.sl 3 .int) (Z6 n.toNat (l.take k))).length:=by rw[VS]; show e.1.toNat*1+0 < (Z6 n.toNat (l.take k)).length*1; omega
  refine AC.wk (Qen (q:=3) rfl (by omega))<|AC.wk (HQ 12 (q:=3) (p:=e.1.toNat*1+0) (E':=3) (e':= .int) (ys:=ys) rfl (hcA) (Fresh.of rfl) (aG rfl)) ?_
  apply dV (i6 26 _ _ _ _ _ _ (io 32 (lf (.ept 3 1 ((e.1).toNat) 0)) :: io 33 (lR 12) :: i2 34 _ _ [⟨some 36,lR 13,[ar 13 3 .int ([e.2])]⟩,⟨some 37,lR 14,[ar 14 3 .int (ys++([e.2])),(12,none),(13,none)]⟩,io 38 (lf (.ept 3 1 ((e.1).toNat) 0)),⟨none,lf (.val undef),[(3,some (.obx 35 1 ((Z6 n.toNat (l.take k)).length) (Q9 (.sl 3 .int) (Z6 n.toNat (l.take k))) [((e.1).toNat*1+0, .ref 14),(e.1.toNat*1+0, .ref 12)]))]⟩])) [0,1,1,7,15,15,7,7,255,255,255,7,0,0]
  iterate 6 refine z_ ?_
  refine zz (fun _ h_=>ac (Xh (h_.v rfl) (h_.en 3 rfl) (h_.v rfl) QeJ Uo rfl (by omega) (by omega)) rfl) ?_
  refine zz (fun _ h_=>ac (KQ (h_.v rfl) (h_.n 3 rfl) (show (ovr _ _)[e.1.toNat*1+0]? =some (.ref 12) from by simp only[ovr,bz,aD,hpA,hcA,eq_self,if_true,if_false,↓reduceIte]) (h_.n 12 rfl) Uo rfl) rfl) ?_
  iterate 2 refine z_ ?_
  refine zz (fun _ h_=>ac (dBs 13 (e:= .int) Vu) rfl) ?_
  refine zz (fun _ h_=>ac (dA 14 Vz) rfl) ?_
  refine zz (fun _ h_=>ac (Xh (h_.v rfl) (h_.en 3 rfl) (h_.v rfl) QeJ Uo rfl (by omega) (by omega)) rfl) ?_
  refine zz (fun _ h_=>ac (Ur (t:=12) (h_.v rfl) (h_.n 3 rfl) (show (ovr _ _)[e.1.toNat*1+0]? =some (.ref 12) from by simp only[ovr,bz,aD,hpA,hcA,eq_self,if_true,if_false,↓reduceIte]) (h_.v rfl) (h_.n 14 rfl) Uo) rfl) ?_
  exact zN
  refine (?_:AC _ _ _ _ _)
  refine AC.wk (Qbl (q:=3) (t:=14) (p:=e.1.toNat*1+0) rfl (by simp only[ovr,bz,aD,hpA,hcA,eq_self,if_true,if_false,↓reduceIte]) rfl) ?_
  refine AC.wk (QbQ (q:=3) (e:=(.sl 3 .int)) ((Z6 n.toNat (l.take k)).set e.1.toNat (ys++[e.2])) rfl (by simp only[aD]) (by simp only[ovr,dl]; exact Qiw hys)) ?_
  iterate 3 refine w_ ?_
  refine Qd ?_
  refine l0_ ?_
  exact Wk.of [] rfl ⟨rfl,rfl,rfl,rfl,rfl,rfl,rfl,trivial⟩ ⟨rfl,(Qn (QgF hx31 hys)),trivial⟩ rfl rfl
end Go.Proofs.YtfkmmpfdncopdaaGreat
