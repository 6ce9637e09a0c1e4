/- Walks over abstract states: all codes, unreachable codes, the support of a cover, both sides. -/
import Derived.Test.YtfkmmpfdncopdaaGreatHa
import Derived.Test.YtfkmmpfdncopdaaGreatCq
import Derived.Test.YtfkmmpfdncopdaaGreatHx
import Derived.Test.YtfkmmpfdncopdaaGreatBc
set_option linter.unusedSimpArgs false
set_option linter.unusedVariables false
set_option linter.unusedSectionVars false
namespace Go.Proofs.YtfkmmpfdncopdaaGreat
open Go.RowKit
set_option maxRecDepth 100000
set_option maxHeartbeats 4000000
def cdF (c:ByteArray):List ByteArray:=[c++⟨#[48]⟩,c++⟨#[49]⟩]
def Qr:Nat→List ByteArray
  | 0=>[⟨#[]⟩]
  | n+1=>(Qr n).flatMap cdF
open Classical in
noncomputable def unrV (c:DSg):List ByteArray:=if SgOk c then (Qr c.1.length).filter fun x=> !(c.2.1.any fun y=>decide (x=y)) else []
def Kh (l:List ByteArray)(n:Nat):List Int:=((List.range n).map fun i:Nat=>(i:Int)).filter fun i=>l.any fun c=> !decide (bAt c i=45)
section
variable {n k j:Nat}{c x:ByteArray}{l:List ByteArray}
theorem QfT:(Qr n).length=2 ^ n:=by
  induction n with
  | zero=>rfl
  | succ n ih=>
    rw[Qr,List.length_flatMap]
    have:(Qr n).map (fun c=>(cdF c).length)=(Qr n).map fun _=>2:=rfl
    rw[this,List.map_const',List.sum_replicate_nat,ih,Nat.pow_succ]
theorem YW (h:n≤8):(Qr n).length≤256:=by rw[QfT]; exact Nat.pow_le_pow_right (by decide) h
theorem Qk5:(l.flatMap cdF).length=2*l.length:=by
  induction l with
  | nil=>rfl
  | cons x l ih=>rw[List.flatMap_cons,ak,ih,aq]; show 2+_=_; omega
theorem Qho (hx:l[k]? =some x):(l.take k).flatMap cdF++[x++⟨#[48]⟩,x++⟨#[49]⟩]=(l.take (k+1)).flatMap cdF:=by
  rw[Q0 hx,List.flatMap_append]; simp[cdF]
theorem Qlm (h:(Qr n).length≤j):((Qr n).take j).flatMap cdF=Qr (n+1):=by rw[b7 h]; rfl
theorem Z8:∀{n:Nat} {x:ByteArray},x∈Qr n→x.size=n
  | 0,x,h=>by rw[Qr,aE] at h; subst h; rfl
  | n+1,x,h=>by
    rw[Qr,List.mem_flatMap] at h
    obtain ⟨c,hc,h⟩:=h
    have:=Z8 hc
    simp only[cdF,aC,cC,or_false] at h
    rcases h with rfl | rfl <;> rw[aK,this] <;> rfl
end
theorem JS (n:Int)(hn:0≤n∧n≤8):FC Tryz.prog 64 [(false,[dI n])] [] 0 (Wv 9 .str (Qr n.toNat)):=by
 refine Qj Tryz.func64 rfl rfl Tryz.ntmps64 fun O_ hO w0_ N0_ X_ h0_ f0_=> ?_
 refine acI 0 fun hi1=> ?_
 iterate 4 refine w_ ?_
 refine lc (dBs 0 (e:= .str) ZZ) ?_
 iterate 8 refine w_ ?_
 refine QE (fun m_ s_=>∃(i_:Int) (o_:List ByteArray),m_=(n - i_).toNat∧(0≤i_∧i_≤n)∧(o_=Qr i_.toNat)∧s_=⟨[(2,lf (.val (.slice none 0 0))),(3,lR 1),(8,lI n),(9,lI i_)],[ar 1 9 .str o_]⟩) ⟨0,[(⟨#[]⟩:ByteArray)],rfl,by omega,rfl,rfl⟩ ?_ ?_
 · exact Wk.of [(1,0)] rfl ⟨rfl,rfl,rfl,rfl,trivial⟩ ⟨(Qk (by first | rfl | simp)),trivial⟩ rfl rfl
 rintro m_ s_ ⟨i_,o_,hm3,hm,hO1,rfl⟩
 have hcl:o_.length≤256:=by rw[hO1]; exact YW (n:=i_.toNat) (by omega)
 iterate 4 refine w_ ?_
 cases hb4:(decide (i_ < n))
 ·have hb4':=ab hb4
  refine w_ ?_
  refine Qi ?_
  refine (?_:AC _ _ _ _ _)
  iterate 4 refine w_ ?_
  refine Qb<|fo_ hO ?_
  (rw[hO1,show i_=n by omega]; done)
 ·have hb4':=ae hb4
  iterate 5 refine w_ ?_
  refine lc (dBs 2 (e:= .str) ZZ) ?_
  iterate 9 refine w_ ?_
  refine lp0 o_.length (fun j=>⟨[(2,lf (.val (.slice none 0 0))),(3,lR 1),(4,lR 3),(8,lI n),(9,lI i_),(10,lB true),(12,lR 1),(13,lI (o_.length:Int)),(14,lI (j:Int))],[ar 1 9 .str o_,ar 3 9 .str (((o_).take j).flatMap cdF)]⟩) ?_ fun j hk5=> ?_
  · exact Wk.of [(3,2)] rfl ⟨rfl,rfl,rfl,rfl,rfl,rfl,rfl,rfl,rfl,trivial⟩ ⟨rfl,(Qk (rfl)),trivial⟩ rfl rfl
  have hjl:=Qk5 (l:=(o_).take j)
  have hjt:((o_).take j).length≤(o_).length:=by simp only[ap]; omega
  iterate 4 refine w_ ?_
  cases hb6:(decide ((j:Int) < (o_.length:Int)))
  ·have hb6':=ab hb6
   refine w_ ?_
   refine Qi ?_
   refine (?_:AC _ _ _ _ _)
   iterate 3 refine w_ ?_
   refine Qd ?_
   refine (?_:AC _ _ _ _ _)
   iterate 3 refine w_ ?_
   refine Qd<|Q5 ⟨(i_+1),(((o_).take j).flatMap cdF),rfl,by omega,(by rw[hO1] at*; rw[Qlm (by omega),show (i_+1).toNat=i_.toNat+1 by omega]),rfl⟩ (by omega) ?_
   exact Wk.of [(1,3)] rfl ⟨rfl,rfl,rfl,rfl,trivial⟩ ⟨(Qk (by first | rfl | simp)),trivial⟩ rfl rfl
  ·have hb6':=ae hb6
   iterate 6 refine w_ ?_
   obtain ⟨cx,hx8⟩:∃z,o_[j]? =some z:=⟨_,aa (by omega)⟩
   have hcx:=hx8
   have hscx:=Z8 (hO1▸ao hx8)
   iterate 6 refine w_ ?_
   refine lc (QH (Qa rfl) (Evl.str rfl) rfl (by first | omega | (simp only[aK,ZB]; omega))) ?_
   refine w_ ?_
   refine lc (QH (Qa rfl) (Evl.str rfl) rfl (by first | omega | (simp only[aK,ZB]; omega))) ?_
   refine lc (dBs 4 (e:= .str) ZZ) ?_
   refine lc (dA 5 YS) ?_
   refine w_ ?_
   refine Qd ?_
   refine (?_:AC _ _ _ _ _)
   iterate 3 refine w_ ?_
   refine Qd ?_
   refine l0_ ?_
   exact Wk.of [(3,5)] rfl ⟨rfl,rfl,rfl,rfl,rfl,rfl,rfl,rfl,rfl,trivial⟩ ⟨rfl,(Qk ((Qho hcx))),trivial⟩ rfl rfl
theorem Xo (n:Int)(hn:0≤n∧n≤8):FC Tryz.prog 68 [(false,[dI n])] [] 0 (Wv 9 .str (Qr n.toNat)):=by
 refine Qj Tryz.func68 rfl rfl Tryz.ntmps68 fun O_ hO w0_ N0_ X_ h0_ f0_=> ?_
 refine acI 0 fun hi1=> ?_
 iterate 4 refine w_ ?_
 refine lc (dBs 0 (e:= .str) ZZ) ?_
 iterate 4 refine w_ ?_
 refine QE (fun m_ s_=>∃(r_:Int) (o_:List ByteArray),m_=r_.toNat∧(0≤r_∧r_≤n)∧(o_=Qr (n - r_).toNat)∧s_=⟨[(0,lI r_),(2,lf (.val (.slice none 0 0))),(3,lR 1)],[ar 1 9 .str o_]⟩) ⟨n,[(⟨#[]⟩:ByteArray)],rfl,by omega,(by rw[show (n - n).toNat=0 by omega]; rfl),rfl⟩ ?_ ?_
 · exact Wk.of [(1,0)] rfl ⟨rfl,rfl,rfl,trivial⟩ ⟨(Qk (by first | rfl | simp)),trivial⟩ rfl rfl
 rintro m_ s_ ⟨r_,o_,hm3,hm,hO1,rfl⟩
 have hcl:o_.length≤256:=by rw[hO1]; exact YW (n:=(n - r_).toNat) (by omega)
 iterate 5 refine w_ ?_
 cases hb4:(decide (0 < r_))
 ·have hb4':=ab hb4
  refine w_ ?_
  refine Qi ?_
  refine (?_:AC _ _ _ _ _)
  iterate 4 refine w_ ?_
  refine Qb<|fo_ hO ?_
  (rw[hO1,show r_=0 by omega,Int.sub_zero]; done)
 ·have hb4':=ae hb4
  iterate 14 refine w_ ?_
  refine AC.wk (Wk.nilS 2 4 9 .str rfl (Fresh.of rfl) (nlr rfl)) ?_
  refine lp0 o_.length (fun j=>⟨[(0,lI r_),(2,lf (.val (.slice none 0 0))),(3,lR 1),(4,lR 3),(8,lI r_),(9,lB true),(12,lR 1),(13,lI (o_.length:Int)),(14,lI (j:Int))],[ar 1 9 .str o_,ar 3 9 .str (((o_).take j).flatMap cdF)]⟩) ?_ fun j hk5=> ?_
  · exact Wk.of [(3,2)] rfl ⟨rfl,rfl,rfl,rfl,rfl,rfl,rfl,rfl,rfl,trivial⟩ ⟨rfl,(Qk (rfl)),trivial⟩ rfl rfl
  have hjl:=Qk5 (l:=(o_).take j)
  have hjt:((o_).take j).length≤(o_).length:=by simp only[ap]; omega
  iterate 4 refine w_ ?_
  cases hb6:(decide ((j:Int) < (o_.length:Int)))
  ·have hb6':=ab hb6
   refine w_ ?_
   refine Qi ?_
   refine (?_:AC _ _ _ _ _)
   iterate 3 refine w_ ?_
   refine Qd ?_
   refine (?_:AC _ _ _ _ _)
   iterate 4 refine w_ ?_
   refine Qd<|Q5 ⟨(r_ - 1),(((o_).take j).flatMap cdF),rfl,by omega,(by rw[hO1] at*; rw[Qlm (by omega),show (n - (r_ - 1)).toNat=(n - r_).toNat+1 by omega]),rfl⟩ (by omega) ?_
   exact Wk.of [(1,3)] rfl ⟨rfl,rfl,rfl,trivial⟩ ⟨(Qk (by first | rfl | simp)),trivial⟩ rfl rfl
  ·have hb6':=ae hb6
   iterate 6 refine w_ ?_
   obtain ⟨cx,hx8⟩:∃z,o_[j]? =some z:=⟨_,aa (by omega)⟩
   have hcx:=hx8
   have hscx:=Z8 (hO1▸ao hx8)
   iterate 6 refine w_ ?_
   refine lc (QH (Qa rfl) (Evl.str rfl) rfl (by first | omega | (simp only[aK,ZB]; omega))) ?_
   refine w_ ?_
   refine lc (QH (Qa rfl) (Evl.str rfl) rfl (by first | omega | (simp only[aK,ZB]; omega))) ?_
   refine lc (dBs 4 (e:= .str) ZZ) ?_
   refine lc (dA 5 YS) ?_
   refine w_ ?_
   refine Qd ?_
   refine (?_:AC _ _ _ _ _)
   iterate 3 refine w_ ?_
   refine Qd ?_
   refine l0_ ?_
   exact Wk.of [(3,5)] rfl ⟨rfl,rfl,rfl,rfl,rfl,rfl,rfl,rfl,rfl,trivial⟩ ⟨rfl,(Qk ((Qho hcx))),trivial⟩ rfl rfl
theorem Yx (code:ByteArray)(c:(List (ByteArray×Int))×List ByteArray×(List (Int×Int×Bool×Int))):FC Tryz.prog 65 [(false,[dS code]),(false,[.ptr 0 0])] [bx 0 28 [.dat (.sl 203 (.pr .str .int)) c.1, .dat (.sl 9 .str) c.2.1, .dat (.sl 136 (.pr .int (.pr .int (.pr .bool .int)))) c.2.2]] 1 (Is (lB (c.2.1.any (fun y=>decide (code=y)))) [bx 0 28 [.dat (.sl 203 (.pr .str .int)) c.1, .dat (.sl 9 .str) c.2.1, .dat (.sl 136 (.pr .int (.pr .int (.pr .bool .int)))) c.2.2]]):=by
 refine Qj Tryz.func65 rfl rfl Tryz.ntmps65 fun O_ hO w0_ N0_ X_ h0_ f0_=> ?_
 iterate 7 refine w_ ?_
 refine lc (dK (Q1 c.2.1 code) UM) ?_
 iterate 2 refine w_ ?_
 refine Qb ?_
 exact fi_ [] hO ⟨rfl,trivial⟩
theorem W9 (l:List ByteArray)(c:(List (ByteArray×Int))×List ByteArray×(List (Int×Int×Bool×Int)))(hl:l.length≤1000000):FC Tryz.prog 160 [(false,[.ref 1]),(false,[.clo 65 [0]])] [bx 0 28 [.dat (.sl 203 (.pr .str .int)) c.1, .dat (.sl 9 .str) c.2.1, .dat (.sl 136 (.pr .int (.pr .int (.pr .bool .int)))) c.2.2],ar 1 9 .str l] 2 (Is (lI (Zb (fun x=>c.2.1.any (fun y=>decide (x=y))) l)) [bx 0 28 [.dat (.sl 203 (.pr .str .int)) c.1, .dat (.sl 9 .str) c.2.1, .dat (.sl 136 (.pr .int (.pr .int (.pr .bool .int)))) c.2.2],ar 1 9 .str l]):=by
 refine Qj Tryz.func160 rfl rfl Tryz.ntmps160 fun O_ hO w0_ N0_ X_ h0_ f0_=> ?_
 iterate 10 refine w_ ?_
 refine lpK l.length (fun k=>NoneTo (fun x=>c.2.1.any (fun y=>decide (x=y))) l k) (fun k=>⟨[(0,lR 1),(1,lf (.clo 65 [0])),(7,lI (l.length:Int)),(8,lI (k:Int))],[bx 0 28 [.dat (.sl 203 (.pr .str .int)) c.1, .dat (.sl 9 .str) c.2.1, .dat (.sl 136 (.pr .int (.pr .int (.pr .bool .int)))) c.2.2],ar 1 9 .str l]⟩) (NoneTo.zero) ?_ fun k hk1 hno=> ?_
 · exact Wk.of [] rfl ⟨rfl,rfl,rfl,rfl,trivial⟩ ⟨rfl,rfl,trivial⟩ rfl rfl
 iterate 4 refine w_ ?_
 cases hb2:(decide ((k:Int) < (l.length:Int)))
 ·have hb2':=ab hb2
  refine w_ ?_
  refine Qi ?_
  refine (?_:AC _ _ _ _ _)
  iterate 3 refine w_ ?_
  refine Qb ?_
  have e3:((-1):Int)=(Zb (fun x=>c.2.1.any (fun y=>decide (x=y))) l):=by
   first | exact (hno.no (by omega)).symm
  exact fi_ [] hO ⟨rfl,rfl,trivial⟩ (h0:=(congrArg (fun z_=>lI z_) e3))
 ·have hb2':=ae hb2
  iterate 13 refine w_ ?_
  obtain ⟨x4,hx5⟩:∃z,l[k]? =some z:=⟨_,aa (by omega)⟩
  refine w_ ?_
  refine lc (Yb (args0:=[(false,[dS x4])]) (caps:=[0]) 2 [(0,0)] (Yx x4 c) QcI rfl (Qa rfl) rfl rfl ⟨_,_,rfl,(Qm rfl),rfl⟩ ⟨rfl,trivial⟩ rfl ⟨trivial,trivial⟩ (nlr rfl)) ?_
  refine w_ ?_
  cases hb6:(c.2.1.any (fun y=>decide (x4=y)))
  ·refine w_ ?_
   refine AC.skip ?_
   refine (?_:AC _ _ _ _ _)
   iterate 3 refine w_ ?_
   refine Qd ?_
   refine lK_ (hno.step hx5 (by assumption)) ?_
   exact Wk.of [] rfl ⟨rfl,rfl,rfl,rfl,trivial⟩ ⟨rfl,rfl,trivial⟩ rfl rfl
  ·iterate 5 refine w_ ?_
   refine Qb ?_
   have e7:((k:Int):Int)=(Zb (fun x=>c.2.1.any (fun y=>decide (x=y))) l):=by
    exact (hno.at hx5 (by assumption)).symm
   exact fi_ [] hO ⟨rfl,rfl,trivial⟩ (h0:=(congrArg (fun z_=>lI z_) e7))
theorem WM (l:List ByteArray)(c:(List (ByteArray×Int))×List ByteArray×(List (Int×Int×Bool×Int)))(hl:l.length≤1000000):FC Tryz.prog 63 [(false,[.ref 1]),(false,[.clo 65 [0]])] [bx 0 28 [.dat (.sl 203 (.pr .str .int)) c.1, .dat (.sl 9 .str) c.2.1, .dat (.sl 136 (.pr .int (.pr .int (.pr .bool .int)))) c.2.2],ar 1 9 .str l] 1 (Is (lR 2) [bx 0 28 [.dat (.sl 203 (.pr .str .int)) c.1, .dat (.sl 9 .str) c.2.1, .dat (.sl 136 (.pr .int (.pr .int (.pr .bool .int)))) c.2.2],ar 2 9 .str (l.filter (fun x=> !(c.2.1.any (fun y=>decide (x=y)))))]):=by
 have hix:=Qkw (fun x=>c.2.1.any (fun y=>decide (x=y))) l
 refine Qj Tryz.func63 rfl rfl Tryz.ntmps63 fun O_ hO w0_ N0_ X_ h0_ f0_=> ?_
 iterate 6 refine w_ ?_
 refine lc (dP 2 [] (W9 l c hl) Wi) ?_
 iterate 7 refine w_ ?_
 refine cd_ (fun hb1 hb1'=> ?_) fun hb1 hb1'=> ?_
 ·iterate 8 refine w_ ?_
  refine QE (fun m_ s_=>∃(i:Int) (j:Int) (l2:List ByteArray),m_=((l2.length:Int) - j).toNat∧(DelI (fun x=> !(c.2.1.any (fun y=>decide (x=y)))) l l2 i j)∧s_=⟨[(0,lR 4),(1,lf (.clo 65 [0])),(4,lf (.val (.slice none 0 0))),(5,lI i),(6,lI j)],[bx 0 28 [.dat (.sl 203 (.pr .str .int)) c.1, .dat (.sl 9 .str) c.2.1, .dat (.sl 136 (.pr .int (.pr .int (.pr .bool .int)))) c.2.2],ar 4 9 .str l2]⟩) ⟨Zb (fun x=>c.2.1.any (fun y=>decide (x=y))) l,(Zb (fun x=>c.2.1.any (fun y=>decide (x=y))) l)+1,l,rfl,(DelI.start (by assumption)),rfl⟩ ?_ ?_
  · exact Wk.of [(4,1)] rfl ⟨rfl,rfl,rfl,rfl,rfl,trivial⟩ ⟨rfl,rfl,trivial⟩ rfl rfl
  rintro m_ s_ ⟨i,j,l2,hm3,hD,rfl⟩
  have hDb:=hD.1
  have hDl:=hD.2.1
  iterate 7 refine w_ ?_
  cases hb4:(decide (j < (l2.length:Int)))
  ·have hb4':=ab hb4
   refine w_ ?_
   refine Qi ?_
   refine (?_:AC _ _ _ _ _)
   iterate 3 refine w_ ?_
   refine lc (ZF (e:= .str) (a:=(i).toNat) (b:=l2.length - (i).toNat) (l:=(some i)) (h:=none) (Qa rfl) rfl (by exact (Qa rfl)) (by exact trivial) ZE ZM rfl (by first | (simp only[ai,ah]; omega) | omega | (simp only[ai,ah,ak,ap,aB]; omega)) (by first | (simp only[ai,ah]; omega) | omega | (simp only[ai,ah,ak,ap,aB]; omega)) (by first | (simp only[ai,ah]; omega) | omega | (simp only[ai,ah,ak,ap,aB]; omega)) (by first | rfl | simp) (by first | rfl | simp))<|lc (Hd (e:= .str) (Qa rfl) rfl (by omega) ZE ZZ rfl rfl rfl) ?_
   iterate 4 refine w_ ?_
   refine lc (ZF (e:= .str) (a:=0) (b:=(i).toNat) (l:=none) (h:=(some i)) (Qa rfl) rfl (by exact trivial) (by exact (Qa rfl)) ZE ZM rfl (by first | (simp only[ai,ah]; omega) | omega | (simp only[ai,ah,ak,ap,aB]; omega)) (by first | (simp only[ai,ah]; omega) | omega | (simp only[ai,ah,ak,ap,aB]; omega)) (by first | (simp only[ai,ah]; omega) | omega | (simp only[ai,ah,ak,ap,aB]; omega)) (by first | rfl | simp) (by first | rfl | simp)) ?_
   iterate 2 refine w_ ?_
   refine AC.wk (Qbb 5 4 (e:= .str) (xs:=l2.take ((i).toNat)++List.replicate (l2.length - (i).toNat) (Ty.zero .str)) rfl rfl (by first | omega | (simp only[ak,ap,aB]; omega)) rfl (Fresh.of rfl) (nlr rfl))<|Qb ?_
   exact fi_ [(2,5)] hO ⟨rfl,(Qk (by exact hD.end_ (by assumption) _ (by omega))),trivial⟩
  ·have hb4':=ae hb4
   iterate 8 refine w_ ?_
   obtain ⟨xj,hx6⟩:∃z,l2[(j).toNat]? =some z:=⟨_,aa (by omega)⟩
   iterate 6 refine w_ ?_
   refine lc (Yb (args0:=[(false,[dS xj])]) (caps:=[0]) 6 [(0,0)] (Yx xj c) QcI rfl (Qa rfl) rfl rfl ⟨_,_,rfl,(Qm rfl),rfl⟩ ⟨rfl,trivial⟩ rfl ⟨trivial,trivial⟩ (nlr rfl)) ?_
   iterate 2 refine w_ ?_
   cases hb7:(c.2.1.any (fun y=>decide (xj=y)))
   ·iterate 6 refine w_ ?_
    obtain ⟨x8,hx9⟩:∃z,l2[(i).toNat]? =some z:=⟨_,aa (by omega)⟩
    refine lc (Qs (e:= .str) (z':=xj) (Qa rfl) rfl hx9 rfl (Qm rfl) rfl ZM rfl rfl) ?_
    iterate 5 refine w_ ?_
    refine Qd ?_
    refine (?_:AC _ _ _ _ _)
    iterate 4 refine w_ ?_
    refine Qd<|Q5 ⟨(i+1),(j+1),(l2.set ((i).toNat) xj),rfl,(by exact hD.keep (x:=xj) (by assumption) (by simp[*])),rfl⟩ (by first | omega | (simp only[aA]; omega)) ?_
    exact Wk.of [] rfl ⟨rfl,rfl,rfl,rfl,rfl,trivial⟩ ⟨rfl,(Qk (by first | rfl | simp)),trivial⟩ rfl rfl
   ·refine w_ ?_
    refine AC.skip ?_
    refine (?_:AC _ _ _ _ _)
    iterate 4 refine w_ ?_
    refine Qd<|Q5 ⟨i,(j+1),l2,rfl,(by exact hD.drop_ (x:=xj) (by assumption) (by simp[*])),rfl⟩ (by first | omega | (simp only[aA]; omega)) ?_
    exact Wk.of [] rfl ⟨rfl,rfl,rfl,rfl,rfl,trivial⟩ ⟨rfl,rfl,trivial⟩ rfl rfl
 ·iterate 4 refine w_ ?_
  refine Qb ?_
  exact fi_ [(2,1)] hO ⟨rfl,(Qk (by exact QeB (by assumption))),trivial⟩
theorem Qdq {c:DSg}(h:SgOk c):unrV c=(Qr ((c.1.length:Nat):Int).toNat).filter fun x=> !(c.2.1.any fun y=>decide (x=y)):=if_pos h
theorem QfW {c:DSg}(h:¬SgOk c):unrV c=[]:=if_neg h
def Qea (c:DSg)(k:Nat):List ByteArray:=((Qr ((c.1.length:Nat):Int).toNat).take k).filter fun x=> !(Y9 c.2.1 x)
theorem Qni {c:DSg}{k:Nat}(h:SgOk c)(hk:(Qr ((c.1.length:Nat):Int).toNat).length≤k):Qea c k=unrV c:=by
  unfold Qea
  rw[b7 hk,Qdq h]; rfl
theorem QkB {c:DSg}{k:Nat}{x:ByteArray}(hx:(Qr ((c.1.length:Nat):Int).toNat)[k]? =some x)(h:Y9 c.2.1 x=false):Qea c k++[x]=Qea c (k+1):=Qhm hx (by rw[h]; rfl)
theorem QkM {c:DSg}{k:Nat}{x:ByteArray}(hx:(Qr ((c.1.length:Nat):Int).toNat)[k]? =some x)(h:Y9 c.2.1 x=true):Qea c k=Qea c (k+1):=Qlg hx (by rw[h]; rfl)
theorem Qof {c:DSg}{k:Nat}(h:c.1.length≤8):(Qea c k).length≤256:=bn (cp ..) (bn (List.length_take_le' ..) (YW (by omega)))
theorem WO (c:(List (ByteArray×Int))×List ByteArray×(List (Int×Int×Bool×Int)))[∀c,Decidable (SgOk c)]:FC Tryz.prog 9 [(true,[.dat (.sl 203 (.pr .str .int)) c.1, .dat (.sl 9 .str) c.2.1, .dat (.sl 136 (.pr .int (.pr .int (.pr .bool .int)))) c.2.2])] [] 0 (Is (PV.tup [(false,[.ref 0]),(false,[dB (decide (SgOk c))])]) [ar 0 9 .str (unrV c)]):=by
 have h8:∀h:SgOk c,c.1.length≤8:=fun h=>h.sigs.2.2
 refine Qj Tryz.func9 rfl rfl Tryz.ntmps9 fun O_ hO w0_ N0_ X_ h0_ f0_=> ?_
 refine w_ ?_
 refine xbx 0 ?_
 iterate 6 refine w_ ?_
 refine lc (dK (YK c) QbZ) ?_
 iterate 2 refine w_ ?_
 cases hb1:(decide (SgOk c))
 ·have hb1':=ab hb1
  iterate 5 refine w_ ?_
  refine AC.wk (Wk.nilS 1 2 9 .str rfl (Fresh.of rfl) (nlr rfl))<|Qb ?_
  have e2:(false:Bool)=(decide (SgOk c)):=by
   exact (az (by assumption)).symm
  exact fi_ [(0,1)] hO ⟨(Qk (by exact (QfW (by assumption)).symm)),trivial⟩ (h0:=(congrArg (fun z_=>PV.tup [(false,[.ref 1]),(false,[dB z_])]) e2))
 ·have hb1':=ae hb1
  iterate 5 refine w_ ?_
  refine alL 8 fun hl3=> ?_
  refine w_ ?_
  refine lc (dO 2 (JS (c.1.length:Int) (by have:=h8 (by assumption); omega)) QiB) ?_
  refine lc (ZS ⟨_,_,rfl,(Qa rfl),rfl,rfl⟩ rfl) ?_
  refine lc (dP 3 [(1,2)] (WM (Qr (c.1.length:Int).toNat) c (by have:=YW (n:=((c.1.length:Nat):Int).toNat) (by have:=h8 (by assumption); omega); omega)) QjB) ?_
  iterate 3 refine w_ ?_
  refine Qb ?_
  have e4:(true:Bool)=(decide (SgOk c)):=by
   exact (aJ (by assumption)).symm
  exact fi_ [(0,5)] hO ⟨(Qk (by exact (Qdq (by assumption)).symm)),trivial⟩ (h0:=(congrArg (fun z_=>PV.tup [(false,[.ref 5]),(false,[dB z_])]) e4))
theorem WN (c:(List (ByteArray×Int))×List ByteArray×(List (Int×Int×Bool×Int)))[∀c,Decidable (SgOk c)]:FC Tryz.prog 10 [(true,[.dat (.sl 203 (.pr .str .int)) c.1, .dat (.sl 9 .str) c.2.1, .dat (.sl 136 (.pr .int (.pr .int (.pr .bool .int)))) c.2.2])] [] 0 (Is (PV.tup [(false,[.ref 0]),(false,[dB (decide (SgOk c))])]) [ar 0 9 .str (unrV c)]):=by
 have h8:∀h:SgOk c,c.1.length≤8:=fun h=>h.sigs.2.2
 refine Qj Tryz.func10 rfl rfl Tryz.ntmps10 fun O_ hO w0_ N0_ X_ h0_ f0_=> ?_
 refine w_ ?_
 refine xbx 0 ?_
 iterate 6 refine w_ ?_
 refine lc (dK (VY c) QcC) ?_
 iterate 2 refine w_ ?_
 cases hb1:(decide (SgOk c))
 ·have hb1':=ab hb1
  iterate 5 refine w_ ?_
  refine AC.wk (Wk.nilS 1 2 9 .str rfl (Fresh.of rfl) (nlr rfl))<|Qb ?_
  have e2:(false:Bool)=(decide (SgOk c)):=by
   exact (az (by assumption)).symm
  exact fi_ [(0,1)] hO ⟨(Qk (by exact (QfW (by assumption)).symm)),trivial⟩ (h0:=(congrArg (fun z_=>PV.tup [(false,[.ref 1]),(false,[dB z_])]) e2))
 ·have hb1':=ae hb1
  iterate 9 refine w_ ?_
  refine alL 11 fun hl3=> ?_
  refine w_ ?_
  refine lc (dK (Xo (c.1.length:Int) (by have:=h8 (by assumption); omega)).frozen JF) ?_
  refine alL 13 fun hl4=> ?_
  iterate 4 refine w_ ?_
  refine AC.wk (Wk.nilS 2 4 9 .str rfl (Fresh.of rfl) (nlr rfl)) ?_
  refine lp0 ((Qr (c.1.length:Int).toNat).length) (fun k=>⟨[(1,lP 0 0),(2,lf (.val (.slice none 0 0))),(3,lB false),(4,lR 3),(13,lf (.dat (.sl 9 .str) (Qr (c.1.length:Int).toNat))),(14,lI ((Qr (c.1.length:Int).toNat).length:Int)),(15,lI (k:Int))],[bx 0 28 [.dat (.sl 203 (.pr .str .int)) c.1, .dat (.sl 9 .str) c.2.1, .dat (.sl 136 (.pr .int (.pr .int (.pr .bool .int)))) c.2.2],ar 3 9 .str (Qea c k)]⟩) ?_ fun k hk5=> ?_
  · exact Wk.of [(3,2)] rfl ⟨rfl,rfl,rfl,rfl,rfl,rfl,rfl,trivial⟩ ⟨rfl,(Qk (rfl)),trivial⟩ rfl rfl
  have hfl:=Qof (c:=c) (k:=k) (h8 (by assumption))
  have hcf:=YW (n:=((c.1.length:Nat):Int).toNat) (by have:=h8 (by assumption); omega)
  iterate 4 refine w_ ?_
  cases hb6:(decide ((k:Int) < ((Qr (c.1.length:Int).toNat).length:Int)))
  ·have hb6':=ab hb6
   refine w_ ?_
   refine Qi ?_
   refine (?_:AC _ _ _ _ _)
   iterate 5 refine w_ ?_
   refine Qb ?_
   have e7:(true:Bool)=(decide (SgOk c)):=by
    exact (aJ (by assumption)).symm
   exact fi_ [(0,3)] hO ⟨(Qk (by exact Qni (by assumption) (by omega))),trivial⟩ (h0:=(congrArg (fun z_=>PV.tup [(false,[.ref 3]),(false,[dB z_])]) e7))
  ·have hb6':=ae hb6
   iterate 5 refine w_ ?_
   obtain ⟨x8,hx9⟩:∃z,(Qr (c.1.length:Int).toNat)[k]? =some z:=⟨_,aa (by omega)⟩
   iterate 8 refine w_ ?_
   refine lc (dK (ZW c.2.1 x8) Xs) ?_
   iterate 2 refine w_ ?_
   cases hb10:(Y9 c.2.1 x8)
   ·iterate 4 refine w_ ?_
    refine lc (dBs 4 (e:= .str) ZZ) ?_
    refine lc (dA 5 YS) ?_
    refine w_ ?_
    refine Qd ?_
    refine (?_:AC _ _ _ _ _)
    iterate 3 refine w_ ?_
    refine Qd ?_
    refine l0_ ?_
    exact Wk.of [(3,5)] rfl ⟨rfl,rfl,rfl,rfl,rfl,rfl,rfl,trivial⟩ ⟨rfl,(Qk (by first | exact QkB hx9 (by assumption) | exact QkM hx9 (by assumption))),trivial⟩ rfl rfl
   ·refine w_ ?_
    refine AC.skip ?_
    refine (?_:AC _ _ _ _ _)
    iterate 3 refine w_ ?_
    refine Qd ?_
    refine l0_ ?_
    exact Wk.of [] rfl ⟨rfl,rfl,rfl,rfl,rfl,rfl,rfl,trivial⟩ ⟨rfl,(Qk (by first | exact QkB hx9 (by assumption) | exact QkM hx9 (by assumption))),trivial⟩ rfl rfl
end Go.Proofs.YtfkmmpfdncopdaaGreat
namespace Go.Proofs.YtfkmmpfdncopdaaGreat
open Go.RowKit
set_option maxRecDepth 100000
set_option maxHeartbeats 4000000
section
variable {α:Type}[DecidableEq α]{l zs:List α}{m i j:Int}{x y:α}
theorem HL {k:Nat}(hx:l[k]? =some x)(hy:l[k+1]? =some y):Zz (l.take (k+2))=if x=y then Zz (l.take (k+1)) else Zz (l.take (k+1))++[y]:=by
  rw[Q0 hy,Qca]
  have h1:(l.take (k+1)).getLast? =some x:=by rw[Q0 hx]; simp
  rw[h1]
  by_cases e:x=y
  · rw[if_pos (by rw[e]),if_pos e,bH]
  · rw[if_neg (fun g=>e (Option.some.inj g)),if_neg e]
theorem Qq3:Zz (l.take 1)=l.take 1:=by cases l <;> rfl
theorem Qox (h:(l.length:Int) < 2):l=Zz l:=by
  match l,h with
  | [],_=>rfl
  | [_],_=>rfl
  | _ :: _ :: _,h=>simp at h; omega
theorem Qos (hm:1≤m)(hP:Zz (l.take m.toNat)=l.take m.toNat)(hx:l[(m - 1).toNat]? =some x)(hy:l[m.toNat]? =some y)(h:¬y=x):Zz (l.take (m+1).toNat)=l.take (m+1).toNat:=by
  have e:m.toNat=(m - 1).toNat+1:=by omega
  rw[show (m+1).toNat=(m - 1).toNat+2 by omega,HL hx (by rw[← e]; exact hy),if_neg fun g=>h g.symm,← e,hP,show (m - 1).toNat+2=m.toNat+1 by omega,Q0 hy]
theorem QoC (hm:1≤m)(hP:Zz (l.take m.toNat)=l.take m.toNat)(hx:l[(m - 1).toNat]? =some x)(hy:l[m.toNat]? =some y)(h:y=x):l.take m.toNat=Zz (l.take (m+1).toNat):=by
  have e:m.toNat=(m - 1).toNat+1:=by omega
  rw[show (m+1).toNat=(m - 1).toNat+2 by omega,HL hx (by rw[← e]; exact hy),if_pos h.symm,← e,hP]
theorem Qo4 (hm:1≤m)(hj:1≤j)(hz:zs.take i.toNat=Zz (l.take (m+j).toNat))(ht:∀t:Nat,m+j - 1≤(t:Int)→zs[t]? =l[t]?)(hx:zs[m.toNat+(j - 1).toNat]? =some x)(hy:zs[m.toNat+j.toNat]? =some y)(h:y=x):zs.take i.toNat=Zz (l.take (m+(j+1)).toNat):=by
  rw[ht _ (by omega)] at hx hy
  rw[hz,show (m+(j+1)).toNat=(m.toNat+(j - 1).toNat)+2 by omega,HL hx (by rw[← hy]; congr 1; omega),if_pos h.symm]
  congr 2; omega
theorem Qow (hm:1≤m)(hj:1≤j)(h0:0≤i)(hl:i < (zs.length:Int))(hz:zs.take i.toNat=Zz (l.take (m+j).toNat))(ht:∀t:Nat,m+j - 1≤(t:Int)→zs[t]? =l[t]?)(hx:zs[m.toNat+(j - 1).toNat]? =some x)(hy:zs[m.toNat+j.toNat]? =some y)(h:¬y=x):(zs.set i.toNat y).take (i+1).toNat=Zz (l.take (m+(j+1)).toNat):=by
  have e1:(zs.set i.toNat y)[i.toNat]? =some y:=aU (by omega)
  rw[ht _ (by omega)] at hx hy
  rw[show (i+1).toNat=i.toNat+1 by omega,Q0 e1,List.take_set_of_le (aO _),hz,show (m+(j+1)).toNat=(m.toNat+(j - 1).toNat)+2 by omega,HL hx (by rw[← hy]; congr 1; omega),if_neg fun g=>h g.symm]
  congr 3; omega
theorem Qol (hi:i≤m+j - 1)(h0:0≤i)(ht:∀t:Nat,m+j - 1≤(t:Int)→zs[t]? =l[t]?):∀t:Nat,m+(j+1) - 1≤(t:Int)→(zs.set i.toNat y)[t]? =l[t]? :=fun t h=>by
  rw[aY (by omega)]; exact ht t (by omega)
theorem QmR (hP:Zz (l.take m.toNat)=l.take m.toNat)(h:(l.length:Int)≤m):l=Zz l:=by rw[b7 (by omega)] at hP; exact hP.symm
theorem Qnf (h0:0≤i)(hl:i≤(zs.length:Int))(r:List α)(hz:zs.take i.toNat=Zz (l.take (m+j).toNat))(he:(l.length:Int)≤m+j):(zs.take i.toNat++r).take i.toNat=Zz l:=by
  rw[List.take_left' (by rw[ap]; omega),hz,b7 (by omega)]
end
theorem Yc (l:List ByteArray)(hl:l.length≤1000000):FC Tryz.prog 174 [(false,[.ref 0])] [ar 0 9 .str l] 0 (Wv 9 .str (Zz l)):=by
 refine Qj Tryz.func174 rfl rfl Tryz.ntmps174 fun O_ hO w0_ N0_ X_ h0_ f0_=> ?_
 iterate 9 refine w_ ?_
 refine cd_ (fun hb1 hb1'=> ?_) fun hb1 hb1'=> ?_
 ·iterate 6 refine w_ ?_
  refine QE (fun m_ s_=>∃(m:Int),m_=((l.length:Int) - m).toNat∧(1≤m∧m≤(l.length:Int))∧(Zz (l.take m.toNat)=l.take m.toNat)∧s_=⟨[(0,lR 0),(3,lI m)],[ar 0 9 .str l]⟩) ⟨1,rfl,(by omega),Qq3,rfl⟩ ?_ ?_
  · exact Wk.of [] rfl ⟨rfl,rfl,trivial⟩ ⟨rfl,trivial⟩ rfl rfl
  rintro m_ s_ ⟨m,hm3,hm,hP,rfl⟩
  iterate 7 refine w_ ?_
  cases hb4:(decide (m < (l.length:Int)))
  ·have hb4':=ab hb4
   refine w_ ?_
   refine Qi ?_
   refine (?_:AC _ _ _ _ _)
   iterate 4 refine w_ ?_
   refine Qb<|fo_ hO ?_
   exact QmR hP (by omega)
  ·have hb4':=ae hb4
   iterate 4 refine w_ ?_
   obtain ⟨y,hx6⟩:∃z,l[(m).toNat]? =some z:=⟨_,aa (by omega)⟩
   have yh:=hx6
   obtain ⟨x,hx8⟩:∃z,l[(m - 1).toNat]? =some z:=⟨_,aa (by omega)⟩
   have xh:=hx8
   apply dW (i2 16 _ _ (io 18 (lf (.ept 0 1 ((m).toNat) 0)) :: io 19 (lf (dS y)) :: i3 20 _ _ _ [io 23 (lf (.ept 0 1 ((m - 1).toNat) 0)),io 24 (lf (dS x)),io 25 _])) [0,1,0,0,15,31,31,15,15,0]
   iterate 2 refine z_ ?_
   refine zz (fun _ h_=>ac (ZD (e:= .str) (h_.v rfl) (h_.en 0 rfl) (h_.v rfl) ZE ZM rfl (by omega) (by first | omega | (simp only[aA]; omega))) rfl)<|zz (fun _ h_=>ac (Z9 (e:= .str) (h_.v rfl) (h_.n 0 rfl) hx6 rfl ZM rfl rfl) rfl) ?_
   iterate 3 refine z_ ?_
   refine zz (fun _ h_=>ac (ZD (e:= .str) (h_.v rfl) (h_.en 0 rfl) (h_.v rfl) ZE ZM rfl (by omega) (by first | omega | (simp only[aA]; omega))) rfl)<|zz (fun _ h_=>ac (Z9 (e:= .str) (h_.v rfl) (h_.n 0 rfl) hx8 rfl ZM rfl rfl) rfl) ?_
   refine z_ ?_
   exact zN
   cases hb9:(decide (y=x))
   ·have hb9':=ab hb9
    refine w_ ?_
    refine AC.skip ?_
    refine (?_:AC _ _ _ _ _)
    iterate 4 refine w_ ?_
    refine Qd<|Q5 ⟨(m+1),rfl,(by omega),(Qos (by omega) hP xh yh (by assumption)),rfl⟩ (by omega) ?_
    exact Wk.of [] rfl ⟨rfl,rfl,trivial⟩ ⟨rfl,trivial⟩ rfl rfl
   ·have hb9':=ae hb9
    iterate 4 refine w_ ?_
    refine lc (ZF (e:= .str) (a:=(m).toNat) (b:=l.length - (m).toNat) (l:=(some m)) (h:=none) (Qa rfl) rfl (by exact (Qa rfl)) (by exact trivial) ZE ZM rfl (by first | (simp only[ai,ah]; omega) | omega | (simp only[ai,ah,ak,ap,aB]; omega)) (by first | (simp only[ai,ah]; omega) | omega | (simp only[ai,ah,ak,ap,aB]; omega)) (by first | (simp only[ai,ah]; omega) | omega | (simp only[ai,ah,ak,ap,aB]; omega)) (by first | rfl | simp) (by first | rfl | simp)) ?_
    iterate 7 refine w_ ?_
    refine QE (fun m_ s_=>∃(zs:List ByteArray) (i:Int) (j:Int),m_=((l.length:Int) - m - j).toNat∧(zs.length=l.length)∧(m≤i∧1≤j∧i≤m+j - 1∧m+j≤(l.length:Int))∧(zs.take i.toNat=Zz (l.take (m+j).toNat))∧(∀t:Nat,m+j - 1≤(t:Int)→zs[t]? =l[t]?)∧s_=⟨[(0,lR 1),(3,lI i),(4,lf (.sub 1 1 ((m).toNat) (l.length - (m).toNat))),(5,lI j),(10,lI m),(12,lI (l.length:Int)),(13,lB true),(17,lI m),(19,lf (dS y)),(21,lI m),(22,lI (m - 1)),(24,lf (dS x)),(25,lB true),(27,lI m)],[ar 1 9 .str zs]⟩) ⟨l,m,1,rfl,rfl,(by omega),(QoC (by omega) hP xh yh (by assumption)),(fun t _=>rfl),rfl⟩ ?_ ?_
    · exact Wk.of [(1,0)] rfl ⟨rfl,rfl,rfl,rfl,rfl,rfl,rfl,rfl,rfl,rfl,rfl,rfl,rfl,rfl,trivial⟩ ⟨rfl,trivial⟩ rfl rfl
    rintro m_ s_ ⟨zs,i,j,hm11,hz0,hij,hzs,htl,rfl⟩
    iterate 4 refine w_ ?_
    refine lc (Qep (e:= .str) (Qa rfl) rfl (by omega) ZE rfl) ?_
    iterate 2 refine w_ ?_
    cases hb12:(decide (j < ((l.length - (m).toNat:Nat):Int)))
    ·have hb12':=ab hb12
     refine w_ ?_
     refine Qi ?_
     refine (?_:AC _ _ _ _ _)
     iterate 3 refine w_ ?_
     refine lc (ZF (e:= .str) (a:=(i).toNat) (b:=zs.length - (i).toNat) (l:=(some i)) (h:=none) (Qa rfl) rfl (by exact (Qa rfl)) (by exact trivial) ZE ZM rfl (by first | (simp only[ai,ah]; omega) | omega | (simp only[ai,ah,ak,ap,aB]; omega)) (by first | (simp only[ai,ah]; omega) | omega | (simp only[ai,ah,ak,ap,aB]; omega)) (by first | (simp only[ai,ah]; omega) | omega | (simp only[ai,ah,ak,ap,aB]; omega)) (by first | rfl | simp) (by first | rfl | simp))<|lc (Hd (e:= .str) (Qa rfl) rfl (by omega) ZE ZZ rfl rfl rfl) ?_
     iterate 4 refine w_ ?_
     refine lc (ZF (e:= .str) (a:=0) (b:=(i).toNat) (l:=none) (h:=(some i)) (Qa rfl) rfl (by exact trivial) (by exact (Qa rfl)) ZE ZM rfl (by first | (simp only[ai,ah]; omega) | omega | (simp only[ai,ah,ak,ap,aB]; omega)) (by first | (simp only[ai,ah]; omega) | omega | (simp only[ai,ah,ak,ap,aB]; omega)) (by first | (simp only[ai,ah]; omega) | omega | (simp only[ai,ah,ak,ap,aB]; omega)) (by first | rfl | simp) (by first | rfl | simp)) ?_
     iterate 2 refine w_ ?_
     refine AC.wk (Qbb 2 2 (e:= .str) (xs:=zs.take ((i).toNat)++List.replicate (zs.length - (i).toNat) (Ty.zero .str)) rfl rfl (by first | omega | (simp only[ak,ap,aB]; omega)) rfl (Fresh.of rfl) (nlr rfl))<|Qb<|fo_ hO ?_
     exact Qnf (by omega) (by omega) _ hzs (by omega)
    ·have hb12':=ae hb12
     iterate 4 refine w_ ?_
     obtain ⟨y2,hx14⟩:∃z,zs[(((m).toNat)+(j).toNat)]? =some z:=⟨_,aa (by omega)⟩
     have y2h:=hx14
     obtain ⟨x2,hx16⟩:∃z,zs[(((m).toNat)+(j - 1).toNat)]? =some z:=⟨_,aa (by omega)⟩
     have x2h:=hx16
     apply dW (i2 35 _ _ (io 37 (lf (.ept 1 1 (((m).toNat)+(j).toNat) 0)) :: io 38 (lf (dS y2)) :: i3 39 _ _ _ [io 42 (lf (.ept 1 1 (((m).toNat)+(j - 1).toNat) 0)),io 43 (lf (dS x2)),io 44 _])) [0,1,0,0,15,31,31,15,15,0]
     iterate 2 refine z_ ?_
     refine zz (fun _ h_=>ac (WK (e:= .str) (k:=((m).toNat)+(j).toNat) (h_.v rfl) (h_.en 1 rfl) (by omega) (h_.v rfl) ZE ZM rfl (by omega) (by omega) (by first | rfl | omega)) rfl)<|zz (fun _ h_=>ac (Z9 (e:= .str) (h_.v rfl) (h_.n 1 rfl) hx14 rfl ZM rfl rfl) rfl) ?_
     iterate 3 refine z_ ?_
     refine zz (fun _ h_=>ac (WK (e:= .str) (k:=((m).toNat)+(j - 1).toNat) (h_.v rfl) (h_.en 1 rfl) (by omega) (h_.v rfl) ZE ZM rfl (by omega) (by omega) (by first | rfl | omega)) rfl)<|zz (fun _ h_=>ac (Z9 (e:= .str) (h_.v rfl) (h_.n 1 rfl) hx16 rfl ZM rfl rfl) rfl) ?_
     refine z_ ?_
     exact zN
     cases hb17:(!decide (y2=x2))
     ·have hb17':(y2=x2):=Qz hb17
      refine w_ ?_
      refine AC.skip ?_
      refine (?_:AC _ _ _ _ _)
      iterate 4 refine w_ ?_
      refine Qd<|Q5 ⟨zs,i,(j+1),rfl,(by assumption),(by omega),(by exact Qo4 (by omega) (by omega) hzs htl x2h y2h (by assumption)),(by exact fun t h=>htl t (by omega)),rfl⟩ (by omega) ?_
      exact Wk.of [] rfl ⟨rfl,rfl,rfl,rfl,rfl,rfl,rfl,rfl,rfl,rfl,rfl,rfl,rfl,rfl,trivial⟩ ⟨rfl,trivial⟩ rfl rfl
     ·have hb17':¬(y2=x2):=QN hb17
      iterate 6 refine w_ ?_
      refine lc (WK (e:= .str) (k:=((m).toNat)+(j).toNat) (Qa rfl) rfl (by omega) (Qa rfl) ZE ZM rfl (by omega) (by omega) (by first | rfl | omega)) ?_
      iterate 2 refine w_ ?_
      obtain ⟨x18,hx19⟩:∃z,zs[(i).toNat]? =some z:=⟨_,aa (by omega)⟩
      have x18h:=hx19
      refine lc (Qs (e:= .str) (z':=y2) (Qa rfl) rfl hx19 rfl (Qm rfl) rfl ZM rfl rfl) ?_
      iterate 5 refine w_ ?_
      refine Qd ?_
      refine (?_:AC _ _ _ _ _)
      iterate 4 refine w_ ?_
      refine Qd<|Q5 ⟨(zs.set ((i).toNat) y2),(i+1),(j+1),rfl,(by (rw[aA]; assumption)),(by omega),(by exact Qow (by omega) (by omega) (by omega) (by omega) hzs htl x2h y2h (by assumption)),(by exact Qol (by omega) (by omega) htl),rfl⟩ (by omega) ?_
      exact Wk.of [] rfl ⟨rfl,rfl,rfl,rfl,rfl,rfl,rfl,rfl,rfl,rfl,rfl,rfl,rfl,rfl,trivial⟩ ⟨(Qk (by first | rfl | simp)),trivial⟩ rfl rfl
 ·iterate 4 refine w_ ?_
  refine Qb<|fo_ hO ?_
  exact Qox (by omega)
def n0 (l:List ByteArray):Nat:=((l[0]?).getD ByteArray.empty).size
def YT (l:List ByteArray):Prop:=0 < l.length∧Zp (n0 l:Int) l
instance (l:List ByteArray):Decidable (YT l):=inferInstanceAs (Decidable (_∧_))
def QrI (l:List ByteArray)(i:Int):Bool:=l.any fun c=> !decide (bAt c i=45)
def Xt (l:List ByteArray):List Int:=if YT l then Kh l (n0 l) else []
section
variable {l:List ByteArray}{c:ByteArray}{k:Nat}{i n:Int}{u:UInt8}
theorem Qlt (h:l.any (fun c=> !decide (bAt c (k:Int)=45))=true):Kh l k++[(k:Int)]=Kh l (k+1):=by
  unfold Kh; rw[cH,bS,bA]; simp[h]
theorem Qkm (h:l.any (fun c=> !decide (bAt c (k:Int)=45))=false):Kh l k=Kh l (k+1):=by
  unfold Kh; rw[cH,bS,bA]; simp[h]
theorem QeV:(Kh l k).length≤k:=bn (cp ..) (by simp)
theorem Qaj (h:l[0]? =some c):n0 l=c.size:=by unfold n0; rw[h]; rfl
theorem Qc7 (h:¬0 < (l.length:Int)):¬YT l:=fun g=>h (by have:=g.1; omega)
theorem QdL (h0:l[0]? =some c)(h:¬Zp (c.size:Int) l):¬YT l:=fun g=>h (by rw[← Qaj h0]; exact g.2)
theorem Qdh (h0:l[0]? =some c)(h:Zp (c.size:Int) l):YT l:=⟨(aj.1 h0).1,by rw[Qaj h0]; exact h⟩
theorem QlG {j:Int}{q:Nat}(h0:0≤j)(hc:l[q]? =some c)(hu:c[j.toNat]? =some u)(h:¬u=45):Kh l j.toNat++[j]=Kh l (j.toNat+1):=by
  have:l.any (fun c=> !decide (bAt c ((j.toNat:Nat):Int)=45))=true:=bR.2 ⟨c,ao hc,by rw[show ((j.toNat:Nat):Int)=j by omega,Q3 hu]; simp[h]⟩
  have e:=Qlt this
  rwa [show ((j.toNat:Nat):Int)=j by omega] at e
theorem Qk9 {j:Int}{q:Nat}(h0:0≤j)(h:NoneTo (fun c=> !decide (bAt c j=45)) l q)(hq:l.length≤q):Kh l j.toNat=Kh l (j.toNat+1):=Qkm (by rw[show ((j.toNat:Nat):Int)=j by omega]; exact h.any_no hq)
theorem QoG {j:Int}(hu:c[j.toNat]? =some u)(h:u=45):(!decide (bAt c j=45))=false:=by rw[Q3 hu,h]; rfl
theorem Qha (h:Zp (c.size:Int) l):c.size≤8:=by have:=h.1; omega
theorem QcX (h:Zp n l)(hc:c∈l):(c.size:Int)=n:=(h.2.2 c hc).2.1
end
theorem KQ (cube:ByteArray)(i:Int)(hi:0≤i∧i < (cube.size:Int)):FC Tryz.prog 73 [(false,[dS cube]),(false,[.ptr 0 0])] [bx 0 3 [dI i]] 1 (Is (lB (!decide (bAt cube i=45))) [bx 0 3 [dI i]]):=by
 refine Qj Tryz.func73 rfl rfl Tryz.ntmps73 fun O_ hO w0_ N0_ X_ h0_ f0_=> ?_
 iterate 6 refine w_ ?_
 refine alI 5 fun hi1=> ?_
 obtain ⟨c2,hc3⟩:∃z,cube[(i).toNat]? =some z:=⟨_,b5 _ _ (by omega)⟩
 refine w_ ?_
 refine lc (QF (Qa rfl) (QK 45 rfl) rfl) ?_
 iterate 2 refine w_ ?_
 refine Qb ?_
 have e4:(!decide (c2=45):Bool)=(!decide (bAt cube i=45)):=by
  (rw[Q3 (by assumption)]; done)
 exact fi_ [] hO ⟨rfl,trivial⟩ (h0:=(congrArg (fun z_=>lB z_) e4))
theorem WR (l:List ByteArray)(i:Int)(hi:∀c∈l,0≤i∧i < (c.size:Int)):FC Tryz.prog 160 [(false,[.dat (.sl 9 .str) l]),(false,[.clo 73 [0]])] [bx 0 3 [dI i]] 1 (Is (lI (Zb (fun c=> !decide (bAt c i=45)) l)) [bx 0 3 [dI i]]):=by
 refine Qj Tryz.func160 rfl rfl Tryz.ntmps160 fun O_ hO w0_ N0_ X_ h0_ f0_=> ?_
 iterate 6 refine w_ ?_
 refine alL 6 fun hl1=> ?_
 iterate 4 refine w_ ?_
 refine lpK l.length (fun k=>NoneTo (fun c=> !decide (bAt c i=45)) l k) (fun k=>⟨[(0,lf (.dat (.sl 9 .str) l)),(1,lf (.clo 73 [0])),(7,lI (l.length:Int)),(8,lI (k:Int))],[bx 0 3 [dI i]]⟩) (NoneTo.zero) ?_ fun k hk2 hno=> ?_
 · exact Wk.of [] rfl ⟨rfl,rfl,rfl,rfl,trivial⟩ ⟨rfl,trivial⟩ rfl rfl
 iterate 4 refine w_ ?_
 cases hb3:(decide ((k:Int) < (l.length:Int)))
 ·have hb3':=ab hb3
  refine w_ ?_
  refine Qi ?_
  refine (?_:AC _ _ _ _ _)
  iterate 3 refine w_ ?_
  refine Qb ?_
  have e4:((-1):Int)=(Zb (fun c=> !decide (bAt c i=45)) l):=by
   first | exact (hno.no (by omega)).symm
  exact fi_ [] hO ⟨rfl,trivial⟩ (h0:=(congrArg (fun z_=>lI z_) e4))
 ·have hb3':=ae hb3
  iterate 12 refine w_ ?_
  obtain ⟨x5,hx6⟩:∃z,l[k]? =some z:=⟨_,aa (by omega)⟩
  iterate 2 refine w_ ?_
  refine lc (Yb (args0:=[(false,[dS x5])]) (caps:=[0]) 1 [(0,0)] (KQ x5 i (hi _ (ao hx6))) Qjj rfl (Qa rfl) rfl rfl ⟨_,_,rfl,(Qm rfl),rfl⟩ ⟨rfl,trivial⟩ rfl ⟨trivial,trivial⟩ (nlr rfl)) ?_
  refine w_ ?_
  cases hb7:(!decide (bAt x5 i=45))
  ·have hb7':(bAt x5 i=45):=Qz hb7
   refine w_ ?_
   refine AC.skip ?_
   refine (?_:AC _ _ _ _ _)
   iterate 3 refine w_ ?_
   refine Qd ?_
   refine lK_ (hno.step hx6 (by assumption)) ?_
   exact Wk.of [] rfl ⟨rfl,rfl,rfl,rfl,trivial⟩ ⟨rfl,trivial⟩ rfl rfl
  ·have hb7':¬(bAt x5 i=45):=QN hb7
   iterate 5 refine w_ ?_
   refine Qb ?_
   have e8:((k:Int):Int)=(Zb (fun c=> !decide (bAt c i=45)) l):=by
    exact (hno.at hx6 (by assumption)).symm
   exact fi_ [] hO ⟨rfl,trivial⟩ (h0:=(congrArg (fun z_=>lI z_) e8))
theorem Wd (l:List ByteArray)(i:Int)(hi:∀c∈l,0≤i∧i < (c.size:Int)):FC Tryz.prog 72 [(false,[.dat (.sl 9 .str) l]),(false,[.clo 73 [0]])] [bx 0 3 [dI i]] 1 (Is (lB (l.any (fun c=> !decide (bAt c i=45)))) [bx 0 3 [dI i]]):=by
 refine Qj Tryz.func72 rfl rfl Tryz.ntmps72 fun O_ hO w0_ N0_ X_ h0_ f0_=> ?_
 iterate 6 refine w_ ?_
 refine lc (dP 1 [] (WR l i hi) Wi) ?_
 iterate 3 refine w_ ?_
 refine Qb ?_
 have e1:(decide (0≤(Zb (fun c=> !decide (bAt c i=45)) l)):Bool)=(l.any (fun c=> !decide (bAt c i=45))):=by
  exact Xz _ _
 exact fi_ [] hO ⟨rfl,trivial⟩ (h0:=(congrArg (fun z_=>lB z_) e1))
theorem VE (l:List ByteArray):FC Tryz.prog 14 [(false,[.dat (.sl 9 .str) l])] [] 0 (Is (PV.tup [(false,[.ref 0]),(false,[dB (decide (YT l))])]) [ar 0 3 .int (Xt l)]):=by
 refine Qj Tryz.func14 rfl rfl Tryz.ntmps14 fun O_ hO w0_ N0_ X_ h0_ f0_=> ?_
 iterate 7 refine w_ ?_
 refine alL 6 fun hl1=> ?_
 iterate 3 refine w_ ?_
 cases hb2:(decide ((l.length:Int)=0))
 ·have hb2':=ab hb2
  refine w_ ?_
  obtain ⟨c0,hx4⟩:∃z,l[0]? =some z:=⟨_,aa (by omega)⟩
  have hc0:=hx4
  try have hsc0:=hall _ (ao hx4)
  iterate 2 refine w_ ?_
  refine alS 12 fun hl5=> ?_
  refine lgy rfl rfl (QI (Qa rfl) rfl QR) ?_
  refine w_ ?_
  refine lgy rfl rfl (dK (XJ (c0.size:Int) l) QcW) ?_
  iterate 3 refine w_ ?_
  cases hb6:(decide (Zp (c0.size:Int) l))
  ·have hb6':=ab hb6
   iterate 5 refine w_ ?_
   refine AC.wk (Wk.nilS 0 2 3 .int rfl (Fresh.of rfl) (nlr rfl))<|Qb ?_
   have e7:(false:Bool)=(decide (YT l)):=by
    exact (if_neg (QdL hc0 (by assumption))).symm
   exact fi_ [] hO ⟨(Qk (by exact (if_neg (QdL hc0 (by assumption))).symm)),trivial⟩ (h0:=(congrArg (fun z_=>PV.tup [(false,[.ref 0]),(false,[dB z_])]) e7))
  ·have hb6':=ae hb6
   iterate 3 refine w_ ?_
   refine lc (dBs 1 (e:= .int) Xy) ?_
   iterate 7 refine w_ ?_
   refine alS 21 fun hl8=> ?_
   refine lc (QI (Qa rfl) rfl QR) ?_
   iterate 3 refine w_ ?_
   refine lp0 c0.size (fun k=>⟨[(0,lf (.dat (.sl 9 .str) l)),(2,lf (.val (.slice none 0 0))),(3,lB false),(4,lR 2),(22,lI (c0.size:Int)),(23,lI (k:Int))],[ar 2 3 .int (Kh l k)]⟩) ?_ fun k hk9=> ?_
   · exact Wk.of [(2,1)] rfl ⟨rfl,rfl,rfl,rfl,rfl,rfl,trivial⟩ ⟨(Qk (rfl)),trivial⟩ rfl rfl
   have hsl:=QeV (l:=l) (k:=k)
   have h8:=Qha (l:=l) (c:=c0) (by assumption)
   iterate 4 refine w_ ?_
   cases hb10:(decide ((k:Int) < (c0.size:Int)))
   ·have hb10':=ab hb10
    refine w_ ?_
    refine Qi ?_
    refine (?_:AC _ _ _ _ _)
    iterate 5 refine w_ ?_
    refine Qb ?_
    have e11:(true:Bool)=(decide (YT l)):=by
     exact (aJ (Qdh hc0 (by assumption))).symm
    exact fi_ [(0,2)] hO ⟨(Qk (by (rw[Xt,if_pos (Qdh hc0 (by assumption)),Qaj hc0,show k=c0.size by omega]; done))),trivial⟩ (h0:=(congrArg (fun z_=>PV.tup [(false,[.ref 2]),(false,[dB z_])]) e11))
   ·have hb10':=ae hb10
    iterate 6 refine w_ ?_
    refine lc (xal 3 .int Xy) ?_
    iterate 4 refine w_ ?_
    refine lc (ZS ⟨_,_,rfl,(Qa rfl),rfl,rfl⟩ rfl) ?_
    refine lc (dP 4 [(0,3)] (Wd l (k:Int) (fun c hc=>by have:=QcX (by assumption) hc; omega)) Us) ?_
    refine w_ ?_
    cases hb12:(l.any (fun c=> !decide (bAt c (k:Int)=45)))
    ·refine w_ ?_
     refine AC.skip ?_
     refine (?_:AC _ _ _ _ _)
     iterate 3 refine w_ ?_
     refine Qd ?_
     refine l0_ ?_
     exact Wk.of [] rfl ⟨rfl,rfl,rfl,rfl,rfl,rfl,trivial⟩ ⟨(Qk (by first | exact Qlt (by assumption) | exact Qkm (by assumption))),trivial⟩ rfl rfl
    ·iterate 4 refine w_ ?_
     refine lc (dBs 5 (e:= .int) Xy) ?_
     refine lc (dA 6 Wo) ?_
     refine w_ ?_
     refine Qd ?_
     refine (?_:AC _ _ _ _ _)
     iterate 3 refine w_ ?_
     refine Qd ?_
     refine l0_ ?_
     exact Wk.of [(2,6)] rfl ⟨rfl,rfl,rfl,rfl,rfl,rfl,trivial⟩ ⟨(Qk (by first | exact Qlt (by assumption) | exact Qkm (by assumption))),trivial⟩ rfl rfl
 ·have hb2':=ae hb2
  iterate 14 refine w_ ?_
  refine AC.wk (Wk.nilS 7 2 3 .int rfl (Fresh.of rfl) (nlr rfl))<|Qb ?_
  have e13:(false:Bool)=(decide (YT l)):=by
   exact (if_neg (Qc7 (by omega))).symm
  exact fi_ [(0,7)] hO ⟨(Qk (by exact (if_neg (Qc7 (by omega))).symm)),trivial⟩ (h0:=(congrArg (fun z_=>PV.tup [(false,[.ref 7]),(false,[dB z_])]) e13))
theorem VG (l:List ByteArray):FC Tryz.prog 15 [(false,[.dat (.sl 9 .str) l])] [] 0 (Is (PV.tup [(false,[.ref 0]),(false,[dB (decide (YT l))])]) [ar 0 3 .int (Xt l)]):=by
 refine Qj Tryz.func15 rfl rfl Tryz.ntmps15 fun O_ hO w0_ N0_ X_ h0_ f0_=> ?_
 iterate 7 refine w_ ?_
 refine alL 8 fun hl1=> ?_
 iterate 3 refine w_ ?_
 cases hb2:(decide ((l.length:Int)=0))
 ·have hb2':=ab hb2
  refine w_ ?_
  obtain ⟨c0,hx4⟩:∃z,l[0]? =some z:=⟨_,aa (by omega)⟩
  have hc0:=hx4
  try have hsc0:=hall _ (ao hx4)
  iterate 2 refine w_ ?_
  refine alS 14 fun hl5=> ?_
  refine lgy rfl rfl (QI (Qa rfl) rfl QR) ?_
  refine w_ ?_
  refine lgy rfl rfl (dK (VH (c0.size:Int) l) Qco) ?_
  iterate 3 refine w_ ?_
  cases hb6:(decide (Zp (c0.size:Int) l))
  ·have hb6':=ab hb6
   iterate 5 refine w_ ?_
   refine AC.wk (Wk.nilS 0 2 3 .int rfl (Fresh.of rfl) (nlr rfl))<|Qb ?_
   have e7:(false:Bool)=(decide (YT l)):=by
    exact (if_neg (QdL hc0 (by assumption))).symm
   exact fi_ [] hO ⟨(Qk (by exact (if_neg (QdL hc0 (by assumption))).symm)),trivial⟩ (h0:=(congrArg (fun z_=>PV.tup [(false,[.ref 0]),(false,[dB z_])]) e7))
  ·have hb6':=ae hb6
   iterate 10 refine w_ ?_
   refine AC.wk (Wk.nilS 1 4 3 .int rfl (Fresh.of rfl) (nlr rfl)) ?_
   refine QE (fun m_ s_=>∃(j:Int) (o_:List Int),m_=((c0.size:Int) - j).toNat∧(0≤j∧j≤(c0.size:Int))∧(o_=Kh l j.toNat)∧s_=⟨[(0,lf (.dat (.sl 9 .str) l)),(2,lf (.val (.slice none 0 0))),(3,lB false),(4,lR 2),(5,lI j)],[ar 2 3 .int o_]⟩) ⟨0,([]:((.sl 3 .int):Ty).Den),rfl,by omega,rfl,rfl⟩ ?_ ?_
   · exact Wk.of [(2,1)] rfl ⟨rfl,rfl,rfl,rfl,rfl,trivial⟩ ⟨(Qk (by first | rfl | simp)),trivial⟩ rfl rfl
   rintro m_ s_ ⟨j,o_,hm9,hj,hO1,rfl⟩
   have hsl:o_.length≤j.toNat:=by rw[hO1]; exact QeV
   have h8:=Qha (l:=l) (c:=c0) (by assumption)
   have hall:∀c∈l,c.size=c0.size:=fun c hc=>by have:=QcX (l:=l) (n:=(c0.size:Int)) (by assumption) hc; omega
   iterate 6 refine w_ ?_
   refine alS 23 fun hl10=> ?_
   refine lc (QI (Qa rfl) rfl QR) ?_
   iterate 2 refine w_ ?_
   cases hb11:(decide (j < (c0.size:Int)))
   ·have hb11':=ab hb11
    refine w_ ?_
    refine Qi ?_
    refine (?_:AC _ _ _ _ _)
    iterate 5 refine w_ ?_
    refine Qb ?_
    have e12:(true:Bool)=(decide (YT l)):=by
     exact (aJ (Qdh hc0 (by assumption))).symm
    exact fi_ [(0,2)] hO ⟨(Qk (by (rw[Xt,if_pos (Qdh hc0 (by assumption)),Qaj hc0,hO1,show j.toNat=c0.size by omega]; done))),trivial⟩ (h0:=(congrArg (fun z_=>PV.tup [(false,[.ref 2]),(false,[dB z_])]) e12))
   ·have hb11':=ae hb11
    iterate 6 refine w_ ?_
    refine alL 28 fun hl13=> ?_
    iterate 4 refine w_ ?_
    refine lpK l.length (fun q=>NoneTo (fun c=> !decide (bAt c j=45)) l q) (fun q=>⟨[(0,lf (.dat (.sl 9 .str) l)),(2,lf (.val (.slice none 0 0))),(3,lB false),(4,lR 3),(5,lI j),(20,lI j),(21,lf (.dat (.sl 9 .str) l)),(22,lf (.elt .str c0 0)),(23,lf (dS c0)),(24,lI (c0.size:Int)),(25,lB true),(28,lf (.dat (.sl 9 .str) l)),(29,lI (l.length:Int)),(30,lI (q:Int))],[ar 3 3 .int o_]⟩) (NoneTo.zero) ?_ fun q hk14 hno=> ?_
    · exact Wk.of [(3,2)] rfl ⟨rfl,rfl,rfl,rfl,rfl,rfl,rfl,rfl,rfl,rfl,rfl,rfl,rfl,rfl,trivial⟩ ⟨rfl,trivial⟩ rfl rfl
    iterate 4 refine w_ ?_
    cases hb15:(decide ((q:Int) < (l.length:Int)))
    ·have hb15':=ab hb15
     refine w_ ?_
     refine Qi ?_
     refine (?_:AC _ _ _ _ _)
     iterate 4 refine w_ ?_
     refine Qd<|Q5 ⟨(j+1),o_,rfl,by omega,(by rw[hO1,show (j+1).toNat=j.toNat+1 by omega]; first | exact QlG (by omega) hcq (by assumption) (by assumption) | exact Qk9 (by omega) hno (by omega)),rfl⟩ (by omega) ?_
     exact Wk.of [(2,3)] rfl ⟨rfl,rfl,rfl,rfl,rfl,trivial⟩ ⟨rfl,trivial⟩ rfl rfl
    ·have hb15':=ae hb15
     iterate 5 refine w_ ?_
     obtain ⟨cq,hx17⟩:∃z,l[q]? =some z:=⟨_,aa (by omega)⟩
     have hcq:=hx17
     try have hscq:=hall _ (ao hx17)
     iterate 7 refine w_ ?_
     obtain ⟨c18,hc19⟩:∃z,cq[(j).toNat]? =some z:=⟨_,b5 _ _ (by omega)⟩
     refine w_ ?_
     refine lc (QF (Qa rfl) (QK 45 rfl) rfl) ?_
     refine w_ ?_
     cases hb20:(!decide (c18=45))
     ·have hb20':(c18=45):=Qz hb20
      refine w_ ?_
      refine AC.skip ?_
      refine (?_:AC _ _ _ _ _)
      iterate 3 refine w_ ?_
      refine Qd ?_
      refine lK_ ((hno.step hcq (QoG (by assumption) (by assumption)))) ?_
      exact Wk.of [] rfl ⟨rfl,rfl,rfl,rfl,rfl,rfl,rfl,rfl,rfl,rfl,rfl,rfl,rfl,rfl,trivial⟩ ⟨rfl,trivial⟩ rfl rfl
     ·have hb20':¬(c18=45):=QN hb20
      iterate 4 refine w_ ?_
      refine lc (dBs 4 (e:= .int) Xy) ?_
      refine lc (dA 5 Wo) ?_
      iterate 2 refine w_ ?_
      refine Qi ?_
      refine (?_:AC _ _ _ _ _)
      iterate 4 refine w_ ?_
      refine Qd<|Q5 ⟨(j+1),(o_++([j])),rfl,by omega,(by rw[hO1,show (j+1).toNat=j.toNat+1 by omega]; first | exact QlG (by omega) hcq (by assumption) (by assumption) | exact Qk9 (by omega) hno (by omega)),rfl⟩ (by omega) ?_
      exact Wk.of [(2,5)] rfl ⟨rfl,rfl,rfl,rfl,rfl,trivial⟩ ⟨(Qk (by first | rfl | simp)),trivial⟩ rfl rfl
 ·have hb2':=ae hb2
  iterate 14 refine w_ ?_
  refine AC.wk (Wk.nilS 6 2 3 .int rfl (Fresh.of rfl) (nlr rfl))<|Qb ?_
  have e21:(false:Bool)=(decide (YT l)):=by
   exact (if_neg (Qc7 (by omega))).symm
  exact fi_ [(0,6)] hO ⟨(Qk (by exact (if_neg (Qc7 (by omega))).symm)),trivial⟩ (h0:=(congrArg (fun z_=>PV.tup [(false,[.ref 6]),(false,[dB z_])]) e21))
end Go.Proofs.YtfkmmpfdncopdaaGreat
