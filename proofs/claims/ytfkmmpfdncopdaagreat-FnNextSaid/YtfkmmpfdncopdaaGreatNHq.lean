/- Walks over abstract states: prime implicants, both sides. -/
import Derived.Test.YtfkmmpfdncopdaaGreatNHn
import Derived.Test.YtfkmmpfdncopdaaGreatNWx
set_option linter.unusedSimpArgs false
set_option linter.unusedVariables false
set_option linter.unusedSectionVars false
namespace Go.Proofs.YtfkmmpfdncopdaaGreat
open Go.RowKit
set_option maxRecDepth 100000
set_option maxHeartbeats 4000000
def WZ (cube:ByteArray)(codes:List ByteArray):Bool:=codes.any fun c=>QV cube c
def Qao (cube:ByteArray)(off:List ByteArray)(i:Nat):Bool:=decide (bAt cube (i:Int)=45)||WZ (VB cube (i:Int) ⟨#[45]⟩) off
def Qap (cube:ByteArray)(off:List ByteArray):Bool:=(List.range cube.size).all (Qao cube off)
def prB (on off:List ByteArray)(x:ByteArray):Bool:=WZ x on&&(!(WZ x off)&&Qap x off)
def cuF (c:ByteArray):List ByteArray:=[c++⟨#[45]⟩,c++⟨#[48]⟩,c++⟨#[49]⟩]
def Zl:Nat→List ByteArray
  | 0=>[⟨#[]⟩]
  | n+1=>(Zl n).flatMap cuF
def QL (n:Int)(on off:List ByteArray):List ByteArray:=(Zl n.toNat).filter (prB on off)
def H5 (n:Int)(on off:List ByteArray)(k:Nat):List ByteArray:=((Zl n.toNat).take k).filter (prB on off)
section
variable {n m:Int}{k j:Nat}{c x cube:ByteArray}{l on off codes:List ByteArray}{u:UInt8}
theorem Qhc:(l.flatMap cuF).length=3*l.length:=by
  induction l with
  | nil=>rfl
  | cons x l ih=>rw[List.flatMap_cons,ai,ih,au]; show 3+_=_; omega
theorem Qir {n:Nat}:(Zl n).length=3 ^ n:=by
  induction n with
  | zero=>rfl
  | succ n ih=>rw[Zl,Qhc,ih,Nat.pow_succ]; omega
theorem V8 {n:Nat}(h:n≤8):(Zl n).length≤6561:=by rw[Qir]; exact Nat.pow_le_pow_right (by decide) h
theorem Qjs (hx:l[k]? =some x):(l.take k).flatMap cuF++[x++⟨#[45]⟩,x++⟨#[48]⟩,x++⟨#[49]⟩]=(l.take (k+1)).flatMap cuF:=by
  rw[QQ hx,cY]; simp[cuF]
theorem Qnr {n:Nat}(h:(Zl n).length≤j):((Zl n).take j).flatMap cuF=Zl (n+1):=by rw[aU h]; rfl
theorem YE:∀{n:Nat} {x:ByteArray},x∈Zl n→x.size=n
  | 0,x,h=>by rw[Zl,aC] at h; subst h; rfl
  | n+1,x,h=>by
    rw[Zl,cj] at h
    obtain ⟨c,hc,h⟩:=h
    have:=YE hc
    simp only[cuF,aE,bW,or_false] at h
    rcases h with rfl | rfl | rfl <;> rw[aN,this] <;> rfl
theorem QlL (hk:k < cube.size)(hu:cube[((k:Int)).toNat]? =some u)(h1:¬u=45)(h2:WZ (VB cube (k:Int) ⟨#[45]⟩) off=false):false=Qap cube off:=by
  symm; unfold Qap; rw[List.all_eq_false]
  exact ⟨k,bY.2 hk,by unfold Qao; rw[Q2 hu,h2]; simp[h1]⟩
theorem Qjj (hP:∀j,j < k→Qao cube off j=true)(hk:cube.size≤k):true=Qap cube off:=by
  symm; unfold Qap; rw[aB]
  exact fun j hj=>hP j (bh (bY.1 hj) hk)
theorem JQ (hP:∀j,j < k→Qao cube off j=true)(h:Qao cube off k=true):∀j,j < k+1→Qao cube off j=true:=fun j hj=>by
  by_cases e:j=k
  · subst e; exact h
  · exact hP j (by omega)
theorem QiB (hu:cube[((k:Int)).toNat]? =some u)(h:u=45):Qao cube off k=true:=by unfold Qao; rw[Q2 hu,h]; rfl
theorem QiO (h:WZ (VB cube (k:Int) ⟨#[45]⟩) off=true):Qao cube off k=true:=by unfold Qao; rw[h]; simp
theorem QiD (h1:(k:Int) < (cube.size:Int))(h:∀c∈off,cube.size≤c.size):∀c∈off,(VB cube (k:Int) ⟨#[45]⟩).size≤c.size:=fun c hc=>by
  rw[Hx (by omega) (by omega) rfl]; exact h c hc
theorem QaL (hx:(Zl n.toNat)[k]? =some x)(h:prB on off x=true):H5 n on off k++[x]=H5 n on off (k+1):=QnU hx h
theorem Xa (hx:(Zl n.toNat)[k]? =some x)(h:prB on off x=false):H5 n on off k=H5 n on off (k+1):=QpG hx h
theorem Qoq (h:n≤8):(H5 n on off k).length≤6561:=bw (cB ..) (bw (List.length_take_le' ..) (V8 (by omega)))
theorem QkL (h:(Zl n.toNat).length≤k):H5 n on off k=QL n on off:=by unfold H5 QL; rw[aU h]
theorem Qo9 (h1:WZ x on=true)(h2:WZ x off=false)(h3:Qap x off=true):prB on off x=true:=by unfold prB; rw[h1,h2,h3]; rfl
theorem Qgq (h1:WZ x on=false):prB on off x=false:=by unfold prB; rw[h1]; rfl
theorem Qgb (h1:WZ x off=true):prB on off x=false:=by unfold prB; rw[h1]; simp
theorem Qjz (h1:Qap x off=false):prB on off x=false:=by unfold prB; rw[h1]; simp
end
theorem Hu (code:ByteArray)(cube:ByteArray)(hl:cube.size≤code.size):FC Tryz.prog 359 [(false,[dS code]),(false,[.ptr 0 0])] [bx 0 9 [dS cube]] 1 (Is (lB (QV cube code)) [bx 0 9 [dS cube]]):=by
 refine Ql Tryz.func359 rfl rfl Tryz.ntmps359 fun O_ hO w0_ N0_ X_ h0_ f0_=> ?_
 iterate 6 refine w_ ?_
 refine lc (dK (YS cube code hl) V3) ?_
 iterate 2 refine w_ ?_
 refine Qb ?_
 exact fi_ [] hO ⟨rfl,trivial⟩
theorem Vq (l:List ByteArray)(cube:ByteArray)(hl:∀c∈l,cube.size≤c.size):FC Tryz.prog 160 [(false,[.dat (.sl 9 .str) l]),(false,[.clo 359 [0]])] [bx 0 9 [dS cube]] 1 (Is (lI (Q4 (fun c=>QV cube c) l)) [bx 0 9 [dS cube]]):=by
 refine Ql Tryz.func160 rfl rfl Tryz.ntmps160 fun O_ hO w0_ N0_ X_ h0_ f0_=> ?_
 iterate 6 refine w_ ?_
 refine alL 6 fun hl1=> ?_
 iterate 4 refine w_ ?_
 refine lpK l.length (fun k=>NoneTo (fun c=>QV cube c) l k) (fun k=>⟨[(0,lf (.dat (.sl 9 .str) l)),(1,lf (.clo 359 [0])),(7,lI (l.length:Int)),(8,lI (k:Int))],[bx 0 9 [dS cube]]⟩) (NoneTo.zero) ?_ fun k hk2 hno=> ?_
 · exact Wk.of [] rfl ⟨rfl,rfl,rfl,rfl,trivial⟩ ⟨rfl,trivial⟩ rfl rfl
 iterate 4 refine w_ ?_
 cases hb3:(decide ((k:Int) < (l.length:Int)))
 ·have hb3':=ab hb3
  refine w_ ?_
  refine Qj ?_
  refine (?_:AC _ _ _ _ _)
  iterate 3 refine w_ ?_
  refine Qb ?_
  have e4:((-1):Int)=(Q4 (fun c=>QV cube c) l):=by
   first | exact (hno.no (by omega)).symm
  exact fi_ [] hO ⟨rfl,trivial⟩ (h0:=(congrArg (fun z_=>lI z_) e4))
 ·have hb3':=ae hb3
  iterate 12 refine w_ ?_
  obtain ⟨x5,hx6⟩:∃z,l[k]? =some z:=⟨_,aa (by omega)⟩
  iterate 2 refine w_ ?_
  refine lc (Zk (args0:=[(false,[dS x5])]) (caps:=[0]) 1 [(0,0)] (Hu x5 cube (hl _ (ap hx6))) QgR rfl (Qa rfl) rfl rfl ⟨_,_,rfl,(Qm rfl),rfl⟩ ⟨rfl,trivial⟩ rfl ⟨trivial,trivial⟩ (nlr rfl)) ?_
  refine w_ ?_
  cases hb7:(QV cube x5)
  ·refine w_ ?_
   refine AC.skip ?_
   refine (?_:AC _ _ _ _ _)
   iterate 3 refine w_ ?_
   refine Qd ?_
   refine lK_ (hno.step hx6 (by assumption)) ?_
   exact Wk.of [] rfl ⟨rfl,rfl,rfl,rfl,trivial⟩ ⟨rfl,trivial⟩ rfl rfl
  ·iterate 5 refine w_ ?_
   refine Qb ?_
   have e8:((k:Int):Int)=(Q4 (fun c=>QV cube c) l):=by
    exact (hno.at hx6 (by assumption)).symm
   exact fi_ [] hO ⟨rfl,trivial⟩ (h0:=(congrArg (fun z_=>lI z_) e8))
theorem Wu (l:List ByteArray)(cube:ByteArray)(hl:∀c∈l,cube.size≤c.size):FC Tryz.prog 72 [(false,[.dat (.sl 9 .str) l]),(false,[.clo 359 [0]])] [bx 0 9 [dS cube]] 1 (Is (lB (l.any (fun c=>QV cube c))) [bx 0 9 [dS cube]]):=by
 refine Ql Tryz.func72 rfl rfl Tryz.ntmps72 fun O_ hO w0_ N0_ X_ h0_ f0_=> ?_
 iterate 6 refine w_ ?_
 refine lc (dP 1 [] (Vq l cube hl) XE) ?_
 iterate 3 refine w_ ?_
 refine Qb ?_
 have e1:(decide (0≤(Q4 (fun c=>QV cube c) l)):Bool)=(l.any (fun c=>QV cube c)):=by
  exact XL _ _
 exact fi_ [] hO ⟨rfl,trivial⟩ (h0:=(congrArg (fun z_=>lB z_) e1))
theorem WB (cube:ByteArray)(codes:List ByteArray)(hz_:∀c∈codes,cube.size≤c.size):FC Tryz.prog 309 [(false,[dS cube]),(false,[.dat (.sl 9 .str) codes])] [] 0 (QH (lB (!(WZ cube codes)))):=by
 refine Ql Tryz.func309 rfl rfl Tryz.ntmps309 fun O_ hO w0_ N0_ X_ h0_ f0_=> ?_
 refine w_ ?_
 refine xbx 0 ?_
 iterate 4 refine w_ ?_
 refine lc (Zj ⟨_,_,rfl,(Qa rfl),rfl,rfl⟩ rfl) ?_
 refine lc (dP 1 [] (Wu codes cube hz_) UY) ?_
 iterate 3 refine w_ ?_
 refine Qb<|fqB hO ?_
 rfl
theorem Wl (cube:ByteArray)(codes:List ByteArray)(hz_:∀c∈codes,cube.size≤c.size):FC Tryz.prog 314 [(false,[dS cube]),(false,[.dat (.sl 9 .str) codes])] [] 0 (QH (lB (WZ cube codes))):=by
 refine Ql Tryz.func314 rfl rfl Tryz.ntmps314 fun O_ hO w0_ N0_ X_ h0_ f0_=> ?_
 iterate 6 refine w_ ?_
 refine alL 7 fun hl1=> ?_
 iterate 4 refine w_ ?_
 refine lpK codes.length (fun k=>NoneTo (fun c=>QV cube c) codes k) (fun k=>⟨[(0,lf (dS cube)),(7,lf (.dat (.sl 9 .str) codes)),(8,lI (codes.length:Int)),(9,lI (k:Int))],[]⟩) (NoneTo.zero) ?_ fun k hk2 hno=> ?_
 · exact Wk.of [] rfl ⟨rfl,rfl,rfl,rfl,trivial⟩ trivial rfl rfl
 iterate 4 refine w_ ?_
 cases hb3:(decide ((k:Int) < (codes.length:Int)))
 ·have hb3':=ab hb3
  refine w_ ?_
  refine Qj ?_
  refine (?_:AC _ _ _ _ _)
  iterate 3 refine w_ ?_
  refine Qb<|fqB hO ?_
  first | exact (hno.any_no (by omega)).symm
 ·have hb3':=ae hb3
  iterate 5 refine w_ ?_
  obtain ⟨x4,hx5⟩:∃z,codes[k]? =some z:=⟨_,aa (by omega)⟩
  iterate 7 refine w_ ?_
  refine lc (dK (Wo cube x4 (hz_ _ (ap hx5))) KG) ?_
  refine w_ ?_
  cases hb6:(QV cube x4)
  ·refine w_ ?_
   refine AC.skip ?_
   refine (?_:AC _ _ _ _ _)
   iterate 3 refine w_ ?_
   refine Qd ?_
   refine lK_ (hno.step hx5 (by assumption)) ?_
   exact Wk.of [] rfl ⟨rfl,rfl,rfl,rfl,trivial⟩ trivial rfl rfl
  ·iterate 4 refine w_ ?_
   refine Qb<|fqB hO ?_
   exact (bC.2 ⟨_,ap hx5,by assumption⟩).symm
theorem Qan (cube:ByteArray)(off:List ByteArray)(hz_:∀c∈off,cube.size≤c.size)(h8:cube.size≤1000):FC Tryz.prog 310 [(false,[dS cube]),(false,[.dat (.sl 9 .str) off])] [] 0 (QH (lB (Qap cube off))):=by
 refine Ql Tryz.func310 rfl rfl Tryz.ntmps310 fun O_ hO w0_ N0_ X_ h0_ f0_=> ?_
 iterate 6 refine w_ ?_
 refine alS 6 fun hl1=> ?_
 refine lc (QZ (Qa rfl) rfl Zc) ?_
 iterate 3 refine w_ ?_
 refine lpK cube.size (fun k=>∀j,j < k→Qao cube off j=true) (fun k=>⟨[(0,lf (dS cube)),(1,lf (.dat (.sl 9 .str) off)),(7,lI (cube.size:Int)),(8,lI (k:Int))],[]⟩) ((fun j hj=>absurd hj (b8 j))) ?_ fun k hk2 hP=> ?_
 · exact Wk.of [] rfl ⟨rfl,rfl,rfl,rfl,trivial⟩ trivial rfl rfl
 iterate 4 refine w_ ?_
 cases hb3:(decide ((k:Int) < (cube.size:Int)))
 ·have hb3':=ab hb3
  refine w_ ?_
  refine Qj ?_
  refine (?_:AC _ _ _ _ _)
  iterate 3 refine w_ ?_
  refine Qb<|fqB hO ?_
  exact Qjj hP (by omega)
 ·have hb3':=ae hb3
  iterate 8 refine w_ ?_
  obtain ⟨c4,hc5⟩:∃z,cube[((k:Int)).toNat]? =some z:=⟨_,aY _ _ (by omega)⟩
  cases hb6:(!decide (c4=45))
  ·have hb6':(c4=45):=QA hb6
   apply dW (i3 11 _ _ _ (io 14 (lB false) :: i9 15 _ _ _ _ _ _ _ _ _ (i4 24 _ _ _ _ []))) [0,1,0,0,0,0,32,0,0,480,992,992,480,0,16352,0,0]
   iterate 3 refine z_ ?_
   refine zz (fun _ h_=>ac (Zh (Jw (Qbc hb6)) (QD (h_.v rfl) (QG 45 rfl) rfl)) rfl) ?_
   iterate 13 refine z_ ?_
   exact zN
   refine w_ ?_
   refine AC.skip ?_
   refine (?_:AC _ _ _ _ _)
   iterate 3 refine w_ ?_
   refine Qd ?_
   refine lK_ ((JQ hP (by first | exact QiB (by assumption) (by assumption) | exact QiO (by assumption)))) ?_
   exact Wk.of [] rfl ⟨rfl,rfl,rfl,rfl,trivial⟩ trivial rfl rfl
  ·have hb6':¬(c4=45):=QS hb6
   apply dW (i3 11 _ _ _ (io 14 (lB true) :: i3 15 _ _ _ (io 18 (lf (dS (cube.extract 0 ((k:Int)).toNat))) :: io 19 (lf (dS ((cube.extract 0 ((k:Int)).toNat)++(⟨#[45]⟩:ByteArray)))) :: i3 20 _ _ _ [io 23 (lf (dS (cube.extract ((k:Int)+1).toNat cube.size))),io 24 (lf (dS (((cube.extract 0 ((k:Int)).toNat)++(⟨#[45]⟩:ByteArray))++(cube.extract ((k:Int)+1).toNat cube.size)))),io 25 _,io 26 (lB (!(WZ (((cube.extract 0 ((k:Int)).toNat)++(⟨#[45]⟩:ByteArray))++(cube.extract ((k:Int)+1).toNat cube.size)) off))),io 27 _]))) [0,1,0,0,0,0,32,0,0,480,992,992,480,0,16352,0,0]
   iterate 3 refine z_ ?_
   refine zz (fun _ h_=>ac (Zh (Jw (Qbc hb6)) (QD (h_.v rfl) (QG 45 rfl) rfl)) rfl) ?_
   iterate 3 refine z_ ?_
   refine zz (fun _ h_=>day rfl (h_.k rfl) (show Does _ _ _ _ (St.put _ 18 (lf (dS (cube.extract 0 ((k:Int)).toNat)))) from QW (l:=none) (h:=(some (k:Int))) (h_.v rfl) (by exact trivial) (by exact (h_.v rfl)) Zc rfl (by first | omega | (simp only[ak,aj]; omega)) (by first | omega | (simp only[ak,aj]; omega)) (by first | omega | (simp only[ak,aj]; omega))) rfl)<|zz (fun _ h_=>day rfl (h_.k rfl) (Q3 (h_.v rfl) (Evl.str rfl) rfl (by first | omega | (simp only[aN,aS,Ya]; omega))) rfl) ?_
   iterate 3 refine z_ ?_
   refine zz (fun _ h_=>day rfl (h_.k rfl) (show Does _ _ _ _ (St.put _ 23 (lf (dS (cube.extract ((k:Int)+1).toNat cube.size)))) from QW (l:=(some ((k:Int)+1))) (h:=none) (h_.v rfl) (by exact (h_.v rfl)) (by exact trivial) Zc rfl (by first | omega | (simp only[ak,aj]; omega)) (by first | omega | (simp only[ak,aj]; omega)) (by first | omega | (simp only[ak,aj]; omega))) rfl)<|zz (fun _ h_=>day rfl (h_.k rfl) (Q3 (h_.v rfl) (h_.v rfl) rfl (by first | omega | (simp only[aN,aS,Ya]; omega))) rfl) ?_
   refine z_ ?_
   refine zz (fun _ h_=>day rfl (h_.k rfl) (dK (WB (((cube.extract 0 ((k:Int)).toNat)++(⟨#[45]⟩:ByteArray))++(cube.extract ((k:Int)+1).toNat cube.size)) off (QiD (k:=k) (by omega) hz_)) KS) rfl) ?_
   refine z_ ?_
   exact zN
   cases hb7:(WZ (((cube.extract 0 ((k:Int)).toNat)++(⟨#[45]⟩:ByteArray))++(cube.extract ((k:Int)+1).toNat cube.size)) off)
   ·iterate 4 refine w_ ?_
    refine Qb<|fqB hO ?_
    exact QlL (k:=k) (by omega) (by assumption) (by assumption) (by assumption)
   ·refine w_ ?_
    refine AC.skip ?_
    refine (?_:AC _ _ _ _ _)
    iterate 3 refine w_ ?_
    refine Qd ?_
    refine lK_ ((JQ hP (by first | exact QiB (by assumption) (by assumption) | exact QiO (by assumption)))) ?_
    exact Wk.of [] rfl ⟨rfl,rfl,rfl,rfl,trivial⟩ trivial rfl rfl
theorem Hp (cube:ByteArray)(off:List ByteArray)(hz_:∀c∈off,cube.size≤c.size)(h8:cube.size≤1000):FC Tryz.prog 315 [(false,[dS cube]),(false,[.dat (.sl 9 .str) off])] [] 0 (QH (lB (Qap cube off))):=by
 refine Ql Tryz.func315 rfl rfl Tryz.ntmps315 fun O_ hO w0_ N0_ X_ h0_ f0_=> ?_
 iterate 8 refine w_ ?_
 refine lpK cube.size (fun k=>∀j,j < k→Qao cube off j=true) (fun k=>⟨[(0,lf (dS cube)),(1,lf (.dat (.sl 9 .str) off)),(5,lI (k:Int))],[]⟩) ((fun j hj=>absurd hj (b8 j))) ?_ fun k hk1 hP=> ?_
 · exact Wk.of [] rfl ⟨rfl,rfl,rfl,trivial⟩ trivial rfl rfl
 iterate 4 refine w_ ?_
 refine alS 7 fun hl2=> ?_
 refine lc (QZ (Qa rfl) rfl Zc) ?_
 iterate 2 refine w_ ?_
 cases hb3:(decide ((k:Int) < (cube.size:Int)))
 ·have hb3':=ab hb3
  refine w_ ?_
  refine Qj ?_
  refine (?_:AC _ _ _ _ _)
  iterate 3 refine w_ ?_
  refine Qb<|fqB hO ?_
  exact Qjj hP (by omega)
 ·have hb3':=ae hb3
  iterate 7 refine w_ ?_
  obtain ⟨c4,hc5⟩:∃z,cube[((k:Int)).toNat]? =some z:=⟨_,aY _ _ (by omega)⟩
  refine w_ ?_
  refine lc (QD (Qa rfl) (QG 45 rfl) rfl) ?_
  refine w_ ?_
  cases hb6:(!decide (c4=45))
  ·have hb6':(c4=45):=QA hb6
   iterate 9 refine w_ ?_
   refine AC.skip ?_
   refine (?_:AC _ _ _ _ _)
   iterate 4 refine w_ ?_
   refine Qd ?_
   refine lK_ ((JQ hP (by first | exact QiB (by assumption) (by assumption) | exact QiO (by assumption)))) ?_
   exact Wk.of [] rfl ⟨rfl,rfl,rfl,trivial⟩ trivial rfl rfl
  ·have hb6':¬(c4=45):=QS hb6
   iterate 2 refine w_ ?_
   refine lgy rfl rfl (dK (XK cube (k:Int) (⟨#[45]⟩:ByteArray) (by omega) ⟨by omega,by decide⟩) Ua) ?_
   refine w_ ?_
   refine lgy rfl rfl (dK (Wl (VB cube (k:Int) (⟨#[45]⟩:ByteArray)) off (QiD (k:=k) (by omega) hz_)) K9) ?_
   iterate 3 refine w_ ?_
   cases hb7:(WZ (VB cube (k:Int) (⟨#[45]⟩:ByteArray)) off)
   ·iterate 4 refine w_ ?_
    refine Qb<|fqB hO ?_
    exact QlL (k:=k) (by omega) (by assumption) (by assumption) (by assumption)
   ·refine w_ ?_
    refine AC.skip ?_
    refine (?_:AC _ _ _ _ _)
    iterate 4 refine w_ ?_
    refine Qd ?_
    refine lK_ ((JQ hP (by first | exact QiB (by assumption) (by assumption) | exact QiO (by assumption)))) ?_
    exact Wk.of [] rfl ⟨rfl,rfl,rfl,trivial⟩ trivial rfl rfl
theorem HA (n:Int)(hn:0≤n∧n≤8):FC Tryz.prog 194 [(false,[dI n])] [] 0 (WC 9 .str (Zl n.toNat)):=by
 refine Ql Tryz.func194 rfl rfl Tryz.ntmps194 fun O_ hO w0_ N0_ X_ h0_ f0_=> ?_
 refine acI 0 fun hi1=> ?_
 iterate 4 refine w_ ?_
 refine lc (dBs 0 (e:= .str) Yb) ?_
 iterate 8 refine w_ ?_
 refine Qy (fun m_ s_=>∃(i_:Int) (o_:List ByteArray),m_=(n - i_).toNat∧(0≤i_∧i_≤n)∧(o_=Zl i_.toNat)∧s_=⟨[(2,lf (.val (.slice none 0 0))),(3,lR 1),(8,lI n),(9,lI i_)],[ar 1 9 .str o_]⟩) ⟨0,[(⟨#[]⟩:ByteArray)],rfl,by omega,rfl,rfl⟩ ?_ ?_
 · exact Wk.of [(1,0)] rfl ⟨rfl,rfl,rfl,rfl,trivial⟩ ⟨(Qn (by first | rfl | simp)),trivial⟩ rfl rfl
 rintro m_ s_ ⟨i_,o_,hm3,hm,hO1,rfl⟩
 have hcl:o_.length≤6561:=by rw[hO1]; exact V8 (n:=i_.toNat) (by omega)
 iterate 4 refine w_ ?_
 cases hb4:(decide (i_ < n))
 ·have hb4':=ab hb4
  refine w_ ?_
  refine Qj ?_
  refine (?_:AC _ _ _ _ _)
  iterate 4 refine w_ ?_
  refine Qb<|fo_ hO ?_
  (rw[hO1,show i_=n by omega]; done)
 ·have hb4':=ae hb4
  iterate 5 refine w_ ?_
  refine lc (dBs 2 (e:= .str) Yb) ?_
  iterate 9 refine w_ ?_
  refine lp0 o_.length (fun j=>⟨[(2,lf (.val (.slice none 0 0))),(3,lR 1),(4,lR 3),(8,lI n),(9,lI i_),(10,lB true),(12,lR 1),(13,lI (o_.length:Int)),(14,lI (j:Int))],[ar 1 9 .str o_,ar 3 9 .str (((o_).take j).flatMap cuF)]⟩) ?_ fun j hk5=> ?_
  · exact Wk.of [(3,2)] rfl ⟨rfl,rfl,rfl,rfl,rfl,rfl,rfl,rfl,rfl,trivial⟩ ⟨rfl,(Qn (rfl)),trivial⟩ rfl rfl
  have hjl:=Qhc (l:=(o_).take j)
  have hjt:((o_).take j).length≤(o_).length:=by simp only[aq]; omega
  iterate 4 refine w_ ?_
  cases hb6:(decide ((j:Int) < (o_.length:Int)))
  ·have hb6':=ab hb6
   refine w_ ?_
   refine Qj ?_
   refine (?_:AC _ _ _ _ _)
   iterate 3 refine w_ ?_
   refine Qd ?_
   refine (?_:AC _ _ _ _ _)
   iterate 3 refine w_ ?_
   refine Qd<|Q0 ⟨(i_+1),(((o_).take j).flatMap cuF),rfl,by omega,(by rw[hO1] at*; rw[Qnr (by omega),show (i_+1).toNat=i_.toNat+1 by omega]),rfl⟩ (by omega) ?_
   exact Wk.of [(1,3)] rfl ⟨rfl,rfl,rfl,rfl,trivial⟩ ⟨(Qn (by first | rfl | simp)),trivial⟩ rfl rfl
  ·have hb6':=ae hb6
   iterate 6 refine w_ ?_
   obtain ⟨cx,hx8⟩:∃z,o_[j]? =some z:=⟨_,aa (by omega)⟩
   have hcx:=hx8
   have hscx:=YE (hO1▸ap hx8)
   iterate 6 refine w_ ?_
   refine lc (Q3 (Qa rfl) (Evl.str rfl) rfl (by first | omega | (simp only[aN,Ya]; omega))) ?_
   refine w_ ?_
   refine lc (Q3 (Qa rfl) (Evl.str rfl) rfl (by first | omega | (simp only[aN,Ya]; omega))) ?_
   refine w_ ?_
   refine lc (Q3 (Qa rfl) (Evl.str rfl) rfl (by first | omega | (simp only[aN,Ya]; omega))) ?_
   refine lc (dBs 4 (e:= .str) Yb) ?_
   refine lc (dA 5 Y6) ?_
   refine w_ ?_
   refine Qd ?_
   refine (?_:AC _ _ _ _ _)
   iterate 3 refine w_ ?_
   refine Qd ?_
   refine l0_ ?_
   exact Wk.of [(3,5)] rfl ⟨rfl,rfl,rfl,rfl,rfl,rfl,rfl,rfl,rfl,trivial⟩ ⟨rfl,(Qn ((Qjs hcx))),trivial⟩ rfl rfl
theorem Hg (n:Int)(hn:0≤n∧n≤8):FC Tryz.prog 202 [(false,[dI n])] [] 0 (WC 9 .str (Zl n.toNat)):=by
 refine Ql Tryz.func202 rfl rfl Tryz.ntmps202 fun O_ hO w0_ N0_ X_ h0_ f0_=> ?_
 refine acI 0 fun hi1=> ?_
 iterate 4 refine w_ ?_
 refine lc (dBs 0 (e:= .str) Yb) ?_
 iterate 4 refine w_ ?_
 refine Qy (fun m_ s_=>∃(r_:Int) (o_:List ByteArray),m_=r_.toNat∧(0≤r_∧r_≤n)∧(o_=Zl (n - r_).toNat)∧s_=⟨[(0,lI r_),(2,lf (.val (.slice none 0 0))),(3,lR 1)],[ar 1 9 .str o_]⟩) ⟨n,[(⟨#[]⟩:ByteArray)],rfl,by omega,(by rw[show (n - n).toNat=0 by omega]; rfl),rfl⟩ ?_ ?_
 · exact Wk.of [(1,0)] rfl ⟨rfl,rfl,rfl,trivial⟩ ⟨(Qn (by first | rfl | simp)),trivial⟩ rfl rfl
 rintro m_ s_ ⟨r_,o_,hm3,hm,hO1,rfl⟩
 have hcl:o_.length≤6561:=by rw[hO1]; exact V8 (n:=(n - r_).toNat) (by omega)
 iterate 5 refine w_ ?_
 cases hb4:(decide (0 < r_))
 ·have hb4':=ab hb4
  refine w_ ?_
  refine Qj ?_
  refine (?_:AC _ _ _ _ _)
  iterate 4 refine w_ ?_
  refine Qb<|fo_ hO ?_
  (rw[hO1,show r_=0 by omega,Int.sub_zero]; done)
 ·have hb4':=ae hb4
  iterate 14 refine w_ ?_
  refine AC.wk (Wk.nilS 2 4 9 .str rfl (Fresh.of rfl) (nlr rfl)) ?_
  refine lp0 o_.length (fun j=>⟨[(0,lI r_),(2,lf (.val (.slice none 0 0))),(3,lR 1),(4,lR 3),(8,lI r_),(9,lB true),(12,lR 1),(13,lI (o_.length:Int)),(14,lI (j:Int))],[ar 1 9 .str o_,ar 3 9 .str (((o_).take j).flatMap cuF)]⟩) ?_ fun j hk5=> ?_
  · exact Wk.of [(3,2)] rfl ⟨rfl,rfl,rfl,rfl,rfl,rfl,rfl,rfl,rfl,trivial⟩ ⟨rfl,(Qn (rfl)),trivial⟩ rfl rfl
  have hjl:=Qhc (l:=(o_).take j)
  have hjt:((o_).take j).length≤(o_).length:=by simp only[aq]; omega
  iterate 4 refine w_ ?_
  cases hb6:(decide ((j:Int) < (o_.length:Int)))
  ·have hb6':=ab hb6
   refine w_ ?_
   refine Qj ?_
   refine (?_:AC _ _ _ _ _)
   iterate 3 refine w_ ?_
   refine Qd ?_
   refine (?_:AC _ _ _ _ _)
   iterate 4 refine w_ ?_
   refine Qd<|Q0 ⟨(r_ - 1),(((o_).take j).flatMap cuF),rfl,by omega,(by rw[hO1] at*; rw[Qnr (by omega),show (n - (r_ - 1)).toNat=(n - r_).toNat+1 by omega]),rfl⟩ (by omega) ?_
   exact Wk.of [(1,3)] rfl ⟨rfl,rfl,rfl,trivial⟩ ⟨(Qn (by first | rfl | simp)),trivial⟩ rfl rfl
  ·have hb6':=ae hb6
   iterate 6 refine w_ ?_
   obtain ⟨cx,hx8⟩:∃z,o_[j]? =some z:=⟨_,aa (by omega)⟩
   have hcx:=hx8
   have hscx:=YE (hO1▸ap hx8)
   iterate 6 refine w_ ?_
   refine lc (Q3 (Qa rfl) (Evl.str rfl) rfl (by first | omega | (simp only[aN,Ya]; omega))) ?_
   refine w_ ?_
   refine lc (Q3 (Qa rfl) (Evl.str rfl) rfl (by first | omega | (simp only[aN,Ya]; omega))) ?_
   refine w_ ?_
   refine lc (Q3 (Qa rfl) (Evl.str rfl) rfl (by first | omega | (simp only[aN,Ya]; omega))) ?_
   refine lc (dBs 4 (e:= .str) Yb) ?_
   refine lc (dA 5 Y6) ?_
   refine w_ ?_
   refine Qd ?_
   refine (?_:AC _ _ _ _ _)
   iterate 3 refine w_ ?_
   refine Qd ?_
   refine l0_ ?_
   exact Wk.of [(3,5)] rfl ⟨rfl,rfl,rfl,rfl,rfl,rfl,rfl,rfl,rfl,trivial⟩ ⟨rfl,(Qn ((Qjs hcx))),trivial⟩ rfl rfl
end Go.Proofs.YtfkmmpfdncopdaaGreat
namespace Go.Proofs.YtfkmmpfdncopdaaGreat
open Go.RowKit
set_option maxRecDepth 100000
set_option maxHeartbeats 4000000
def dpB (on off:List ByteArray)(x:ByteArray):Bool:= !(prB on off x)
section
variable {n:Int}{k:Nat}{x:ByteArray}{l on off:List ByteArray}
theorem Qs9 (h1:WZ x on=true)(h2:WZ x off=false):prB on off x=Qap x off:=by unfold prB; rw[h1,h2]; simp
theorem QpD (hn:0≤n)(hx:x∈Zl n.toNat)(h:∀c∈l,(c.size:Int)=n):∀c∈l,x.size≤c.size:=fun c hc=>by
  have h1:=YE hx
  have h2:=h c hc
  omega
theorem QpC (hn:0≤n∧n≤8)(h1:∀c∈on,(c.size:Int)=n)(h2:∀c∈off,(c.size:Int)=n):∀x∈Zl n.toNat,x.size≤1000∧(∀c∈on,x.size≤c.size)∧∀c∈off,x.size≤c.size:=fun x hx=>by
  have:=YE hx
  exact ⟨by omega,QpD hn.1 hx h1,QpD hn.1 hx h2⟩
theorem Qtx {b:Bool}(h:(!b)=false):b=true:=by simpa using h
theorem Qty {b:Bool}(h:(!b)=true):b=false:=by simpa using h
theorem Qnb:(l.filter fun x=> !(dpB on off x))=l.filter (prB on off):=by simp only[dpB,Bool.not_not]
end
theorem Vr (cube:ByteArray)(on:List ByteArray)(off:List ByteArray)(hp:cube.size≤1000∧(∀c∈on,cube.size≤c.size)∧∀c∈off,cube.size≤c.size):FC Tryz.prog 308 [(false,[dS cube]),(false,[.ptr 0 0]),(false,[.ptr 1 0])] [bx 0 25 [.dat (.sl 9 .str) on],bx 1 25 [.dat (.sl 9 .str) off]] 2 (Is (lB (dpB on off cube)) [bx 0 25 [.dat (.sl 9 .str) on],bx 1 25 [.dat (.sl 9 .str) off]]):=by
 refine Ql Tryz.func308 rfl rfl Tryz.ntmps308 fun O_ hO w0_ N0_ X_ h0_ f0_=> ?_
 iterate 6 refine w_ ?_
 refine lc (dK (WB cube on (by first | exact hp.2.1 | exact hp.2.2)) KS) ?_
 refine w_ ?_
 cases hb1:(WZ cube on)
 ·iterate 13 refine w_ ?_
  refine Qb ?_
  have e2:(true:Bool)=(dpB on off cube):=by
   exact (congrArg (fun b=> !b) (Qgq (by assumption))).symm
  exact fi_ [] hO ⟨rfl,rfl,trivial⟩ (h0:=(congrArg (fun z_=>lB z_) e2))
 ·iterate 2 refine w_ ?_
  refine lgy rfl rfl (dK (WB cube off (by first | exact hp.2.1 | exact hp.2.2)) KS) ?_
  iterate 3 refine w_ ?_
  cases hb3:(!(WZ cube off))
  ·iterate 7 refine w_ ?_
   refine Qb ?_
   have e4:(true:Bool)=(dpB on off cube):=by
    exact (congrArg (fun b=> !b) (Qgb (Qtx (by assumption)))).symm
   exact fi_ [] hO ⟨rfl,rfl,trivial⟩ (h0:=(congrArg (fun z_=>lB z_) e4))
  ·iterate 2 refine w_ ?_
   refine lgy rfl rfl (dK (Qan cube off hp.2.2 hp.1) Qh4) ?_
   iterate 4 refine w_ ?_
   refine Qb ?_
   have e5:(!(Qap cube off):Bool)=(dpB on off cube):=by
    exact (congrArg (fun b=> !b) (Qs9 (by assumption) (Qty (by assumption)))).symm
   exact fi_ [] hO ⟨rfl,rfl,trivial⟩ (h0:=(congrArg (fun z_=>lB z_) e5))
theorem W9 (l:List ByteArray)(on:List ByteArray)(off:List ByteArray)(hl:l.length≤1000000)(hq:∀x∈l,x.size≤1000∧(∀c∈on,x.size≤c.size)∧∀c∈off,x.size≤c.size):FC Tryz.prog 160 [(false,[.ref 2]),(false,[.clo 308 [0,1]])] [bx 0 25 [.dat (.sl 9 .str) on],bx 1 25 [.dat (.sl 9 .str) off],ar 2 9 .str l] 3 (Is (lI (Q4 (fun x=>dpB on off x) l)) [bx 0 25 [.dat (.sl 9 .str) on],bx 1 25 [.dat (.sl 9 .str) off],ar 2 9 .str l]):=by
 refine Ql Tryz.func160 rfl rfl Tryz.ntmps160 fun O_ hO w0_ N0_ X_ h0_ f0_=> ?_
 iterate 10 refine w_ ?_
 refine lpK l.length (fun k=>NoneTo (fun x=>dpB on off x) l k) (fun k=>⟨[(0,lR 2),(1,lf (.clo 308 [0,1])),(7,lI (l.length:Int)),(8,lI (k:Int))],[bx 0 25 [.dat (.sl 9 .str) on],bx 1 25 [.dat (.sl 9 .str) off],ar 2 9 .str l]⟩) (NoneTo.zero) ?_ fun k hk1 hno=> ?_
 · exact Wk.of [] rfl ⟨rfl,rfl,rfl,rfl,trivial⟩ ⟨rfl,rfl,rfl,trivial⟩ rfl rfl
 iterate 4 refine w_ ?_
 cases hb2:(decide ((k:Int) < (l.length:Int)))
 ·have hb2':=ab hb2
  refine w_ ?_
  refine Qj ?_
  refine (?_:AC _ _ _ _ _)
  iterate 3 refine w_ ?_
  refine Qb ?_
  have e3:((-1):Int)=(Q4 (fun x=>dpB on off x) l):=by
   first | exact (hno.no (by omega)).symm
  exact fi_ [] hO ⟨rfl,rfl,rfl,trivial⟩ (h0:=(congrArg (fun z_=>lI z_) e3))
 ·have hb2':=ae hb2
  iterate 13 refine w_ ?_
  obtain ⟨x4,hx5⟩:∃z,l[k]? =some z:=⟨_,aa (by omega)⟩
  refine w_ ?_
  refine lc (Zk (args0:=[(false,[dS x4])]) (caps:=[0,1]) 3 [(0,0),(1,1)] (Vr x4 on off (hq _ (ap hx5))) QbG rfl (Qa rfl) rfl rfl ⟨_,_,rfl,(Qm rfl),rfl⟩ ⟨rfl,rfl,trivial⟩ rfl ⟨trivial,trivial,trivial⟩ (nlr rfl)) ?_
  refine w_ ?_
  cases hb6:(dpB on off x4)
  ·refine w_ ?_
   refine AC.skip ?_
   refine (?_:AC _ _ _ _ _)
   iterate 3 refine w_ ?_
   refine Qd ?_
   refine lK_ (hno.step hx5 (by assumption)) ?_
   exact Wk.of [] rfl ⟨rfl,rfl,rfl,rfl,trivial⟩ ⟨rfl,rfl,rfl,trivial⟩ rfl rfl
  ·iterate 5 refine w_ ?_
   refine Qb ?_
   have e7:((k:Int):Int)=(Q4 (fun x=>dpB on off x) l):=by
    exact (hno.at hx5 (by assumption)).symm
   exact fi_ [] hO ⟨rfl,rfl,rfl,trivial⟩ (h0:=(congrArg (fun z_=>lI z_) e7))
theorem W3 (l:List ByteArray)(on:List ByteArray)(off:List ByteArray)(hl:l.length≤1000000)(hq:∀x∈l,x.size≤1000∧(∀c∈on,x.size≤c.size)∧∀c∈off,x.size≤c.size):FC Tryz.prog 63 [(false,[.ref 2]),(false,[.clo 308 [0,1]])] [bx 0 25 [.dat (.sl 9 .str) on],bx 1 25 [.dat (.sl 9 .str) off],ar 2 9 .str l] 2 (Is (lR 3) [bx 0 25 [.dat (.sl 9 .str) on],bx 1 25 [.dat (.sl 9 .str) off],ar 3 9 .str (l.filter (fun x=> !(dpB on off x)))]):=by
 have hix:=Qfr (fun x=>dpB on off x) l
 refine Ql Tryz.func63 rfl rfl Tryz.ntmps63 fun O_ hO w0_ N0_ X_ h0_ f0_=> ?_
 iterate 6 refine w_ ?_
 refine lc (dP 3 [] (W9 l on off hl hq) XE) ?_
 iterate 7 refine w_ ?_
 refine cd_ (fun hb1 hb1'=> ?_) fun hb1 hb1'=> ?_
 ·iterate 8 refine w_ ?_
  refine Qy (fun m_ s_=>∃(i:Int) (j:Int) (l2:List ByteArray),m_=((l2.length:Int) - j).toNat∧(DelI (fun x=> !(dpB on off x)) l l2 i j)∧s_=⟨[(0,lR 6),(1,lf (.clo 308 [0,1])),(4,lf (.val (.slice none 0 0))),(5,lI i),(6,lI j)],[bx 0 25 [.dat (.sl 9 .str) on],bx 1 25 [.dat (.sl 9 .str) off],ar 6 9 .str l2]⟩) ⟨Q4 (fun x=>dpB on off x) l,(Q4 (fun x=>dpB on off x) l)+1,l,rfl,(DelI.start (by assumption)),rfl⟩ ?_ ?_
  · exact Wk.of [(6,2)] rfl ⟨rfl,rfl,rfl,rfl,rfl,trivial⟩ ⟨rfl,rfl,rfl,trivial⟩ rfl rfl
  rintro m_ s_ ⟨i,j,l2,hm3,hD,rfl⟩
  have hDb:=hD.1
  have hDl:=hD.2.1
  iterate 7 refine w_ ?_
  cases hb4:(decide (j < (l2.length:Int)))
  ·have hb4':=ab hb4
   refine w_ ?_
   refine Qj ?_
   refine (?_:AC _ _ _ _ _)
   iterate 3 refine w_ ?_
   refine lc (Zo (e:= .str) (a:=(i).toNat) (b:=l2.length - (i).toNat) (l:=(some i)) (h:=none) (Qa rfl) rfl (by exact (Qa rfl)) (by exact trivial) Zd ZH rfl (by first | (simp only[ak,aj]; omega) | omega | (simp only[ak,aj,ai,aq,aA]; omega)) (by first | (simp only[ak,aj]; omega) | omega | (simp only[ak,aj,ai,aq,aA]; omega)) (by first | (simp only[ak,aj]; omega) | omega | (simp only[ak,aj,ai,aq,aA]; omega)) (by first | rfl | simp) (by first | rfl | simp))<|lc (Uz (e:= .str) (Qa rfl) rfl (by omega) Zd Yb rfl rfl rfl) ?_
   iterate 4 refine w_ ?_
   refine lc (Zo (e:= .str) (a:=0) (b:=(i).toNat) (l:=none) (h:=(some i)) (Qa rfl) rfl (by exact trivial) (by exact (Qa rfl)) Zd ZH rfl (by first | (simp only[ak,aj]; omega) | omega | (simp only[ak,aj,ai,aq,aA]; omega)) (by first | (simp only[ak,aj]; omega) | omega | (simp only[ak,aj,ai,aq,aA]; omega)) (by first | (simp only[ak,aj]; omega) | omega | (simp only[ak,aj,ai,aq,aA]; omega)) (by first | rfl | simp) (by first | rfl | simp)) ?_
   iterate 2 refine w_ ?_
   refine AC.wk (KH 7 4 (e:= .str) (xs:=l2.take ((i).toNat)++List.replicate (l2.length - (i).toNat) (Ty.zero .str)) rfl rfl (by first | omega | (simp only[ai,aq,aA]; omega)) rfl (Fresh.of rfl) (nlr rfl))<|Qb ?_
   exact fi_ [(3,7)] hO ⟨rfl,rfl,(Qn (by exact hD.end_ (by assumption) _ (by omega))),trivial⟩
  ·have hb4':=ae hb4
   iterate 8 refine w_ ?_
   obtain ⟨xj,hx6⟩:∃z,l2[(j).toNat]? =some z:=⟨_,aa (by omega)⟩
   iterate 6 refine w_ ?_
   refine lc (Zk (args0:=[(false,[dS xj])]) (caps:=[0,1]) 8 [(0,0),(1,1)] (Vr xj on off (hq _ (ap (hD.at_ (x:=xj) (by assumption))))) QbG rfl (Qa rfl) rfl rfl ⟨_,_,rfl,(Qm rfl),rfl⟩ ⟨rfl,rfl,trivial⟩ rfl ⟨trivial,trivial,trivial⟩ (nlr rfl)) ?_
   iterate 2 refine w_ ?_
   cases hb7:(dpB on off xj)
   ·iterate 6 refine w_ ?_
    obtain ⟨x8,hx9⟩:∃z,l2[(i).toNat]? =some z:=⟨_,aa (by omega)⟩
    refine lc (Qs (e:= .str) (z':=xj) (Qa rfl) rfl hx9 rfl (Qm rfl) rfl ZH rfl rfl) ?_
    iterate 5 refine w_ ?_
    refine Qd ?_
    refine (?_:AC _ _ _ _ _)
    iterate 4 refine w_ ?_
    refine Qd<|Q0 ⟨(i+1),(j+1),(l2.set ((i).toNat) xj),rfl,(by exact hD.keep (x:=xj) (by assumption) (by simp[*])),rfl⟩ (by first | omega | (simp only[aD]; omega)) ?_
    exact Wk.of [] rfl ⟨rfl,rfl,rfl,rfl,rfl,trivial⟩ ⟨rfl,rfl,(Qn (by first | rfl | simp)),trivial⟩ rfl rfl
   ·refine w_ ?_
    refine AC.skip ?_
    refine (?_:AC _ _ _ _ _)
    iterate 4 refine w_ ?_
    refine Qd<|Q0 ⟨i,(j+1),l2,rfl,(by exact hD.drop_ (x:=xj) (by assumption) (by simp[*])),rfl⟩ (by first | omega | (simp only[aD]; omega)) ?_
    exact Wk.of [] rfl ⟨rfl,rfl,rfl,rfl,rfl,trivial⟩ ⟨rfl,rfl,rfl,trivial⟩ rfl rfl
 ·iterate 4 refine w_ ?_
  refine Qb ?_
  exact fi_ [(3,2)] hO ⟨rfl,rfl,(Qn (by exact Qaa (by assumption))),trivial⟩
theorem Qb6 (n:Int)(on:List ByteArray)(off:List ByteArray)(hn:0≤n∧n≤8)(h1:∀c∈on,(c.size:Int)=n)(h2:∀c∈off,(c.size:Int)=n):FC Tryz.prog 254 [(false,[dI n]),(false,[.dat (.sl 9 .str) on]),(false,[.dat (.sl 9 .str) off])] [] 0 (Is (PV.tup [(false,[.ref 0]),(false,[dB (decide (((QL n on off).length:Int)≤60))])]) [ar 0 9 .str (QL n on off)]):=by
 refine Ql Tryz.func254 rfl rfl Tryz.ntmps254 fun O_ hO w0_ N0_ X_ h0_ f0_=> ?_
 refine acI 0 fun hi1=> ?_
 refine w_ ?_
 refine xbx 0 ?_
 refine xbx 1 ?_
 iterate 5 refine w_ ?_
 refine lc (dO 2 (HA n hn) Qhn) ?_
 refine lc (Zj ⟨_,_,rfl,(Qa rfl),rfl,⟨_,_,rfl,(Qa rfl),rfl,rfl⟩⟩ rfl) ?_
 refine lc (dP 3 [] (W3 (Zl n.toNat) on off (by have:=V8 (n:=n.toNat) (by omega); omega) (QpC hn h1 h2)) Qdh) ?_
 iterate 10 refine w_ ?_
 refine Qb ?_
 have e2:(decide ((((Zl n.toNat).filter (fun x=> !(dpB on off x))).length:Int)≤60):Bool)=(decide (((QL n on off).length:Int)≤60)):=by
  (rw[Qnb]; rfl)
 exact fi_ [(0,6)] hO ⟨(Qn (by exact Qnb)),trivial⟩ (h0:=(congrArg (fun z_=>PV.tup [(false,[.ref 6]),(false,[dB z_])]) e2))
theorem WO (n:Int)(on:List ByteArray)(off:List ByteArray)(hn:0≤n∧n≤8)(h1:∀c∈on,(c.size:Int)=n)(h2:∀c∈off,(c.size:Int)=n):FC Tryz.prog 257 [(false,[dI n]),(false,[.dat (.sl 9 .str) on]),(false,[.dat (.sl 9 .str) off])] [] 0 (WC 9 .str (QL n on off)):=by
 refine Ql Tryz.func257 rfl rfl Tryz.ntmps257 fun O_ hO w0_ N0_ X_ h0_ f0_=> ?_
 refine acI 0 fun hi1=> ?_
 iterate 9 refine w_ ?_
 refine lc (dK (Hg n hn).frozen QhL) ?_
 refine alL 11 fun hl2=> ?_
 iterate 4 refine w_ ?_
 refine AC.wk (Wk.nilS 0 7 9 .str rfl (Fresh.of rfl) (nlr rfl)) ?_
 refine lp0 ((Zl n.toNat).length) (fun k=>⟨[(1,lf (.dat (.sl 9 .str) on)),(2,lf (.dat (.sl 9 .str) off)),(6,lf (.val (.slice none 0 0))),(7,lR 1),(11,lf (.dat (.sl 9 .str) (Zl n.toNat))),(12,lI ((Zl n.toNat).length:Int)),(13,lI (k:Int))],[ar 1 9 .str (H5 n on off k)]⟩) ?_ fun k hk3=> ?_
 · exact Wk.of [(1,0)] rfl ⟨rfl,rfl,rfl,rfl,rfl,rfl,rfl,trivial⟩ ⟨(Qn (rfl)),trivial⟩ rfl rfl
 have hfl:=Qoq (n:=n) (on:=on) (off:=off) (k:=k) hn.2
 iterate 4 refine w_ ?_
 cases hb4:(decide ((k:Int) < ((Zl n.toNat).length:Int)))
 ·have hb4':=ab hb4
  refine w_ ?_
  refine Qj ?_
  refine (?_:AC _ _ _ _ _)
  iterate 4 refine w_ ?_
  refine Qb<|fo_ hO ?_
  exact QkL (by omega)
 ·have hb4':=ae hb4
  iterate 5 refine w_ ?_
  obtain ⟨cx,hx6⟩:∃z,(Zl n.toNat)[k]? =some z:=⟨_,aa (by omega)⟩
  have hcx:=hx6
  have hcm:=ap hcx
  have hca:=QpC hn h1 h2 _ hcm
  iterate 7 refine w_ ?_
  refine lc (dK (Wl cx on (by first | exact hca.2.1 | exact hca.2.2)) K9) ?_
  refine w_ ?_
  cases hb7:(WZ cx on)
  ·iterate 12 refine w_ ?_
   refine AC.skip ?_
   refine (?_:AC _ _ _ _ _)
   iterate 3 refine w_ ?_
   refine Qd ?_
   refine l0_ ?_
   exact Wk.of [] rfl ⟨rfl,rfl,rfl,rfl,rfl,rfl,rfl,trivial⟩ ⟨(Qn (by first | exact QaL hcx (Qo9 (by assumption) (by assumption) (by assumption)) | exact Xa hcx (Qgq (by assumption)) | exact Xa hcx (Qgb (by assumption)) | exact Xa hcx (Qjz (by assumption)))),trivial⟩ rfl rfl
  ·iterate 2 refine w_ ?_
   refine lgy rfl rfl (dK (Wl cx off (by first | exact hca.2.1 | exact hca.2.2)) K9) ?_
   iterate 3 refine w_ ?_
   cases hb8:(WZ cx off)
   ·iterate 2 refine w_ ?_
    refine lgy rfl rfl (dK (Hp cx off hca.2.2 hca.1) Qh7) ?_
    iterate 2 refine w_ ?_
    cases hb9:(Qap cx off)
    ·refine w_ ?_
     refine AC.skip ?_
     refine (?_:AC _ _ _ _ _)
     iterate 3 refine w_ ?_
     refine Qd ?_
     refine l0_ ?_
     exact Wk.of [] rfl ⟨rfl,rfl,rfl,rfl,rfl,rfl,rfl,trivial⟩ ⟨(Qn (by first | exact QaL hcx (Qo9 (by assumption) (by assumption) (by assumption)) | exact Xa hcx (Qgq (by assumption)) | exact Xa hcx (Qgb (by assumption)) | exact Xa hcx (Qjz (by assumption)))),trivial⟩ rfl rfl
    ·iterate 4 refine w_ ?_
     refine lc (dBs 2 (e:= .str) Yb) ?_
     refine lc (dA 3 Y6) ?_
     refine w_ ?_
     refine Qd ?_
     refine (?_:AC _ _ _ _ _)
     iterate 3 refine w_ ?_
     refine Qd ?_
     refine l0_ ?_
     exact Wk.of [(1,3)] rfl ⟨rfl,rfl,rfl,rfl,rfl,rfl,rfl,trivial⟩ ⟨(Qn (by first | exact QaL hcx (Qo9 (by assumption) (by assumption) (by assumption)) | exact Xa hcx (Qgq (by assumption)) | exact Xa hcx (Qgb (by assumption)) | exact Xa hcx (Qjz (by assumption)))),trivial⟩ rfl rfl
   ·iterate 6 refine w_ ?_
    refine AC.skip ?_
    refine (?_:AC _ _ _ _ _)
    iterate 3 refine w_ ?_
    refine Qd ?_
    refine l0_ ?_
    exact Wk.of [] rfl ⟨rfl,rfl,rfl,rfl,rfl,rfl,rfl,trivial⟩ ⟨(Qn (by first | exact QaL hcx (Qo9 (by assumption) (by assumption) (by assumption)) | exact Xa hcx (Qgq (by assumption)) | exact Xa hcx (Qgb (by assumption)) | exact Xa hcx (Qjz (by assumption)))),trivial⟩ rfl rfl
end Go.Proofs.YtfkmmpfdncopdaaGreat
namespace Go.Proofs.YtfkmmpfdncopdaaGreat
open Go.RowKit
set_option maxRecDepth 100000
set_option maxHeartbeats 4000000
section
variable {n:Int}{on off:List ByteArray}
def PrP (n:Int)(on off:List ByteArray):Prop:=OOk n on off∧((QL n on off).length:Int)≤60
instance (n:Int) (on off:List ByteArray):Decidable (PrP n on off):=inferInstanceAs (Decidable (_∧_))
def Qlk (n:Int)(on off:List ByteArray):List ByteArray:=if PrP n on off then QL n on off else []
theorem QmE (h:OOk n on off):∀c∈on,(c.size:Int)=n:=fun c hc=>(h.2.1.1.1 c hc).2
theorem Qik (h:OOk n on off):∀c∈off,(c.size:Int)=n:=fun c hc=>(h.2.2.1.1.1 c hc).2
theorem QpF (h:OOk n on off)(h2:¬(60:Int) < ((QL n on off).length:Int)):Qlk n on off=QL n on off∧decide (PrP n on off)=true:=by
  have:PrP n on off:=⟨h,by omega⟩
  exact ⟨if_pos this,aJ this⟩
theorem QiT (h:¬PrP n on off):Qlk n on off=[]∧decide (PrP n on off)=false:=⟨if_neg h,ay h⟩
end
theorem QbH (n:Int)(on:List ByteArray)(off:List ByteArray):FC Tryz.prog 184 [(false,[dI n]),(false,[.dat (.sl 9 .str) on]),(false,[.dat (.sl 9 .str) off])] [] 0 (Is (PV.tup [(false,[.ref 0]),(false,[dB (decide (PrP n on off))])]) [ar 0 9 .str (Qlk n on off)]):=by
 refine Ql Tryz.func184 rfl rfl Tryz.ntmps184 fun O_ hO w0_ N0_ X_ h0_ f0_=> ?_
 refine acI 0 fun hi1=> ?_
 iterate 9 refine w_ ?_
 refine lc (dK (Ud n on off) Qb9) ?_
 iterate 2 refine w_ ?_
 cases hb2:(decide (OOk n on off))
 ·have hb2':=ab hb2
  iterate 5 refine w_ ?_
  refine AC.wk (Wk.nilS 0 6 9 .str rfl (Fresh.of rfl) (nlr rfl))<|Qb ?_
  have e3:(false:Bool)=(decide (PrP n on off)):=by
   exact (QiT (fun g=>absurd g.1 (by assumption))).2.symm
  exact fi_ [] hO ⟨(Qn (by exact (QiT (fun g=>absurd g.1 (by assumption))).1.symm)),trivial⟩ (h0:=(congrArg (fun z_=>PV.tup [(false,[.ref 0]),(false,[dB z_])]) e3))
 ·have hb2':=ae hb2
  iterate 6 refine w_ ?_
  refine lc (dO 1 (WO n on off (by have:=(by assumption:OOk n on off).1; omega) (QmE (by assumption)) (Qik (by assumption))) Qbp) ?_
  iterate 8 refine w_ ?_
  refine cd_ (fun hb4 hb4'=> ?_) fun hb4 hb4'=> ?_
  ·iterate 6 refine w_ ?_
   refine Qb ?_
   have e5:(true:Bool)=(decide (PrP n on off)):=by
    exact (QpF (by assumption) (by assumption)).2.symm
   exact fi_ [(0,1)] hO ⟨(Qn (by exact (QpF (by assumption) (by assumption)).1.symm)),trivial⟩ (h0:=(congrArg (fun z_=>PV.tup [(false,[.ref 1]),(false,[dB z_])]) e5))
  ·iterate 4 refine w_ ?_
   refine AC.wk (Wk.nilS 2 6 9 .str rfl (Fresh.of rfl) (nlr rfl))<|Qb ?_
   have e6:(false:Bool)=(decide (PrP n on off)):=by
    exact (QiT (fun g=>by have:=g.2; omega)).2.symm
   exact fi_ [(0,2)] hO ⟨(Qn (by exact (QiT (fun g=>by have:=g.2; omega)).1.symm)),trivial⟩ (h0:=(congrArg (fun z_=>PV.tup [(false,[.ref 2]),(false,[dB z_])]) e6))
theorem YY (code:List UInt8)[∀s,Decidable (StgOk s)][∀s,Decidable (Y1 s)]:FC Tryz.prog 26 [(false,[.dat (.sl 5 .u8) code])] [] 0 (Ex (fun x:DSg×Int=>x.1.1.length≤8) (fun x:DSg×Int=>PV.tup [(true,[.dat (.sl 203 (.pr .str .int)) x.1.1, .dat (.sl 9 .str) x.1.2.1, .dat (.sl 136 (.pr .int (.pr .int (.pr .bool .int)))) x.1.2.2]),(false,[dI x.2])]) (fun x:DSg×Int=>[])):=by
 refine Ql Tryz.func26 rfl rfl Tryz.ntmps26 fun O_ hO w0_ N0_ X_ h0_ f0_=> ?_
 refine w_ ?_
 refine lc (xal 0 (.pr (.sl 203 (.pr .str .int)) (.pr (.sl 9 .str) (.sl 136 (.pr .int (.pr .int (.pr .bool .int)))))) Xe) ?_
 iterate 4 refine w_ ?_
 refine lc (Qfb [.val (.slice none 0 0),dI 0, .val (.int .u64 0)] (QoU (offs:=[(0,1),(1,1),(2,1)]) (zs:=[.slice none 0 0, .int .i64 0, .int .u64 0]) Tryz.underlying93 (by kernel_rfl) (by kernel_rfl)) (fun _ _ _=>⟨_,_,rfl,rfl,⟨_,_,rfl,(VI _ _ _ .int).one rfl,⟨_,_,rfl,rfl,rfl⟩⟩⟩) ⟨_,_,rfl,(Qm rfl),rfl⟩ (aB.1 rfl) rfl rfl) ?_
 refine xbx 1 ?_
 iterate 4 refine w_ ?_
 refine Yv 2 [(0,1)] (Kl code 0 0 (by omega)) Qj5 e1_ ⟨rfl,trivial⟩ rfl (fun _=>rfl) (fun _=>⟨trivial,trivial⟩) (nlr rfl) fun x1 hx2=> ?_
 iterate 5 refine w_ ?_
 refine Qb ?_
 subst hO
 refine Q5 (x:=((x1.1.1.1,(x1.1.1.2.1,x1.1.1.2.2)),x1.1.2)) [] ?_ (Ys rfl (QK rfl rfl Xb rfl) (Xd rfl)) rfl trivial rfl rfl
 (have h_:=‹_≤8∧_›; exact h_.1)
theorem YC (code:List UInt8)[∀s,Decidable (StgOk s)][∀s,Decidable (Y1 s)]:FC Tryz.prog 35 [(false,[.dat (.sl 5 .u8) code])] [] 0 (Ex (fun x:DSg×Int=>x.1.1.length≤8) (fun x:DSg×Int=>PV.tup [(true,[.dat (.sl 203 (.pr .str .int)) x.1.1, .dat (.sl 9 .str) x.1.2.1, .dat (.sl 136 (.pr .int (.pr .int (.pr .bool .int)))) x.1.2.2]),(false,[dI x.2])]) (fun x:DSg×Int=>[])):=by
 refine Ql Tryz.func35 rfl rfl Tryz.ntmps35 fun O_ hO w0_ N0_ X_ h0_ f0_=> ?_
 refine w_ ?_
 refine lc (xal 0 (.pr (.sl 203 (.pr .str .int)) (.pr (.sl 9 .str) (.sl 136 (.pr .int (.pr .int (.pr .bool .int)))))) Xe) ?_
 iterate 4 refine w_ ?_
 refine Yv 1 [] (YY code) QdD e1_ trivial rfl (fun _=>rfl) (fun _=>trivial) (nlr rfl) fun x1 hx2=> ?_
 iterate 5 refine w_ ?_
 refine Qb ?_
 subst hO
 refine Q5 (x:=((x1.1.1,(x1.1.2.1,x1.1.2.2)),x1.2)) [] ?_ (Ys rfl (QK rfl rfl Xb rfl) (Xd rfl)) rfl trivial rfl rfl
 assumption
end Go.Proofs.YtfkmmpfdncopdaaGreat
