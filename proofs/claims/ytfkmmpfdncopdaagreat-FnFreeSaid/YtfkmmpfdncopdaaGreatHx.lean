/- Walks over abstract states: what speaks against an implementation, both sides. -/
import Derived.Test.YtfkmmpfdncopdaaGreatTb
import Derived.Test.YtfkmmpfdncopdaaGreatAv
import Derived.Test.YtfkmmpfdncopdaaGreatCq
import Derived.Test.YtfkmmpfdncopdaaGreatDm
import Derived.Test.YtfkmmpfdncopdaaGreatWk
import Derived.Test.YtfkmmpfdncopdaaGreatAk
import Derived.Lib.IndexLaws
import Derived.Laws.Strings3
set_option linter.unusedSimpArgs false
set_option linter.unusedVariables false
set_option linter.unusedSectionVars false
namespace Go.Proofs.YtfkmmpfdncopdaaGreat
open Go.RowKit
set_option maxRecDepth 100000
set_option maxHeartbeats 4000000
def rg {β:Type}(f:Nat→Option β)(m:Nat):List β:=(List.range m).filterMap f
def rf {β:Type}(f:Nat→List β)(m:Nat):List β:=(List.range m).flatMap f
section
variable {β:Type}{f:Nat→Option β}{g:Nat→List β}{m n i j k b:Nat}{y:β}{B:List β}
theorem Qoy (h:f m=some y):B++rg f m++[y]=B++rg f (m+1):=by
  unfold rg; rw[cH,List.filterMap_append]; simp[h]
theorem Qqe (h:f m=none):rg f m=rg f (m+1):=by
  unfold rg; rw[cH,List.filterMap_append]; simp[h]
theorem QnT:(rg f m).length≤m:=bn (List.length_filterMap_le ..) (by simp)
end
def arA (as_:List DAr)(j:Nat):DAr:=(as_[j]?).getD (0,0,false,0)
def QqM (as_:List DAr)(i j:Nat):Option (List Int):=if i < j∧0≤(arA as_ i).2.1∧(arA as_ j).1=(arA as_ i).1∧(arA as_ j).2.1=(arA as_ i).2.1∧(arA as_ j).2.2.2≠(arA as_ i).2.2.2 then some [(i:Int),(j:Int)] else none
def Qrl (as_:List DAr)(i:Nat):List (List Int):=rf (fun i=>rg (QqM as_ i) as_.length) i
section
variable {as_:List DAr}{a b:DAr}{i j k m:Nat}{c:DSg}{s q:Int}
def Qpt (c:DSg)(k s:Int)(a:DAr):Bool:= !decide (a.2.1=s)&&(!Xa c a.2.2.2 s&& !(WZ c s&&WZ c a.2.1))
def QqW (c:DSg)(k s:Int)(n:Nat):Option (Int×Int×Int):=if (arA c.2.2 n).1=k∧Qpt c k s (arA c.2.2 n)=true then some (k,s,(n:Int)) else none
def Qrm (c:DSg)(ts:List Int)(k s:Int)(i:Nat):Option (Int×Int×Int):=match ts[i]? with
  | some q=>if Qpt c k s (arA c.2.2 q.toNat)=true then some (k,s,q) else none
  | none=>none
def nxA (c:DSg)(k:Nat):List Int:=((Z6 c.2.1.length (ixE c.2.2))[k]?).getD []
def Qq2 (c:DSg)(r:Nat→Nat→List (Int×Int×Int))(k j:Nat):List (Int×Int×Int):=rf (fun s=>if Xa c (k:Int) (s:Int)=true then r k s else []) j
def rwS (c:DSg)(k s:Nat):List (Int×Int×Int):=rg (QqW c k s) c.2.2.length
def rwI (c:DSg)(k s:Nat):List (Int×Int×Int):=rg (Qrm c (nxA c k) k s) (nxA c k).length
def QqV (c:DSg)(r:Nat→Nat→List (Int×Int×Int))(n:Nat):List (Int×Int×Int):=rf (fun k=>Qq2 c r k c.1.length) n
end
def Qri (c:DSg):Bool:=c.2.2.any fun a=>decide (a.2.1= -1)
abbrev Qqf:ByteArray:=⟨#[109,97,100,101]⟩
def QrJ (c:DSg):ByteArray:=if Qri c=true then ⟨#[104,105,100,100,101,110]⟩ else if 0 < ((Qrl c.2.2 c.2.2.length).length:Int) then ⟨#[116,119,111,32,119,97,121,115]⟩ else if 0 < ((QqV c (rwS c) c.2.1.length).length:Int) then ⟨#[98,114,101,97,107]⟩ else if 0 < ((Qpw c).length:Int) then ⟨#[99,111,110,102,108,105,99,116]⟩ else Qqf
section
variable {c:DSg}{as_:List DAr}{a:DAr}{i j k:Nat}{m s q:Int}{l:List Int}{p:List Int}
theorem QcD (hk:k < c.1.length)(h:WZ c (k:Int)=false):Yk c.1 k++[(k:Int)]=Yk c.1 (k+1):=by
  have hx:c.1[k]? =some c.1[k]:=aa hk
  refine Qjc hx fun g=> ?_
  rw[← QdW (c:=c) (sig:=(k:Int)) (x:=c.1[k]) (by omega) (by simp),aJ g] at h
  cases h
theorem Qd6 (hk:k < c.1.length)(h:WZ c (k:Int)=true):Yk c.1 k=Yk c.1 (k+1):=by
  have hx:c.1[k]? =some c.1[k]:=aa hk
  refine QjX hx ?_
  rw[← QdW (c:=c) (sig:=(k:Int)) (x:=c.1[k]) (by omega) (by simp)] at h
  exact ae h
theorem Qhm {α:Type}{l:List α}{f:α→Bool}{x:α}(hx:l[k]? =some x)(h:f x=true):(l.take k).filter f++[x]=(l.take (k+1)).filter f:=by rw[Q0 hx,bA]; simp[h]
theorem Qlg {α:Type}{l:List α}{f:α→Bool}{x:α}(hx:l[k]? =some x)(h:f x=false):(l.take k).filter f=(l.take (k+1)).filter f:=by rw[Q0 hx,bA]; simp[h]
def QrG (c:DSg)(p:List Int):Bool:=Qqi c (mAt p 0).toNat (mAt p 1).toNat
end
theorem UQ (a:Int×Int×Bool×Int)(q:Int)(sig:Int):FC Tryz.prog 183 [(true,[dI a.1,dI a.2.1,dB a.2.2.1,dI a.2.2.2]),(false,[.ptr 0 0]),(false,[.ptr 1 0])] [bx 0 3 [dI q],bx 1 3 [dI sig]] 2 (Is (lB (decide (a.1=q∧a.2.1=sig))) [bx 0 3 [dI q],bx 1 3 [dI sig]]):=by
 refine Qj Tryz.func183 rfl rfl Tryz.ntmps183 fun O_ hO w0_ N0_ X_ h0_ f0_=> ?_
 refine acG 0 0 fun hi1=> ?_
 refine acG 0 1 fun hi2=> ?_
 refine acG 0 3 fun hi3=> ?_
 refine w_ ?_
 refine xbx 2 ?_
 iterate 6 refine w_ ?_
 refine alI 7 fun hi4=> ?_
 iterate 2 refine w_ ?_
 cases hb5:(decide (a.1=q))
 ·have hb5':=ab hb5
  iterate 7 refine w_ ?_
  refine Qb ?_
  have e6:(false:Bool)=(decide (a.1=q∧a.2.1=sig)):=by
   (simp_all; done)
  exact fi_ [] hO ⟨rfl,rfl,trivial⟩ (h0:=(congrArg (fun z_=>lB z_) e6))
 ·have hb5':=ae hb5
  iterate 7 refine w_ ?_
  refine Qb ?_
  have e7:(decide (a.2.1=sig):Bool)=(decide (a.1=q∧a.2.1=sig)):=by
   (simp_all; done)
  exact fi_ [] hO ⟨rfl,rfl,trivial⟩ (h0:=(congrArg (fun z_=>lB z_) e7))
theorem VQ (l:List (Int×Int×Bool×Int))(q:Int)(sig:Int):FC Tryz.prog 256 [(false,[.dat (.sl 136 (.pr .int (.pr .int (.pr .bool .int)))) l]),(false,[.clo 183 [0,1]])] [bx 0 3 [dI q],bx 1 3 [dI sig]] 2 (Is (lI (Zb (fun a:DAr=>decide (a.1=q∧a.2.1=sig)) l)) [bx 0 3 [dI q],bx 1 3 [dI sig]]):=by
 refine Qj Tryz.func256 rfl rfl Tryz.ntmps256 fun O_ hO w0_ N0_ X_ h0_ f0_=> ?_
 iterate 6 refine w_ ?_
 refine alL 6 fun hl1=> ?_
 iterate 4 refine w_ ?_
 refine lpK l.length (fun k=>NoneTo (fun a:DAr=>decide (a.1=q∧a.2.1=sig)) l k) (fun k=>⟨[(0,lf (.dat (.sl 136 (.pr .int (.pr .int (.pr .bool .int)))) l)),(1,lf (.clo 183 [0,1])),(7,lI (l.length:Int)),(8,lI (k:Int))],[bx 0 3 [dI q],bx 1 3 [dI sig]]⟩) (NoneTo.zero) ?_ fun k hk2 hno=> ?_
 · exact Wk.of [] rfl ⟨rfl,rfl,rfl,rfl,trivial⟩ ⟨rfl,rfl,trivial⟩ rfl rfl
 iterate 4 refine w_ ?_
 cases hb3:(decide ((k:Int) < (l.length:Int)))
 ·have hb3':=ab hb3
  refine w_ ?_
  refine Qi ?_
  refine (?_:AC _ _ _ _ _)
  iterate 3 refine w_ ?_
  refine Qb ?_
  have e4:((-1):Int)=(Zb (fun a:DAr=>decide (a.1=q∧a.2.1=sig)) l):=by
   first | exact (hno.no (by omega)).symm
  exact fi_ [] hO ⟨rfl,rfl,trivial⟩ (h0:=(congrArg (fun z_=>lI z_) e4))
 ·have hb3':=ae hb3
  iterate 12 refine w_ ?_
  obtain ⟨x5,hx6⟩:∃z,l[k]? =some z:=⟨_,aa (by omega)⟩
  iterate 2 refine w_ ?_
  refine lc (Yb (args0:=[(true,[dI x5.1,dI x5.2.1,dB x5.2.2.1,dI x5.2.2.2])]) (caps:=[0,1]) 2 [(0,0),(1,1)] (UQ x5 q sig) Qgq rfl (Qa rfl) rfl rfl ⟨_,_,rfl,(Qm rfl),rfl⟩ ⟨rfl,rfl,trivial⟩ rfl ⟨trivial,trivial,trivial⟩ (nlr rfl)) ?_
  refine w_ ?_
  cases hb7:(decide (x5.1=q∧x5.2.1=sig))
  ·have hb7':=ab hb7
   refine w_ ?_
   refine AC.skip ?_
   refine (?_:AC _ _ _ _ _)
   iterate 3 refine w_ ?_
   refine Qd ?_
   refine lK_ (hno.step hx6 (by assumption)) ?_
   exact Wk.of [] rfl ⟨rfl,rfl,rfl,rfl,trivial⟩ ⟨rfl,rfl,trivial⟩ rfl rfl
  ·have hb7':=ae hb7
   iterate 5 refine w_ ?_
   refine Qb ?_
   have e8:((k:Int):Int)=(Zb (fun a:DAr=>decide (a.1=q∧a.2.1=sig)) l):=by
    exact (hno.at hx6 (by assumption)).symm
   exact fi_ [] hO ⟨rfl,rfl,trivial⟩ (h0:=(congrArg (fun z_=>lI z_) e8))
theorem Ve (l:List (Int×Int×Bool×Int))(q:Int)(sig:Int):FC Tryz.prog 182 [(false,[.dat (.sl 136 (.pr .int (.pr .int (.pr .bool .int)))) l]),(false,[.clo 183 [0,1]])] [bx 0 3 [dI q],bx 1 3 [dI sig]] 2 (Is (lB (l.any (fun a:DAr=>decide (a.1=q∧a.2.1=sig)))) [bx 0 3 [dI q],bx 1 3 [dI sig]]):=by
 refine Qj Tryz.func182 rfl rfl Tryz.ntmps182 fun O_ hO w0_ N0_ X_ h0_ f0_=> ?_
 iterate 6 refine w_ ?_
 refine lc (dP 2 [] (VQ l q sig) Qfm) ?_
 iterate 3 refine w_ ?_
 refine Qb ?_
 have e1:(decide (0≤(Zb (fun a:DAr=>decide (a.1=q∧a.2.1=sig)) l)):Bool)=(l.any (fun a:DAr=>decide (a.1=q∧a.2.1=sig))):=by
  exact Xz _ _
 exact fi_ [] hO ⟨rfl,rfl,trivial⟩ (h0:=(congrArg (fun z_=>lB z_) e1))
theorem KH (c:(List (ByteArray×Int))×List ByteArray×(List (Int×Int×Bool×Int)))(q:Int)(sig:Int):FC Tryz.prog 95 [(true,[.dat (.sl 203 (.pr .str .int)) c.1, .dat (.sl 9 .str) c.2.1, .dat (.sl 136 (.pr .int (.pr .int (.pr .bool .int)))) c.2.2]),(false,[dI q]),(false,[dI sig])] [] 0 (QU (lB (Xa c q sig))):=by
 refine Qj Tryz.func95 rfl rfl Tryz.ntmps95 fun O_ hO w0_ N0_ X_ h0_ f0_=> ?_
 refine acI 1 fun hi1=> ?_
 refine acI 2 fun hi2=> ?_
 refine w_ ?_
 refine xbx 0 ?_
 refine xbx 1 ?_
 refine xbx 2 ?_
 iterate 5 refine w_ ?_
 refine lc (ZS ⟨_,_,rfl,(Qa rfl),rfl,⟨_,_,rfl,(Qa rfl),rfl,rfl⟩⟩ rfl) ?_
 refine lc (dP 3 [(0,1),(1,2)] (Ve c.2.2 q sig) Qfu) ?_
 iterate 2 refine w_ ?_
 refine Qb<|fqB hO ?_
 rfl
theorem QbL (c:(List (ByteArray×Int))×List ByteArray×(List (Int×Int×Bool×Int)))(sig:Int)(hs:sig < (c.1.length:Int)):FC Tryz.prog 199 [(true,[.dat (.sl 203 (.pr .str .int)) c.1, .dat (.sl 9 .str) c.2.1, .dat (.sl 136 (.pr .int (.pr .int (.pr .bool .int)))) c.2.2]),(false,[dI sig])] [] 0 (QU (lB (!WZ c sig))):=by
 refine Qj Tryz.func199 rfl rfl Tryz.ntmps199 fun O_ hO w0_ N0_ X_ h0_ f0_=> ?_
 refine acI 1 fun hi1=> ?_
 refine w_ ?_
 refine xbx 0 ?_
 iterate 6 refine w_ ?_
 cases hb2:(decide (sig < 0))
 ·have hb2':=ab hb2
  iterate 3 refine w_ ?_
  obtain ⟨x3,hx4⟩:∃z,c.1[(sig).toNat]? =some z:=⟨_,aa (by omega)⟩
  iterate 7 refine w_ ?_
  refine Qb<|fqB hO ?_
  (rw[← QdW (by omega) hx4]; done)
 ·have hb2':=ae hb2
  iterate 10 refine w_ ?_
  refine Qb<|fqB hO ?_
  (rw[← Qmm (by omega)]; rfl)
theorem Hp (c:(List (ByteArray×Int))×List ByteArray×(List (Int×Int×Bool×Int)))(hl:c.1.length≤100000):FC Tryz.prog 103 [(true,[.dat (.sl 203 (.pr .str .int)) c.1, .dat (.sl 9 .str) c.2.1, .dat (.sl 136 (.pr .int (.pr .int (.pr .bool .int)))) c.2.2])] [] 0 (Wv 3 .int (Yk c.1 c.1.length)):=by
 refine Qj Tryz.func103 rfl rfl Tryz.ntmps103 fun O_ hO w0_ N0_ X_ h0_ f0_=> ?_
 refine w_ ?_
 refine xbx 0 ?_
 iterate 9 refine w_ ?_
 refine alL 6 fun hl1=> ?_
 iterate 4 refine w_ ?_
 refine AC.wk (Wk.nilS 1 3 3 .int rfl (Fresh.of rfl) (nlr rfl)) ?_
 refine lp0 c.1.length (fun k=>⟨[(1,lP 0 0),(2,lf (.val (.slice none 0 0))),(3,lR 2),(7,lI (c.1.length:Int)),(8,lI (k:Int))],[bx 0 28 [.dat (.sl 203 (.pr .str .int)) c.1, .dat (.sl 9 .str) c.2.1, .dat (.sl 136 (.pr .int (.pr .int (.pr .bool .int)))) c.2.2],ar 2 3 .int (Yk c.1 k)]⟩) ?_ fun k hk2=> ?_
 · exact Wk.of [(2,1)] rfl ⟨rfl,rfl,rfl,rfl,rfl,trivial⟩ ⟨rfl,(Qk (rfl)),trivial⟩ rfl rfl
 have hol:=Qjk (ss:=c.1) (k:=k)
 iterate 4 refine w_ ?_
 cases hb3:(decide ((k:Int) < (c.1.length:Int)))
 ·have hb3':=ab hb3
  refine w_ ?_
  refine Qi ?_
  refine (?_:AC _ _ _ _ _)
  iterate 4 refine w_ ?_
  refine Qb<|fo_ hO ?_
  (congr 1; omega)
 ·have hb3':=ae hb3
  iterate 11 refine w_ ?_
  refine lc (dK (QbL c (k:Int) (by omega)) QgW) ?_
  refine w_ ?_
  cases hb4:(WZ c (k:Int))
  ·iterate 4 refine w_ ?_
   refine lc (dBs 3 (e:= .int) Xy) ?_
   refine lc (dA 4 Wo) ?_
   refine w_ ?_
   refine Qd ?_
   refine (?_:AC _ _ _ _ _)
   iterate 3 refine w_ ?_
   refine Qd ?_
   refine l0_ ?_
   exact Wk.of [(2,4)] rfl ⟨rfl,rfl,rfl,rfl,rfl,trivial⟩ ⟨rfl,(Qk (by first | exact QcD (by omega) (by assumption) | exact Qd6 (by omega) (by assumption))),trivial⟩ rfl rfl
  ·refine w_ ?_
   refine AC.skip ?_
   refine (?_:AC _ _ _ _ _)
   iterate 3 refine w_ ?_
   refine Qd ?_
   refine l0_ ?_
   exact Wk.of [] rfl ⟨rfl,rfl,rfl,rfl,rfl,trivial⟩ ⟨rfl,(Qk (by first | exact QcD (by omega) (by assumption) | exact Qd6 (by omega) (by assumption))),trivial⟩ rfl rfl
theorem QnQ {c:DSg}{sig:Int}{x:Qy}[Decidable (SgOk c)](h0:SgOk c)(h:0≤sig∧sig≤(c.1.length:Int) - 1)(hx:c.1[sig.toNat]? =some x):(!decide (x.2=1))=decide (SgOk c∧(0≤sig∧sig≤(c.1.length:Int) - 1)∧WZ c sig=false):=by
  rw[← QdW h.1 hx]; simp[h0,h]
theorem Qpp {c:DSg}{sig:Int}[Decidable (SgOk c)](h:¬(0≤sig∧sig≤(c.1.length:Int) - 1)):false=decide (SgOk c∧(0≤sig∧sig≤(c.1.length:Int) - 1)∧WZ c sig=false):=(az fun g=>h g.2.1).symm
theorem QpG {c:DSg}{sig:Int}[Decidable (SgOk c)](h:¬SgOk c):false=decide (SgOk c∧(0≤sig∧sig≤(c.1.length:Int) - 1)∧WZ c sig=false):=(az fun g=>h g.1).symm
theorem JC (c:(List (ByteArray×Int))×List ByteArray×(List (Int×Int×Bool×Int)))(sig:Int)[∀c,Decidable (SgOk c)]:FC Tryz.prog 176 [(true,[.dat (.sl 203 (.pr .str .int)) c.1, .dat (.sl 9 .str) c.2.1, .dat (.sl 136 (.pr .int (.pr .int (.pr .bool .int)))) c.2.2]),(false,[dI sig])] [] 0 (QU (lB (decide (SgOk c∧(0≤sig∧sig≤(c.1.length:Int) - 1)∧WZ c sig=false)))):=by
 refine Qj Tryz.func176 rfl rfl Tryz.ntmps176 fun O_ hO w0_ N0_ X_ h0_ f0_=> ?_
 refine acI 1 fun hi1=> ?_
 refine w_ ?_
 refine xbx 0 ?_
 iterate 4 refine w_ ?_
 refine lc (dK (VY c) QcC) ?_
 refine w_ ?_
 cases hb2:(decide (SgOk c))
 ·have hb2':=ab hb2
  iterate 18 refine w_ ?_
  refine Qb<|fqB hO ?_
  exact QpG (by assumption)
 ·have hb2':=ae hb2
  iterate 3 refine w_ ?_
  refine alL 10 fun hl3=> ?_
  iterate 2 refine w_ ?_
  refine lgy rfl rfl (dK (Z7 sig 0 ((c.1.length:Int) - 1)) Yw) ?_
  iterate 2 refine w_ ?_
  cases hb4:(decide (0≤sig∧sig≤((c.1.length:Int) - 1)))
  ·have hb4':=ab hb4
   iterate 10 refine w_ ?_
   refine Qb<|fqB hO ?_
   exact Qpp (by assumption)
  ·have hb4':=ae hb4
   iterate 3 refine w_ ?_
   obtain ⟨x5,hx6⟩:∃z,c.1[(sig).toNat]? =some z:=⟨_,aa (by omega)⟩
   iterate 7 refine w_ ?_
   refine Qb<|fqB hO ?_
   exact QnQ (by assumption) (by assumption) hx6
end Go.Proofs.YtfkmmpfdncopdaaGreat
namespace Go.Proofs.YtfkmmpfdncopdaaGreat
open Go.RowKit
set_option maxRecDepth 100000
set_option maxHeartbeats 4000000
def frL (as_:List DAr)(l:Int×Bool):List Int:=(as_.filter fun a=>decide (a.2.1=l.1∧a.2.2.1=l.2)).map fun a=>a.1
def xS (as_:List DAr)(l:Int×Bool):List Int:=ofG ltI (frL as_ l)
def edA (S:List Int)(a:DAr):List DAr:=[((a.1, -1,false,a.2.2.2):DAr),(a.2.2.2, -1,false,a.1)].filter fun e=>decide (e.2.2.2∈S)
def edL (as_:List DAr)(S:List Int):List DAr:=as_.flatMap (edA S)
abbrev Cn (as_:List DAr)(S:List Int)(x v:Int):Prop:=Ch (edL as_ S) (-1) (fun u=>u=x) v
noncomputable def cnB (as_:List DAr) (S:List Int) (x v:Int):Bool:= @decide (Cn as_ S x v) (Classical.propDecidable _)
noncomputable def cls (as_:List DAr) (S:List Int) (x:Int):List Int:=S.filter (cnB as_ S x)
noncomputable def repB (as_:List DAr) (S:List Int) (x:Int):Bool:=S.all fun v=> !cnB as_ S x v||decide (x≤v)
noncomputable def regV (as_:List DAr) (S:List Int):List (List Int):=(S.filter (repB as_ S)).map (cls as_ S)
noncomputable def compL (as_:List DAr) (S:List Int):Nat→List Int→List (List Int)
  | 0,_=>[]
  | _+1,[]=>[]
  | f+1,x :: xs=>cls as_ S x :: compL as_ S f ((x :: xs).filter fun k=> !decide (k∈cls as_ S x))
def pE (S:List Int)(u:Int)(out:List Int)(e:Int×Int):List Int:=if e.1=u∧e.2∈S∧¬e.2∈out then out++[e.2] else out
abbrev edP (a:DAr):List (Int×Int):=[(a.1,a.2.2.2),(a.2.2.2,a.1)]
def pA (S:List Int)(u:Int)(out:List Int)(a:DAr):List Int:=(edP a).foldl (pE S u) out
section
variable {as_:List DAr}{a:DAr}{S T_ part left out:List Int}{x y u v w z:Int}{k i j n f:Nat}{l:Int×Bool}{e:Int×Int}
theorem Qnu {b:DAr}:b∈edL as_ S↔b.2.2.2∈S∧b.2.1= -1∧b.2.2.1=false∧∃a∈as_,(b.1=a.1∧b.2.2.2=a.2.2.2)∨(b.1=a.2.2.2∧b.2.2.2=a.1):=by
  unfold edL edA
  rw[List.mem_flatMap]
  constructor
  · rintro ⟨a, ha, hb⟩
    rw[cj,aC,aC] at hb
    obtain ⟨hb,hS⟩:=hb
    have hS:=ae hS
    rcases hb with rfl | rfl | hb
    · exact ⟨hS,rfl,rfl,a,ha, .inl ⟨rfl,rfl⟩⟩
    · exact ⟨hS,rfl,rfl,a,ha, .inr ⟨rfl,rfl⟩⟩
    · cases hb
  · rintro ⟨h1, h2, h3, a, ha, h⟩
    obtain ⟨b1,b2,b3,b4⟩:=b
    simp only at h1 h2 h3 h
    subst h2; subst h3
    refine ⟨a,ha,cj.2 ⟨?_,aJ h1⟩⟩
    rcases h with ⟨rfl,rfl⟩ | ⟨rfl,rfl⟩
    · exact ay ..
    · exact ax _ (ay ..)
theorem Qed (h:Cn as_ S x v)(k:Cn as_ S v w):Cn as_ S x w:=Ch.mono (fun u hu=>by rw[hu]; exact h) k
theorem Qhz (hu:u∈S)(hv:v∈S)(ha:a∈as_)(h:(u=a.1∧v=a.2.2.2)∨(u=a.2.2.2∧v=a.1)):Cn as_ S u v:=
  Ch.step (a:=((u, -1,false,v):DAr)) (.base rfl) (Qnu.2 ⟨hv,rfl,rfl,a,ha,h⟩) rfl
end
end Go.Proofs.YtfkmmpfdncopdaaGreat
namespace Go.Proofs.YtfkmmpfdncopdaaGreat
open Go.RowKit
set_option maxRecDepth 100000
set_option maxHeartbeats 4000000
def lpS (S p:List Int)(a:DAr):List Int:=if a.1∈S∧a.2.2.2∈S then (p.set a.1.toNat (min (mAt p a.1) (mAt p a.2.2.2))).set a.2.2.2.toNat (min (mAt p a.1) (mAt p a.2.2.2)) else p
def lpR (as_:List DAr)(S p:List Int):List Int:=as_.foldl (lpS S) p
def lpZ (n:Nat):List Int:=(List.range n).map fun k:Nat=>(k:Int)
noncomputable def rm (as_:List DAr) (S:List Int) (k:Int):Int:=(S.find? (cnB as_ S k)).getD k
def spF (S p:List Int)(k:Int)(i:Nat):Option Int:=if (i:Int)∈S∧mAt p (i:Int)=k then some (i:Int) else none
def lbG (S p:List Int)(n:Nat)(k:Nat):Option (List Int):=if 0 < ((rg (spF S p (k:Int)) n).length:Int) then some (rg (spF S p (k:Int)) n) else none
section
variable {as_ bs:List DAr}{a:DAr}{S p q:List Int}{x y u v w z:Int}{k i j n:Nat}{P:Nat→Prop}[DecidablePred P]
structure LpI (as_:List DAr) (S:List Int) (n:Nat) (p:List Int):Prop where
  len:p.length=n
  ch:∀u∈S,Cn as_ S u (mAt p u)
  le:∀u∈S,mAt p u≤u
abbrev InN (S:List Int)(n:Nat):Prop:=∀u∈S,0≤u∧u < (n:Int)
theorem QhA (hl:p.length=n)(hu:0≤u∧u < (n:Int))(hv:0≤v):mAt (p.set u.toNat x) v=if v=u then x else mAt p v:=by
  unfold mAt
  rw[br]
  by_cases h:v=u
  · subst h; rw[if_pos rfl,if_pos rfl,if_pos (by omega)]; rfl
  · rw[if_neg (by omega),if_neg h]
theorem Qkq (hn:InN S n)(hl:p.length=n)(h1:a.1∈S)(h2:a.2.2.2∈S)(hv:0≤v):mAt (lpS S p a) v=if v=a.1∨v=a.2.2.2 then min (mAt p a.1) (mAt p a.2.2.2) else mAt p v:=by
  unfold lpS
  rw[if_pos ⟨h1,h2⟩,QhA (by rw[aA]; exact hl) (hn _ h2) hv,QhA hl (hn _ h1) hv]
  by_cases e1:v=a.2.2.2
  · rw[if_pos e1,if_pos (.inr e1)]
  · rw [if_neg e1]
    by_cases e2:v=a.1
    · rw[if_pos e2,if_pos (.inl e2)]
    · rw[if_neg e2,if_neg (fun h=>h.elim e2 e1)]
theorem QoU (h:¬(a.1∈S∧a.2.2.2∈S)):lpS S p a=p:=if_neg h
theorem LpI.step (hn:InN S n)(h:LpI as_ S n p)(ha:a∈as_):LpI as_ S n (lpS S p a):=by
  by_cases hs:a.1∈S∧a.2.2.2∈S
  · refine ⟨by unfold lpS; rw [if_pos hs]; simp [h.len], fun u hu => ?_, fun u hu => ?_⟩
    · rw [Qkq hn h.len hs.1 hs.2 (hn u hu).1]
      split
      · rename_i e
        have e12:=Qhz (as_:=as_) hs.1 hs.2 ha (.inl ⟨rfl,rfl⟩)
        have e21:=Qhz (as_:=as_) hs.2 hs.1 ha (.inr ⟨rfl,rfl⟩)
        have c1:=h.ch _ hs.1
        have c2:=h.ch _ hs.2
        rw[Int.min_def]
        split
        · rcases e with rfl | rfl
          · exact c1
          · exact Qed e21 c1
        · rcases e with rfl | rfl
          · exact Qed e12 c2
          · exact c2
      · exact h.ch u hu
    · rw [Qkq hn h.len hs.1 hs.2 (hn u hu).1]
      split
      · rename_i e
        have:=h.le _ hs.1
        have:=h.le _ hs.2
        rcases e with rfl | rfl <;> omega
      · exact h.le u hu
  · rw[QoU hs]; exact h
abbrev QrP (as_:List DAr)(S p:List Int)(u:Int):Prop:=mAt p u=rm as_ S u
noncomputable def finB (as_:List DAr) (S p:List Int) (u:Int):Bool:=decide (mAt p u=rm as_ S u)
end
end Go.Proofs.YtfkmmpfdncopdaaGreat
namespace Go.Proofs.YtfkmmpfdncopdaaGreat
open Go.RowKit
set_option maxRecDepth 100000
set_option maxHeartbeats 4000000
def ini {α:Type}(f:Nat→α)(z:α)(n k:Nat):List α:=(List.range k).map f++List.replicate (n - k) z
section
variable {α:Type}{f:Nat→α}{z x:α}{n k:Nat}
end
def QrA (c:DSg)(l:Int×Bool):List Bool:=(List.range c.2.1.length).map fun k:Nat=>decide ((k:Int)∈xS c.2.2 l)
section
variable {c:DSg}{l:Int×Bool}{k i j n:Nat}{sig q x y:Int}{up b b1 b2:Bool}{code:ByteArray}{a:DAr}{p:List Int}
theorem rgN {β:Type}{f:Nat→Option β}{y:β}(h:f k=some y):rg f k++[y]=rg f (k+1):=by have:=Qoy (B:=[]) h; simpa using this
end
end Go.Proofs.YtfkmmpfdncopdaaGreat
namespace Go.Proofs.YtfkmmpfdncopdaaGreat
open Go.RowKit
set_option maxRecDepth 100000
set_option maxHeartbeats 4000000
def adQ (c:DSg)(s:Int)(out:List Int)(k:Int):List Int:=if Xa c k s=false∧¬k∈out then out++[k] else out
def qJ (c:DSg)(l:Int×Bool)(R out:List Int)(a:DAr):List Int:=if a.2.1=l.1∧a.2.2.1=l.2∧a.1∈R then adQ c l.1 out a.2.2.2 else out
def qU (c:DSg)(s u:Int)(out:List Int)(a:DAr):List Int:=if a.1=u then adQ c s out a.2.2.2 else out
def qE (c:DSg)(s:Int):List DAr:=(c.2.2.filter fun a=> !Xa c a.2.2.2 s).map fun a=>(a.1, -1,false,a.2.2.2)
def qQ (c:DSg)(s:Int)(R:List Int)(v:Int):Prop:=∃a∈c.2.2,a.2.1=s∧a.1∈R∧Xa c a.2.2.2 s=false∧a.2.2.2=v
abbrev QC (c:DSg)(s:Int)(R:List Int)(v:Int):Prop:=Ch (qE c s) (-1) (qQ c s R) v
noncomputable def qV (c:DSg) (s:Int) (R:List Int):List Int:=((List.range c.2.1.length).map fun k:Nat=>(k:Int)).filter fun v=> @decide (QC c s R v) (Classical.propDecidable _)
def chi (n:Nat)(S:List Int):List Bool:=(List.range n).map fun k:Nat=>decide ((k:Int)∈S)
def qZ (c:DSg)(s:Int)(R S:List Int)(a:DAr):List Int:=if a.1∈R∧a.2.1=s∧Xa c a.2.2.2 s=false then Q2 ltI a.2.2.2 S else S
def qT (c:DSg)(s:Int)(S:List Int)(a:DAr):List Int:=if a.1∈S∧Xa c a.2.2.2 s=false then Q2 ltI a.2.2.2 S else S
def qR (c:DSg)(s:Int)(S:List Int):List Int:=c.2.2.foldl (qT c s) S
def chF (S:List Int)(k:Nat):Option Int:=if (k:Int)∈S then some (k:Int) else none
section
variable {c:DSg}{as_:List DAr}{a b:DAr}{l:Int×Bool}{R S out:List Int}{s u v q x:Int}{k i j n m:Nat}{B:Bool}
end
end Go.Proofs.YtfkmmpfdncopdaaGreat
namespace Go.Proofs.YtfkmmpfdncopdaaGreat
open Go.RowKit
set_option maxRecDepth 100000
set_option maxHeartbeats 4000000
theorem Qn3 {l:List Int}{k:Nat}{x n:Int}(h:l[k]? =some x)(e:x=n):n∈l:=e▸ao h
theorem Qn1 {l:List Int}{k:Nat}{n:Int}(h:NoneTo (fun y=>decide (y=n)) l k)(hk:l.length≤k):¬n∈l:=fun g=>by
  obtain ⟨j,hj⟩:=aM.1 g
  have:=h j (be (aj.1 hj).1 hk) n hj
  simp at this
theorem Qeo (code:List UInt8)(more:List UInt8):FC Tryz.prog 7 [(false,[.dat (.sl 5 .u8) code]),(false,[.dat (.sl 5 .u8) more])] [] 0 (QU (lB (decide ((1048576:Int) < (code.length:Int)+(more.length:Int))))):=by
 refine Qj Tryz.func7 rfl rfl Tryz.ntmps7 fun O_ hO w0_ N0_ X_ h0_ f0_=> ?_
 iterate 5 refine w_ ?_
 refine alL 5 fun hl1=> ?_
 iterate 3 refine w_ ?_
 cases hb2:(decide (1048576 < (code.length:Int)))
 ·have hb2':=ab hb2
  refine w_ ?_
  refine alL 9 fun hl3=> ?_
  iterate 2 refine w_ ?_
  refine alL 11 fun hl4=> ?_
  iterate 6 refine w_ ?_
  refine Qb<|fqB hO ?_
  exact bQ.2 (by omega)
 ·have hb2':=ae hb2
  iterate 9 refine w_ ?_
  refine Qb<|fqB hO ?_
  exact (aJ (by omega)).symm
theorem W6 (a:List Int)(b:List Int)(h:a=b):FC Tryz.prog 16 [(false,[.dat (.sl 3 .int) a]),(false,[.dat (.sl 3 .int) b])] [] 0 (QU (lB true)):=by
 have hlx:a.length=b.length:=by rw[h]
 refine Qj Tryz.func16 rfl rfl Tryz.ntmps16 fun O_ hO w0_ N0_ X_ h0_ f0_=> ?_
 iterate 6 refine w_ ?_
 refine alL 6 fun hl1=> ?_
 iterate 2 refine w_ ?_
 refine alL 8 fun hl2=> ?_
 iterate 3 refine w_ ?_
 refine cn_ (fun hb3 hb3'=> ?_) fun hb3 hb3'=> ?_
 ·iterate 4 refine w_ ?_
  refine alL 11 fun hl4=> ?_
  iterate 4 refine w_ ?_
  refine lp0 a.length (fun k=>⟨[(0,lf (.dat (.sl 3 .int) a)),(1,lf (.dat (.sl 3 .int) b)),(12,lI (a.length:Int)),(13,lI (k:Int))],[]⟩) ?_ fun k hk5=> ?_
  · exact Wk.of [] rfl ⟨rfl,rfl,rfl,rfl,trivial⟩ trivial rfl rfl
  iterate 4 refine w_ ?_
  cases hb6:(decide ((k:Int) < (a.length:Int)))
  ·have hb6':=ab hb6
   refine w_ ?_
   refine Qi ?_
   refine (?_:AC _ _ _ _ _)
   iterate 3 refine w_ ?_
   refine Qb ?_
   exact fe_ hO
  ·have hb6':=ae hb6
   iterate 8 refine w_ ?_
   obtain ⟨x7,hx8⟩:∃z,a[k]? =some z:=⟨_,aa (by omega)⟩
   obtain ⟨x9,hx10⟩:∃z,b[k]? =some z:=⟨_,aa (by omega)⟩
   apply dW (i9 16 _ _ _ _ _ _ _ _ _ []) [0,1,0,0,15,31,15,15,0]
   iterate 9 refine z_ ?_
   exact zN
   cases hb11:(!decide (x7=x9))
   ·have hb11':(x7=x9):=Qz hb11
    refine w_ ?_
    refine AC.skip ?_
    refine (?_:AC _ _ _ _ _)
    iterate 3 refine w_ ?_
    refine Qd ?_
    refine l0_ ?_
    exact Wk.of [] rfl ⟨rfl,rfl,rfl,rfl,trivial⟩ trivial rfl rfl
   ·have hb11':¬(x7=x9):=QN hb11
    iterate 4 refine w_ ?_
    refine Qb<|fqB hO ?_
    (subst h; exfalso; simp_all; done)
 ·iterate 3 refine w_ ?_
  refine Qb<|fqB hO ?_
  (subst h; exfalso; simp_all; done)
theorem Wz (l:List Int)(n:Int):FC Tryz.prog 19 [(false,[.dat (.sl 3 .int) l]),(false,[dI n])] [] 0 (QU (lB (decide (n∈l)))):=by
 refine Qj Tryz.func19 rfl rfl Tryz.ntmps19 fun O_ hO w0_ N0_ X_ h0_ f0_=> ?_
 refine acI 1 fun hi1=> ?_
 iterate 6 refine w_ ?_
 refine alL 7 fun hl2=> ?_
 iterate 4 refine w_ ?_
 refine lpK l.length (fun k=>NoneTo (fun y=>decide (y=n)) l k) (fun k=>⟨[(1,lI n),(7,lf (.dat (.sl 3 .int) l)),(8,lI (l.length:Int)),(9,lI (k:Int))],[]⟩) (NoneTo.zero) ?_ fun k hk3 hno=> ?_
 · exact Wk.of [] rfl ⟨rfl,rfl,rfl,rfl,trivial⟩ trivial rfl rfl
 iterate 4 refine w_ ?_
 cases hb4:(decide ((k:Int) < (l.length:Int)))
 ·have hb4':=ab hb4
  refine w_ ?_
  refine Qi ?_
  refine (?_:AC _ _ _ _ _)
  iterate 3 refine w_ ?_
  refine Qb<|fqB hO ?_
  first | exact (az (Qn1 hno (by omega))).symm
 ·have hb4':=ae hb4
  iterate 5 refine w_ ?_
  obtain ⟨x5,hx6⟩:∃z,l[k]? =some z:=⟨_,aa (by omega)⟩
  iterate 2 refine w_ ?_
  refine alI 12 fun hi7=> ?_
  iterate 7 refine w_ ?_
  cases hb8:(decide (x5=n))
  ·have hb8':=ab hb8
   refine w_ ?_
   refine AC.skip ?_
   refine (?_:AC _ _ _ _ _)
   iterate 3 refine w_ ?_
   refine Qd ?_
   refine lK_ (hno.step hx6 (az (by assumption))) ?_
   exact Wk.of [] rfl ⟨rfl,rfl,rfl,rfl,trivial⟩ trivial rfl rfl
  ·have hb8':=ae hb8
   iterate 4 refine w_ ?_
   refine Qb<|fqB hO ?_
   exact (aJ (Qn3 hx6 (by assumption))).symm
end Go.Proofs.YtfkmmpfdncopdaaGreat
namespace Go.Proofs.YtfkmmpfdncopdaaGreat
open Go.RowKit
set_option maxHeartbeats 2000000
set_option maxRecDepth 100000
theorem Qb6 {A:Amb}{P:Program}{s:St}{x y:Operand}{d:Nat}{T T' ty:TypeId}{pos:String}{af:Array Edge}{g:Option (Nat×Bool)}{m n:ByteArray}(hx:Evl A s x (dS m))(hy:Evl A s y (dS n))(hn:Nat.blt d A.n=true):Does A P ⟨some d, .binOp .geq T x y T',ty,pos,af,g⟩ s (s.put d (lf (dB (!Op.bytesLess m.toList n.toList)))):=
  Qe rfl hn fun gh a w r=>⟨.bool (!Op.bytesLess m.toList n.toList),by
    have h1:=hx.st r
    have h2:=hy.st r
    simp only[execOp,h1,h2,eqGuard_at_string,binOp,Op.stringOp]
    simp[Jq],_,rfl,ZJ⟩
def ibV (s:ByteArray)(c:UInt8):Int:=Lib.indexByte s.data.toList c
theorem Qh8 {s:ByteArray}{c:UInt8}: -1≤ibV s c∧ibV s c≤(s.size:Int):=by
  have h:=Lib.indexByte_ge s.data.toList c
  refine ⟨h, ?_⟩
  unfold ibV
  by_cases h0:Lib.indexByte s.data.toList c < 0
  · omega
  · obtain ⟨o, ho⟩ : ∃ o : Nat, Lib.indexByte s.data.toList c = o := ⟨(Lib.indexByte s.data.toList c).toNat, by omega⟩
    have h1:=(aj.1 (Lib.indexByte_some ho).1).1
    have:s.data.toList.length=s.size:=by simp
    omega
theorem Qhj {s:ByteArray}{c:UInt8}:0≤ibV s c↔c∈s.toList:=by
  rw[aZ]
  unfold ibV
  constructor
  · intro h0
    obtain ⟨o,ho⟩:∃o:Nat,Lib.indexByte s.data.toList c=o:=⟨(Lib.indexByte s.data.toList c).toNat,by omega⟩
    exact ao (Lib.indexByte_some ho).1
  · intro h
    have h1:=Lib.indexByte_ge s.data.toList c
    by_cases h2:Lib.indexByte s.data.toList c= -1
    · obtain ⟨k, hk⟩ := aM.1 h
      exact absurd hk (Lib.indexByte_none h2 k)
    · omega
theorem QoM (s:ByteArray)(c:UInt8)(w:World):Calls Tryz.prog 355 #[.string s, .int .u8 c.toNat] w fun e w'=>e= .returned (.int .i64 (ibV s c))∧w'=w:=by
  go_enter Tryz.func355,Tryz.ntmps355
  go_wp2
  rw[run_callFunc_extern Tryz.func379 (by kernel_rfl) (by kernel_rfl) (by kernel_rfl) (e:=Extern.BytealgIndexByte.indexByte) (by kernel_rfl),Lib.run_indexByteString]
  simp only[Result.andThen]
  rw[Oper.upon_value]
  go_wp2
  go_ret
  exact ⟨by simp[ibV],rfl⟩
theorem Qp3 (s:ByteArray)(c:UInt8):FC Tryz.prog 355 [(false,[.dat .str s]),(false,[.dat .u8 c])] [] 0 (QU (lf (dI (ibV s c)))):=QkO fun gh w vs ha=>by
  obtain ⟨v,vs,rfl,hi,ha⟩:=ha.leaf_cons
  obtain ⟨v2,vs,rfl,hi2,ha⟩:=ha.leaf_cons
  obtain rfl:=ha.nil_
  obtain ⟨rfl,hs⟩:=Rep.str_ hi
  have hi2:[v2]=[.int .u8 c.toNat]:=hi2
  obtain rfl:v2= .int .u8 c.toNat:=by simpa using hi2
  have hm:maxLen≤9223372036854775807:=by decide
  refine Calls.mono (QoM s c w) fun e w' he=> ?_
  obtain ⟨rfl,rfl⟩:=he
  have h:=Qh8 (s:=s) (c:=c)
  exact ⟨_,rfl,QL _,_,rfl,Ye (by omega)⟩
end Go.Proofs.YtfkmmpfdncopdaaGreat
