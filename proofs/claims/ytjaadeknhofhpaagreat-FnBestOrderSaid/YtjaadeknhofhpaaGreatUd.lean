/- Walks over abstract states: tidied lists of numbers; labels; which signals are no inputs; the name of the next state signal. -/
import Derived.Test.YtjaadeknhofhpaaGreatBc
set_option linter.unusedSimpArgs false
set_option linter.unusedVariables false
set_option linter.unusedSectionVars false
namespace Go.Proofs.YtjaadeknhofhpaaGreat
open Go.RowKit
set_option maxRecDepth 100000
set_option maxHeartbeats 4000000
def swL (as_:List DAr)(l:Int×Bool):List Int:=(as_.filter fun a=>decide (a.2.1=l.1∧a.2.2.1=l.2)).map fun a=>a.2.2.2
def Qtt (c:DSg)(sig:Int):Bool:=decide (0≤sig)&&decide (((c.1[sig.toNat]?).getD (ByteArray.empty,0)).2=1)
def Xd (l:List Q9)(k:Nat):List Int:=((List.range k).filter fun i=> !decide (((l[i]?).getD (ByteArray.empty,0)).2=1)).map fun i=>((i:Nat):Int)
def QtG (c:DSg):ByteArray:=if ZN (fun x:Q9=>decide (x.1=(⟨#[122,48]⟩:ByteArray))) c.1 < 0 then ⟨#[122,48]⟩ else if ZN (fun x:Q9=>decide (x.1=(⟨#[122,49]⟩:ByteArray))) c.1 < 0 then ⟨#[122,49]⟩ else ⟨#[122,50]⟩
section
variable {c:DSg}{l:List Int}{as_:List DAr}{a:DAr}{p:Int×Bool}{k:Nat}{n m y sig:Int}{x:Q9}{ss:List Q9}
theorem Hy (hx:ss[k]? =some x)(h:¬x.2=1):Xd ss k++[(k:Int)]=Xd ss (k+1):=by
  unfold Xd
  rw[cd,bc,bA]; simp[hx,h]
theorem QeE (hx:ss[k]? =some x)(h:x.2=1):Xd ss k=Xd ss (k+1):=by
  unfold Xd
  rw[cd,bc,bA]; simp[hx,h]
theorem Qgp:(Xd ss k).length≤k:=by unfold Xd; rw[av]; exact b5 (bQ ..) (by simp)
theorem Ho:y∈Xd ss k↔∃i:Nat,y=(i:Int)∧i < k∧¬((ss[i]?).getD (ByteArray.empty,0)).2=1:=by
  unfold Xd
  simp only[bM,bX,cj,bS,decide_eq_false_iff_not]
  constructor
  · rintro ⟨i,⟨h1,h2⟩,rfl⟩; exact ⟨i,rfl,h1,h2⟩
  · rintro ⟨i,rfl,h1,h2⟩; exact ⟨i,⟨h1,h2⟩,rfl⟩
theorem QrB (hP:∀j:Nat,(j:Int) < m→∀y,l[j]? =some y→y < n)(h:l[m.toNat]? =some n):l=Y1 ltI n l:=
  (Qcq (k:=m.toNat) (fun j hj y hy=>by have:=hP j (by omega) y hy; simp[ltI,this]) h (by simp[ltI])).symm
theorem QrO (hP:∀j:Nat,(j:Int) < m→∀y,l[j]? =some y→y < n)(h0:0≤m)(h1:m≤(l.length:Int))(h:∀y,l[m.toNat]? =some y→¬y < n∧y≠n):l.take m.toNat++n :: l.drop m.toNat=Y1 ltI n l:=
  (QgY (k:=m.toNat) (fun j hj y hy=>by have:=hP j (by omega) y hy; simp[ltI,this]) (by omega) fun y hy=>by have:=h y hy; simp[ltI,this]).symm
theorem QlA (hP:∀j:Nat,(j:Int) < m→∀y,l[j]? =some y→y < n)(h0:0≤m)(h1:m≤(l.length:Int))(h:∀y,l[m.toNat]? =some y→¬y < n∧y≠n):
    (([]++(l.take (0+m.toNat)).drop 0)++[n])++(l.take (m.toNat+(l.length - m.toNat))).drop m.toNat=Y1 ltI n l:=by
  rw[← QrO hP h0 h1 h,show m.toNat+(l.length - m.toNat)=l.length by omega,br]
  simp
abbrev QtA:List ByteArray:=[(⟨#[122,48]⟩:ByteArray),(⟨#[122,49]⟩:ByteArray)]
end
theorem Qfp (l:List Int)(n:Int):FC Tryz.prog 281 [(false,[.dat Qs l]),(false,[dI n])] [] 0 (Yj (lB (decide (n∈l)))):=by
 refine QO Tryz.func281 rfl rfl Tryz.ntmps281 fun O_ hO w0_ N0_ X_ h0_ f0_=> ?_
 refine AC.fact (QC (x:= .tmp 1) (Qa rfl)) fun hi1=> ?_
 iterate 6 refine w_ ?_
 refine AL.fact (Qo (x:= .tmp 7) (Qa rfl)) fun hl2=> ?_
 iterate 4 refine w_ ?_
 refine Qu (fun m_ s_=>∃(k:Nat),k≤l.length∧m_=l.length - k∧(∀j,j < k→∀y,l[j]? =some y→¬y=n)∧s_=⟨[(1,lI n),(7,lf (.dat Qs l)),(8,lI (l.length:Int)),(9,lI (k:Int))],[]⟩) ⟨0,aw _,rfl,(fun j hj=>absurd hj (bK j)),rfl⟩ ?_ ?_
 exact wo []
 rintro m_ s_ ⟨k,hk3,hm4,hno,rfl⟩
 iterate 4 refine w_ ?_
 cases hb5:(decide ((k:Int) < (l.length:Int)))
 have hb5':=a7 hb5
 iterate 7 refine w_ ?_
 subst hO
 have e6:(false:Bool)=(decide (n∈l)):=by
  first | exact (aP fun hm=>by obtain ⟨j,hj⟩:=aS.1 hm; exact hno j (by have:=(au.1 hj).1; omega) n hj rfl).symm
 exact Qi (Qg rfl (Qd rfl)) (by rw[← e6] <;> rfl) rfl
 have hb5':=a8 hb5
 iterate 5 refine w_ ?_
 obtain ⟨x7,hx8⟩:=gx l k
 refine lc (Qh (Qa rfl) (Qa rfl) QN QL rfl (by omega) hx8) ?_
 refine w_ ?_
 refine AL.fact (QC (x:= .tmp 12) (Qa rfl)) fun hi9=> ?_
 iterate 7 refine w_ ?_
 cases hb10:(decide (x7=n))
 have hb10':=a7 hb10
 iterate 6 refine w_ ?_
 refine Qm<|QV ⟨k+1,by omega,rfl,(Hj hno hx8 ‹_›),rfl⟩ (by omega) ?_
 exact wo []
 have hb10':=a8 hb10
 iterate 5 refine w_ ?_
 subst hO
 have e11:(true:Bool)=(decide (n∈l)):=by
  exact (aK (by have:=ai hx8; simp_all)).symm
 exact Qi (Qg rfl (Qd rfl)) (by rw[← e11] <;> rfl) rfl
theorem Qai (l:List Int)(n:Int)(hl:l.length≤1000000):FC Tryz.prog 287 [(false,[.ref 0]),(false,[dI n])] [(0,some (.arr 3 .int l))] 0 (Uz 3 .int (Y1 ltI n l)):=by
 refine QO Tryz.func287 rfl rfl Tryz.ntmps287 fun O_ hO w0_ N0_ X_ h0_ f0_=> ?_
 refine AC.fact (QC (x:= .tmp 1) (Qa rfl)) fun hi1=> ?_
 iterate 8 refine w_ ?_
 refine Qu (fun m_ s_=>∃(m:Int),m_=((l.length:Int) - m).toNat∧(0≤m∧m≤(l.length:Int))∧(∀j:Nat,(j:Int) < m→∀y,l[j]? =some y→y < n)∧s_=⟨[(0,lR 0),(1,lI n),(4,lf (.val (.slice none 0 0))),(5,lI m)],[(0,some (.arr 3 .int l))]⟩) ⟨0,rfl,(by omega),(fun j hj=>by omega),rfl⟩ ?_ ?_
 exact wo [(0,0)]
 rintro m_ s_ ⟨m,hm3,hm,hP,rfl⟩
 iterate 7 refine w_ ?_
 cases hb4:(decide (m < (l.length:Int)))
 have hb4':=a7 hb4
 iterate 18 refine w_ ?_
 have hb5:(decide (m < (l.length:Int)))=false:=hb4
 try rw[hb5]
 iterate 11 refine w_ ?_
 refine lc (Qf 1 (e:= .int) QN QL Yu rfl rfl (ae.1 rfl) ⟨rfl,rfl⟩ (by decide) rfl rfl (Fresh.of rfl) (nlr rfl)) ?_
 iterate 2 refine w_ ?_
 refine lc (Z8 (e:= .int) (a:=0) (b:=(m).toNat) (l:=none) (h:=(some m)) (Qa rfl) rfl (by exact trivial) (by exact (Qa rfl)) QN QL rfl (by first | (simp only[ao,ak]; omega) | omega | (simp only[ao,ak,aa,ab,az]; omega)) (by first | (simp only[ao,ak]; omega) | omega | (simp only[ao,ak,aa,ab,az]; omega)) (by first | (simp only[ao,ak]; omega) | omega | (simp only[ao,ak,aa,ab,az]; omega)) (by first | rfl | simp) (by first | rfl | simp))<|lc (Zp 2 (Qa rfl) rfl (XM (e:= .int) (Qa rfl) rfl (by omega)) rfl QN Wd (by first | omega | (simp only[aa,av,ab,ah,aj]; omega) | (simp only[aa,ay,ab,ah,aj]; omega)) rfl (Fresh.of rfl) (nlr rfl)) ?_
 iterate 5 refine w_ ?_
 refine lc (Qf 3 (e:= .int) QN QL Yu rfl ⟨_,_,rfl,(Qb rfl),rfl⟩ (ae.1 rfl) ⟨_,_,_,_,rfl,⟨rfl,rfl⟩,⟨rfl,rfl⟩,rfl⟩ (by decide) rfl rfl (Fresh.of rfl) (nlr rfl))<|lc (QH 4 (Qa rfl) rfl (Qa rfl) rfl rfl QN Wd (by first | omega | (simp only[aa,av,ab,ah,aj]; omega) | (simp only[aa,ay,ab,ah,aj]; omega)) rfl (Fresh.of rfl) (nlr rfl)) ?_
 iterate 6 refine w_ ?_
 refine lc (Z8 (e:= .int) (a:=(m).toNat) (b:=l.length - (m).toNat) (l:=(some m)) (h:=none) (Qa rfl) rfl (by exact (Qa rfl)) (by exact trivial) QN QL rfl (by first | (simp only[ao,ak]; omega) | omega | (simp only[ao,ak,aa,ab,az]; omega)) (by first | (simp only[ao,ak]; omega) | omega | (simp only[ao,ak,aa,ab,az]; omega)) (by first | (simp only[ao,ak]; omega) | omega | (simp only[ao,ak,aa,ab,az]; omega)) (by first | rfl | simp) (by first | rfl | simp))<|lc (Zp 5 (Qa rfl) rfl (XM (e:= .int) (Qa rfl) rfl (by omega)) rfl QN Wd (by first | omega | (simp only[aa,av,ab,ah,aj]; omega) | (simp only[aa,ay,ab,ah,aj]; omega)) rfl (Fresh.of rfl) (nlr rfl)) ?_
 iterate 3 refine w_ ?_
 subst hO
 refine Z3 (e:= .int) (xs:=(((([])++((l.take (0+((m).toNat))).drop 0))++([n]))++((l.take (((m).toNat)+(l.length - (m).toNat))).drop ((m).toNat)))) (Qg rfl (Qd rfl)) rfl ?_
 exact QlA hP (by omega) (by omega) (fun z hz=>by simp_all)
 have hb4':=a8 hb4
 iterate 2 refine w_ ?_
 refine lgy rfl rfl (Qw (e:= .int) (Qa rfl) rfl (Qa rfl) QN QL rfl (by omega) (by first | omega | (simp only[aq]; omega))) ?_
 obtain ⟨y,hx7⟩:=gx l ((m).toNat)
 refine lgy rfl rfl (QP (e:= .int) (Qa rfl) rfl hx7 rfl QL rfl rfl) ?_
 iterate 4 refine w_ ?_
 cases hb8:(decide (y < n))
 have hb8':=a7 hb8
 iterate 10 refine w_ ?_
 have hb9:(decide (m < (l.length:Int)))=true:=hb4
 try rw[hb9]
 iterate 2 refine w_ ?_
 refine lgy rfl rfl (Qw (e:= .int) (Qa rfl) rfl (Qa rfl) QN QL rfl (by omega) (by first | omega | (simp only[aq]; omega)))<|lgy rfl rfl (QP (e:= .int) (Qa rfl) rfl hx7 rfl QL rfl rfl) ?_
 iterate 4 refine w_ ?_
 cases hb10:(decide (y=n))
 have hb10':=a7 hb10
 iterate 3 refine w_ ?_
 refine lc (Qf 6 (e:= .int) QN QL Yu rfl rfl (ae.1 rfl) ⟨rfl,rfl⟩ (by decide) rfl rfl (Fresh.of rfl) (nlr rfl)) ?_
 iterate 2 refine w_ ?_
 refine lc (Z8 (e:= .int) (a:=0) (b:=(m).toNat) (l:=none) (h:=(some m)) (Qa rfl) rfl (by exact trivial) (by exact (Qa rfl)) QN QL rfl (by first | (simp only[ao,ak]; omega) | omega | (simp only[ao,ak,aa,ab,az]; omega)) (by first | (simp only[ao,ak]; omega) | omega | (simp only[ao,ak,aa,ab,az]; omega)) (by first | (simp only[ao,ak]; omega) | omega | (simp only[ao,ak,aa,ab,az]; omega)) (by first | rfl | simp) (by first | rfl | simp))<|lc (Zp 7 (Qa rfl) rfl (XM (e:= .int) (Qa rfl) rfl (by omega)) rfl QN Wd (by first | omega | (simp only[aa,av,ab,ah,aj]; omega) | (simp only[aa,ay,ab,ah,aj]; omega)) rfl (Fresh.of rfl) (nlr rfl)) ?_
 iterate 5 refine w_ ?_
 refine lc (Qf 8 (e:= .int) QN QL Yu rfl ⟨_,_,rfl,(Qb rfl),rfl⟩ (ae.1 rfl) ⟨_,_,_,_,rfl,⟨rfl,rfl⟩,⟨rfl,rfl⟩,rfl⟩ (by decide) rfl rfl (Fresh.of rfl) (nlr rfl))<|lc (QH 9 (Qa rfl) rfl (Qa rfl) rfl rfl QN Wd (by first | omega | (simp only[aa,av,ab,ah,aj]; omega) | (simp only[aa,ay,ab,ah,aj]; omega)) rfl (Fresh.of rfl) (nlr rfl)) ?_
 iterate 6 refine w_ ?_
 refine lc (Z8 (e:= .int) (a:=(m).toNat) (b:=l.length - (m).toNat) (l:=(some m)) (h:=none) (Qa rfl) rfl (by exact (Qa rfl)) (by exact trivial) QN QL rfl (by first | (simp only[ao,ak]; omega) | omega | (simp only[ao,ak,aa,ab,az]; omega)) (by first | (simp only[ao,ak]; omega) | omega | (simp only[ao,ak,aa,ab,az]; omega)) (by first | (simp only[ao,ak]; omega) | omega | (simp only[ao,ak,aa,ab,az]; omega)) (by first | rfl | simp) (by first | rfl | simp))<|lc (Zp 10 (Qa rfl) rfl (XM (e:= .int) (Qa rfl) rfl (by omega)) rfl QN Wd (by first | omega | (simp only[aa,av,ab,ah,aj]; omega) | (simp only[aa,ay,ab,ah,aj]; omega)) rfl (Fresh.of rfl) (nlr rfl)) ?_
 iterate 3 refine w_ ?_
 subst hO
 refine Z3 (e:= .int) (xs:=(((([])++((l.take (0+((m).toNat))).drop 0))++([n]))++((l.take (((m).toNat)+(l.length - (m).toNat))).drop ((m).toNat)))) (Qg rfl (Qd rfl)) rfl ?_
 exact QlA hP (by omega) (by omega) (fun z hz=>by simp_all)
 have hb10':=a8 hb10
 iterate 6 refine w_ ?_
 subst hO
 refine Z3 (e:= .int) (xs:=l) (Qg rfl (Qd rfl)) rfl ?_
 exact QrB hP (by simp_all)
 have hb8':=a8 hb8
 iterate 7 refine w_ ?_
 refine Qm<|QV ⟨(m+1),rfl,(by omega),(fun j hj z hz=>by by_cases e:j=m.toNat <;> first | (subst e; simp_all; done) | exact hP j (by omega) z hz),rfl⟩ (by omega) ?_
 exact wo [(0,0)]
theorem QcF (c:(List (ByteArray×Int))×List ByteArray×(List (Int×Int×Bool×Int)))(hl:c.1.length≤100000):FC Tryz.prog 195 [(true,[.dat QJ c.1, .dat Zr c.2.1, .dat VR c.2.2])] [] 0 (Uz 3 .int (Xd c.1 c.1.length)):=by
 refine QO Tryz.func195 rfl rfl Tryz.ntmps195 fun O_ hO w0_ N0_ X_ h0_ f0_=> ?_
 refine w_ ?_
 refine lc (Qy 0 (Qb rfl) rfl rfl (Fresh.of rfl) (nlr rfl)) ?_
 iterate 3 refine w_ ?_
 refine lc (Qf 1 (e:= .int) QN QL Yu rfl rfl (ae.1 rfl) ⟨rfl,rfl⟩ (by decide) rfl rfl (Fresh.of rfl) (nlr rfl)) ?_
 iterate 6 refine w_ ?_
 refine AL.fact (Qo (x:= .tmp 8) (Qa rfl)) fun hl1=> ?_
 iterate 4 refine w_ ?_
 refine Qu (fun m_ s_=>∃(k:Nat),k≤c.1.length∧m_=c.1.length - k∧s_=⟨[(2,lf (.val (.slice none 0 0))),(3,lR 2),(8,lf (.dat QJ c.1)),(9,lI (c.1.length:Int)),(10,lI (k:Int))],[(2,some (.arr 3 .int (Xd c.1 k)))]⟩) ⟨0,aw _,rfl,rfl⟩ ?_ ?_
 exact wp [(2,1)] ⟨(Qp (rfl)),trivial⟩
 rintro m_ s_ ⟨k,hk2,hm3,rfl⟩
 have hfl:=Qgp (ss:=c.1) (k:=k)
 iterate 4 refine w_ ?_
 cases hb4:(decide ((k:Int) < (c.1.length:Int)))
 have hb4':=a7 hb4
 iterate 8 refine w_ ?_
 subst hO
 refine Z3 (e:= .int) (xs:=(Xd c.1 k)) (Qg rfl (Qd rfl)) rfl ?_
 (congr 1; omega)
 have hb4':=a8 hb4
 iterate 6 refine w_ ?_
 obtain ⟨x5,hx6⟩:=gx c.1 k
 refine lc (Qh (Qa rfl) (Qa rfl) YE YJ rfl (by omega) hx6) ?_
 refine w_ ?_
 refine lc (Qj 3 QY UZ rfl rfl (Fresh.of rfl) (nlr rfl)) ?_
 refine w_ ?_
 refine lc (Qc (Qa rfl) rfl (Qb rfl) rfl YJ rfl) ?_
 iterate 4 refine w_ ?_
 refine AL.fact (QC (x:= .tmp 16) (Qa rfl)) fun hi7=> ?_
 iterate 2 refine w_ ?_
 cases hb8:(!decide (x5.2=1))
 have hb8':(x5.2=1):=Zm hb8
 iterate 6 refine w_ ?_
 refine Qm<|QV ⟨k+1,by omega,rfl,rfl⟩ (by omega) ?_
 exact wp [(2,2)] ⟨(Qp (by first | exact Hy hx6 ‹_› | exact QeE hx6 ‹_›)),trivial⟩
 have hb8':¬(x5.2=1):=Zx hb8
 iterate 4 refine w_ ?_
 refine lc (Qf 4 (e:= .int) QN QL Yu rfl ⟨_,_,rfl,(Qb rfl),rfl⟩ (ae.1 rfl) ⟨_,_,_,_,rfl,⟨rfl,rfl⟩,⟨rfl,rfl⟩,rfl⟩ (by decide) rfl rfl (Fresh.of rfl) (nlr rfl))<|lc (QH 5 (Qa rfl) rfl (Qa rfl) rfl rfl QN Wd (by first | omega | (simp only[aa,av,ab,ah,aj]; omega) | (simp only[aa,ay,ab,ah,aj]; omega)) rfl (Fresh.of rfl) (nlr rfl)) ?_
 refine w_ ?_
 refine Qm ?_
 iterate 4 refine w_ ?_
 refine Qm<|QV ⟨k+1,by omega,rfl,rfl⟩ (by omega) ?_
 exact wp [(2,5)] ⟨(Qp (by first | exact Hy hx6 ‹_› | exact QeE hx6 ‹_›)),trivial⟩
end Go.Proofs.YtjaadeknhofhpaaGreat
namespace Go.Proofs.YtjaadeknhofhpaaGreat
open Go.RowKit
set_option maxRecDepth 100000
set_option maxHeartbeats 4000000
abbrev KB (a:DAr)(l:Int×Bool):Prop:=a.2.1=l.1∧a.2.2.1=l.2
def ixE (as_:List DAr):List (Int×Int):=as_.zipIdx.map fun x=>(x.1.1,(x.2:Int))
inductive ClS (as_:List DAr) (p r:Int×Bool):Int→Prop
  | base {a:DAr}:a∈as_→KB a p→ClS as_ p r a.2.2.2
  | step {a:DAr}:a∈as_→ClS as_ p r a.1→¬KB a r→ClS as_ p r a.2.2.2
def QgK (p:Int×Bool)(l:List Int)(a:DAr):List Int:=if KB a p then Y1 ltI a.2.2.2 l else l
def Vp (r:Int×Bool)(l:List Int)(a:DAr):List Int:=if a.1∈l∧¬KB a r then Y1 ltI a.2.2.2 l else l
def VK {α:Type}(f:α→α):Nat→α→α
  | 0,x=>x
  | n+1,x=>f (VK f n x)
def JM (c:DSg)(p r:Int×Bool):List Int:=VK (fun l=>c.2.2.foldl (Vp r) l) c.2.1.length (c.2.2.foldl (QgK p) [])
theorem Qpf {α:Type}{f:α→α}{I:α→Prop}{m:α→Nat}{n:Nat}(hI:∀x,I x→I (f x))(hm:∀x,I x→m x≤n)(hs:∀x,I x→f x=x∨m x < m (f x)){x:α}(hx:I x):f (VK f n x)=VK f n x:=by
  have h1:∀k,I (VK f k x):=fun k=>by
    induction k with
    | zero=>exact hx
    | succ k ih=>exact hI _ ih
  have h2:∀k,f (VK f k x)=VK f k x∨k≤m (VK f k x):=fun k=>by
    induction k with
    | zero=>exact .inr (aw _)
    | succ k ih=>
      rcases ih with h | h
      · exact .inl (by show f (f (VK f k x))=f (VK f k x); rw[h,h])
      · rcases hs _ (h1 k) with h3 | h3
        · exact .inl (by show f (f (VK f k x))=f (VK f k x); rw[h3,h3])
        · exact .inr (by show k+1≤m (f (VK f k x)); omega)
  rcases h2 n with h | h
  · exact h
  · rcases hs _ (h1 n) with h3 | h3
    · exact h3
    · have:=hm _ (hI _ (h1 n)); omega
section
variable {c:DSg}{as_:List DAr}{a:DAr}{p r:Int×Bool}{k i j n:Nat}{l out ts ys L:List Int}{seen:List Bool}{x y o q at_:Int}
theorem Qhw:∀{l:List Int} {lo hi:Int},l.Pairwise (fun x y=>ltI x y=true)→(∀x∈l,lo≤x∧x < hi)→lo≤hi→(l.length:Int)≤hi - lo
  | [],_,_,_,_,h=>by simp; omega
  | x :: l,lo,hi,h1,h2,h3=>by
    obtain ⟨h4,h5⟩:=bg.1 h1
    have h6:=h2 x (aA ..)
    have:=Qhw (l:=l) (lo:=x+1) (hi:=hi) h5 (fun y hy=>by have k1:=h4 y hy; have k2:=h2 y (aD _ hy); simp only[ltI,aN] at k1; omega) (by omega)
    simp only[ah]; omega
theorem Qna (h:l.Nodup)(hr:∀x∈l,0≤x∧x < (n:Int)):l.length≤n:=by
  have h1:(QdE l).Nodup:=(Qak l).nodup_iff.2 h
  have h2:(QdE l).Pairwise fun x y=>ltI x y=true:=by
    have:=(QhA l).and h1
    exact this.imp fun ⟨k1,k2⟩=>by simp only[ltI,aN]; omega
  have:=Qhw h2 (lo:=0) (hi:=n) (fun x hx=>hr x (Qmc.1 hx)) (by omega)
  rw[Qmq] at this
  omega
abbrev Qsz (l:List Int):Prop:=l.Pairwise fun x y=>ltI x y=true
theorem QdL:∀(x:Int) (l:List Int),Y1 ltI x l=l∨(Y1 ltI x l).length=l.length+1
  | x,[]=> .inr rfl
  | x,y :: l=>by
    unfold Y1
    split
    · rcases QdL x l with h | h
      · exact .inl (by rw[h])
      · exact .inr (by simp[h])
    · split
      · exact .inl rfl
      · exact .inr rfl
theorem Qif:Vp r l a=l∨(Vp r l a).length=l.length+1:=by
  unfold Vp
  split
  · exact QdL _ _
  · exact .inl rfl
theorem QbG:∀(as_:List DAr) (l:List Int),as_.foldl (Vp r) l=l∨l.length < (as_.foldl (Vp r) l).length
  | [],l=> .inl rfl
  | a :: as_,l=>by
    rw[bC]
    rcases QbG as_ (Vp r l a) with h | h <;> rcases Qif (r:=r) (l:=l) (a:=a) with h2 | h2
    · exact .inl (by rw[h,h2])
    · exact .inr (by rw[h]; omega)
    · rw[h2] at h ⊢; exact .inr h
    · exact .inr (by omega)
structure BlS (c:DSg) (p r:Int×Bool) (l:List Int):Prop where
  str:Qsz l
  cl:∀x∈l,ClS c.2.2 p r x
theorem BlS.put (h:BlS c p r l)(hx:ClS c.2.2 p r x):BlS c p r (Y1 ltI x l):=⟨Qiq JR h.str,fun y hy=>by
  rcases Un.1 hy with rfl | hy
  · exact hx
  · exact h.cl y hy⟩
theorem Qb6:∀{as_:List DAr} {l:List Int},(∀a∈as_,a∈c.2.2)→BlS c p r l→BlS c p r (as_.foldl (QgK p) l)∧(∀x∈l,x∈as_.foldl (QgK p) l)∧∀a∈as_,KB a p→a.2.2.2∈as_.foldl (QgK p) l
  | [],l,_,h=>⟨h,fun x hx=>hx,fun a ha=>by cases ha⟩
  | a :: as_,l,hs,h=>by
    have h1:BlS c p r (QgK p l a)∧(∀x∈l,x∈QgK p l a)∧(KB a p→a.2.2.2∈QgK p l a):=by
      unfold QgK
      split
      · rename_i hl
        exact ⟨h.put (.base (hs a (aA ..)) hl),fun x hx=>Un.2 (.inr hx),fun _=>Un.2 (.inl rfl)⟩
      · rename_i hl
        exact ⟨h,fun x hx=>hx,fun hp=>absurd hp hl⟩
    obtain ⟨i1,i2,i3⟩:=Qb6 (l:=QgK p l a) (fun b hb=>hs b (aD _ hb)) h1.1
    refine ⟨i1,fun x hx=>i2 x (h1.2.1 x hx),fun b hb hp=> ?_⟩
    rcases aG.1 hb with rfl | hb
    · exact i2 _ (h1.2.2 hp)
    · exact i3 b hb hp
theorem Vb:∀{as_:List DAr} {l:List Int},(∀a∈as_,a∈c.2.2)→BlS c p r l→BlS c p r (as_.foldl (Vp r) l)∧(∀x∈l,x∈as_.foldl (Vp r) l)∧∀a∈as_,a.1∈l→¬KB a r→a.2.2.2∈as_.foldl (Vp r) l
  | [],l,_,h=>⟨h,fun x hx=>hx,fun a ha=>by cases ha⟩
  | a :: as_,l,hs,h=>by
    have h1:BlS c p r (Vp r l a)∧(∀x∈l,x∈Vp r l a)∧(a.1∈l→¬KB a r→a.2.2.2∈Vp r l a):=by
      unfold Vp
      split
      · rename_i hl
        exact ⟨h.put (.step (hs a (aA ..)) (h.cl _ hl.1) hl.2),fun x hx=>Un.2 (.inr hx),fun _ _=>Un.2 (.inl rfl)⟩
      · rename_i hl
        exact ⟨h,fun x hx=>hx,fun h1 h2=>absurd ⟨h1,h2⟩ hl⟩
    obtain ⟨i1,i2,i3⟩:=Vb (l:=Vp r l a) (fun b hb=>hs b (aD _ hb)) h1.1
    refine ⟨i1,fun x hx=>i2 x (h1.2.1 x hx),fun b hb hp hn=> ?_⟩
    rcases aG.1 hb with rfl | hb
    · exact i2 _ (h1.2.2 hp hn)
    · exact i3 b hb (h1.2.1 _ hp) hn
theorem Qp8 (hr:∀a∈as_,0≤a.2.2.2∧a.2.2.2 < (n:Int))(h:ClS as_ p r x):0≤x∧x < (n:Int):=by
  cases h with
  | base h1 _=>exact hr _ h1
  | step h1 _ _=>exact hr _ h1
theorem Qd3 {f:List Int→List Int}(hf:∀l,BlS c p r l→BlS c p r (f l)∧∀x∈l,x∈f l)(h:BlS c p r l):∀k,BlS c p r (VK f k l)∧∀x∈l,x∈VK f k l
  | 0=>⟨h,fun x hx=>hx⟩
  | k+1=>by
    obtain ⟨h1,h2⟩:=Qd3 hf h k
    obtain ⟨h3,h4⟩:=hf _ h1
    exact ⟨h3,fun x hx=>h4 x (h2 x hx)⟩
theorem QeS (c:DSg)(p r:Int×Bool):BlS c p r (JM c p r):=
  (Qd3 (fun l hl=>⟨(Vb (fun _ h=>h) hl).1,(Vb (fun _ h=>h) hl).2.1⟩) (Qb6 (fun _ h=>h) ⟨cu,fun x hx=>by cases hx⟩).1 _).1
theorem Qi1 (hr:∀a∈c.2.2,InR c.2.1.length a):x∈JM c p r↔ClS c.2.2 p r x:=by
  have h0:BlS c p r ([]:List Int):=⟨cu,fun x hx=>by cases hx⟩
  obtain ⟨a1,a2,a3⟩:=Qb6 (as_:=c.2.2) (fun _ h=>h) h0
  have hrt:∀a∈c.2.2,0≤a.2.2.2∧a.2.2.2 < (c.2.1.length:Int):=fun a ha=>(hr a ha).2
  have hfx:=Qpf (f:=fun l=>c.2.2.foldl (Vp r) l) (I:=BlS c p r) (m:=List.length) (n:=c.2.1.length) (fun l hl=>(Vb (fun _ h=>h) hl).1)
    (fun l hl=>by have:=Qhw hl.str (lo:=0) (hi:=c.2.1.length) (fun x hx=>Qp8 hrt (hl.cl x hx)) (by omega); omega) (fun l _=>QbG _ _) a1
  have hsub:=(Qd3 (f:=fun l=>c.2.2.foldl (Vp r) l) (fun l hl=>⟨(Vb (fun _ h=>h) hl).1,(Vb (fun _ h=>h) hl).2.1⟩) a1 c.2.1.length)
  refine ⟨(QeS c p r).cl x,fun h=> ?_⟩
  induction h with
  | base h1 h2=>exact hsub.2 _ (a3 _ h1 h2)
  | step h1 _ h2 ih=>
    have:=(Vb (r:=r) (fun _ h=>h) hsub.1).2.2 _ h1 ih h2
    rw[hfx] at this
    exact this
def mkS (n:Nat)(l:List Int):List Bool:=l.foldl (fun s x=>s.set x.toNat true) (List.replicate n false)
theorem Qqn:(mkS n l).length=n:=by
  unfold mkS
  have:∀(l:List Int) (s:List Bool),(l.foldl (fun s x=>s.set x.toNat true) s).length=s.length:=fun l=>by
    induction l with
    | nil=>intro s; rfl
    | cons x l ih=>intro s; rw[bC,ih,aq]
  rw[this]; simp
theorem QrA (hr:∀x∈l,0≤x∧x < (n:Int))(h0:0≤x)(h1:x < (n:Int)):(mkS n l)[x.toNat]? =some true↔x∈l:=by
  unfold mkS
  have:∀(l:List Int) (s:List Bool),s.length=n→(∀x∈l,0≤x∧x < (n:Int))→((l.foldl (fun s x=>s.set x.toNat true) s)[x.toNat]? =some true↔s[x.toNat]? =some true∨x∈l):=fun l=>by
    induction l with
    | nil=>intro s _ _; simp
    | cons y l ih=>
      intro s hs hr
      have hy:=hr y (aA ..)
      rw[bC,ih _ (by rw[aq]; exact hs) fun z hz=>hr z (aD _ hz),aG]
      by_cases e:x=y
      · subst e
        rw[aU (by omega)]; simp
      · rw[aX (by omega)]; simp[e]
  rw[this l _ (by simp) hr]
  simp[List.getElem?_replicate]
structure BlI (c:DSg) (p r:Int×Bool) (at_:Int) (out:List Int) (seen:List Bool):Prop where
  rng:0≤at_∧at_≤(out.length:Int)
  nd:out.Nodup
  q:∀x∈out,(0≤x∧x < (c.2.1.length:Int))∧ClS c.2.2 p r x
  sn:seen.length=c.2.1.length
  se:∀x,0≤x→x < (c.2.1.length:Int)→(seen[x.toNat]? =some true↔x∈out)
  base:∀a∈c.2.2,KB a p→a.2.2.2∈out
  cl:∀(j:Nat) (o:Int),(j:Int) < at_→out[j]? =some o→∀a∈c.2.2,a.1=o→¬KB a r→a.2.2.2∈out
theorem QgT:x∈swL as_ p↔∃a∈as_,KB a p∧a.2.2.2=x:=by
  unfold swL
  simp only[bM,bX,aN]
  constructor
  · rintro ⟨a,⟨h1,h2⟩,h3⟩; exact ⟨a,h1,h2,h3⟩
  · rintro ⟨a,h1,h2,h3⟩; exact ⟨a,⟨h1,h2⟩,h3⟩
theorem Qoy (hr:∀a∈c.2.2,InR c.2.1.length a)(h:out=ofG ltI (swL c.2.2 p))(hx:x∈out):0≤x∧x < (c.2.1.length:Int):=by
  subst h
  obtain ⟨a,h1,_,rfl⟩:=QgT.1 ((KW JR _).1 hx)
  exact (hr a h1).2
theorem Qma (h:Qsz l):l.Nodup:=h.imp fun h=>by simp only[ltI,aN] at h; omega
theorem BlI.start (hr:∀a∈c.2.2,InR c.2.1.length a)(h:out=ofG ltI (swL c.2.2 p))(hs:seen=mkS c.2.1.length out):BlI c p r 0 out seen where
  rng:=by omega
  nd:=by rw[h]; exact Qma (Qdd JR _)
  q x hx:=⟨Qoy hr h hx,by
    rw[h] at hx
    obtain ⟨a,h1,h2,rfl⟩:=QgT.1 ((KW JR _).1 hx)
    exact .base h1 h2⟩
  sn:=by rw[hs,Qqn]
  se x h0 h1:=by rw[hs]; exact QrA (fun y hy=>Qoy hr h hy) h0 h1
  base a h1 h2:=by rw[h]; exact (KW JR _).2 (QgT.2 ⟨a,h1,h2,rfl⟩)
  cl j o hj:=by omega
theorem BlI.few (h:BlI c p r at_ out seen):out.length≤c.2.1.length:=Qna h.nd fun x hx=>(h.q x hx).1
theorem BlI.inr (h:BlI c p r at_ out seen)(hx:out[k]? =some x):0≤x∧x < (c.2.1.length:Int):=(h.q x (ai hx)).1
theorem BlI.push (h:BlI c p r at_ out seen)(hr:∀a∈c.2.2,InR c.2.1.length a)(ho:o∈out)(ha:a∈c.2.2)(h1:a.1=o)(h2:¬KB a r)(hs:seen[a.2.2.2.toNat]? =some false):BlI c p r at_ (out++[a.2.2.2]) (seen.set a.2.2.2.toNat true):=by
  have hra:=(hr a ha).2
  have hno:a.2.2.2∉out:=fun hm=>by have:=(h.se _ hra.1 hra.2).2 hm; rw[hs] at this; cases this
  have hk:=h.sn
  refine ⟨by have:=h.rng; simp; omega, ?_,fun x hx=> ?_,by rw[aq]; exact hk,fun x h0 h3=> ?_,fun b hb hl=>aT _ (h.base b hb hl),fun j o' hj hx b hb e1 e2=> ?_⟩
  · rw [b7]
    exact ⟨h.nd,by simp,fun x hx y hy e=>by rw[aM] at hy; rw[e,hy] at hx; exact hno hx⟩
  · rcases aJ.1 hx with hx | hx
    · exact h.q x hx
    · rw [aM] at hx; subst hx
      exact ⟨hra, .step ha (by rw[h1]; exact (h.q o ho).2) h2⟩
  · rw [aJ, aM]
    by_cases e:x=a.2.2.2
    · subst e; rw[aU (by omega)]; simp
    · rw[aX (by omega),h.se x h0 h3]; simp[e]
  · have hjl := h.rng
    rw[bU (by omega)] at hx
    exact aT _ (h.cl j o' hj hx b hb e1 e2)
theorem Qr7 (h:BlI c p r at_ out seen)(h0:at_ < (out.length:Int))(ho:out[at_.toNat]? =some o)(hc:∀a∈c.2.2,a.1=o→¬KB a r→a.2.2.2∈out):BlI c p r (at_+1) out seen:=by
  refine ⟨by have:=h.rng; omega,h.nd,h.q,h.sn,h.se,h.base,fun j o' hj hx=> ?_⟩
  by_cases e:(j:Int)=at_
  · have : j = at_.toNat := by omega
    subst this
    rw[ho] at hx; cases hx
    exact hc
  · exact h.cl j o' (by omega) hx
theorem Qtl (h:BlI c p r at_ out seen)(hr:∀a∈c.2.2,InR c.2.1.length a)(h0:¬at_ < (out.length:Int)):ofG ltI out=JM c p r:=by
  refine TO.ext JR (Qdd JR _) (QeS c p r).str fun x=> ?_
  rw[KW JR,Qi1 hr]
  refine ⟨fun hx=>(h.q x hx).2,fun hx=> ?_⟩
  induction hx with
  | base h1 h2=>exact h.base _ h1 h2
  | step h1 _ h2 ih=>
    obtain ⟨j,hj⟩:=aS.1 ih
    have:=(au.1 hj).1
    exact h.cl j _ (by omega) hj _ h1 rfl h2
end
section
variable {c:DSg}{as_:List DAr}{a:DAr}{p r:Int×Bool}{k i j n:Nat}{l:List Int}
end
end Go.Proofs.YtjaadeknhofhpaaGreat
namespace Go.Proofs.YtjaadeknhofhpaaGreat
open Go.RowKit
set_option maxRecDepth 100000
set_option maxHeartbeats 4000000
def sg0 (n:Nat)(block:List Int):List UInt8:=(List.range n).map fun k:Nat=>if (k:Int)∈block then (49:UInt8) else 48
def Qox (block:List Int)(s:List UInt8)(a:DAr):List UInt8:=if¬a.1∈block∧a.2.2.2∈block then s.set a.2.2.2.toNat 43 else if a.1∈block∧¬a.2.2.2∈block then s.set a.2.2.2.toNat 45 else s
def inA (c:DSg)(a:DAr):Bool:=decide (a.2.1 < 0)||decide (((c.1[a.2.1.toNat]?).getD (ByteArray.empty,0)).2=1)
def sAt (s:List UInt8)(x:Int):UInt8:=(s[x.toNat]?).getD 0
def Qaa (c:DSg)(block:List Int)(s:List UInt8)(a:DAr):List UInt8:=if (sAt s a.1=43∨sAt s a.1=45)∧inA c a=true∧(a.1∈block↔a.2.2.2∈block) then s.set a.2.2.2.toNat (sAt s a.1) else s
def Qn9 (c:DSg)(block:List Int)(s:List UInt8):List UInt8:=c.2.2.foldl (Qaa c block) s
def QsU (c:DSg)(block:List Int):List UInt8:=c.2.2.foldl (Qox block) (sg0 c.2.1.length block)
def QtH (c:DSg)(block:List Int):List UInt8:=VK (Qn9 c block) c.2.1.length (QsU c block)
def Qrq (c:DSg)(block:List Int):ByteArray:=⟨(QtH c block).toArray⟩
structure SI (n:Nat) (block:List Int) (s:List UInt8):Prop where
  len:s.length=n
  at_:∀x:Int,0≤x→x < (n:Int)→(x∈block∧(sAt s x=49∨sAt s x=43))∨(¬x∈block∧(sAt s x=48∨sAt s x=45))
def nMk (s:List UInt8):Nat:=(s.filter fun x=>decide (x=43∨x=45)).length
def cMk (s:List UInt8):Nat:=(s.filter fun x=> !decide (x=43∨x=45)).length
section
variable {c:DSg}{as_:List DAr}{a:DAr}{block:List Int}{k i n m:Nat}{s s2 sg:List UInt8}{x y:Int}{z zf zt u v:UInt8}{ch:Bool}
theorem Qnc {α:Type}{l:List α}{j:Nat}{w:α}(h:l[j]? =some w):l.set j w=l:=by
  apply bp
  intro i
  by_cases e:j=i
  · subst e; rw[aU (au.1 h).1,h]
  · rw[aX e]
theorem Qqu (h:s[x.toNat]? =some z):sAt s x=z:=by unfold sAt; rw[h]; rfl
theorem QpM (hl:s.length=n)(h0:0≤y)(h1:y < (n:Int))(h2:0≤x):sAt (s.set y.toNat z) x=if x=y then z else sAt s x:=by
  unfold sAt
  by_cases e:x=y
  · subst e; rw[aU (by omega),if_pos rfl]; rfl
  · rw[aX (by omega),if_neg e]
theorem SI.set (h:SI n block s)(h0:0≤y)(h1:y < (n:Int))(hz:(y∈block∧z=43)∨(¬y∈block∧z=45)):SI n block (s.set y.toNat z):=by
  refine ⟨by rw[aq]; exact h.len,fun x k0 k1=> ?_⟩
  rw[QpM h.len h0 h1 k0]
  by_cases e:x=y
  · subst e
    rw[if_pos rfl]
    rcases hz with ⟨g1,g2⟩ | ⟨g1,g2⟩
    · exact .inl ⟨g1, .inr g2⟩
    · exact .inr ⟨g1, .inr g2⟩
  · rw[if_neg e]; exact h.at_ x k0 k1
theorem Qti (h:SI n block s)(ha:InR n a):SI n block (Qox block s a):=by
  unfold Qox
  split
  · rename_i g; exact h.set ha.2.1 ha.2.2 (.inl ⟨g.2,rfl⟩)
  · split
    · rename_i g; exact h.set ha.2.1 ha.2.2 (.inr ⟨g.2,rfl⟩)
    · exact h
theorem SI.val (h:SI n block s)(ha:InR n a)(h1:sAt s a.1=43∨sAt s a.1=45)(h2:a.1∈block↔a.2.2.2∈block):(a.2.2.2∈block∧sAt s a.1=43)∨(¬a.2.2.2∈block∧sAt s a.1=45):=by
  rcases h.at_ a.1 ha.1.1 ha.1.2 with ⟨g1,g2⟩ | ⟨g1,g2⟩
  · refine .inl ⟨h2.1 g1, ?_⟩
    rcases g2 with g2 | g2
    · rw[g2] at h1; rcases h1 with h1 | h1 <;> exact absurd h1 (by decide)
    · exact g2
  · refine .inr ⟨fun g => g1 (h2.2 g), ?_⟩
    rcases g2 with g2 | g2
    · rw[g2] at h1; rcases h1 with h1 | h1 <;> exact absurd h1 (by decide)
    · exact g2
theorem QiE (q:UInt8→Bool):∀{s:List UInt8} {j:Nat} {u v:UInt8},s[j]? =some u→q u=false→q v=true→((s.set j v).filter q).length=(s.filter q).length+1
  | [],j,u,v,h,_,_=>by simp at h
  | w :: s,0,u,v,h,h1,h2=>by
    simp at h; subst h
    simp[h1,h2]
  | w :: s,j+1,u,v,h,h1,h2=>by
    have ih:=QiE q (s:=s) (j:=j) (by simpa using h) h1 h2
    rw[co]
    by_cases e:q w=true
    · rw[List.filter_cons_of_pos e,List.filter_cons_of_pos e,ah,ah,ih]
    · rw[List.filter_cons_of_neg e,List.filter_cons_of_neg e,ih]
theorem Qf1 (q:UInt8→Bool):∀{s:List UInt8} {j:Nat} {u v:UInt8},s[j]? =some u→q u=true→q v=false→((s.set j v).filter q).length+1=(s.filter q).length
  | [],j,u,v,h,_,_=>by simp at h
  | w :: s,0,u,v,h,h1,h2=>by
    simp at h; subst h
    simp[h1,h2]
  | w :: s,j+1,u,v,h,h1,h2=>by
    have ih:=Qf1 q (s:=s) (j:=j) (by simpa using h) h1 h2
    rw[co]
    by_cases e:q w=true
    · rw[List.filter_cons_of_pos e,List.filter_cons_of_pos e,ah,ah,ih]
    · rw[List.filter_cons_of_neg e,List.filter_cons_of_neg e,ih]
theorem Qkl (h:SI n block s)(ha:InR n a):SI n block (Qaa c block s a)∧(Qaa c block s a=s∨(nMk s < nMk (Qaa c block s a)∧cMk (Qaa c block s a) < cMk s)):=by
  unfold Qaa
  split
  · rename_i g
    have hv:=h.val ha g.1 g.2.2
    refine ⟨h.set ha.2.1 ha.2.2 hv, ?_⟩
    have hl:=h.len
    have hg:s[a.2.2.2.toNat]? =some (sAt s a.2.2.2):=by
      unfold sAt
      rw[ap (by have:=ha.2; omega)]; rfl
    by_cases e:sAt s a.2.2.2=sAt s a.1
    · exact .inl (by rw[← e]; exact Qnc hg)
    · right
      have hu:¬(sAt s a.2.2.2=43∨sAt s a.2.2.2=45):=fun hu=>by
        rcases h.at_ a.2.2.2 ha.2.1 ha.2.2 with ⟨g1,g2⟩ | ⟨g1,g2⟩ <;> rcases hv with ⟨v1,v2⟩ | ⟨v1,v2⟩
        · rcases g2 with g2 | g2
          · rw[g2] at hu; rcases hu with hu | hu <;> exact absurd hu (by decide)
          · exact e (g2.trans v2.symm)
        · exact v1 g1
        · exact g1 v1
        · rcases g2 with g2 | g2
          · rw[g2] at hu; rcases hu with hu | hu <;> exact absurd hu (by decide)
          · exact e (g2.trans v2.symm)
      constructor
      · unfold nMk
        rw[QiE _ hg (aP hu) (aK g.1)]; omega
      · unfold cMk
        have:=Qf1 (fun x=> !decide (x=43∨x=45)) hg (by simp only[aP hu]; rfl) (v:=sAt s a.1) (by simp only[aK g.1]; rfl)
        omega
  · exact ⟨h, .inl rfl⟩
structure PI (c:DSg) (block:List Int) (sg:List UInt8) (i:Nat) (s:List UInt8) (ch:Bool):Prop where
  si:SI c.2.1.length block s
  eq:Qn9 c block sg=(c.2.2.drop i).foldl (Qaa c block) s
  no:ch=false→s=sg
  yes:ch=true→cMk s < cMk sg
  le:cMk s≤cMk sg
theorem PI.start (h:SI c.2.1.length block sg):PI c block sg 0 sg false:=⟨h,rfl,fun _=>rfl,(fun h=>by cases h),aL _⟩
theorem QkV (hx:as_[i]? =some a):as_.drop i=a :: as_.drop (i+1):=by
  obtain ⟨h1,h2⟩:=au.1 hx
  rw[bL h1,h2]
theorem PI.skip (h:PI c block sg i s ch)(hx:c.2.2[i]? =some a)(hn:Qaa c block s a=s):PI c block sg (i+1) s ch:=⟨h.si,by rw[h.eq,QkV hx,bC,hn],h.no,h.yes,h.le⟩
theorem Qto (h:PI c block sg i s ch)(hr:∀a∈c.2.2,InR c.2.1.length a)(hx:c.2.2[i]? =some a)(h1:s[a.1.toNat]? =some u)(h2:s[a.2.2.2.toNat]? =some v)(hm:u=43∨u=45)(hi:inA c a=true)(hb:a.1∈block↔a.2.2.2∈block)(hne:¬v=u):PI c block sg (i+1) (s.set a.2.2.2.toNat u) true:=by
  have ha:=hr a (ai hx)
  have hmv:Qaa c block s a=s.set a.2.2.2.toNat u:=by
    unfold Qaa
    rw[Qqu h1,if_pos ⟨hm,hi,hb⟩]
  obtain ⟨k1,k2⟩:=Qkl (c:=c) h.si ha
  rw[hmv] at k1 k2
  have k3:¬s.set a.2.2.2.toNat u=s:=fun e=>by
    have h3:(s.set a.2.2.2.toNat u)[a.2.2.2.toNat]? =some u:=aU (au.1 h2).1
    rw[e,h2] at h3
    cases h3; exact hne rfl
  have k4:=(k2.resolve_left k3).2
  have:=h.le
  exact ⟨k1,by rw[h.eq,QkV hx,bC,hmv],(fun h=>by cases h),fun _=>by omega,by omega⟩
theorem PI.end_ (h:PI c block sg i s ch)(hi:c.2.2.length≤i):s=Qn9 c block sg:=by rw[h.eq,bk hi]; rfl
theorem Qqh {c:DSg}{a:DAr}(h:Qm5 (c.1.length:Int) (a.2.1,a.2.2.1)):a.2.1 < (c.1.length:Int):=by
  rcases h with h | h
  · have:=h.2; simp only at this; omega
  · have:=h.1; simp only at this; omega
end
end Go.Proofs.YtjaadeknhofhpaaGreat
namespace Go.Proofs.YtjaadeknhofhpaaGreat
open Go.RowKit
set_option maxRecDepth 100000
set_option maxHeartbeats 4000000
def sgF (n:Nat)(block:List Int)(k:Nat):List UInt8:=sg0 k block++List.replicate (n - k) 0
def okB (c:DSg)(p r:Int×Bool):Bool:=QqU c (Qrq c (JM c p r))&&(decide (0 < ((JM c p r).length:Int))&&decide (((JM c p r).length:Int) < (c.2.1.length:Int)))
def QtT (c:DSg)(p r:Int×Bool):ByteArray:=if okB c p r=true then Qrq c (JM c p r) else ⟨#[]⟩
section
variable {c:DSg}{as_:List DAr}{a:DAr}{block:List Int}{k i j n:Nat}{s:List UInt8}{u:UInt8}{p r:Int×Bool}{x:Q9}
end
end Go.Proofs.YtjaadeknhofhpaaGreat
