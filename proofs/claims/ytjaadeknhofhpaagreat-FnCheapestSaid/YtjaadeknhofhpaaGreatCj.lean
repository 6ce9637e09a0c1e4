/- Walks over abstract states: the candidate insertions and the best one, both sides. -/
import Derived.Test.YtjaadeknhofhpaaGreatUg
import Derived.Test.YtjaadeknhofhpaaGreatVi
import Derived.Test.YtjaadeknhofhpaaGreatAv
import Derived.Test.YtjaadeknhofhpaaGreatStr
import Derived.Test.YtjaadeknhofhpaaGreatProg
import Derived.KernelRfl
import Derived.Test.YtjaadeknhofhpaaGreatFz
import Derived.Test.YtjaadeknhofhpaaGreatWv
import Derived.Test.YtjaadeknhofhpaaGreatWp
import Derived.Test.YtjaadeknhofhpaaGreatUa
import Derived.Test.YtjaadeknhofhpaaGreatWz
import Derived.Test.YtjaadeknhofhpaaGreatAk
import Derived.Test.YtjaadeknhofhpaaGreatWk
import Derived.Test.YtjaadeknhofhpaaGreatAt
set_option linter.unusedSimpArgs false
set_option linter.unusedVariables false
set_option linter.unusedSectionVars false
namespace Go.Proofs.YtjaadeknhofhpaaGreat
open Go.RowKit
set_option maxRecDepth 100000
set_option maxHeartbeats 4000000
abbrev ZD:=(Int×Bool)×Int×Bool
def QY (k:Nat):List (Int×Bool):=(List.range k).flatMap fun i=>[(((i:Nat):Int),false),(((i:Nat):Int),true)]
section
variable {k:Nat}
theorem Wm:(QY k).length=2*k:=by
  unfold QY
  induction k with
  | zero=>rfl
  | succ k ih=>rw[bK,List.flatMap_append,aa,ih]; simp; omega
theorem Qe7:QY k++[(((k:Nat):Int),false),(((k:Nat):Int),true)]=QY (k+1):=by
  unfold QY
  rw[bK,List.flatMap_append]; simp
end
section
variable [∀c,Decidable (SgOk c)][∀s,Decidable (Zq s)]{c:DSg}{a b:Int×Bool}{i j k n:Nat}{x:ZD}{L:List (Int×Bool)}
def isX (c:DSg)(a b:Int×Bool):Bool:= !decide (a=b)&&(Zz c (a,b)).2
def KE (c:DSg)(a:Int×Bool)(l:List (Int×Bool)):List ZD:=(l.filter fun b=>isX c a b).map fun b=>(a,b)
def Hk (c:DSg)(L l:List (Int×Bool)):List ZD:=l.flatMap fun a=>KE c a L
abbrev QV (c:DSg):List ZD:=Hk c (QY c.1.length) (QY c.1.length)
abbrev YX (c:DSg)(l:List ZD):List (ZD×DSg):=l.map fun x=>(x,(Zz c x).1)
theorem JT (hx:L[i]? =some b)(h:Ty.beq Qw a b=true):KE c a (L.take i)=KE c a (L.take (i+1)):=by
  rw[QpA,aN] at h
  unfold KE
  rw[QO hx,b5,bh]; simp[isX,h]
theorem JQ (hx:L[i]? =some b)(h:(Zz c (a,b)).2=false):KE c a (L.take i)=KE c a (L.take (i+1)):=by
  unfold KE
  rw[QO hx,b5,bh]; simp[isX,h]
theorem Qc9 (hx:L[i]? =some b)(h1:Ty.beq Qw a b=false)(h:(Zz c (a,b)).2=true):KE c a (L.take i)++[(a,b)]=KE c a (L.take (i+1)):=by
  rw[QpA,bp] at h1
  unfold KE
  rw[QO hx,b5,bh]; simp[isX,h,h1]
theorem Qi4 (hx:L[k]? =some a):Hk c L (L.take k)++KE c a L=Hk c L (L.take (k+1)):=by
  unfold Hk
  rw[QO hx,List.flatMap_append]; simp
theorem Qgv:(KE c a L).length≤L.length:=by unfold KE; rw[aF]; exact bG ..
theorem Qrx {l:List (Int×Bool)}:(Hk c L l).length≤l.length*L.length:=by
  unfold Hk
  induction l with
  | nil=>simp
  | cons a l ih=>
    rw[cV,aa,ao,Nat.succ_mul]
    have:=Qgv (c:=c) (a:=a) (L:=L)
    omega
theorem Qan (h:c.1.length≤8)(l:List (Int×Bool))(hl:l.length≤16):(Hk c (QY c.1.length) l).length≤256:=by
  have h1:=Qrx (c:=c) (L:=QY c.1.length) (l:=l)
  rw[Wm] at h1
  have:l.length*(2*c.1.length)≤16*16:=Nat.mul_le_mul hl (by omega)
  omega
theorem Qsj (h:x∈Hk c L L):(x.1∈L∧x.2∈L)∧¬x.1=x.2∧(Zz c x).2=true:=by
  unfold Hk at h
  obtain ⟨a,ha,h⟩:=List.mem_flatMap.1 h
  unfold KE at h
  obtain ⟨b,hb,rfl⟩:=bQ.1 h
  rw[bY] at hb
  have h2:=hb.2
  unfold isX at h2
  simp only[aG,bB,bp] at h2
  exact ⟨⟨ha,hb.1⟩,h2.1,h2.2⟩
theorem QiV (h:b∈QY k):0≤b.1∧b.1≤(k:Int) - 1:=by
  unfold QY at h
  obtain ⟨i,hi,h⟩:=List.mem_flatMap.1 h
  rw[cj] at hi
  simp only[aH,cp,or_false] at h
  rcases h with rfl | rfl <;> (simp only; omega)
theorem Ql1 (hs:SgOk c)(h:x∈QV c):Uv c x∧(Zz c x).2=true:=by
  obtain ⟨⟨h1,h2⟩,h3,h4⟩:=Qsj h
  exact ⟨⟨⟨⟨hs,QiV h1⟩,QiV h2⟩,h3⟩,h4⟩
theorem JK (l:List ZD):(YX c l).length=l.length:=aF ..
theorem QhW {l:List ZD}{y:ZD×DSg}(h:(YX c l)[i]? =some y):∃x,l[i]? =some x∧y=(x,(Zz c x).1):=by
  simp only[b6,bL] at h
  obtain ⟨x,h1,h2⟩:=h
  exact ⟨x,h1,h2.symm⟩
def Hn (c:DSg)(x:ZD):Int:=((YT (Zz c x).1).length:Int)
def QhT (c:DSg)(x:ZD):Int:=((Zz c x).1.2.1.length:Int)
def Qcu (c:DSg)(m:Option ZD)(x:ZD):Option ZD:=match m with
  | none=>some x
  | some y=>if Hn c x < Hn c y∨(Hn c x=Hn c y∧QhT c x < QhT c y) then some x else some y
def oC (c:DSg):Option ZD→ZD×DSg
  | some x=>(x,(Zz c x).1)
  | none=>(((0,false),0,false),([],[],[]))
def oF (c:DSg)(d:Int):Option ZD→Int
  | some x=>Hn c x
  | none=>d
def oS (c:DSg):Option ZD→Int
  | some x=>QhT c x
  | none=>0
def Zd (c:DSg)(l:List ZD):Option ZD:=l.foldl (Qcu c) none
def Xk (c:DSg)(l:List ZD):ZD:=(Zd c l).getD ((0,false),0,false)
def Yq (c:DSg)(l:List ZD):ZD×DSg:=oC c (Zd c l)
def WI (c:DSg)(l:List ZD):Int:=oF c 0 (Zd c l)
def Vt (c:DSg)(l:List ZD):Int:=oF c (-1) (Zd c l)
def KR (c:DSg)(l:List ZD):Int:=oS c (Zd c l)
theorem QdZ {l:List ZD}(hx:l[k]? =some x):Zd c (l.take (k+1))=Qcu c (Zd c (l.take k)) x:=by
  unfold Zd
  rw[QO hx,b9]; rfl
theorem Qed {l:List ZD}:Zd c l=none↔l=[]:=by
  cases l with
  | nil=>exact ⟨fun _=>rfl,fun _=>rfl⟩
  | cons y l=>
    have hb:∀(m z:ZD),∃u,Qcu c (some m) z=some u:=fun m z=>by
      simp only[Qcu]
      split <;> exact ⟨_,rfl⟩
    have:∀(l:List ZD) (m:ZD),l.foldl (Qcu c) (some m)≠none:=fun l=>by
      induction l with
      | nil=>intro m h; cases h
      | cons z l ih=>
        intro m
        obtain ⟨u,hu⟩:=hb m z
        rw[aS,hu]
        exact ih u
    exact ⟨fun h=>absurd h (this l y),fun h=>by cases h⟩
theorem QmS (x:ZD):0≤Hn c x:=bN _
theorem Qfx {l:List ZD}:Vt c l < 0↔Zd c l=none:=by
  unfold Vt
  cases h:Zd c l with
  | none=>simp[oF]
  | some y=>have:=QmS (c:=c) y; simp[oF]; omega
theorem Qa4 {l:List ZD}(hx:l[k]? =some x)(h:Zd c (l.take k)=none∨Hn c x < WI c (l.take k)∨(Hn c x=WI c (l.take k)∧QhT c x < KR c (l.take k))):Zd c (l.take (k+1))=some x:=by
  rw[QdZ hx]
  unfold WI KR at h
  cases hb:Zd c (l.take k) with
  | none=>rfl
  | some y=>
    rw[hb] at h
    exact if_pos (h.resolve_left (by simp))
theorem Qir {l:List ZD}(hx:l[k]? =some x)(h0:¬Zd c (l.take k)=none)(h:¬(Hn c x < WI c (l.take k)∨(Hn c x=WI c (l.take k)∧QhT c x < KR c (l.take k)))):Zd c (l.take (k+1))=Zd c (l.take k):=by
  rw[QdZ hx]
  unfold WI KR at h
  cases hb:Zd c (l.take k) with
  | none=>exact absurd hb h0
  | some y=>
    rw[hb] at h
    exact if_neg h
theorem Jy {l:List ZD}{m:Option ZD}(h:Zd c l=m):Xk c l=m.getD ((0,false),0,false)∧Yq c l=oC c m∧WI c l=oF c 0 m∧Vt c l=oF c (-1) m∧KR c l=oS c m:=by
  subst h; exact ⟨rfl,rfl,rfl,rfl,rfl⟩
theorem QmV {l:List ZD}(h:¬Vt c l < 0):WI c l=Vt c l:=by
  unfold Vt at h
  unfold WI Vt
  cases hb:Zd c l with
  | none=>rw[hb] at h; simp[oF] at h
  | some y=>rfl
theorem QmT {l:List ZD}(h:¬Zd c l=none):((Yq c l).2.2.1.length:Int)=KR c l:=by
  unfold Yq KR
  cases hb:Zd c l with
  | none=>exact absurd hb h
  | some y=>rfl
theorem Qdc {l:List ZD}:(Yq c l).1=Xk c l:=by
  unfold Yq Xk
  cases hb:Zd c l <;> rfl
theorem Qaq (hs:SgOk c)(h:x∈QV c):Z3 c x=Hn c x∧Yp c x=QhT c x∧YP c x=true:=by
  obtain ⟨h1,h2⟩:=Ql1 hs h
  have h3:=Qbi h1 h2
  exact ⟨if_pos h3,if_pos h3,h3⟩
theorem Qn7 (hs:SgOk c)(h:x∈QV c):SgOk (Zz c x).1:=QjB (Ql1 hs h).2
def Yz (c:DSg):ZD:=if SgOk c then Xk c (QV c) else ((0,false),0,false)
def KF (c:DSg):Bool:=decide (SgOk c)&&(Zd c (QV c)).isSome
theorem Uy (h:¬SgOk c):Yz c=((0,false),0,false)∧KF c=false:=⟨if_neg h,by unfold KF; rw[az h]; rfl⟩
theorem XD (h:SgOk c):Yz c=Xk c (QV c)∧KF c=(Zd c (QV c)).isSome:=⟨if_pos h,by unfold KF; rw[aI h]; rfl⟩
section
variable {l:List ZD}{y cand:ZD×DSg}{few st:Int}{fnd:Bool}{bx:ZD}
theorem QgW (hx:l[k]? =some x)(hy:y=(x,(Zz c x).1))(hB:cand=Yq c (l.take k)∧few=WI c (l.take k)∧fnd=(Zd c (l.take k)).isSome)
    (h:fnd=false∨((YT y.2).length:Int) < few∨(((YT y.2).length:Int)=few∧(y.2.2.1.length:Int) < (cand.2.2.1.length:Int))):
    y=Yq c (l.take (k+1))∧((YT y.2).length:Int)=WI c (l.take (k+1))∧true=(Zd c (l.take (k+1))).isSome:=by
  obtain ⟨h1,h2,h3⟩:=hB
  subst hy
  have hn:Zd c (l.take (k+1))=some x:=by
    by_cases h0:Zd c (l.take k)=none
    · exact Qa4 hx (.inl h0)
    · refine Qa4 hx (.inr ?_)
      rw[h2,h1,QmT h0] at h
      rcases h with h | h
      · rw [h3] at h; cases hb : Zd c (l.take k) with
        | none=>exact absurd hb h0
        | some z=>rw[hb] at h; cases h
      · exact h
  obtain ⟨_,e2,e3,_,_⟩:=Jy hn
  exact ⟨e2.symm,e3.symm,by rw[hn]; rfl⟩
theorem Ql4 (hx:l[k]? =some x)(hy:y=(x,(Zz c x).1))(hB:cand=Yq c (l.take k)∧few=WI c (l.take k)∧fnd=(Zd c (l.take k)).isSome)
    (h0:fnd=true) (h1:¬((YT y.2).length:Int) < few) (h2:¬(((YT y.2).length:Int)=few∧(y.2.2.1.length:Int) < (cand.2.2.1.length:Int))):
    cand=Yq c (l.take (k+1))∧few=WI c (l.take (k+1))∧true=(Zd c (l.take (k+1))).isSome:=by
  obtain ⟨g1,g2,g3⟩:=hB
  subst hy
  have hne:¬Zd c (l.take k)=none:=fun h=>by rw[g3,h] at h0; cases h0
  have hn:Zd c (l.take (k+1))=Zd c (l.take k):=Qir hx hne fun h=>by
    rw[g2] at h1 h2
    rw[g1,QmT hne] at h2
    rcases h with h | h
    · exact h1 h
    · exact h2 h
  obtain ⟨_,e2,e3,_,_⟩:=Jy hn
  refine ⟨g1.trans ?_,g2.trans ?_,by rw[hn,← g3,h0]⟩
  · rw[e2]; rfl
  · rw[e3]; rfl
theorem QgM (hs:SgOk c)(hm:x∈QV c)(hx:l[k]? =some x)(hB:bx=Xk c (l.take k)∧few=Vt c (l.take k)∧st=KR c (l.take k))
    (h:few < 0∨Z3 c x < few∨(Z3 c x=few∧Yp c x < st)):x=Xk c (l.take (k+1))∧Z3 c x=Vt c (l.take (k+1))∧Yp c x=KR c (l.take (k+1)):=by
  obtain ⟨h1,h2,h3⟩:=hB
  obtain ⟨c1,c2,_⟩:=Qaq hs hm
  rw[c1,c2] at h ⊢
  have hn:Zd c (l.take (k+1))=some x:=by
    by_cases h0:Zd c (l.take k)=none
    · exact Qa4 hx (.inl h0)
    · have hM : ¬ Vt c (l.take k) < 0 := fun h => h0 (Qfx.1 h)
      refine Qa4 hx (.inr ?_)
      rw[QmV hM]
      rw[h2,h3] at h
      exact h.resolve_left hM
  obtain ⟨e1,_,_,e4,e5⟩:=Jy hn
  exact ⟨e1.symm,e4.symm,e5.symm⟩
theorem QlD (hs:SgOk c)(hm:x∈QV c)(hx:l[k]? =some x)(hB:bx=Xk c (l.take k)∧few=Vt c (l.take k)∧st=KR c (l.take k))
    (h0:¬few < 0) (h1:¬Z3 c x < few) (h2':¬(Z3 c x=few∧Yp c x < st)):bx=Xk c (l.take (k+1))∧few=Vt c (l.take (k+1))∧st=KR c (l.take (k+1)):=by
  obtain ⟨g1,g2,g3⟩:=hB
  obtain ⟨c1,c2,_⟩:=Qaq hs hm
  rw[c1] at h1
  rw[c1,c2] at h2'
  have hne:¬Zd c (l.take k)=none:=fun h=>by rw[g2] at h0; exact h0 (Qfx.2 h)
  have hn:Zd c (l.take (k+1))=Zd c (l.take k):=Qir hx hne fun h=>by
    rw[QmV (by rw[← g2]; exact h0),← g2,← g3] at h
    rcases h with h | h
    · exact h1 h
    · exact h2' h
  obtain ⟨e1,_,_,e4,e5⟩:=Jy hn
  refine ⟨g1.trans ?_,g2.trans ?_,g3.trans ?_⟩
  · rw[e1]; rfl
  · rw[e4]; rfl
  · rw[e5]; rfl
theorem K5:decide (0≤Vt c l)=(Zd c l).isSome:=by
  cases h:Zd c l with
  | none=>unfold Vt; rw[h]; rfl
  | some y=>unfold Vt; rw[h]; exact aI (QmS y)
theorem Qfd {P:List (ZD×DSg)}(hx:L[i]? =some b)(h1:Ty.beq Qw a b=false)(h:(Zz c (a,b)).2=true):(P++YX c (KE c a (L.take i)))++[((a,b),(Zz c (a,b)).1)]=P++YX c (KE c a (L.take (i+1))):=by
  rw[← Qc9 hx h1 h,YX,YX,bh,aM]; rfl
end
end
theorem U5 (c:(List (ByteArray×Int))×List ByteArray×(List (Int×Int×Bool×Int)))(hl:c.1.length≤100000):FC Tryz.prog 184 [(true,[.dat Qo c.1, .dat Qr c.2.1, .dat QD c.2.2])] [] 0 (Xe 55 Qw (QY c.1.length)):=by
 refine Qy Tryz.func184 rfl rfl Tryz.ntmps184 fun O_ hO w0_ N0_ X_ h0_ f0_=> ?_
 refine w_ ?_
 refine xbx 0 ?_
 iterate 3 refine w_ ?_
 refine lc (dBs 1 (e:=Qw) Ys) ?_
 iterate 6 refine w_ ?_
 refine AL.fact (Qp (x:= .tmp 7) (Qa rfl)) fun hl1=> ?_
 iterate 4 refine w_ ?_
 refine Qm (fun m_ s_=>∃(k:Nat),k≤c.1.length∧m_=c.1.length - k∧s_=⟨[(2,lf (.val (.slice none 0 0))),(3,lR 2),(8,lI (c.1.length:Int)),(9,lI (k:Int))],[(2,some (.arr 55 Qw (QY k)))]⟩) ⟨0,ap _,rfl,rfl⟩ ?_ ?_
 exact wp [(2,1)] ⟨(Qh (rfl)),trivial⟩
 rintro m_ s_ ⟨k,hk2,hm3,rfl⟩
 have hll:=Wm (k:=k)
 iterate 4 refine w_ ?_
 cases hb4:(decide ((k:Int) < (c.1.length:Int)))
 have hb4':=a6 hb4
 iterate 8 refine w_ ?_
 subst hO
 refine Zc (e:=Qw) (xs:=(QY k)) (Res.one rfl (Qb rfl)) rfl ?_
 (congr 1; omega)
 have hb4':=a7 hb4
 iterate 11 refine w_ ?_
 refine lc (Qi XM ⟨_,_,rfl,(Qf rfl),⟨_,_,rfl,(Evl.ev Zg),rfl⟩⟩ (ah.1 rfl) rfl rfl) ?_
 refine w_ ?_
 refine lc (Qi XM ⟨_,_,rfl,(Qf rfl),⟨_,_,rfl,(Evl.ev Zg),rfl⟩⟩ (ah.1 rfl) rfl rfl) ?_
 refine lc (dBs 3 (e:=Qw) Ys (hab:=by exact ⟨_,_,_,_,rfl,⟨[dI (k:Int)],[dB false],_,_,_,_,rfl,rfl,⟨rfl,rfl⟩,⟨rfl,rfl⟩,rfl⟩,⟨_,_,_,_,rfl,⟨[dI (k:Int)],[dB true],_,_,_,_,rfl,rfl,⟨rfl,rfl⟩,⟨rfl,rfl⟩,rfl⟩,⟨rfl,rfl⟩,rfl⟩,rfl⟩)) ?_
 refine lc (dA 4 Qaa) ?_
 refine w_ ?_
 refine Qc ?_
 iterate 4 refine w_ ?_
 refine Qc<|QE ⟨k+1,by omega,rfl,rfl⟩ (by omega) ?_
 exact wp [(2,4)] ⟨(Qh (Qe7)),trivial⟩
theorem Uo (c:(List (ByteArray×Int))×List ByteArray×(List (Int×Int×Bool×Int)))(hl:c.1.length≤100000):FC Tryz.prog 185 [(true,[.dat Qo c.1, .dat Qr c.2.1, .dat QD c.2.2])] [] 0 (Xe 55 Qw (QY c.1.length)):=by
 refine Qy Tryz.func185 rfl rfl Tryz.ntmps185 fun O_ hO w0_ N0_ X_ h0_ f0_=> ?_
 refine w_ ?_
 refine xbx 0 ?_
 iterate 9 refine w_ ?_
 refine AL.fact (Qp (x:= .tmp 6) (Qa rfl)) fun hl1=> ?_
 iterate 4 refine w_ ?_
 refine AC.wk (Wk.nilS 1 3 55 Qw rfl (Fresh.of rfl) (nlr rfl)) ?_
 refine Qm (fun m_ s_=>∃(k:Nat),k≤c.1.length∧m_=c.1.length - k∧s_=⟨[(2,lf (.val (.slice none 0 0))),(3,lR 2),(7,lI (c.1.length:Int)),(8,lI (k:Int))],[(2,some (.arr 55 Qw (QY k)))]⟩) ⟨0,ap _,rfl,rfl⟩ ?_ ?_
 exact wp [(2,1)] ⟨(Qh (rfl)),trivial⟩
 rintro m_ s_ ⟨k,hk2,hm3,rfl⟩
 have hll:=Wm (k:=k)
 iterate 4 refine w_ ?_
 cases hb4:(decide ((k:Int) < (c.1.length:Int)))
 have hb4':=a6 hb4
 iterate 8 refine w_ ?_
 subst hO
 refine Zc (e:=Qw) (xs:=(QY k)) (Res.one rfl (Qb rfl)) rfl ?_
 (congr 1; omega)
 have hb4':=a7 hb4
 iterate 11 refine w_ ?_
 refine lc (Qi XM ⟨_,_,rfl,(Qf rfl),rfl⟩ (ah.1 rfl) rfl rfl) ?_
 refine w_ ?_
 refine lc (Qi XM ⟨_,_,rfl,(Qf rfl),⟨_,_,rfl,(Evl.ev Zg),rfl⟩⟩ (ah.1 rfl) rfl rfl) ?_
 refine lc (dBs 3 (e:=Qw) Ys (hab:=by exact ⟨_,_,_,_,rfl,⟨[dI (k:Int)],[dB false],_,_,_,_,rfl,rfl,⟨rfl,rfl⟩,⟨rfl,rfl⟩,rfl⟩,⟨_,_,_,_,rfl,⟨[dI (k:Int)],[dB true],_,_,_,_,rfl,rfl,⟨rfl,rfl⟩,⟨rfl,rfl⟩,rfl⟩,⟨rfl,rfl⟩,rfl⟩,rfl⟩)) ?_
 refine lc (dA 4 Qaa) ?_
 refine w_ ?_
 refine Qc ?_
 iterate 4 refine w_ ?_
 refine Qc<|QE ⟨k+1,by omega,rfl,rfl⟩ (by omega) ?_
 exact wp [(2,4)] ⟨(Qh (Qe7)),trivial⟩
theorem VU (c:(List (ByteArray×Int))×List ByteArray×(List (Int×Int×Bool×Int)))[∀c,Decidable (SgOk c)][∀s,Decidable (Zq s)](hs:SgOk c):FC Tryz.prog 92 [(true,[.dat Qo c.1, .dat Qr c.2.1, .dat QD c.2.2])] [] 0 (Xe 132 Qfb (YX c (QV c))):=by
 have hs8:=hs.sigs.2.2
 have hll:=Wm (k:=c.1.length)
 have hcf:=Qan (c:=c) hs8
 refine Qy Tryz.func92 rfl rfl Tryz.ntmps92 fun O_ hO w0_ N0_ X_ h0_ f0_=> ?_
 refine w_ ?_
 refine xbx 0 ?_
 iterate 3 refine w_ ?_
 refine lc (dBs 1 (e:=Qfb) Uj) ?_
 iterate 5 refine w_ ?_
 refine lc (dK (U5 c (by omega)).frozen Qfa) ?_
 refine AL.fact (Qp (x:= .tmp 12) (Qa rfl)) fun hl1=> ?_
 iterate 4 refine w_ ?_
 refine Qm (fun m_ s_=>∃(k:Nat),k≤(QY c.1.length).length∧m_=(QY c.1.length).length - k∧s_=⟨[(1,lP 0 0),(2,lf (.val (.slice none 0 0))),(3,lR 2),(12,lf (.dat YQ (QY c.1.length))),(13,lI ((QY c.1.length).length:Int)),(14,lI (k:Int))],[(0,some (.box 52 [.dat Qo c.1, .dat Qr c.2.1, .dat QD c.2.2])),(2,some (.arr 132 Qfb (YX c (Hk c (QY c.1.length) ((QY c.1.length).take k)))))]⟩) ⟨0,ap _,rfl,rfl⟩ ?_ ?_
 exact wp [(2,1)] ⟨rfl,(Qh (rfl)),trivial⟩
 rintro m_ s_ ⟨k,hk2,hm3,rfl⟩
 have htk:((QY c.1.length).take k).length≤16:=by simp only[ak]; omega
 have hck:=hcf _ htk
 have hwl:=JK (c:=c) (Hk c (QY c.1.length) ((QY c.1.length).take k))
 iterate 4 refine w_ ?_
 cases hb4:(decide ((k:Int) < ((QY c.1.length).length:Int)))
 have hb4':=a6 hb4
 iterate 8 refine w_ ?_
 subst hO
 refine Zc (e:=Qfb) (xs:=(YX c (Hk c (QY c.1.length) ((QY c.1.length).take k)))) (Res.one rfl (Qb rfl)) rfl ?_
 ·(rw[QN (by omega)]; done)
 have hb4':=a7 hb4
 iterate 5 refine w_ ?_
 obtain ⟨a,hx6⟩:=gx (QY c.1.length) k
 iterate 2 refine w_ ?_
 refine lc (xal 3 Qw Ys) ?_
 iterate 4 refine w_ ?_
 refine lc (dK (U5 c (by omega)).frozen Qfa) ?_
 refine AL.fact (Qp (x:= .tmp 19) (Qa rfl)) fun hl7=> ?_
 iterate 4 refine w_ ?_
 refine Qm (fun m_ s_=>∃(i:Nat),i≤(QY c.1.length).length∧m_=(QY c.1.length).length - i∧s_=⟨[(1,lP 0 0),(2,lf (.val (.slice none 0 0))),(3,lR 4),(5,lP 3 0),(12,lf (.dat YQ (QY c.1.length))),(13,lI ((QY c.1.length).length:Int)),(14,lI (k:Int)),(15,lB true),(16,lf (.elt Qw a 0)),(17,ag [dI a.1,dB a.2]),(18,ag [.dat Qo c.1, .dat Qr c.2.1, .dat QD c.2.2]),(19,lf (.dat YQ (QY c.1.length))),(20,lI ((QY c.1.length).length:Int)),(21,lI (i:Int))],[(0,some (.box 52 [.dat Qo c.1, .dat Qr c.2.1, .dat QD c.2.2])),(3,some (.box 55 [dI a.1,dB a.2])),(4,some (.arr 132 Qfb (YX c (Hk c (QY c.1.length) ((QY c.1.length).take k))++YX c (KE c a ((QY c.1.length).take i)))))]⟩) ⟨0,ap _,rfl,rfl⟩ ?_ ?_
 exact wp [(4,2)] ⟨rfl,rfl,(Qh ((bo _).symm)),trivial⟩
 rintro m_ s_ ⟨i,hk8,hm9,rfl⟩
 have hwr:=JK (c:=c) (KE c a ((QY c.1.length).take i))
 have hrl:=Qgv (c:=c) (a:=a) (L:=(QY c.1.length).take i)
 have hti:((QY c.1.length).take i).length≤16:=by simp only[ak]; omega
 iterate 4 refine w_ ?_
 cases hb10:(decide ((i:Int) < ((QY c.1.length).length:Int)))
 have hb10':=a6 hb10
 iterate 6 refine w_ ?_
 refine Qc<|QE ⟨k+1,by omega,rfl,rfl⟩ (by omega) ?_
 exact wp [(2,4)] ⟨rfl,(Qh ((by rw[QN (l:=QY c.1.length) (k:=i) (by omega),← Qi4 hx6,YX,YX,YX,bh]))),trivial⟩
 have hb10':=a7 hb10
 iterate 5 refine w_ ?_
 obtain ⟨b,hx12⟩:=gx (QY c.1.length) i
 iterate 2 refine w_ ?_
 refine lc (xal 5 Qw Ys) ?_
 iterate 6 refine w_ ?_
 refine lc (U4 Ux Jw (Qf rfl) (Qf rfl) (p:=a) (q:=b) rfl rfl rfl) ?_
 refine w_ ?_
 cases hb13:(Ty.beq Qw a b)
 iterate 6 refine w_ ?_
 refine lc (Qi KK ⟨_,_,rfl,(Qf rfl),⟨_,_,rfl,(Qf rfl),rfl⟩⟩ (ah.1 rfl) rfl rfl) ?_
 refine lc (dG 6 (Hw c (a,b) hs) Qf7) ?_
 iterate 3 refine w_ ?_
 refine lc (xal 9 Wu ZS) ?_
 iterate 6 refine w_ ?_
 cases hb14:((Zz c (a,b)).2)
 iterate 6 refine w_ ?_
 refine Qc<|QE ⟨i+1,by omega,rfl,rfl⟩ (by omega) ?_
 exact wp [] ⟨rfl,rfl,(Qh (by first | exact Qfd hx12 ‹_› ‹_› | rw[JT hx12 ‹_›] | rw[JQ hx12 ‹_›])),trivial⟩
 iterate 5 refine w_ ?_
 refine lc (Qi KK ⟨_,_,rfl,(Qf rfl),⟨_,_,rfl,(Qf rfl),rfl⟩⟩ (ah.1 rfl) rfl rfl) ?_
 refine w_ ?_
 refine lc (Qi QlU ⟨_,_,rfl,(Qf rfl),⟨_,_,rfl,(Qf rfl),rfl⟩⟩ (ah.1 rfl) rfl rfl) ?_
 refine lc (dBs 10 (e:=Qfb) Uj (hab:=by exact ⟨_,_,_,_,rfl,⟨[dI a.1,dB a.2,dI b.1,dB b.2],[.ref 6, .ref 7, .ref 8],_,_,_,_,rfl,rfl,⟨[dI a.1,dB a.2],[dI b.1,dB b.2],_,_,_,_,rfl,rfl,⟨[dI a.1],[dB a.2],_,_,_,_,rfl,rfl,⟨rfl,rfl⟩,⟨rfl,rfl⟩,rfl⟩,⟨[dI b.1],[dB b.2],_,_,_,_,rfl,rfl,⟨rfl,rfl⟩,⟨rfl,rfl⟩,rfl⟩,rfl⟩,⟨[.ref 6],[.ref 7, .ref 8],_,_,_,_,rfl,rfl,(.inl ⟨_,rfl,rfl,rfl⟩),⟨[.ref 7],[.ref 8],_,_,_,_,rfl,rfl,(.inl ⟨_,rfl,rfl,rfl⟩),(.inl ⟨_,rfl,rfl,rfl⟩),rfl⟩,rfl⟩,rfl⟩,⟨rfl,rfl⟩,rfl⟩)) ?_
 refine lc (dA 11 Qsh) ?_
 refine w_ ?_
 refine Qc ?_
 iterate 4 refine w_ ?_
 refine Qc<|QE ⟨i+1,by omega,rfl,rfl⟩ (by omega) ?_
 exact wp [(4,11)] ⟨rfl,rfl,(Qh (by first | exact Qfd hx12 ‹_› ‹_› | rw[JT hx12 ‹_›] | rw[JQ hx12 ‹_›])),trivial⟩
 iterate 6 refine w_ ?_
 refine Qc<|QE ⟨i+1,by omega,rfl,rfl⟩ (by omega) ?_
 exact wp [] ⟨rfl,rfl,(Qh (by first | exact Qfd hx12 ‹_› ‹_› | rw[JT hx12 ‹_›] | rw[JQ hx12 ‹_›])),trivial⟩
theorem VA (c:(List (ByteArray×Int))×List ByteArray×(List (Int×Int×Bool×Int)))[∀c,Decidable (SgOk c)][∀s,Decidable (Zq s)]:FC Tryz.prog 24 [(true,[.dat Qo c.1, .dat Qr c.2.1, .dat QD c.2.2])] [] 0 (Is (PV.tup [(false,[.ref 0]),(false,[dB (decide (SgOk c))])]) [(0,some (.arr 57 YW (if SgOk c then QV c else [])))]):=by
 refine Qy Tryz.func24 rfl rfl Tryz.ntmps24 fun O_ hO w0_ N0_ X_ h0_ f0_=> ?_
 refine w_ ?_
 refine xbx 0 ?_
 iterate 6 refine w_ ?_
 refine lc (dK (ZB c) U3) ?_
 iterate 2 refine w_ ?_
 cases hb1:(decide (SgOk c))
 have hb1':=a6 hb1
 iterate 5 refine w_ ?_
 refine AC.wk (Wk.nilS 1 2 57 YW rfl (Fresh.of rfl) (nlr rfl))<|Zf ?_
 subst hO
 have e2:(false:Bool)=(decide (SgOk c)):=by
  (exact (az ‹_›).symm)
 exact QF _ _ [(0,1)] (QM rfl (Qb rfl) (Qb rfl)) (by rw[← e2] <;> rfl) ⟨(Qh (by (rw[if_neg ‹_›]; done))),trivial⟩ rfl rfl
 have hb1':=a7 hb1
 iterate 2 refine w_ ?_
 refine Yd ?_
 have hs:SgOk c:=by assumption
 have hs8:=hs.sigs.2.2
 have hll:=Wm (k:=c.1.length)
 have hcf:=Qan (c:=c) hs8
 have hcl:(QV c).length≤256:=hcf (QY c.1.length) (by omega)
 have hwl:=JK (c:=c) (QV c)
 refine w_ ?_
 refine lc (dBs 2 (e:=YW) WC) ?_
 iterate 5 refine w_ ?_
 refine lc (dK (VU c hs).frozen QfV) ?_
 refine AL.fact (Qp (x:= .tmp 12) (Qa rfl)) fun hl3=> ?_
 iterate 4 refine w_ ?_
 refine Qm (fun m_ s_=>∃(k:Nat),k≤(YX c (QV c)).length∧m_=(YX c (QV c)).length - k∧s_=⟨[(2,lf (.val (.slice none 0 0))),(3,lB false),(4,lR 3),(12,lf (.dat Quy (YX c (QV c)))),(13,lI ((YX c (QV c)).length:Int)),(14,lI (k:Int))],[(3,some (.arr 57 YW ((QV c).take k)))]⟩) ⟨0,ap _,rfl,rfl⟩ ?_ ?_
 exact wp [(3,2)] ⟨(Qh (rfl)),trivial⟩
 rintro m_ s_ ⟨k,hk4,hm5,rfl⟩
 have htk:((QV c).take k).length≤256:=by simp only[ak]; omega
 iterate 4 refine w_ ?_
 cases hb6:(decide ((k:Int) < ((YX c (QV c)).length:Int)))
 have hb6':=a6 hb6
 iterate 9 refine w_ ?_
 subst hO
 have e7:(true:Bool)=(decide (SgOk c)):=by
  (exact (aI hs).symm)
 exact QF _ _ [(0,3)] (QM rfl (Qb rfl) (Qb rfl)) (by rw[← e7] <;> rfl) ⟨(Qh (by (rw[if_pos hs,QN (by omega)]; done))),trivial⟩ rfl rfl
 have hb6':=a7 hb6
 iterate 5 refine w_ ?_
 obtain ⟨z,hx9⟩:=gx (YX c (QV c)) k
 obtain ⟨xk,hxk,hzk⟩:=QhW hx9
 iterate 2 refine w_ ?_
 refine lc (xal 4 Qfb Uj) ?_
 iterate 6 refine w_ ?_
 refine lc (dBs 5 (e:=YW) WC (hab:=by exact ⟨_,_,_,_,rfl,⟨[dI z.1.1.1,dB z.1.1.2],[dI z.1.2.1,dB z.1.2.2],_,_,_,_,rfl,rfl,⟨[dI z.1.1.1],[dB z.1.1.2],_,_,_,_,rfl,rfl,⟨rfl,rfl⟩,⟨rfl,rfl⟩,rfl⟩,⟨[dI z.1.2.1],[dB z.1.2.2],_,_,_,_,rfl,rfl,⟨rfl,rfl⟩,⟨rfl,rfl⟩,rfl⟩,rfl⟩,⟨rfl,rfl⟩,rfl⟩)) ?_
 refine lc (dA 6 QqY) ?_
 refine w_ ?_
 refine Qc ?_
 iterate 4 refine w_ ?_
 refine Qc<|QE ⟨k+1,by omega,rfl,rfl⟩ (by omega) ?_
 exact wp [(3,6)] ⟨(Qh ((by rw[QO hxk,hzk]))),trivial⟩
theorem VY (c:(List (ByteArray×Int))×List ByteArray×(List (Int×Int×Bool×Int)))[∀c,Decidable (SgOk c)][∀s,Decidable (Zq s)](hs:SgOk c):FC Tryz.prog 93 [(true,[.dat Qo c.1, .dat Qr c.2.1, .dat QD c.2.2])] [] 0 (Xe 57 YW (QV c)):=by
 have hs8:=hs.sigs.2.2
 have hll:=Wm (k:=c.1.length)
 have hcf:=Qan (c:=c) hs8
 refine Qy Tryz.func93 rfl rfl Tryz.ntmps93 fun O_ hO w0_ N0_ X_ h0_ f0_=> ?_
 refine w_ ?_
 refine xbx 0 ?_
 iterate 8 refine w_ ?_
 refine lc (dK (Uo c (by omega)).frozen QeL) ?_
 refine AL.fact (Qp (x:= .tmp 11) (Qa rfl)) fun hl1=> ?_
 iterate 4 refine w_ ?_
 refine AC.wk (Wk.nilS 1 3 57 YW rfl (Fresh.of rfl) (nlr rfl)) ?_
 refine Qm (fun m_ s_=>∃(k:Nat),k≤(QY c.1.length).length∧m_=(QY c.1.length).length - k∧s_=⟨[(1,lP 0 0),(2,lf (.val (.slice none 0 0))),(3,lR 2),(11,lf (.dat YQ (QY c.1.length))),(12,lI ((QY c.1.length).length:Int)),(13,lI (k:Int))],[(0,some (.box 52 [.dat Qo c.1, .dat Qr c.2.1, .dat QD c.2.2])),(2,some (.arr 57 YW (Hk c (QY c.1.length) ((QY c.1.length).take k))))]⟩) ⟨0,ap _,rfl,rfl⟩ ?_ ?_
 exact wp [(2,1)] ⟨rfl,(Qh (rfl)),trivial⟩
 rintro m_ s_ ⟨k,hk2,hm3,rfl⟩
 have htk:((QY c.1.length).take k).length≤16:=by simp only[ak]; omega
 have hck:=hcf _ htk
 iterate 4 refine w_ ?_
 cases hb4:(decide ((k:Int) < ((QY c.1.length).length:Int)))
 have hb4':=a6 hb4
 iterate 8 refine w_ ?_
 subst hO
 refine Zc (e:=YW) (xs:=(Hk c (QY c.1.length) ((QY c.1.length).take k))) (Res.one rfl (Qb rfl)) rfl ?_
 ·(rw[QN (by omega)]; done)
 have hb4':=a7 hb4
 iterate 5 refine w_ ?_
 obtain ⟨a,hx6⟩:=gx (QY c.1.length) k
 iterate 2 refine w_ ?_
 refine lc (xal 3 Qw Ys) ?_
 iterate 4 refine w_ ?_
 refine lc (dK (Uo c (by omega)).frozen QeL) ?_
 refine AL.fact (Qp (x:= .tmp 18) (Qa rfl)) fun hl7=> ?_
 iterate 4 refine w_ ?_
 refine Qm (fun m_ s_=>∃(i:Nat),i≤(QY c.1.length).length∧m_=(QY c.1.length).length - i∧s_=⟨[(1,lP 0 0),(2,lf (.val (.slice none 0 0))),(3,lR 4),(5,lP 3 0),(11,lf (.dat YQ (QY c.1.length))),(12,lI ((QY c.1.length).length:Int)),(13,lI (k:Int)),(14,lB true),(15,lf (.elt Qw a 0)),(16,ag [dI a.1,dB a.2]),(17,ag [.dat Qo c.1, .dat Qr c.2.1, .dat QD c.2.2]),(18,lf (.dat YQ (QY c.1.length))),(19,lI ((QY c.1.length).length:Int)),(20,lI (i:Int))],[(0,some (.box 52 [.dat Qo c.1, .dat Qr c.2.1, .dat QD c.2.2])),(3,some (.box 55 [dI a.1,dB a.2])),(4,some (.arr 57 YW (Hk c (QY c.1.length) ((QY c.1.length).take k)++KE c a ((QY c.1.length).take i))))]⟩) ⟨0,ap _,rfl,rfl⟩ ?_ ?_
 exact wp [(4,2)] ⟨rfl,rfl,(Qh ((bo _).symm)),trivial⟩
 rintro m_ s_ ⟨i,hk8,hm9,rfl⟩
 have hrl:=Qgv (c:=c) (a:=a) (L:=(QY c.1.length).take i)
 have hti:((QY c.1.length).take i).length≤16:=by simp only[ak]; omega
 iterate 4 refine w_ ?_
 cases hb10:(decide ((i:Int) < ((QY c.1.length).length:Int)))
 have hb10':=a6 hb10
 iterate 6 refine w_ ?_
 refine Qc<|QE ⟨k+1,by omega,rfl,rfl⟩ (by omega) ?_
 exact wp [(2,4)] ⟨rfl,(Qh ((by rw[QN (l:=QY c.1.length) (k:=i) (by omega),Qi4 hx6]))),trivial⟩
 have hb10':=a7 hb10
 iterate 5 refine w_ ?_
 obtain ⟨b,hx12⟩:=gx (QY c.1.length) i
 iterate 2 refine w_ ?_
 refine lc (xal 5 Qw Ys) ?_
 iterate 6 refine w_ ?_
 refine lc (U4 Ux Jw (Qf rfl) (Qf rfl) (p:=a) (q:=b) rfl rfl rfl) ?_
 refine w_ ?_
 cases hb13:(Ty.beq Qw a b)
 iterate 6 refine w_ ?_
 refine lc (Qi KK ⟨_,_,rfl,(Qf rfl),⟨_,_,rfl,(Qf rfl),rfl⟩⟩ (ah.1 rfl) rfl rfl) ?_
 refine lc (dG 6 (KN c (a,b) hs) QeD) ?_
 iterate 3 refine w_ ?_
 refine lc (xal 9 Wu ZS) ?_
 iterate 6 refine w_ ?_
 cases hb14:((Zz c (a,b)).2)
 iterate 6 refine w_ ?_
 refine Qc<|QE ⟨i+1,by omega,rfl,rfl⟩ (by omega) ?_
 exact wp [] ⟨rfl,rfl,(Qh (by first | rw[aM,Qc9 hx12 ‹_› ‹_›] | rw[JT hx12 ‹_›] | rw[JQ hx12 ‹_›])),trivial⟩
 iterate 5 refine w_ ?_
 refine lc (Qi KK ⟨_,_,rfl,(Qf rfl),⟨_,_,rfl,(Qf rfl),rfl⟩⟩ (ah.1 rfl) rfl rfl) ?_
 refine lc (dBs 10 (e:=YW) WC (hab:=by exact ⟨_,_,_,_,rfl,⟨[dI a.1,dB a.2],[dI b.1,dB b.2],_,_,_,_,rfl,rfl,⟨[dI a.1],[dB a.2],_,_,_,_,rfl,rfl,⟨rfl,rfl⟩,⟨rfl,rfl⟩,rfl⟩,⟨[dI b.1],[dB b.2],_,_,_,_,rfl,rfl,⟨rfl,rfl⟩,⟨rfl,rfl⟩,rfl⟩,rfl⟩,⟨rfl,rfl⟩,rfl⟩)) ?_
 refine lc (dA 11 QqY) ?_
 refine w_ ?_
 refine Qc ?_
 iterate 4 refine w_ ?_
 refine Qc<|QE ⟨i+1,by omega,rfl,rfl⟩ (by omega) ?_
 exact wp [(4,11)] ⟨rfl,rfl,(Qh (by first | rw[aM,Qc9 hx12 ‹_› ‹_›] | rw[JT hx12 ‹_›] | rw[JQ hx12 ‹_›])),trivial⟩
 iterate 6 refine w_ ?_
 refine Qc<|QE ⟨i+1,by omega,rfl,rfl⟩ (by omega) ?_
 exact wp [] ⟨rfl,rfl,(Qh (by first | rw[aM,Qc9 hx12 ‹_› ‹_›] | rw[JT hx12 ‹_›] | rw[JQ hx12 ‹_›])),trivial⟩
theorem Xg (c:(List (ByteArray×Int))×List ByteArray×(List (Int×Int×Bool×Int)))[∀c,Decidable (SgOk c)][∀s,Decidable (Zq s)]:FC Tryz.prog 25 [(true,[.dat Qo c.1, .dat Qr c.2.1, .dat QD c.2.2])] [] 0 (Is (PV.tup [(false,[.ref 0]),(false,[dB (decide (SgOk c))])]) [(0,some (.arr 57 YW (if SgOk c then QV c else [])))]):=by
 refine Qy Tryz.func25 rfl rfl Tryz.ntmps25 fun O_ hO w0_ N0_ X_ h0_ f0_=> ?_
 refine w_ ?_
 refine xbx 0 ?_
 iterate 6 refine w_ ?_
 refine lc (dK (Yn c) WR) ?_
 iterate 2 refine w_ ?_
 cases hb1:(decide (SgOk c))
 have hb1':=a6 hb1
 iterate 5 refine w_ ?_
 refine AC.wk (Wk.nilS 1 2 57 YW rfl (Fresh.of rfl) (nlr rfl))<|Zf ?_
 subst hO
 have e2:(false:Bool)=(decide (SgOk c)):=by
  (exact (az ‹_›).symm)
 exact QF _ _ [(0,1)] (QM rfl (Qb rfl) (Qb rfl)) (by rw[← e2] <;> rfl) ⟨(Qh (by (rw[if_neg ‹_›]; done))),trivial⟩ rfl rfl
 have hb1':=a7 hb1
 iterate 4 refine w_ ?_
 refine lc (dO 2 (VY c ‹_›) Qf6) ?_
 iterate 4 refine w_ ?_
 subst hO
 have e3:(true:Bool)=(decide (SgOk c)):=by
  (exact (aI ‹_›).symm)
 exact QF _ _ [(0,2)] (QM rfl (Qb rfl) (Qb rfl)) (by rw[← e3] <;> rfl) ⟨(Qh (by (rw[if_pos ‹_›]; done))),trivial⟩ rfl rfl
theorem Qhf (c:(List (ByteArray×Int))×List ByteArray×(List (Int×Int×Bool×Int)))[∀c,Decidable (SgOk c)][∀s,Decidable (Zq s)](hs:SgOk c):FC Tryz.prog 89 [(true,[.dat Qo c.1, .dat Qr c.2.1, .dat QD c.2.2])] [] 0 (Zk (PV.tup [(true,[dI ((((Yq c (QV c)).1).1).1),dB ((((Yq c (QV c)).1).1).2),dI ((((Yq c (QV c)).1).2).1),dB ((((Yq c (QV c)).1).2).2), .dat Qo (((Yq c (QV c)).2).1), .dat Qr (((Yq c (QV c)).2).2.1), .dat QD (((Yq c (QV c)).2).2.2)]),(false,[dI (WI c (QV c))]),(false,[dB ((Zd c (QV c)).isSome)])])):=by
 have hs8:=hs.sigs.2.2
 have hll:=Wm (k:=c.1.length)
 have hcf:=Qan (c:=c) hs8
 have hcl:(QV c).length≤256:=hcf (QY c.1.length) (by omega)
 have hwl:=JK (c:=c) (QV c)
 refine Qy Tryz.func89 rfl rfl Tryz.ntmps89 fun O_ hO w0_ N0_ X_ h0_ f0_=> ?_
 refine w_ ?_
 refine xbx 0 ?_
 refine lc (xal 1 Qfb Uj) ?_
 iterate 4 refine w_ ?_
 refine lc (Qi QlU rfl (ah.1 rfl) rfl rfl)<|lc (xal 2 Qfb Uj) ?_
 iterate 7 refine w_ ?_
 refine lc (dK (VU c hs).frozen QfV) ?_
 refine AL.fact (Qp (x:= .tmp 13) (Qa rfl)) fun hl1=> ?_
 iterate 4 refine w_ ?_
 refine AC.wk (QrH (p:=2) [dI 0,dB false,dI 0,dB false, .dat Qo ([]), .dat Qr ([]), .dat QD ([])] rfl ⟨_,_,rfl, .inl rfl,⟨_,_,rfl, .inl rfl,⟨_,_,rfl, .inl rfl,⟨_,_,rfl, .inl rfl,⟨_,_,rfl, .inr ⟨_,_,rfl,rfl⟩,⟨_,_,rfl, .inr ⟨_,_,rfl,rfl⟩,⟨_,_,rfl, .inr ⟨_,_,rfl,rfl⟩,rfl⟩⟩⟩⟩⟩⟩⟩) ?_
 refine Qm (fun m_ s_=>∃(k:Nat) (cand:((Int×Bool)×(Int×Bool))×((List (ByteArray×Int))×List ByteArray×(List (Int×Int×Bool×Int)))) (few:Int) (fnd:Bool),k≤(YX c (QV c)).length∧m_=(YX c (QV c)).length - k∧(cand=Yq c ((QV c).take k)∧few=WI c ((QV c).take k)∧fnd=(Zd c ((QV c).take k)).isSome)∧s_=⟨[(2,lP 1 0),(3,lI 0),(4,lB false),(5,lP 2 0),(6,lI few),(7,lB fnd),(13,lf (.dat Quy (YX c (QV c)))),(14,lI ((YX c (QV c)).length:Int)),(15,lI (k:Int))],[(1,some (.box 132 [dI 0,dB false,dI 0,dB false, .val (.slice none 0 0), .val (.slice none 0 0), .val (.slice none 0 0)])),(2,some (.box 132 [dI cand.1.1.1,dB cand.1.1.2,dI cand.1.2.1,dB cand.1.2.2, .dat Qo cand.2.1, .dat Qr cand.2.2.1, .dat QD cand.2.2.2]))]⟩) ⟨0,(((0,false),(0,false)),(([]:(Qo:Ty).Den),([]:(Qr:Ty).Den),([]:(QD:Ty).Den))),0,false,ap _,rfl,⟨rfl,rfl,rfl⟩,rfl⟩ ?_ ?_
 exact wo []
 rintro m_ s_ ⟨k,cand,few,fnd,hk2,hm3,hB,rfl⟩
 iterate 4 refine w_ ?_
 cases hb4:(decide ((k:Int) < ((YX c (QV c)).length:Int)))
 have hb4':=a6 hb4
 iterate 12 refine w_ ?_
 subst hO
 have e5:(cand.1.1.1:Int)=((((Yq c (QV c)).1).1).1):=by
  (rw[QN (by omega)] at hB; first | rw[hB.1] | rw[hB.2.1] | rw[hB.2.2])
 have e6:(cand.1.1.2:Bool)=((((Yq c (QV c)).1).1).2):=by
  (rw[QN (by omega)] at hB; first | rw[hB.1] | rw[hB.2.1] | rw[hB.2.2])
 have e7:(cand.1.2.1:Int)=((((Yq c (QV c)).1).2).1):=by
  (rw[QN (by omega)] at hB; first | rw[hB.1] | rw[hB.2.1] | rw[hB.2.2])
 have e8:(cand.1.2.2:Bool)=((((Yq c (QV c)).1).2).2):=by
  (rw[QN (by omega)] at hB; first | rw[hB.1] | rw[hB.2.1] | rw[hB.2.2])
 have e9:(cand.2.1:(Qo:Ty).Den)=(((Yq c (QV c)).2).1):=by
  (rw[QN (by omega)] at hB; first | rw[hB.1] | rw[hB.2.1] | rw[hB.2.2])
 have e10:(cand.2.2.1:(Qr:Ty).Den)=(((Yq c (QV c)).2).2.1):=by
  (rw[QN (by omega)] at hB; first | rw[hB.1] | rw[hB.2.1] | rw[hB.2.2])
 have e11:(cand.2.2.2:(QD:Ty).Den)=(((Yq c (QV c)).2).2.2):=by
  (rw[QN (by omega)] at hB; first | rw[hB.1] | rw[hB.2.1] | rw[hB.2.2])
 have e12:(few:Int)=(WI c (QV c)):=by
  (rw[QN (by omega)] at hB; first | rw[hB.1] | rw[hB.2.1] | rw[hB.2.2])
 have e13:(fnd:Bool)=((Zd c (QV c)).isSome):=by
  (rw[QN (by omega)] at hB; first | rw[hB.1] | rw[hB.2.1] | rw[hB.2.2])
 exact Qe (Zu rfl (Qz rfl rfl Qr4 rfl) (Qb rfl) (Qb rfl)) (by rw[e5,e6,e7,e8,e9,e10,e11,← e12,← e13] <;> rfl) rfl
 have hb4':=a7 hb4
 iterate 5 refine w_ ?_
 obtain ⟨z,hx15⟩:=gx (YX c (QV c)) k
 obtain ⟨xk,hxk,hzk⟩:=QhW hx15
 iterate 2 refine w_ ?_
 refine lc (xal 3 Qfb Uj) ?_
 iterate 5 refine w_ ?_
 refine lc (dK (Un z.2 (by rw[hzk]; exact SgOk.w (Qn7 hs (a8 hxk)))) Qgf) ?_
 refine AL.fact (Qp (x:= .tmp 21) (Qa rfl)) fun hl16=> ?_
 iterate 7 refine w_ ?_
 cases hb17:(fnd)
 iterate 9 refine w_ ?_
 refine Qg rfl rfl rfl ?_ rfl
 refine Qg rfl rfl rfl ?_ rfl
 refine Qg rfl rfl rfl ?_ rfl
 refine Qg rfl rfl rfl ?_ rfl
 refine Qg rfl rfl rfl ?_ rfl
 refine Qg rfl rfl rfl ?_ rfl
 refine Qg rfl rfl rfl ?_ rfl
 refine Qg rfl rfl rfl ?_ rfl
 refine Qg rfl rfl rfl ?_ rfl
 iterate 10 refine w_ ?_
 refine Qc ?_
 iterate 4 refine w_ ?_
 refine Qc<|QE ⟨k+1,z,((YT z.2).length:Int),true,by omega,rfl,(by exact QgW hxk hzk hB (.inl ‹_›)),rfl⟩ (by omega) ?_
 exact wo []
 iterate 5 refine w_ ?_
 cases hb18:(decide (((YT z.2).length:Int) < few))
 have hb18':=a6 hb18
 iterate 4 refine w_ ?_
 cases hb19:(decide (((YT z.2).length:Int)=few))
 have hb19':=a6 hb19
 iterate 18 refine w_ ?_
 refine Qc<|QE ⟨k+1,cand,few,true,by omega,rfl,(by exact Ql4 hxk hzk hB ‹_› ‹_› (fun g=>absurd g.1 ‹_›)),rfl⟩ (by omega) ?_
 exact wo []
 have hb19':=a7 hb19
 iterate 3 refine w_ ?_
 refine AL.fact (Qp (x:= .tmp 37) (Qa rfl)) fun hl20=> ?_
 iterate 4 refine w_ ?_
 refine AL.fact (Qp (x:= .tmp 41) (Qa rfl)) fun hl21=> ?_
 iterate 5 refine w_ ?_
 cases hb22:(decide ((z.2.2.1.length:Int) < (cand.2.2.1.length:Int)))
 have hb22':=a6 hb22
 iterate 6 refine w_ ?_
 refine Qc<|QE ⟨k+1,cand,few,true,by omega,rfl,(by exact Ql4 hxk hzk hB ‹_› ‹_› (fun g=>absurd g.2 ‹_›)),rfl⟩ (by omega) ?_
 exact wo []
 have hb22':=a7 hb22
 iterate 7 refine w_ ?_
 refine Qc ?_
 iterate 4 refine w_ ?_
 refine Qc<|QE ⟨k+1,z,((YT z.2).length:Int),true,by omega,rfl,(by exact QgW hxk hzk hB (.inr (.inr ⟨by assumption,by assumption⟩))),rfl⟩ (by omega) ?_
 exact wo []
 have hb18':=a7 hb18
 iterate 4 refine w_ ?_
 refine Qg rfl rfl rfl ?_ rfl
 refine Qg rfl rfl rfl ?_ rfl
 refine Qg rfl rfl rfl ?_ rfl
 refine Qg rfl rfl rfl ?_ rfl
 refine Qg rfl rfl rfl ?_ rfl
 refine Qg rfl rfl rfl ?_ rfl
 refine Qg rfl rfl rfl ?_ rfl
 refine Qg rfl rfl rfl ?_ rfl
 refine Qg rfl rfl rfl ?_ rfl
 iterate 10 refine w_ ?_
 refine Qc ?_
 iterate 4 refine w_ ?_
 refine Qc<|QE ⟨k+1,z,((YT z.2).length:Int),true,by omega,rfl,(by exact QgW hxk hzk hB (.inr (.inl ‹_›))),rfl⟩ (by omega) ?_
 exact wo []
theorem K1 (c:(List (ByteArray×Int))×List ByteArray×(List (Int×Int×Bool×Int)))[∀c,Decidable (SgOk c)][∀s,Decidable (Zq s)]:FC Tryz.prog 22 [(true,[.dat Qo c.1, .dat Qr c.2.1, .dat QD c.2.2])] [] 0 (Zk (PV.tup [(true,[dI (((Yz c).1).1),dB (((Yz c).1).2),dI (((Yz c).2).1),dB (((Yz c).2).2)]),(false,[dB (KF c)])])):=by
 refine Qy Tryz.func22 rfl rfl Tryz.ntmps22 fun O_ hO w0_ N0_ X_ h0_ f0_=> ?_
 refine w_ ?_
 refine xbx 0 ?_
 refine lc (xal 1 YW WC) ?_
 iterate 5 refine w_ ?_
 refine lc (dK (ZB c) U3) ?_
 iterate 2 refine w_ ?_
 cases hb1:(decide (SgOk c))
 have hb1':=a6 hb1
 iterate 2 refine w_ ?_
 refine lc (Qi KK rfl (ah.1 rfl) rfl rfl) ?_
 iterate 4 refine w_ ?_
 subst hO
 have e2:(0:Int)=(((Yz c).1).1):=by
  (rw[(Uy ‹_›).1]; done)
 have e3:(false:Bool)=(((Yz c).1).2):=by
  (rw[(Uy ‹_›).1]; done)
 have e4:(0:Int)=(((Yz c).2).1):=by
  (rw[(Uy ‹_›).1]; done)
 have e5:(false:Bool)=(((Yz c).2).2):=by
  (rw[(Uy ‹_›).1]; done)
 have e6:(false:Bool)=(KF c):=by
  (rw[(Uy ‹_›).2]; done)
 exact Qe (QM rfl (Qz rfl rfl Kv rfl) (Qb rfl)) (by rw[← e2,← e3,← e4,← e5,← e6] <;> rfl) rfl
 have hb1':=a7 hb1
 iterate 4 refine w_ ?_
 refine lc (dK (Qhf c ‹_›) Qop) ?_
 iterate 4 refine w_ ?_
 refine lc (xal 2 Qfb Uj) ?_
 iterate 12 refine w_ ?_
 subst hO
 have e7:((((Yq c (QV c)).1).1).1:Int)=(((Yz c).1).1):=by
  (rw[(XD ‹_›).1,← Qdc]; done)
 have e8:((((Yq c (QV c)).1).1).2:Bool)=(((Yz c).1).2):=by
  (rw[(XD ‹_›).1,← Qdc]; done)
 have e9:((((Yq c (QV c)).1).2).1:Int)=(((Yz c).2).1):=by
  (rw[(XD ‹_›).1,← Qdc]; done)
 have e10:((((Yq c (QV c)).1).2).2:Bool)=(((Yz c).2).2):=by
  (rw[(XD ‹_›).1,← Qdc]; done)
 have e11:((Zd c (QV c)).isSome:Bool)=(KF c):=by
  (rw[(XD ‹_›).2]; done)
 exact Qe (QM rfl (Qz rfl rfl Kv rfl) (Qb rfl)) (by rw[e7,e8,e9,e10,e11] <;> rfl) rfl
theorem QcB (c:(List (ByteArray×Int))×List ByteArray×(List (Int×Int×Bool×Int)))[∀c,Decidable (SgOk c)][∀s,Decidable (Zq s)](hs:SgOk c):FC Tryz.prog 91 [(true,[.dat Qo c.1, .dat Qr c.2.1, .dat QD c.2.2])] [] 0 (Zk (PV.tup [(true,[dI (((Xk c (QV c)).1).1),dB (((Xk c (QV c)).1).2),dI (((Xk c (QV c)).2).1),dB (((Xk c (QV c)).2).2)]),(false,[dB ((Zd c (QV c)).isSome)])])):=by
 have hs8:=hs.sigs.2.2
 have hll:=Wm (k:=c.1.length)
 have hcf:=Qan (c:=c) hs8
 have hcl:(QV c).length≤256:=hcf (QY c.1.length) (by omega)
 refine Qy Tryz.func91 rfl rfl Tryz.ntmps91 fun O_ hO w0_ N0_ X_ h0_ f0_=> ?_
 refine w_ ?_
 refine xbx 0 ?_
 refine lc (xal 1 YW WC) ?_
 iterate 3 refine w_ ?_
 refine lc (xal 2 YW WC) ?_
 iterate 8 refine w_ ?_
 refine lc (dK (VY c hs).frozen Qf6) ?_
 refine AL.fact (Qp (x:= .tmp 13) (Qa rfl)) fun hl1=> ?_
 iterate 4 refine w_ ?_
 refine Qm (fun m_ s_=>∃(k:Nat) (bx:(Int×Bool)×(Int×Bool)) (few:Int) (st:Int),k≤(QV c).length∧m_=(QV c).length - k∧(bx=Xk c ((QV c).take k)∧few=Vt c ((QV c).take k)∧st=KR c ((QV c).take k))∧s_=⟨[(1,lP 0 0),(2,lP 1 0),(3,lB false),(4,lP 2 0),(5,lI few),(6,lI st),(13,lf (.dat QnB (QV c))),(14,lI ((QV c).length:Int)),(15,lI (k:Int))],[(0,some (.box 52 [.dat Qo c.1, .dat Qr c.2.1, .dat QD c.2.2])),(1,some (.box 57 [dI 0,dB false,dI 0,dB false])),(2,some (.box 57 [dI bx.1.1,dB bx.1.2,dI bx.2.1,dB bx.2.2]))]⟩) ⟨0,((0,false),(0,false)),(-1),0,ap _,rfl,⟨rfl,rfl,rfl⟩,rfl⟩ ?_ ?_
 exact wo []
 rintro m_ s_ ⟨k,bx,few,st,hk2,hm3,hB,rfl⟩
 iterate 4 refine w_ ?_
 cases hb4:(decide ((k:Int) < ((QV c).length:Int)))
 have hb4':=a6 hb4
 iterate 11 refine w_ ?_
 subst hO
 have e5:(bx.1.1:Int)=(((Xk c (QV c)).1).1):=by
  (rw[QN (by omega)] at hB; first | rw[hB.1] | (rw[hB.2.1]; exact K5))
 have e6:(bx.1.2:Bool)=(((Xk c (QV c)).1).2):=by
  (rw[QN (by omega)] at hB; first | rw[hB.1] | (rw[hB.2.1]; exact K5))
 have e7:(bx.2.1:Int)=(((Xk c (QV c)).2).1):=by
  (rw[QN (by omega)] at hB; first | rw[hB.1] | (rw[hB.2.1]; exact K5))
 have e8:(bx.2.2:Bool)=(((Xk c (QV c)).2).2):=by
  (rw[QN (by omega)] at hB; first | rw[hB.1] | (rw[hB.2.1]; exact K5))
 have e9:(decide (0≤few):Bool)=((Zd c (QV c)).isSome):=by
  (rw[QN (by omega)] at hB; first | rw[hB.1] | (rw[hB.2.1]; exact K5))
 exact Qe (QM rfl (Qz rfl rfl Kv rfl) (Qb rfl)) (by rw[e5,e6,e7,e8,e9] <;> rfl) rfl
 have hb4':=a7 hb4
 iterate 5 refine w_ ?_
 obtain ⟨x,hx11⟩:=gx (QV c) k
 have hxm:=a8 hx11
 iterate 2 refine w_ ?_
 refine lc (xal 3 YW WC) ?_
 iterate 5 refine w_ ?_
 refine lc (dK (WG c x) QfC) ?_
 iterate 12 refine w_ ?_
 cases hb12:(decide (few < 0))
 have hb12':=a6 hb12
 iterate 5 refine w_ ?_
 cases hb13:(decide ((Z3 c x) < few))
 have hb13':=a6 hb13
 iterate 4 refine w_ ?_
 cases hb14:(decide ((Z3 c x)=few))
 have hb14':=a6 hb14
 iterate 12 refine w_ ?_
 refine Qc<|QE ⟨k+1,bx,few,st,by omega,rfl,(by exact QlD hs hxm hx11 hB ‹_› ‹_› (fun g=>absurd g.1 ‹_›)),rfl⟩ (by omega) ?_
 exact wo []
 have hb14':=a7 hb14
 iterate 6 refine w_ ?_
 cases hb15:(decide ((Yp c x) < st))
 have hb15':=a6 hb15
 iterate 6 refine w_ ?_
 refine Qc<|QE ⟨k+1,bx,few,st,by omega,rfl,(by exact QlD hs hxm hx11 hB ‹_› ‹_› (fun g=>absurd g.2 ‹_›)),rfl⟩ (by omega) ?_
 exact wo []
 have hb15':=a7 hb15
 iterate 12 refine w_ ?_
 refine Qc ?_
 iterate 4 refine w_ ?_
 refine Qc<|QE ⟨k+1,x,(Z3 c x),(Yp c x),by omega,rfl,(by exact QgM hs hxm hx11 hB (.inr (.inr ⟨by assumption,by assumption⟩))),rfl⟩ (by omega) ?_
 exact wo []
 have hb13':=a7 hb13
 iterate 4 refine w_ ?_
 refine Qg rfl rfl rfl ?_ rfl
 refine Qg rfl rfl rfl ?_ rfl
 refine Qg rfl rfl rfl ?_ rfl
 iterate 15 refine w_ ?_
 refine Qc ?_
 iterate 4 refine w_ ?_
 refine Qc<|QE ⟨k+1,x,(Z3 c x),(Yp c x),by omega,rfl,(by exact QgM hs hxm hx11 hB (.inr (.inl ‹_›))),rfl⟩ (by omega) ?_
 exact wo []
 have hb12':=a7 hb12
 iterate 9 refine w_ ?_
 refine Qg rfl rfl rfl ?_ rfl
 refine Qg rfl rfl rfl ?_ rfl
 refine Qg rfl rfl rfl ?_ rfl
 iterate 15 refine w_ ?_
 refine Qc ?_
 iterate 4 refine w_ ?_
 refine Qc<|QE ⟨k+1,x,(Z3 c x),(Yp c x),by omega,rfl,(by exact QgM hs hxm hx11 hB (.inl ‹_›)),rfl⟩ (by omega) ?_
 exact wo []
theorem K4 (c:(List (ByteArray×Int))×List ByteArray×(List (Int×Int×Bool×Int)))[∀c,Decidable (SgOk c)][∀s,Decidable (Zq s)]:FC Tryz.prog 23 [(true,[.dat Qo c.1, .dat Qr c.2.1, .dat QD c.2.2])] [] 0 (Zk (PV.tup [(true,[dI (((Yz c).1).1),dB (((Yz c).1).2),dI (((Yz c).2).1),dB (((Yz c).2).2)]),(false,[dB (KF c)])])):=by
 refine Qy Tryz.func23 rfl rfl Tryz.ntmps23 fun O_ hO w0_ N0_ X_ h0_ f0_=> ?_
 refine w_ ?_
 refine xbx 0 ?_
 refine lc (xal 1 YW WC) ?_
 iterate 5 refine w_ ?_
 refine lc (dK (Yn c) WR) ?_
 iterate 2 refine w_ ?_
 cases hb1:(decide (SgOk c))
 have hb1':=a6 hb1
 iterate 2 refine w_ ?_
 refine lc (Qi KK rfl (ah.1 rfl) rfl rfl) ?_
 iterate 4 refine w_ ?_
 subst hO
 have e2:(0:Int)=(((Yz c).1).1):=by
  (rw[(Uy ‹_›).1]; done)
 have e3:(false:Bool)=(((Yz c).1).2):=by
  (rw[(Uy ‹_›).1]; done)
 have e4:(0:Int)=(((Yz c).2).1):=by
  (rw[(Uy ‹_›).1]; done)
 have e5:(false:Bool)=(((Yz c).2).2):=by
  (rw[(Uy ‹_›).1]; done)
 have e6:(false:Bool)=(KF c):=by
  (rw[(Uy ‹_›).2]; done)
 exact Qe (QM rfl (Qz rfl rfl Kv rfl) (Qb rfl)) (by rw[← e2,← e3,← e4,← e5,← e6] <;> rfl) rfl
 have hb1':=a7 hb1
 iterate 4 refine w_ ?_
 refine lc (dK (QcB c ‹_›) QnS) ?_
 iterate 6 refine w_ ?_
 subst hO
 have e7:(((Xk c (QV c)).1).1:Int)=(((Yz c).1).1):=by
  (rw[(XD ‹_›).1]; done)
 have e8:(((Xk c (QV c)).1).2:Bool)=(((Yz c).1).2):=by
  (rw[(XD ‹_›).1]; done)
 have e9:(((Xk c (QV c)).2).1:Int)=(((Yz c).2).1):=by
  (rw[(XD ‹_›).1]; done)
 have e10:(((Xk c (QV c)).2).2:Bool)=(((Yz c).2).2):=by
  (rw[(XD ‹_›).1]; done)
 have e11:((Zd c (QV c)).isSome:Bool)=(KF c):=by
  (rw[(XD ‹_›).2]; done)
 exact Qe (QM rfl (Qz rfl rfl Kv rfl) (Qb rfl)) (by rw[e7,e8,e9,e10,e11] <;> rfl) rfl
end Go.Proofs.YtjaadeknhofhpaaGreat
namespace Go.Proofs.YtjaadeknhofhpaaGreat
open Go.RowKit
attribute [local irreducible] TF
abbrev Qfc:Type:=Zy×Zy
abbrev Qs0:Ty:= .pr QbM QbM
end Go.Proofs.YtjaadeknhofhpaaGreat
namespace Go.Proofs.YtjaadeknhofhpaaGreat
open Go.RowKit
set_option maxRecDepth 100000
set_option maxHeartbeats 4000000
@[reducible] def QsF:(Qfc)→Int→(Qfc)×Int:=fun _ k=>(((k,decide ((k+1) % 3=0)),(k+1+1,decide ((k+1+1+1) % 3=0))),k+1+1+1+1)
end Go.Proofs.YtjaadeknhofhpaaGreat
namespace Go.Proofs.YtjaadeknhofhpaaGreat
open Go.RowKit
set_option maxRecDepth 100000
set_option maxHeartbeats 4000000
def Quu (f:Hdr→List Int):Option (List Int)→List Hdr→List Hdr
  | _,[]=>[]
  | p,y :: l=>if p=some (f y) then Quu f p l else y :: Quu f (some (f y)) l
section
variable {f:Hdr→List Int}{vs zs:List Hdr}{m k:Nat}{x y:Hdr}{l:List (List Int)}{i j n:Int}
end
end Go.Proofs.YtjaadeknhofhpaaGreat
namespace Go.Proofs.YtjaadeknhofhpaaGreat
open Go.RowKit
set_option maxRecDepth 100000
set_option maxHeartbeats 4000000
theorem Qel {α:Type _}[DecidableEq α]{lt:α→α→Bool}(x:α):∀l:List α,(YF lt x l).length≤l.length+1
  | []=>aO _
  | y :: l=>by
    unfold YF
    have:=Qel (lt:=lt) x l
    split
    · simp only[ao]; omega
    · split <;> simp
def shV (n:Xz)(t u:Int):Bool:=((n.2[t.toNat]?).getD ([],[])).1.any fun z=>decide (z∈((n.2[u.toNat]?).getD ([],[])).1)
def QvF (n:Xz)(t:Int)(l:List Int):List (List Int):=(l.filter fun u=>decide (t < u)&& !shV n t u).map fun u=>[t,u]
def Qvm (n:Xz)(t:Int)(l:List Int):List (List Int):=(l.filter fun u=> !shV n t u).map fun u=>[t,u]
def QvA (n:Xz)(on l:List Int):List (List Int):=l.flatMap fun t=>QvF n t on
def Qv3 (n:Xz)(on:List Int)(k:Nat):List (List Int):=(List.range k).flatMap fun i=>Qvm n ((on[i]?).getD 0) (on.drop (i+1))
def Qvq (n:Xz)(ms:List ByteArray):List (List Int):=ms.flatMap fun mk=>QvA n (KZ n mk) (KZ n mk)
section
variable {n:Xz}{k f i j:Nat}{mk:ByteArray}{t u:Int}{ts on l:List Int}{st:RS}{s:Q9}{xt xu:Q2}{ms:List ByteArray}{as_ bs:List (List Int)}
end
section
variable {vs vs2:List Hdr}{gf gf2 gj:Hdr→List Int}{l:List (List Int)}{m:Int}{x:List Int}
end
end Go.Proofs.YtjaadeknhofhpaaGreat
namespace Go.Proofs.YtjaadeknhofhpaaGreat
open Go.RowKit
set_option maxRecDepth 100000
set_option maxHeartbeats 4000000
section
variable {n:Xz}{k i j m:Nat}{mk:ByteArray}{t u:Int}{on l:List Int}{s:Q9}{xt xu:Q2}{ms:List ByteArray}{as_:List (List Int)}
def Qva [∀s,Decidable (StgOk s)](s:Q9):List (List Int):=ofG ltP (Qvq s.1 (Qs s).1.1)
end
end Go.Proofs.YtjaadeknhofhpaaGreat
namespace Go.Proofs.YtjaadeknhofhpaaGreat
open Go.RowKit
set_option maxRecDepth 100000
set_option maxHeartbeats 4000000
section
variable [∀s,Decidable (StgOk s)]{s:Q9}{o:QR}
def Qul (s:Q9)(o:QR):Bool:=(QoM s o).2&&((pfV s (QoM s o).1).2&&(pfV s (QoM s o).1).1)
def Qvw (s:Q9)(b:Int):Bool:=decide (0≤((s.2.2.1[b.toNat]?).getD (0,false)).1)&& !decide (((s.2.1[(((s.2.2.1[b.toNat]?).getD (0,false)).1).toNat]?).getD (ByteArray.empty,0)).2=1)
end
end Go.Proofs.YtjaadeknhofhpaaGreat
namespace Go.Proofs.YtjaadeknhofhpaaGreat
open Go.RowKit
set_option maxRecDepth 100000
set_option maxHeartbeats 4000000
section
variable [∀s,Decidable (StgOk s)]{s:Q9}{P:List (List Int)}{a b:Int}{k i j n:Nat}{m:Bool}{ms:List Bool}{x:List Int}{os_:List QR}
def QsW (s:Q9)(a b:Int)(ms:List Bool):List QR:=(ms.filter fun m=>Qvw s b&&Qul s (a,b,m)).map fun m=>(a,b,m)
def QuE (s:Q9)(P:List (List Int))(a b:Int):List QR:=if (P.any fun p=>decide (p=[min a b,max a b]))=true∧a≠b then QsW s a b [false,true] else []
def Qvy (s:Q9)(P:List (List Int))(a:Int)(i:Nat):List QR:=(List.range i).flatMap fun b=>QuE s P a ((b:Nat):Int)
def Qvp (s:Q9)(P:List (List Int))(n k:Nat):List QR:=(List.range k).flatMap fun a=>Qvy s P ((a:Nat):Int) n
theorem QvE {l:List (List Int)}{y:List Int}(hx:l[k]? =some x)(h:¬x=y):((l.take k).any fun p=>decide (p=y))=((l.take (k+1)).any fun p=>decide (p=y)):=by rw[QO hx]; simp[h]
def QvR (s:Q9)(c:Bool)(a b:Int)(ms:List Bool):List QR:=if c=true∧a≠b then QsW s a b ms else []
def Qun (s:Q9):List QR:=Qvp s (Qva s) s.1.2.length s.1.2.length
end
section
variable [∀s,Decidable (StgOk s)]{s:Q9}
def QsZ (s:Q9):List QR:=if (sgV s).2=true then Qun s else []
end
end Go.Proofs.YtjaadeknhofhpaaGreat
namespace Go.Proofs.YtjaadeknhofhpaaGreat
open Go.RowKit
set_option maxRecDepth 100000
set_option maxHeartbeats 4000000
def swp (p:List Int):List Int:=[(p[1]?).getD 0,(p[0]?).getD 0]
def Qv6 (P:List (List Int))(n:Nat):List (List Int):=(List.range n).flatMap fun a:Nat=>((List.range n).filter fun b:Nat=>(P.any fun p=>decide (p=[min (a:Int) (b:Int),max (a:Int) (b:Int)]))&&decide ((a:Int)≠(b:Int))).map fun b:Nat=>[(a:Int),(b:Int)]
section
variable {P:List (List Int)}{n:Nat}{x:List Int}{ms:List ByteArray}{g:Xz}
variable [∀s,Decidable (StgOk s)]{s:Q9}
end
end Go.Proofs.YtjaadeknhofhpaaGreat
namespace Go.Proofs.YtjaadeknhofhpaaGreat
open Go.RowKit
set_option maxRecDepth 100000
set_option maxHeartbeats 4000000
section
variable [∀s,Decidable (StgOk s)]{s:Q9}{l:List (List Int)}{p:List Int}{k i m:Nat}{a b:Int}
def Qv5 (s:Q9)(l:List (List Int)):List QR:=l.flatMap fun p=>QsW s ((p[0]?).getD 0) ((p[1]?).getD 0) [false,true]
end
end Go.Proofs.YtjaadeknhofhpaaGreat
