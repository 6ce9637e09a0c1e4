/- Walks over abstract states: tidied lists of numbers; labels; which signals are no inputs; the name of the next state signal. -/
import Derived.Test.YtjaadeknhofhpaaGreatVi
import Derived.Test.YtjaadeknhofhpaaGreatFz
set_option linter.unusedSimpArgs false
set_option linter.unusedVariables false
set_option linter.unusedSectionVars false
namespace Go.Proofs.YtjaadeknhofhpaaGreat
open Go.RowKit
set_option maxRecDepth 100000
set_option maxHeartbeats 4000000
def swL (as_:List DAr)(l:Int×Bool):List Int:=(as_.filter fun a=>decide (a.2.1=l.1∧a.2.2.1=l.2)).map fun a=>a.2.2.2
def XE (c:DSg)(sig:Int):Bool:=decide (0≤sig)&&decide (((c.1[sig.toNat]?).getD (ByteArray.empty,0)).2=1)
def ZI (l:List QJ)(k:Nat):List Int:=((List.range k).filter fun i=> !decide (((l[i]?).getD (ByteArray.empty,0)).2=1)).map fun i=>((i:Nat):Int)
def Z5 (c:DSg):ByteArray:=if Ze (fun x:QJ=>decide (x.1=(⟨#[122,48]⟩:ByteArray))) c.1 < 0 then ⟨#[122,48]⟩ else if Ze (fun x:QJ=>decide (x.1=(⟨#[122,49]⟩:ByteArray))) c.1 < 0 then ⟨#[122,49]⟩ else ⟨#[122,50]⟩
section
variable {c:DSg}{l:List Int}{as_:List DAr}{a:DAr}{p:Int×Bool}{k:Nat}{n m y sig:Int}{x:QJ}{ss:List QJ}
theorem QpA (p r:Int×Bool):Ty.beq Qw p r=decide (p=r):=by rw[bC,Ty.beq_iff,decide_eq_true_iff]
theorem HJ {p r:Int×Bool}(h:Ty.beq Qw p r=true):p.1=r.1∧p.2=r.2:=by rw[(Ty.beq_iff _ _ _).1 h]; exact ⟨rfl,rfl⟩
theorem QjZ {p r:Int×Bool}(h:Ty.beq Qw p r=false):¬(p.1=r.1∧p.2=r.2):=fun g=>by
  have:p=r:=Prod.ext g.1 g.2
  rw[(Ty.beq_iff _ _ _).2 this] at h; cases h
theorem Qn6 {A B C:Prop}{p r:Int×Bool}[Decidable (((A∧B)∧C)∧¬p=r)](h1:A)(h2:B)(h3:C):(!Ty.beq Qw p r)=decide (((A∧B)∧C)∧¬p=r):=by
  rw[QpA]
  by_cases h:p=r <;> simp[h,h1,h2,h3]
theorem QlG (hx:as_[k]? =some a)(h1:a.2.1=p.1)(h2:a.2.2.1=p.2):swL (as_.take k) p++[a.2.2.2]=swL (as_.take (k+1)) p:=by
  unfold swL
  rw[QO hx,b5,bh]; simp[h1,h2]
theorem Qo7 (hx:as_[k]? =some a)(h:¬(a.2.1=p.1∧a.2.2.1=p.2)):swL (as_.take k) p=swL (as_.take (k+1)) p:=by
  unfold swL
  rw[QO hx,b5,bh]; simp[h]
theorem Qsa:(swL as_ p).length≤as_.length:=by unfold swL; rw[aF]; exact bG ..
theorem Ka (hx:ss[k]? =some x)(h:¬x.2=1):ZI ss k++[(k:Int)]=ZI ss (k+1):=by
  unfold ZI
  rw[bK,b5,bh]; simp[hx,h]
theorem Qbm (hx:ss[k]? =some x)(h:x.2=1):ZI ss k=ZI ss (k+1):=by
  unfold ZI
  rw[bK,b5,bh]; simp[hx,h]
theorem QbB:(ZI ss k).length≤k:=by unfold ZI; rw[aF]; exact b4 (bG ..) (by simp)
theorem UX:y∈ZI ss k↔∃i:Nat,y=(i:Int)∧i < k∧¬((ss[i]?).getD (ByteArray.empty,0)).2=1:=by
  unfold ZI
  simp only[bQ,bY,cj,bB,bp]
  constructor
  · rintro ⟨i,⟨h1,h2⟩,rfl⟩; exact ⟨i,rfl,h1,h2⟩
  · rintro ⟨i,rfl,h1,h2⟩; exact ⟨i,⟨h1,h2⟩,rfl⟩
theorem Qgt (h:¬0≤sig):false=XE c sig:=by unfold XE; rw[az h]; rfl
theorem QgV (h:0≤sig)(hx:c.1[sig.toNat]? =some x):decide (x.2=1)=XE c sig:=by unfold XE; rw[aI h,hx]; rfl
theorem Qtz (hP:∀j:Nat,(j:Int) < m→∀y,l[j]? =some y→y < n)(h:l[m.toNat]? =some n):l=YF ltI n l:=
  (QfH (k:=m.toNat) (fun j hj y hy=>by have:=hP j (by omega) y hy; simp[ltI,this]) h (by simp[ltI])).symm
theorem Qs2 (hP:∀j:Nat,(j:Int) < m→∀y,l[j]? =some y→y < n)(h0:0≤m)(h1:m≤(l.length:Int))(h:∀y,l[m.toNat]? =some y→¬y < n∧y≠n):l.take m.toNat++n :: l.drop m.toNat=YF ltI n l:=
  (Qmq (k:=m.toNat) (fun j hj y hy=>by have:=hP j (by omega) y hy; simp[ltI,this]) (by omega) fun y hy=>by have:=h y hy; simp[ltI,this]).symm
theorem Qmv (hP:∀j:Nat,(j:Int) < m→∀y,l[j]? =some y→y < n)(h0:0≤m)(h1:m≤(l.length:Int))(h:∀y,l[m.toNat]? =some y→¬y < n∧y≠n):
    (([]++(l.take (0+m.toNat)).drop 0)++[n])++(l.take (m.toNat+(l.length - m.toNat))).drop m.toNat=YF ltI n l:=by
  rw[← Qs2 hP h0 h1 h,show m.toNat+(l.length - m.toNat)=l.length by omega,List.take_length]
  simp
abbrev Qew:List ByteArray:=[(⟨#[122,48]⟩:ByteArray),(⟨#[122,49]⟩:ByteArray)]
theorem QhU {y:ByteArray}(hno:∀j,j < k→∀y,Qew[j]? =some y→¬Ze (fun x:QJ=>decide (x.1=y)) c.1 < 0)(hx:Qew[k]? =some y)(h:Ze (fun x:QJ=>decide (x.1=y)) c.1 < 0):y=Z5 c:=by
  unfold Z5
  match k,hx with
  | 0,hx=>cases hx; rw[if_pos h]
  | 1,hx=>
    cases hx
    rw[if_neg (hno 0 (by omega) _ rfl),if_pos h]
theorem QiG (hno:∀j,j < k→∀y,Qew[j]? =some y→¬Ze (fun x:QJ=>decide (x.1=y)) c.1 < 0)(hk:¬(k:Int) < (Qew.length:Int)):(⟨#[122,50]⟩:ByteArray)=Z5 c:=by
  have hk:2≤k:=by simp only[Qew,ao,aD] at hk; omega
  unfold Z5
  rw[if_neg (hno 0 (by omega) _ rfl),if_neg (hno 1 (by omega) _ rfl)]
end
theorem Qbc (l:List Int)(hl:l.length≤1000000):FC Tryz.prog 153 [(false,[.ref 0])] [(0,some (.arr 3 .int l))] 0 (Xe 3 .int (ofG ltI l)):=by
 refine Qy Tryz.func153 rfl rfl Tryz.ntmps153 fun O_ hO w0_ N0_ X_ h0_ f0_=> ?_
 iterate 5 refine w_ ?_
 refine lc (dP 1 [] (Qrn l (by omega)) Qlm) ?_
 iterate 3 refine w_ ?_
 refine lc (dP 2 [] (Qly (Vf l) (by rw[Qb5]; omega)) Qlp) ?_
 iterate 3 refine w_ ?_
 subst hO
 refine Zc (e:= .int) (xs:=(Y6 (Vf l))) (Res.one rfl (Qb rfl)) rfl ?_
 exact QrX _
theorem QbW (c:(List (ByteArray×Int))×List ByteArray×(List (Int×Int×Bool×Int)))(p:Int×Bool)(hl:c.2.2.length≤100000):FC Tryz.prog 273 [(true,[.dat Qo c.1, .dat Qr c.2.1, .dat QD c.2.2]),(true,[dI p.1,dB p.2])] [] 0 (Xe 3 .int (ofG ltI (swL c.2.2 p))):=by
 refine Qy Tryz.func273 rfl rfl Tryz.ntmps273 fun O_ hO w0_ N0_ X_ h0_ f0_=> ?_
 refine AC.fact (QH (x:= .tmp 1) (i:=0) (Qf rfl) rfl) fun hi1=> ?_
 refine w_ ?_
 refine xbx 0 ?_
 refine xbx 1 ?_
 iterate 3 refine w_ ?_
 refine lc (dBs 2 (e:= .int) YD) ?_
 iterate 6 refine w_ ?_
 refine AL.fact (Qp (x:= .tmp 10) (Qa rfl)) fun hl2=> ?_
 iterate 4 refine w_ ?_
 refine Qm (fun m_ s_=>∃(k:Nat),k≤c.2.2.length∧m_=c.2.2.length - k∧s_=⟨[(3,lP 1 0),(4,lf (.val (.slice none 0 0))),(5,lR 3),(10,lf (.dat QD c.2.2)),(11,lI (c.2.2.length:Int)),(12,lI (k:Int))],[(1,some (.box 55 [dI p.1,dB p.2])),(3,some (.arr 3 .int (swL (c.2.2.take k) p)))]⟩) ⟨0,ap _,rfl,rfl⟩ ?_ ?_
 exact wp [(3,2)] ⟨rfl,(Qh (by first | rfl | simp)),trivial⟩
 rintro m_ s_ ⟨k,hk3,hm4,rfl⟩
 have hfl:=Qsa (as_:=c.2.2.take k) (p:=p)
 have hft:(c.2.2.take k).length≤c.2.2.length:=by simp only[ak]; omega
 iterate 4 refine w_ ?_
 cases hb5:(decide ((k:Int) < (c.2.2.length:Int)))
 have hb5':=a6 hb5
 iterate 5 refine w_ ?_
 refine lc (dP 4 [(0,3)] (Qbc (swL (c.2.2.take k) p) (by omega)) QdL) ?_
 iterate 3 refine w_ ?_
 subst hO
 refine Zc (e:= .int) (xs:=(ofG ltI (swL (c.2.2.take k) p))) (Res.one rfl (Qb rfl)) rfl ?_
 rw[QN (by omega)]
 have hb5':=a7 hb5
 iterate 5 refine w_ ?_
 obtain ⟨x6,hx7⟩:=gx c.2.2 k
 iterate 2 refine w_ ?_
 refine lc (xal 5 QA Za) ?_
 iterate 2 refine w_ ?_
 apply dW [io 16 _,io 17 (ag [dI x6.2.1,dB x6.2.2.1]),io 18 _,io 19 (lB (Ty.beq Qw (x6.2.1,x6.2.2.1) p))] [0,0,3,0]
 refine z_ ?_
 refine zz (fun _ h_=>ac (dK (Zj x6) Y3) rfl) ?_
 refine z_ ?_
 refine zz (fun _ h_=>ac (U4 Ux Jw (h_.w rfl) (h_.w rfl) (p:=(x6.2.1,x6.2.2.1)) (q:=p) rfl rfl rfl) rfl) ?_
 exact zN
 cases hb8:(Ty.beq Qw (x6.2.1,x6.2.2.1) p)
 iterate 6 refine w_ ?_
 refine Qc<|QE ⟨k+1,by omega,rfl,rfl⟩ (by omega) ?_
 exact wp [] ⟨rfl,(Qh (by first | exact QlG hx7 (HJ ‹_›).1 (HJ ‹_›).2 | exact Qo7 hx7 (QjZ ‹_›))),trivial⟩
 iterate 5 refine w_ ?_
 refine AL.fact (Ql (x:= .tmp 22) (Qa rfl)) fun hi9=> ?_
 refine lc (dBs 6 (e:= .int) YD) ?_
 refine lc (dA 7 XR) ?_
 refine w_ ?_
 refine Qc ?_
 iterate 4 refine w_ ?_
 refine Qc<|QE ⟨k+1,by omega,rfl,rfl⟩ (by omega) ?_
 exact wp [(3,7)] ⟨rfl,(Qh (by first | exact QlG hx7 (HJ ‹_›).1 (HJ ‹_›).2 | exact Qo7 hx7 (QjZ ‹_›))),trivial⟩
theorem Uw (a:Int×Int×Bool×Int)(s:Int)(up:Bool):FC Tryz.prog 344 [(true,[dI a.1,dI a.2.1,dB a.2.2.1,dI a.2.2.2]),(false,[dI s]),(false,[dB up])] [] 0 (Zk (lB (decide (a.2.1=s∧a.2.2.1=up)))):=by
 refine Qy Tryz.func344 rfl rfl Tryz.ntmps344 fun O_ hO w0_ N0_ X_ h0_ f0_=> ?_
 refine AC.fact (QH (x:= .tmp 0) (i:=0) (Qf rfl) rfl) fun hi1=>AC.fact (QH (x:= .tmp 0) (i:=1) (Qf rfl) rfl) fun hi2=>AC.fact (QH (x:= .tmp 0) (i:=3) (Qf rfl) rfl) fun hi3=>AC.fact (Ql (x:= .tmp 1) (Qa rfl)) fun hi4=> ?_
 refine w_ ?_
 refine xbx 0 ?_
 iterate 8 refine w_ ?_
 cases hb5:(decide (a.2.1=s))
 have hb5':=a6 hb5
 iterate 8 refine w_ ?_
 subst hO
 have e6:(false:Bool)=(decide (a.2.1=s∧a.2.2.1=up)):=by
  (cases a.2.2.1 <;> cases up <;> simp_all; done)
 exact Qe (Res.one rfl (Qb rfl)) (by rw[← e6] <;> rfl) rfl
 have hb5':=a7 hb5
 iterate 3 refine w_ ?_
 refine lgy rfl rfl (J0 (Qa rfl) (Qa rfl) rfl JJ) ?_
 iterate 4 refine w_ ?_
 subst hO
 have e7:(a.2.2.1==up:Bool)=(decide (a.2.1=s∧a.2.2.1=up)):=by
  (cases a.2.2.1 <;> cases up <;> simp_all; done)
 exact Qe (Res.one rfl (Qb rfl)) (by rw[e7] <;> rfl) rfl
theorem Z6 (l:List Int)(n:Int):FC Tryz.prog 281 [(false,[.dat QI l]),(false,[dI n])] [] 0 (Zk (lB (decide (n∈l)))):=by
 refine Qy Tryz.func281 rfl rfl Tryz.ntmps281 fun O_ hO w0_ N0_ X_ h0_ f0_=> ?_
 refine AC.fact (Ql (x:= .tmp 1) (Qa rfl)) fun hi1=> ?_
 iterate 6 refine w_ ?_
 refine AL.fact (Qp (x:= .tmp 7) (Qa rfl)) fun hl2=> ?_
 iterate 4 refine w_ ?_
 refine Qm (fun m_ s_=>∃(k:Nat),k≤l.length∧m_=l.length - k∧(∀j,j < k→∀y,l[j]? =some y→¬y=n)∧s_=⟨[(1,lI n),(7,lf (.dat QI l)),(8,lI (l.length:Int)),(9,lI (k:Int))],[]⟩) ⟨0,ap _,rfl,(fun j hj=>absurd hj (b7 j)),rfl⟩ ?_ ?_
 exact wo []
 rintro m_ s_ ⟨k,hk3,hm4,hno,rfl⟩
 iterate 4 refine w_ ?_
 cases hb5:(decide ((k:Int) < (l.length:Int)))
 have hb5':=a6 hb5
 iterate 7 refine w_ ?_
 subst hO
 have e6:(false:Bool)=(decide (n∈l)):=by
  first | exact (az fun hm=>by obtain ⟨j,hj⟩:=aJ.1 hm; exact hno j (by have:=(ab.1 hj).1; omega) n hj rfl).symm
 exact Qe (Res.one rfl (Qb rfl)) (by rw[← e6] <;> rfl) rfl
 have hb5':=a7 hb5
 iterate 5 refine w_ ?_
 obtain ⟨x7,hx8⟩:=gx l k
 iterate 2 refine w_ ?_
 refine AL.fact (Ql (x:= .tmp 12) (Qa rfl)) fun hi9=> ?_
 iterate 7 refine w_ ?_
 cases hb10:(decide (x7=n))
 have hb10':=a6 hb10
 iterate 6 refine w_ ?_
 refine Qc<|QE ⟨k+1,by omega,rfl,(YM hno hx8 ‹_›),rfl⟩ (by omega) ?_
 exact wo []
 have hb10':=a7 hb10
 iterate 5 refine w_ ?_
 subst hO
 have e11:(true:Bool)=(decide (n∈l)):=by
  exact (aI (by have:=a8 hx8; simp_all)).symm
 exact Qe (Res.one rfl (Qb rfl)) (by rw[← e11] <;> rfl) rfl
theorem Xd (l:List Int)(n:Int)(hl:l.length≤1000000000):FC Tryz.prog 287 [(false,[.ref 0]),(false,[dI n])] [(0,some (.arr 3 .int l))] 0 (Xe 3 .int (YF ltI n l)):=by
 refine Qy Tryz.func287 rfl rfl Tryz.ntmps287 fun O_ hO w0_ N0_ X_ h0_ f0_=> ?_
 refine AC.fact (Ql (x:= .tmp 1) (Qa rfl)) fun hi1=> ?_
 iterate 8 refine w_ ?_
 refine Qm (fun m_ s_=>∃(m:Int),m_=((l.length:Int) - m).toNat∧(0≤m∧m≤(l.length:Int))∧(∀j:Nat,(j:Int) < m→∀y,l[j]? =some y→y < n)∧s_=⟨[(0,lR 0),(1,lI n),(4,lf (.val (.slice none 0 0))),(5,lI m)],[(0,some (.arr 3 .int l))]⟩) ⟨0,rfl,(by omega),(fun j hj=>by omega),rfl⟩ ?_ ?_
 exact wo []
 rintro m_ s_ ⟨m,hm3,hm,hP,rfl⟩
 iterate 7 refine w_ ?_
 cases hb4:(decide (m < (l.length:Int)))
 have hb4':=a6 hb4
 iterate 18 refine w_ ?_
 have hb5:(decide (m < (l.length:Int)))=false:=hb4
 try rw[hb5]
 iterate 11 refine w_ ?_
 refine lc (dBs 1 (e:= .int) YD) ?_
 iterate 2 refine w_ ?_
 refine lc (Yh (e:= .int) (a:=0) (b:=(m).toNat) (l:=none) (h:=(some m)) (Qa rfl) rfl (by exact trivial) (by exact (Qa rfl)) YZ WK rfl (by first | (simp only[aj,ae]; omega) | omega | (simp only[aj,ae,aa,ak,ay]; omega)) (by first | (simp only[aj,ae]; omega) | omega | (simp only[aj,ae,aa,ak,ay]; omega)) (by first | (simp only[aj,ae]; omega) | omega | (simp only[aj,ae,aa,ak,ay]; omega)) (by first | rfl | simp) (by first | rfl | simp))<|lc (ZH 2 (Qa rfl) rfl (VK (e:= .int) (Qa rfl) rfl (by omega)) rfl YZ XR (by first | omega | (simp only[aa,aF,ak,ao,aD]; omega) | (simp only[aa,bn,ak,ao,aD]; omega)) rfl (Fresh.of rfl) (nlr rfl)) ?_
 iterate 5 refine w_ ?_
 refine lc (dBs 3 (e:= .int) YD) ?_
 refine lc (dA 4 XR) ?_
 iterate 6 refine w_ ?_
 refine lc (Yh (e:= .int) (a:=(m).toNat) (b:=l.length - (m).toNat) (l:=(some m)) (h:=none) (Qa rfl) rfl (by exact (Qa rfl)) (by exact trivial) YZ WK rfl (by first | (simp only[aj,ae]; omega) | omega | (simp only[aj,ae,aa,ak,ay]; omega)) (by first | (simp only[aj,ae]; omega) | omega | (simp only[aj,ae,aa,ak,ay]; omega)) (by first | (simp only[aj,ae]; omega) | omega | (simp only[aj,ae,aa,ak,ay]; omega)) (by first | rfl | simp) (by first | rfl | simp))<|lc (ZH 5 (Qa rfl) rfl (VK (e:= .int) (Qa rfl) rfl (by omega)) rfl YZ XR (by first | omega | (simp only[aa,aF,ak,ao,aD]; omega) | (simp only[aa,bn,ak,ao,aD]; omega)) rfl (Fresh.of rfl) (nlr rfl)) ?_
 iterate 3 refine w_ ?_
 subst hO
 refine Zc (e:= .int) (xs:=(((([])++((l.take (0+((m).toNat))).drop 0))++([n]))++((l.take (((m).toNat)+(l.length - (m).toNat))).drop ((m).toNat)))) (Res.one rfl (Qb rfl)) rfl ?_
 exact Qmv hP (by omega) (by omega) (fun z hz=>by simp_all)
 have hb4':=a7 hb4
 iterate 3 refine w_ ?_
 obtain ⟨y,hx7⟩:=gx l ((m).toNat)
 iterate 5 refine w_ ?_
 cases hb8:(decide (y < n))
 have hb8':=a6 hb8
 iterate 10 refine w_ ?_
 have hb9:(decide (m < (l.length:Int)))=true:=hb4
 try rw[hb9]
 iterate 8 refine w_ ?_
 cases hb10:(decide (y=n))
 have hb10':=a6 hb10
 iterate 3 refine w_ ?_
 refine lc (dBs 6 (e:= .int) YD) ?_
 iterate 2 refine w_ ?_
 refine lc (Yh (e:= .int) (a:=0) (b:=(m).toNat) (l:=none) (h:=(some m)) (Qa rfl) rfl (by exact trivial) (by exact (Qa rfl)) YZ WK rfl (by first | (simp only[aj,ae]; omega) | omega | (simp only[aj,ae,aa,ak,ay]; omega)) (by first | (simp only[aj,ae]; omega) | omega | (simp only[aj,ae,aa,ak,ay]; omega)) (by first | (simp only[aj,ae]; omega) | omega | (simp only[aj,ae,aa,ak,ay]; omega)) (by first | rfl | simp) (by first | rfl | simp))<|lc (ZH 7 (Qa rfl) rfl (VK (e:= .int) (Qa rfl) rfl (by omega)) rfl YZ XR (by first | omega | (simp only[aa,aF,ak,ao,aD]; omega) | (simp only[aa,bn,ak,ao,aD]; omega)) rfl (Fresh.of rfl) (nlr rfl)) ?_
 iterate 5 refine w_ ?_
 refine lc (dBs 8 (e:= .int) YD) ?_
 refine lc (dA 9 XR) ?_
 iterate 6 refine w_ ?_
 refine lc (Yh (e:= .int) (a:=(m).toNat) (b:=l.length - (m).toNat) (l:=(some m)) (h:=none) (Qa rfl) rfl (by exact (Qa rfl)) (by exact trivial) YZ WK rfl (by first | (simp only[aj,ae]; omega) | omega | (simp only[aj,ae,aa,ak,ay]; omega)) (by first | (simp only[aj,ae]; omega) | omega | (simp only[aj,ae,aa,ak,ay]; omega)) (by first | (simp only[aj,ae]; omega) | omega | (simp only[aj,ae,aa,ak,ay]; omega)) (by first | rfl | simp) (by first | rfl | simp))<|lc (ZH 10 (Qa rfl) rfl (VK (e:= .int) (Qa rfl) rfl (by omega)) rfl YZ XR (by first | omega | (simp only[aa,aF,ak,ao,aD]; omega) | (simp only[aa,bn,ak,ao,aD]; omega)) rfl (Fresh.of rfl) (nlr rfl)) ?_
 iterate 3 refine w_ ?_
 subst hO
 refine Zc (e:= .int) (xs:=(((([])++((l.take (0+((m).toNat))).drop 0))++([n]))++((l.take (((m).toNat)+(l.length - (m).toNat))).drop ((m).toNat)))) (Res.one rfl (Qb rfl)) rfl ?_
 exact Qmv hP (by omega) (by omega) (fun z hz=>by simp_all)
 have hb10':=a7 hb10
 iterate 6 refine w_ ?_
 subst hO
 refine Zc (e:= .int) (xs:=l) (Res.one rfl (Qb rfl)) rfl ?_
 exact Qtz hP (by simp_all)
 have hb8':=a7 hb8
 iterate 7 refine w_ ?_
 refine Qc<|QE ⟨(m+1),rfl,(by omega),(fun j hj z hz=>by by_cases e:j=m.toNat <;> first | (subst e; simp_all; done) | exact hP j (by omega) z hz),rfl⟩ (by omega) ?_
 exact wo []
theorem XX (c:(List (ByteArray×Int))×List ByteArray×(List (Int×Int×Bool×Int)))(sig:Int)(hs:sig < (c.1.length:Int)):FC Tryz.prog 144 [(true,[.dat Qo c.1, .dat Qr c.2.1, .dat QD c.2.2]),(false,[dI sig])] [] 0 (Zk (lB (XE c sig))):=by
 refine Qy Tryz.func144 rfl rfl Tryz.ntmps144 fun O_ hO w0_ N0_ X_ h0_ f0_=> ?_
 refine AC.fact (Ql (x:= .tmp 1) (Qa rfl)) fun hi1=> ?_
 refine w_ ?_
 refine xbx 0 ?_
 iterate 6 refine w_ ?_
 cases hb2:(decide (0≤sig))
 have hb2':=a6 hb2
 iterate 11 refine w_ ?_
 subst hO
 have e3:(false:Bool)=(XE c sig):=by
  first | exact Qgt ‹_›
 exact Qe (Res.one rfl (Qb rfl)) (by rw[← e3] <;> rfl) rfl
 have hb2':=a7 hb2
 iterate 3 refine w_ ?_
 obtain ⟨x4,hx5⟩:=gx c.1 ((sig).toNat)
 iterate 8 refine w_ ?_
 subst hO
 have e6:(decide (x4.2=1):Bool)=(XE c sig):=by
  exact QgV ‹_› hx5
 exact Qe (Res.one rfl (Qb rfl)) (by rw[e6] <;> rfl) rfl
theorem KS (c:(List (ByteArray×Int))×List ByteArray×(List (Int×Int×Bool×Int)))(hl:c.1.length≤100000):FC Tryz.prog 195 [(true,[.dat Qo c.1, .dat Qr c.2.1, .dat QD c.2.2])] [] 0 (Xe 3 .int (ZI c.1 c.1.length)):=by
 refine Qy Tryz.func195 rfl rfl Tryz.ntmps195 fun O_ hO w0_ N0_ X_ h0_ f0_=> ?_
 refine w_ ?_
 refine xbx 0 ?_
 iterate 3 refine w_ ?_
 refine lc (dBs 1 (e:= .int) YD) ?_
 iterate 6 refine w_ ?_
 refine AL.fact (Qp (x:= .tmp 8) (Qa rfl)) fun hl1=> ?_
 iterate 4 refine w_ ?_
 refine Qm (fun m_ s_=>∃(k:Nat),k≤c.1.length∧m_=c.1.length - k∧s_=⟨[(2,lf (.val (.slice none 0 0))),(3,lR 2),(8,lf (.dat Qo c.1)),(9,lI (c.1.length:Int)),(10,lI (k:Int))],[(2,some (.arr 3 .int (ZI c.1 k)))]⟩) ⟨0,ap _,rfl,rfl⟩ ?_ ?_
 exact wp [(2,1)] ⟨(Qh (rfl)),trivial⟩
 rintro m_ s_ ⟨k,hk2,hm3,rfl⟩
 have hfl:=QbB (ss:=c.1) (k:=k)
 iterate 4 refine w_ ?_
 cases hb4:(decide ((k:Int) < (c.1.length:Int)))
 have hb4':=a6 hb4
 iterate 8 refine w_ ?_
 subst hO
 refine Zc (e:= .int) (xs:=(ZI c.1 k)) (Res.one rfl (Qb rfl)) rfl ?_
 (congr 1; omega)
 have hb4':=a7 hb4
 iterate 6 refine w_ ?_
 obtain ⟨x5,hx6⟩:=gx c.1 k
 iterate 2 refine w_ ?_
 refine lc (xal 3 QK Vp) ?_
 iterate 6 refine w_ ?_
 refine AL.fact (Ql (x:= .tmp 16) (Qa rfl)) fun hi7=> ?_
 iterate 2 refine w_ ?_
 cases hb8:(!decide (x5.2=1))
 have hb8':(x5.2=1):=QT hb8
 iterate 6 refine w_ ?_
 refine Qc<|QE ⟨k+1,by omega,rfl,rfl⟩ (by omega) ?_
 exact wp [] ⟨(Qh (by first | exact Ka hx6 ‹_› | exact Qbm hx6 ‹_›)),trivial⟩
 have hb8':¬(x5.2=1):=Q0 hb8
 iterate 4 refine w_ ?_
 refine lc (dBs 4 (e:= .int) YD) ?_
 refine lc (dA 5 XR) ?_
 refine w_ ?_
 refine Qc ?_
 iterate 4 refine w_ ?_
 refine Qc<|QE ⟨k+1,by omega,rfl,rfl⟩ (by omega) ?_
 exact wp [(2,5)] ⟨(Qh (by first | exact Ka hx6 ‹_› | exact Qbm hx6 ‹_›)),trivial⟩
theorem QaS (c:(List (ByteArray×Int))×List ByteArray×(List (Int×Int×Bool×Int))):FC Tryz.prog 192 [(true,[.dat Qo c.1, .dat Qr c.2.1, .dat QD c.2.2])] [] 0 (Zk (lf (dS (Z5 c)))):=by
 refine Qy Tryz.func192 rfl rfl Tryz.ntmps192 fun O_ hO w0_ N0_ X_ h0_ f0_=> ?_
 refine w_ ?_
 refine xbx 0 ?_
 iterate 4 refine w_ ?_
 refine lc (dBs 1 (e:= .str) U2) ?_
 iterate 4 refine w_ ?_
 refine Qm (fun m_ s_=>∃(k:Nat),k≤([(⟨#[122,48]⟩:ByteArray),(⟨#[122,49]⟩:ByteArray)]).length∧m_=([(⟨#[122,48]⟩:ByteArray),(⟨#[122,49]⟩:ByteArray)]).length - k∧(∀j,j < k→∀y,[(⟨#[122,48]⟩:ByteArray),⟨#[122,49]⟩][j]? =some y→¬Ze (fun x:QJ=>decide (x.1=y)) c.1 < 0)∧s_=⟨[(1,lP 0 0),(5,lR 1),(6,lI (([(⟨#[122,48]⟩:ByteArray),(⟨#[122,49]⟩:ByteArray)]).length:Int)),(7,lI (k:Int))],[(0,some (.box 52 [.dat Qo c.1, .dat Qr c.2.1, .dat QD c.2.2])),(1,some (.arr 9 .str ([(⟨#[122,48]⟩:ByteArray),(⟨#[122,49]⟩:ByteArray)])))]⟩) ⟨0,ap _,rfl,(fun j hj=>absurd hj (b7 j)),rfl⟩ ?_ ?_
 exact wo []
 rintro m_ s_ ⟨k,hk1,hm2,hno,rfl⟩
 have hzl:(([(⟨#[122,48]⟩:ByteArray),(⟨#[122,49]⟩:ByteArray)]:List ByteArray).length)=2:=rfl
 iterate 4 refine w_ ?_
 cases hb3:(decide ((k:Int) < (([(⟨#[122,48]⟩:ByteArray),(⟨#[122,49]⟩:ByteArray)]).length:Int)))
 have hb3':=a6 hb3
 iterate 7 refine w_ ?_
 subst hO
 have e4:((⟨#[122,50]⟩:ByteArray):ByteArray)=(Z5 c):=by
  first | exact QiG hno ‹_›
 exact Qe (Res.one rfl (Qb rfl)) (by rw[e4] <;> rfl) rfl
 have hb3':=a7 hb3
 iterate 6 refine w_ ?_
 obtain ⟨x5,hx6⟩:=gx ([(⟨#[122,48]⟩:ByteArray),(⟨#[122,49]⟩:ByteArray)]) k
 iterate 7 refine w_ ?_
 refine lc (dK (UW c.1 x5) Qdt) ?_
 iterate 2 refine w_ ?_
 cases hb7:(decide ((Ze (fun x:QJ=>decide (x.1=x5)) c.1) < 0))
 have hb7':=a6 hb7
 iterate 6 refine w_ ?_
 refine Qc<|QE ⟨k+1,by omega,rfl,(YM hno hx6 ‹_›),rfl⟩ (by omega) ?_
 exact wo []
 have hb7':=a7 hb7
 iterate 6 refine w_ ?_
 subst hO
 have e8:(x5:ByteArray)=(Z5 c):=by
  exact QhU hno hx6 ‹_›
 exact Qe (Res.one rfl (Qb rfl)) (by rw[← e8] <;> rfl) rfl
theorem QcE (c:(List (ByteArray×Int))×List ByteArray×(List (Int×Int×Bool×Int))):FC Tryz.prog 202 [(true,[.dat Qo c.1, .dat Qr c.2.1, .dat QD c.2.2])] [] 0 (Zk (lf (dS (Z5 c)))):=by
 refine Qy Tryz.func202 rfl rfl Tryz.ntmps202 fun O_ hO w0_ N0_ X_ h0_ f0_=> ?_
 refine w_ ?_
 refine xbx 0 ?_
 iterate 4 refine w_ ?_
 refine lc (dBs 1 (e:= .str) U2) ?_
 iterate 4 refine w_ ?_
 refine Qm (fun m_ s_=>∃(k:Nat),k≤([(⟨#[122,48]⟩:ByteArray),(⟨#[122,49]⟩:ByteArray)]).length∧m_=([(⟨#[122,48]⟩:ByteArray),(⟨#[122,49]⟩:ByteArray)]).length - k∧(∀j,j < k→∀y,[(⟨#[122,48]⟩:ByteArray),⟨#[122,49]⟩][j]? =some y→¬Ze (fun x:QJ=>decide (x.1=y)) c.1 < 0)∧s_=⟨[(1,lP 0 0),(5,lR 1),(6,lI (([(⟨#[122,48]⟩:ByteArray),(⟨#[122,49]⟩:ByteArray)]).length:Int)),(7,lI (k:Int))],[(0,some (.box 52 [.dat Qo c.1, .dat Qr c.2.1, .dat QD c.2.2])),(1,some (.arr 9 .str ([(⟨#[122,48]⟩:ByteArray),(⟨#[122,49]⟩:ByteArray)])))]⟩) ⟨0,ap _,rfl,(fun j hj=>absurd hj (b7 j)),rfl⟩ ?_ ?_
 exact wo []
 rintro m_ s_ ⟨k,hk1,hm2,hno,rfl⟩
 have hzl:(([(⟨#[122,48]⟩:ByteArray),(⟨#[122,49]⟩:ByteArray)]:List ByteArray).length)=2:=rfl
 iterate 4 refine w_ ?_
 cases hb3:(decide ((k:Int) < (([(⟨#[122,48]⟩:ByteArray),(⟨#[122,49]⟩:ByteArray)]).length:Int)))
 have hb3':=a6 hb3
 iterate 7 refine w_ ?_
 subst hO
 have e4:((⟨#[122,50]⟩:ByteArray):ByteArray)=(Z5 c):=by
  first | exact QiG hno ‹_›
 exact Qe (Res.one rfl (Qb rfl)) (by rw[e4] <;> rfl) rfl
 have hb3':=a7 hb3
 iterate 6 refine w_ ?_
 obtain ⟨x5,hx6⟩:=gx ([(⟨#[122,48]⟩:ByteArray),(⟨#[122,49]⟩:ByteArray)]) k
 iterate 7 refine w_ ?_
 refine lc (dK (WV c.1 x5) H6) ?_
 iterate 2 refine w_ ?_
 cases hb7:(decide ((Ze (fun x:QJ=>decide (x.1=x5)) c.1) < 0))
 have hb7':=a6 hb7
 iterate 6 refine w_ ?_
 refine Qc<|QE ⟨k+1,by omega,rfl,(YM hno hx6 ‹_›),rfl⟩ (by omega) ?_
 exact wo []
 have hb7':=a7 hb7
 iterate 6 refine w_ ?_
 subst hO
 have e8:(x5:ByteArray)=(Z5 c):=by
  exact QhU hno hx6 ‹_›
 exact Qe (Res.one rfl (Qb rfl)) (by rw[← e8] <;> rfl) rfl
theorem Up (c:(List (ByteArray×Int))×List ByteArray×(List (Int×Int×Bool×Int)))(sig:Int)[∀c,Decidable (SgOk c)]:FC Tryz.prog 187 [(true,[.dat Qo c.1, .dat Qr c.2.1, .dat QD c.2.2]),(false,[dI sig])] [] 0 (Zk (lB (decide (SgOk c∧0≤sig∧sig≤(c.1.length:Int) - 1)))):=by
 refine Qy Tryz.func187 rfl rfl Tryz.ntmps187 fun O_ hO w0_ N0_ X_ h0_ f0_=> ?_
 refine AC.fact (Ql (x:= .tmp 1) (Qa rfl)) fun hi1=> ?_
 refine w_ ?_
 refine xbx 0 ?_
 iterate 4 refine w_ ?_
 refine lc (dK (ZB c) U3) ?_
 refine w_ ?_
 cases hb2:(decide (SgOk c))
 have hb2':=a6 hb2
 iterate 10 refine w_ ?_
 subst hO
 have e3:(false:Bool)=(decide (SgOk c∧0≤sig∧sig≤(c.1.length:Int) - 1)):=by
  (simp_all; done)
 exact Qe (Res.one rfl (Qb rfl)) (by rw[← e3] <;> rfl) rfl
 have hb2':=a7 hb2
 iterate 3 refine w_ ?_
 refine AL.fact (Qp (x:= .tmp 10) (Qa rfl)) fun hl4=> ?_
 iterate 2 refine w_ ?_
 refine lgy rfl rfl (dK (Zx sig 0 ((c.1.length:Int) - 1)) YN) ?_
 iterate 4 refine w_ ?_
 subst hO
 have e5:(decide (0≤sig∧sig≤((c.1.length:Int) - 1)):Bool)=(decide (SgOk c∧0≤sig∧sig≤(c.1.length:Int) - 1)):=by
  (simp_all; done)
 exact Qe (Res.one rfl (Qb rfl)) (by rw[e5] <;> rfl) rfl
theorem UN (c:(List (ByteArray×Int))×List ByteArray×(List (Int×Int×Bool×Int)))(x:Int×Bool):FC Tryz.prog 200 [(true,[.dat Qo c.1, .dat Qr c.2.1, .dat QD c.2.2]),(true,[dI x.1,dB x.2])] [] 0 (Zk (lB (decide (0≤x.1∧x.1≤(c.1.length:Int) - 1)))):=by
 refine Qy Tryz.func200 rfl rfl Tryz.ntmps200 fun O_ hO w0_ N0_ X_ h0_ f0_=> ?_
 refine AC.fact (QH (x:= .tmp 1) (i:=0) (Qf rfl) rfl) fun hi1=> ?_
 refine w_ ?_
 refine xbx 0 ?_
 refine xbx 1 ?_
 iterate 7 refine w_ ?_
 refine AL.fact (Qp (x:= .tmp 8) (Qa rfl)) fun hl2=> ?_
 iterate 2 refine w_ ?_
 refine lc (dK (XB x.1 0 ((c.1.length:Int) - 1)) WQ) ?_
 iterate 3 refine w_ ?_
 subst hO
 have e3:(decide (0≤x.1∧x.1≤((c.1.length:Int) - 1)):Bool)=(decide (0≤x.1∧x.1≤(c.1.length:Int) - 1)):=by
  rfl
 exact Qe (Res.one rfl (Qb rfl)) (by rw[e3] <;> rfl) rfl
theorem QbS (c:(List (ByteArray×Int))×List ByteArray×(List (Int×Int×Bool×Int)))(p:Int×Bool)(r:Int×Bool)[∀c,Decidable (SgOk c)]:FC Tryz.prog 100 [(true,[.dat Qo c.1, .dat Qr c.2.1, .dat QD c.2.2]),(true,[dI p.1,dB p.2]),(true,[dI r.1,dB r.2])] [] 0 (Zk (lB (decide (((SgOk c∧0≤p.1∧p.1≤(c.1.length:Int) - 1)∧(0≤r.1∧r.1≤(c.1.length:Int) - 1))∧¬p=r)))):=by
 refine Qy Tryz.func100 rfl rfl Tryz.ntmps100 fun O_ hO w0_ N0_ X_ h0_ f0_=> ?_
 refine AC.fact (QH (x:= .tmp 1) (i:=0) (Qf rfl) rfl) fun hi1=>AC.fact (QH (x:= .tmp 2) (i:=0) (Qf rfl) rfl) fun hi2=> ?_
 refine w_ ?_
 refine xbx 0 ?_
 refine xbx 1 ?_
 refine xbx 2 ?_
 iterate 4 refine w_ ?_
 refine lc (dK (Yn c) WR) ?_
 refine w_ ?_
 cases hb3:(decide (SgOk c))
 have hb3':=a6 hb3
 iterate 17 refine w_ ?_
 subst hO
 have e4:(false:Bool)=(decide (((SgOk c∧0≤p.1∧p.1≤(c.1.length:Int) - 1)∧(0≤r.1∧r.1≤(c.1.length:Int) - 1))∧¬p=r)):=by
  exact (az fun g=>absurd g.1.1.1 ‹_›).symm
 exact Qe (Res.one rfl (Qb rfl)) (by rw[← e4] <;> rfl) rfl
 have hb3':=a7 hb3
 iterate 2 refine w_ ?_
 refine lgy rfl rfl (dK (UN c p) Qd5) ?_
 iterate 2 refine w_ ?_
 cases hb5:(decide (0≤p.1∧p.1≤(c.1.length:Int) - 1))
 have hb5':=a6 hb5
 iterate 12 refine w_ ?_
 subst hO
 have e6:(false:Bool)=(decide (((SgOk c∧0≤p.1∧p.1≤(c.1.length:Int) - 1)∧(0≤r.1∧r.1≤(c.1.length:Int) - 1))∧¬p=r)):=by
  exact (az fun g=>absurd g.1.1.2 ‹_›).symm
 exact Qe (Res.one rfl (Qb rfl)) (by rw[← e6] <;> rfl) rfl
 have hb5':=a7 hb5
 iterate 2 refine w_ ?_
 refine lgy rfl rfl (dK (UN c r) Qd5) ?_
 iterate 2 refine w_ ?_
 cases hb7:(decide (0≤r.1∧r.1≤(c.1.length:Int) - 1))
 have hb7':=a6 hb7
 iterate 7 refine w_ ?_
 subst hO
 have e8:(false:Bool)=(decide (((SgOk c∧0≤p.1∧p.1≤(c.1.length:Int) - 1)∧(0≤r.1∧r.1≤(c.1.length:Int) - 1))∧¬p=r)):=by
  exact (az fun g=>absurd g.1.2 ‹_›).symm
 exact Qe (Res.one rfl (Qb rfl)) (by rw[← e8] <;> rfl) rfl
 have hb7':=a7 hb7
 iterate 2 refine w_ ?_
 refine lgy rfl rfl (UJ Ux Jw (Qf rfl) (Qf rfl) (p:=p) (q:=r) rfl rfl rfl) ?_
 iterate 4 refine w_ ?_
 subst hO
 have e9:(!(Ty.beq Qw p r):Bool)=(decide (((SgOk c∧0≤p.1∧p.1≤(c.1.length:Int) - 1)∧(0≤r.1∧r.1≤(c.1.length:Int) - 1))∧¬p=r)):=by
  exact Qn6 ‹_› ‹_› ‹_›
 exact Qe (Res.one rfl (Qb rfl)) (by rw[e9] <;> rfl) rfl
end Go.Proofs.YtjaadeknhofhpaaGreat
