/- Walks over abstract states: the state graph, both sides. -/
import Derived.Test.YtjaadeknhofhpaaGreatWp
set_option linter.unusedSimpArgs false
set_option linter.unusedVariables false
set_option linter.unusedSectionVars false
namespace Go.Proofs.YtjaadeknhofhpaaGreat
open Go.RowKit
set_option maxRecDepth 100000
set_option maxHeartbeats 4000000
def UB:Nat→List ByteArray→List UInt8→List ByteArray
  | _,c,[]=>c
  | i,c,v :: vs=>UB (i+1) (c.set i ((c[i]?).getD ByteArray.empty++⟨#[v]⟩)) vs
def goS (n:Nat)(arcs:List DAr):Nat→Nat→List ByteArray→Option (List ByteArray)
  | 0,_,c=>some c
  | f+1,k,c=>if (V3 n arcs (k:Int)).2=true then goS n arcs f (k+1) (UB 0 c (V3 n arcs (k:Int)).1) else none
section
variable {n f k i m:Nat}{arcs:List DAr}{c codes:List ByteArray}{vs us:List UInt8}{v:UInt8}{x:ByteArray}
theorem Qgb (hv:vs[i]? =some v)(hx:c[i]? =some x):UB i c (vs.drop i)=UB (i+1) (c.set i (x++⟨#[v]⟩)) (vs.drop (i+1)):=by
  rw[Yb hv,UB,hx]
  rfl
theorem Qqn (h:vs.length≤i):UB i c (vs.drop i)=c:=by rw[bt h,UB]
theorem Qic:∀(i:Nat) (c:List ByteArray) (vs:List UInt8),(UB i c vs).length=c.length
  | _,_,[]=>by rw[UB]
  | i,c,v :: vs=>by rw[UB,Qic]; simp
theorem Qs4 (hk:k < m)(h:(V3 n arcs (k:Int)).2=true):goS n arcs (m - k) k c=goS n arcs (m - (k+1)) (k+1) (UB 0 c (V3 n arcs (k:Int)).1):=by
  rw[show m - k=(m - (k+1))+1 by omega,goS,if_pos h]
theorem Qc7 (hk:m≤k):goS n arcs (m - k) k c=some c:=by rw[show m - k=0 by omega,goS]
theorem QoT {j:Nat}(h:(V3 n arcs (j:Int)).2=false)(hk:k≤j)(hj:j < k+f):goS n arcs f k c=none:=by
  induction f generalizing k c with
  | zero=>omega
  | succ f ih=>
    rw[goS]
    by_cases e:j=k
    · subst e; rw[if_neg (by rw[h]; decide)]
    · split
      · exact ih (by omega) (by omega)
      · rfl
theorem QjT (hr:∀a∈arcs,InR n a)(sig:Int):(V3 n arcs sig).2=(l5V n arcs sig).2:=by
  rcases QdQ (sig:=sig) hr with ⟨h1,h2,_⟩ | ⟨us,h1,_,h2⟩
  · rw[h1,h2]
  · rw[h1,h2]
theorem Qln (h:¬0 < ((Wz n arcs m).length:Int))(hk:k < m):(l5V n arcs (k:Int)).2=true:=by
  induction m with
  | zero=>omega
  | succ m ih=>
    simp only[Wz,aa] at h
    by_cases e:k=m
    · subst e
      cases h2:(l5V n arcs (k:Int)).2 with
      | true=>rfl
      | false=>rw[h2] at h; simp at h
    · exact ih (by omega) (by omega)
theorem Kz (hr:∀a∈arcs,InR n a)(h:0 < ((Wz n arcs m).length:Int)):goS n arcs m 0 c=none:=by
  have:∃j,j < m∧(l5V n arcs (j:Int)).2=false:=by
    induction m with
    | zero=>simp[Wz] at h
    | succ m ih=>
      simp only[Wz,aa] at h
      cases h2:(l5V n arcs (m:Int)).2 with
      | false=>exact ⟨m,by omega,h2⟩
      | true=>
        rw[h2] at h
        obtain ⟨j,h3,h4⟩:=ih (by simpa using h)
        exact ⟨j,by omega,h4⟩
  obtain ⟨j,h1,h2⟩:=this
  exact QoT ((QjT hr _).trans h2) (ap _) (by omega)
theorem QpR (hr:∀a∈arcs,InR n a)(sig:Int):(V3 n arcs sig).1.length≤n:=by
  rcases QdQ (sig:=sig) hr with ⟨_,_,_,h2⟩ | ⟨us,_,h1,h2⟩
  · rw[h2]; exact ap _
  · rw[h2,aF,h1]; exact aO _
theorem QiB {b:Nat}{y:ByteArray}(h:∀z∈c,z.size≤b)(hx:c[i]? =some x)(hy:y.size≤x.size+1):∀z∈c.set i y,z.size≤b+1:=fun z hz=>by
  rcases bV hz with h1 | h1
  · exact Nat.le_succ_of_le (h z h1)
  · rw[h1]; have:=h x (a8 hx); omega
theorem VX {ls:List Zy}{ms:List DMv}{q:Nat}(h:∀v∈ms,MvOk n q v):∀a∈QW ls ms,InR n a:=fun a ha=>by
  obtain ⟨v,hv,rfl⟩:=bQ.1 ha
  obtain ⟨h1,_,h2⟩:=h v hv
  exact ⟨h1,h2⟩
theorem QtA {sig:Int}(hr:∀a∈arcs,InR n a)(h:(l5V n arcs sig).2=true):∃us:List UInt8,(l5V n arcs sig).1=⟨us.toArray⟩∧us.length=n∧(l5V n arcs sig).1.size=n∧V3 n arcs sig=(us.map q0,true):=by
  rcases QdQ (sig:=sig) hr with ⟨h1,_⟩ | ⟨us,h1,h2,h3⟩
  · rw[h1] at h; cases h
  · exact ⟨us,by rw[h1],h2,by rw[h1,← h2]; rfl,h3⟩
theorem Qc8 (b:ByteArray)(i:Nat):(b.extract i (i+1)).size≤1:=by simp only[aP]; omega
theorem Qu7 (hu:us[i]? =some v):(⟨us.toArray⟩:ByteArray).extract i (i+1)=⟨#[v]⟩:=by
  apply ByteArray.ext
  simp only[ByteArray.data_extract]
  obtain ⟨h1,h2⟩:=ab.1 hu
  apply Array.ext
  · simp; omega
  · intro j h3 h4
    have:j=0:=by simp at h4; omega
    subst this
    simp[h2]
theorem Qst (hu:us[i]? =some v):(us.map q0)[i]? =some (q0 v):=by rw[b6,hu]; rfl
theorem QpJ {b:ByteArray}(hb:b=⟨us.toArray⟩)(hi:i < us.length)(hd:decide (b.extract i (i+1)=⟨#[63]⟩)=true)(hx:c[i]? =some x):UB i c ((us.map q0).drop i)=UB (i+1) (c.set i (x++⟨#[48]⟩)) ((us.map q0).drop (i+1)):=by
  have hu:=ai hi
  have h1:=a7 hd
  rw[hb,Qu7 hu] at h1
  have h2:us[i]=63:=by
    have:=congrArg (fun b:ByteArray=>b.data[0]?) h1
    simpa using this
  have:=Qgb (Qst hu) hx
  rwa [show q0 us[i]=48 by rw[h2]; rfl] at this
theorem QqE {b:ByteArray}(hb:b=⟨us.toArray⟩)(hi:i < us.length)(hd:decide (b.extract i (i+1)=⟨#[63]⟩)=false)(hx:c[i]? =some x):UB i c ((us.map q0).drop i)=UB (i+1) (c.set i (x++b.extract i (i+1))) ((us.map q0).drop (i+1)):=by
  have hu:=ai hi
  have h1:=a6 hd
  rw[hb,Qu7 hu] at h1 ⊢
  have:=Qgb (Qst hu) hx
  rwa [show q0 us[i]=us[i] by unfold q0; rw[if_neg]; intro e; exact h1 (by rw[e])] at this
theorem Qp9 (h:us.length≤i):UB i c ((us.map q0).drop i)=c:=Qqn (by simpa using h)
end
section
variable [∀s,Decidable (StgOk s)]{s:Q9}{c:List ByteArray}
def WS:List (ByteArray×Int)×List ByteArray×List DAr:=([],[],[])
def sgV (s:Q9):(List (ByteArray×Int)×List ByteArray×List DAr)×Bool:=
  if (Qs s).2=true∧¬4000 < (Qs s).1.2.length then
    (match goS (Qs s).1.1.length (QW s.2.2.1 (Qs s).1.2) s.2.1.length 0 (List.replicate (Qs s).1.1.length ByteArray.empty) with
    | some c=>((s.2.1,c,QW s.2.2.1 (Qs s).1.2),true)
    | none=>(WS,false))
  else (WS,false)
theorem QcR (h:(Qs s).2=false):sgV s=(WS,false):=if_neg fun h2=>by rw[h] at h2; cases h2.1
theorem Qde (h:(4000:Int) < ((Qs s).1.2.length:Int)):sgV s=(WS,false):=if_neg fun h2=>h2.2 (by omega)
theorem Qdf (h:goS (Qs s).1.1.length (QW s.2.2.1 (Qs s).1.2) s.2.1.length 0 (List.replicate (Qs s).1.1.length ByteArray.empty)=none):sgV s=(WS,false):=by
  unfold sgV
  rw[h]
  split <;> rfl
theorem QaG (h1:(Qs s).2=true)(h2:¬(4000:Int) < ((Qs s).1.2.length:Int))(h:goS (Qs s).1.1.length (QW s.2.2.1 (Qs s).1.2) s.2.1.length 0 (List.replicate (Qs s).1.1.length ByteArray.empty)=some c):
    sgV s=((s.2.1,c,QW s.2.2.1 (Qs s).1.2),true):=by
  unfold sgV
  rw[if_pos ⟨h1,by omega⟩,h]
end
theorem Wn (s:(Int×(List (List Int×List Int)))×(List (ByteArray×Int))×(List (Int×Bool))×ByteArray)[∀s,Decidable (StgOk s)]:FC Tryz.prog 106 [(true,[dI s.1.1, .dat X3 s.1.2, .dat Qo s.2.1, .dat YQ s.2.2.1,dS s.2.2.2])] [] 0 (Is (PV.tup [(true,[.ref 0, .ref 1, .ref 2]),(false,[dB ((sgV s).2)])]) [(0,some (.arr 90 QK (((sgV s).1).1))),(1,some (.arr 9 .str (((sgV s).1).2.1))),(2,some (.arr 106 QA (((sgV s).1).2.2)))]):=by
 refine Qy Tryz.func106 rfl rfl Tryz.ntmps106 fun O_ hO w0_ N0_ X_ h0_ f0_=> ?_
 refine AC.fact (QH (x:= .tmp 0) (i:=0) (Qf rfl) rfl) fun hi1=> ?_
 refine w_ ?_
 refine xbx 0 ?_
 refine lc (xal 1 Wu ZS) ?_
 iterate 4 refine w_ ?_
 refine lc (dG 2 (Qcp s) Qkf) ?_
 iterate 3 refine w_ ?_
 refine lc (xal 4 QuP QgU) ?_
 iterate 8 refine w_ ?_
 cases hb2:((Qs s).2)
 iterate 15 refine w_ ?_
 refine lc (Qi Y4 rfl (ah.1 rfl) rfl rfl) ?_
 iterate 3 refine w_ ?_
 refine AC.wk (Qv 5 (p:=1) (off:=0) 90 QK rfl rfl (Fresh.of rfl) (nlr rfl))<|AC.wk (Qv 6 (p:=1) (off:=1) 9 .str rfl rfl (Fresh.of rfl) (nlr rfl))<|AC.wk (Qv 7 (p:=1) (off:=2) 106 QA rfl rfl (Fresh.of rfl) (nlr rfl))<|Zf ?_
 subst hO
 have e3:(false:Bool)=((sgV s).2):=by
  (rw[QcR ‹_›]; done)
 exact QF _ _ [(0,5),(1,6),(2,7)] (QM rfl (Qz rfl rfl Q3 rfl) (Qb rfl)) (by rw[← e3] <;> rfl) ⟨(Qh (by (rw[QcR ‹_›]; rfl))),(Qh (by (rw[QcR ‹_›]; rfl))),(Qh (by (rw[QcR ‹_›]; rfl))),trivial⟩ rfl rfl
 iterate 2 refine w_ ?_
 refine lgy rfl rfl (Jk 8 (Qcw s ((Qs s).1) (Yi (s:=s) ‹_›).2.2.2.2.1 (by have:=(Yi (s:=s) ‹_›).2.2.1; omega) (by have:=UF (Yi (s:=s) ‹_›).1.sigs; omega)) Qjo ⟨_,_,rfl,(Ev.b (Qf rfl)),⟨_,_,rfl,(K6 (Qf rfl) ⟨_,_,rfl, .inr ⟨_,_,_,_,rfl,rfl,rfl⟩,⟨_,_,rfl, .inr ⟨_,_,_,_,rfl,rfl,rfl⟩,rfl⟩⟩),rfl⟩⟩ rfl (Fresh.of rfl) (nlr rfl)) ?_
 iterate 4 refine w_ ?_
 cases hb4:(decide (0 < ((Wz ((Qs s).1).1.length (QW s.2.2.1 ((Qs s).1).2) s.2.1.length).length:Int)))
 have hb4':=a6 hb4
 iterate 6 refine w_ ?_
 cases hb5:(decide (4000 < ((((Qs s).1).2).length:Int)))
 have hb5':=a6 hb5
 iterate 2 refine w_ ?_
 obtain ⟨hsg,hN1,hN2,hNd,hMv,hMl⟩:=Yi (s:=s) ‹_›
 have hir:=VX (ls:=s.2.2.1) hMv
 have hsl:=UF hsg.sigs
 apply dW [⟨some 36,lR 9,[(9,some (.arr 90 QK ([])))]⟩,io 37 (lP 0 2),io 38 (lf (.dat Qo s.2.1)),⟨some 39,lR 10,[(10,some (.arr 90 QK (([])++s.2.1))),(9,none)]⟩,io 40 (lP 4 0),io 41 (lR 2),io 42 (lI ((((Qs s).1).1).length:Int)),⟨some 43,lR 11,[(11,some (.arr 9 .str (List.replicate ((((Qs s).1).1).length) (Ty.zero .str))))]⟩,io 44 (ag [.ref 10, .ref 11, .val (.slice none 0 0)]),⟨some 6,lP 12 0,[(12,some (.box 52 [.val (.slice none 0 0), .val (.slice none 0 0), .val (.slice none 0 0)]))]⟩,⟨none,lf (.val undef),[(12,some (.box 52 [.ref 10, .ref 11, .val (.slice none 0 0)]))]⟩] [0,1,1,0,15,15,15,15,0,511,0]
 refine zz (fun _ h_=>ac (dBs 9 (e:=QK) Vp) rfl) ?_
 iterate 2 refine z_ ?_
 refine zz (fun _ h_=>ac (ZH 10 (h_.v rfl) (h_.en 9 rfl) (Evl.rep (h_.v rfl)) rfl QbU Jg (by first | omega | (simp only[aa,aF,ak,ao,aD]; omega) | (simp only[aa,bn,ak,ao,aD]; omega)) rfl (h_.fr 10 rfl) (nlr rfl)) rfl) ?_
 iterate 3 refine z_ ?_
 refine zz (fun _ h_=>ac (Wd 11 (e:= .str) (n:=(((Qs s).1).1).length) (h_.v rfl) (h_.v rfl) Qbw QuD rfl (by omega) (by omega) rfl (h_.fr 11 rfl) (nlr rfl)) rfl)<|zz (fun _ h_=>ac (Qi Y4 ⟨_,_,rfl,(h_.w rfl),⟨_,_,rfl,(h_.w rfl),rfl⟩⟩ (ah.1 (by simp only[Q6,Wx,aW,bc]; rw[(h_.en 10 rfl),(h_.en 11 rfl)]; rfl)) rfl rfl) rfl)<|zz (fun _ h_=>ac (Xp 12 Wu ZS rfl rfl (h_.fr 12 rfl) (nlr rfl)) rfl)<|zz (fun _ h_=>ac (QZ (h_.v rfl) (h_.en 12 rfl) (h_.w rfl) (by simp only[Q6,Wx,aW,bc]; rw[(h_.en 10 rfl),(h_.en 11 rfl)]; rfl) Q3 rfl) rfl) ?_
 exact zN
 iterate 4 refine w_ ?_
 refine AL.fact (Qp (x:= .tmp 46) (Qa rfl)) fun hl6=> ?_
 iterate 4 refine w_ ?_
 refine Qm (fun m_ s_=>∃(k:Nat) (codes:List ByteArray),k≤s.2.1.length∧m_=s.2.1.length - k∧(goS (Qs s).1.1.length (QW s.2.2.1 (Qs s).1.2) s.2.1.length 0 (List.replicate (Qs s).1.1.length ByteArray.empty)=goS (Qs s).1.1.length (QW s.2.2.1 (Qs s).1.2) (s.2.1.length - k) k codes)∧(codes.length=(Qs s).1.1.length)∧(∀c∈codes,c.size≤300*k)∧s_=⟨[(1,lP 0 0),(2,lP 1 0),(3,lB false),(4,lP 4 0),(6,lP 12 0),(47,lI (s.2.1.length:Int)),(48,lI (k:Int))],[(0,some (.box 29 [dI s.1.1, .dat X3 s.1.2, .dat Qo s.2.1, .dat YQ s.2.2.1,dS s.2.2.2])),(1,some (.box 52 [.val (.slice none 0 0), .val (.slice none 0 0), .val (.slice none 0 0)])),(2,some (.arr 9 .str (((Qs s).1).1))),(3,some (.arr 229 Wi (((Qs s).1).2))),(4,some (.box 164 [.ref 2, .ref 3])),(10,some (.arr 90 QK (([])++s.2.1))),(12,some (.box 52 [.ref 10, .ref 13, .val (.slice none 0 0)])),(13,some (.arr 9 .str codes))]⟩) ⟨0,List.replicate ((((Qs s).1).1).length) (Ty.zero .str),ap _,rfl,rfl,(by simp),(fun c hc=>by rw[cG hc]; exact ap _),rfl⟩ ?_ ?_
 exact wp [(13,11)] ⟨rfl,rfl,rfl,rfl,rfl,rfl,rfl,(Qh (by first | rfl | simp)),trivial⟩
 rintro m_ s_ ⟨k,codes,hk7,hm8,hA,hL,hZ,rfl⟩
 iterate 4 refine w_ ?_
 cases hb9:(decide ((k:Int) < (s.2.1.length:Int)))
 have hb9':=a6 hb9
 iterate 11 refine w_ ?_
 refine AC.wk (Qv 14 (p:=12) (off:=2) 106 QA rfl rfl (Fresh.of rfl) (nlr rfl)) ?_
 refine Qm (fun m_ s_=>∃(j:Nat),j≤(((Qs s).1).2).length∧m_=(((Qs s).1).2).length - j∧s_=⟨[(1,lP 0 0),(2,lP 1 0),(3,lB false),(6,lP 12 0),(82,lR 3),(83,lI ((((Qs s).1).2).length:Int)),(84,lI (j:Int))],[(0,some (.box 29 [dI s.1.1, .dat X3 s.1.2, .dat Qo s.2.1, .dat YQ s.2.2.1,dS s.2.2.2])),(1,some (.box 52 [.val (.slice none 0 0), .val (.slice none 0 0), .val (.slice none 0 0)])),(3,some (.arr 229 Wi (((Qs s).1).2))),(10,some (.arr 90 QK (([])++s.2.1))),(12,some (.box 52 [.ref 10, .ref 13, .ref 15])),(13,some (.arr 9 .str codes)),(15,some (.arr 106 QA ((((Qs s).1).2.take j).map (QlB s.2.2.1))))]⟩) ⟨0,ap _,rfl,rfl⟩ ?_ ?_
 exact wp [(15,14)] ⟨rfl,rfl,rfl,rfl,rfl,rfl,(Qh (by first | rfl | simp)),trivial⟩
 rintro m_ s_ ⟨j,hk10,hm11,rfl⟩
 iterate 4 refine w_ ?_
 cases hb12:(decide ((j:Int) < ((((Qs s).1).2).length:Int)))
 have hb12':=a6 hb12
 iterate 9 refine w_ ?_
 subst hO
 have e13:(true:Bool)=((sgV s).2):=by
  (rw[QaG ‹_› ‹_› (hA.trans (Qc7 (by omega)))]; done)
 exact QF _ _ [(0,10),(1,13),(2,15)] (QM rfl (Qz rfl rfl Q3 rfl) (Qb rfl)) (by rw[← e13] <;> rfl) ⟨(Qh (by (rw[QaG ‹_› ‹_› (hA.trans (Qc7 (by omega)))]; rfl))),(Qh (by (rw[QaG ‹_› ‹_› (hA.trans (Qc7 (by omega)))]; done))),(Qh (by (rw[QaG ‹_› ‹_› (hA.trans (Qc7 (by omega))),QN (by omega)]; rfl))),trivial⟩ rfl rfl
 have hb12':=a7 hb12
 iterate 6 refine w_ ?_
 obtain ⟨mv,hx15⟩:=gx (((Qs s).1).2) j
 have hrm:=(hMv _ (a8 hx15)).2.1
 refine w_ ?_
 refine lc (xal 16 Wi Ki) ?_
 iterate 7 refine w_ ?_
 refine AL.fact (Ql (x:= .tmp 91) (Qa rfl)) fun hi16=> ?_
 obtain ⟨x17,hx18⟩:=gx s.2.2.1 ((mv.2.1).toNat)
 have hla:=QgO hx18
 iterate 2 refine w_ ?_
 refine lc (xal 17 Qw Ys) ?_
 iterate 7 refine w_ ?_
 refine AL.fact (Ql (x:= .tmp 97) (Qa rfl)) fun hi19=> ?_
 iterate 2 refine w_ ?_
 refine AL.fact (Ql (x:= .tmp 99) (Qa rfl)) fun hi20=> ?_
 iterate 4 refine w_ ?_
 refine AL.fact (Ql (x:= .tmp 103) (Qa rfl)) fun hi21=>lc (Qi JV ⟨_,_,rfl,(Qf rfl),⟨_,_,rfl,(Qf rfl),⟨_,_,rfl,(Qf rfl),⟨_,_,rfl,(Qf rfl),rfl⟩⟩⟩⟩ (ah.1 rfl) rfl rfl) ?_
 refine lc (dBs 18 (e:=QA) Za (hab:=by exact ⟨_,_,_,_,rfl,⟨[dI mv.1],[dI x17.1,dB x17.2,dI mv.2.2],_,_,_,_,rfl,rfl,⟨rfl,rfl⟩,⟨[dI x17.1],[dB x17.2,dI mv.2.2],_,_,_,_,rfl,rfl,⟨rfl,rfl⟩,⟨[dB x17.2],[dI mv.2.2],_,_,_,_,rfl,rfl,⟨rfl,rfl⟩,⟨rfl,rfl⟩,rfl⟩,rfl⟩,rfl⟩,⟨rfl,rfl⟩,rfl⟩)) ?_
 refine lc (dA 19 Uh) ?_
 iterate 2 refine w_ ?_
 refine Qc ?_
 iterate 4 refine w_ ?_
 refine Qc<|QE ⟨j+1,by omega,rfl,rfl⟩ (by omega) ?_
 exact wp [(15,19)] ⟨rfl,rfl,rfl,rfl,rfl,rfl,(Qh (by rw[QO hx15]; simp[QlB,hla])),trivial⟩
 have hb9':=a7 hb9
 iterate 12 refine w_ ?_
 refine lc (XA (UO s ((Qs s).1) (k:Int) hMv (by omega)) QeT ⟨_,_,rfl,(Ev.b (Qf rfl)),⟨_,_,rfl,(K6 (Qf rfl) ⟨_,_,rfl, .inr ⟨_,_,_,_,rfl,rfl,rfl⟩,⟨_,_,rfl, .inr ⟨_,_,_,_,rfl,rfl,rfl⟩,rfl⟩⟩),⟨_,_,rfl,(Ev.b (Qf rfl)),rfl⟩⟩⟩ rfl rfl rfl) ?_
 iterate 6 refine w_ ?_
 refine Yd ?_
 obtain ⟨us,hu1,hu2,hu3,hu4⟩:=QtA (sig:=(k:Int)) hir (Qln (m:=s.2.1.length) ‹_› (by omega))
 iterate 7 refine w_ ?_
 refine Qm (fun m_ s_=>∃(i:Nat) (codes2:List ByteArray),i≤codes.length∧m_=codes.length - i∧(UB 0 codes (us.map q0)=UB i codes2 ((us.map q0).drop i))∧(codes2.length=(Qs s).1.1.length)∧(∀c∈codes2,c.size≤300*k+i)∧s_=⟨[(1,lP 0 0),(2,lP 1 0),(3,lB false),(4,lP 4 0),(6,lP 12 0),(7,lI (k:Int)),(8,lf (dS ((l5V ((Qs s).1).1.length (QW s.2.2.1 ((Qs s).1).2) (k:Int)).1))),(47,lI (s.2.1.length:Int)),(48,lI (k:Int)),(49,lB true),(50,lI (k:Int)),(51,PV.tup [(false,[dS ((l5V ((Qs s).1).1.length (QW s.2.2.1 ((Qs s).1).2) (k:Int)).1)]),(false,[dB ((l5V ((Qs s).1).1.length (QW s.2.2.1 ((Qs s).1).2) (k:Int)).2)])]),(52,ag [dI s.1.1, .dat X3 s.1.2, .dat Qo s.2.1, .dat YQ s.2.2.1,dS s.2.2.2]),(53,ag [.ref 2, .ref 3]),(54,lI (k:Int)),(55,PV.tup [(false,[dS ((l5V ((Qs s).1).1.length (QW s.2.2.1 ((Qs s).1).2) (k:Int)).1)]),(false,[dB ((l5V ((Qs s).1).1.length (QW s.2.2.1 ((Qs s).1).2) (k:Int)).2)])]),(56,lf (dS ((l5V ((Qs s).1).1.length (QW s.2.2.1 ((Qs s).1).2) (k:Int)).1))),(57,lB ((l5V ((Qs s).1).1.length (QW s.2.2.1 ((Qs s).1).2) (k:Int)).2)),(58,lP 12 1),(60,lI (codes.length:Int)),(61,lI (i:Int))],[(0,some (.box 29 [dI s.1.1, .dat X3 s.1.2, .dat Qo s.2.1, .dat YQ s.2.2.1,dS s.2.2.2])),(1,some (.box 52 [.val (.slice none 0 0), .val (.slice none 0 0), .val (.slice none 0 0)])),(2,some (.arr 9 .str (((Qs s).1).1))),(3,some (.arr 229 Wi (((Qs s).1).2))),(4,some (.box 164 [.ref 2, .ref 3])),(10,some (.arr 90 QK (([])++s.2.1))),(12,some (.box 52 [.ref 10, .ref 20, .val (.slice none 0 0)])),(20,some (.arr 9 .str codes2))]⟩) ⟨0,codes,ap _,rfl,rfl,hL,hZ,rfl⟩ ?_ ?_
 exact wo [(20,13)]
 rintro m_ s_ ⟨i,codes2,hk22,hm23,hA2,hL2,hZ2,rfl⟩
 iterate 4 refine w_ ?_
 cases hb24:(decide ((i:Int) < (codes.length:Int)))
 have hb24':=a6 hb24
 iterate 6 refine w_ ?_
 refine Qc<|QE ⟨k+1,codes2,by omega,rfl,(by rw[hA,Qs4 (by omega) (by rw[hu4])]; exact congrArg _ (by rw[hu4]; exact hA2.trans (Qp9 (by omega)))),hL2,(fun c hc=>b4 (hZ2 c hc) (by omega)),rfl⟩ (by omega) ?_
 exact wo [(13,20)]
 have hb24':=a7 hb24
 iterate 13 refine w_ ?_
 refine lc (show Does _ _ _ _ (St.put _ 68 (lf (dS (((l5V ((Qs s).1).1.length (QW s.2.2.1 ((Qs s).1).2) (k:Int)).1).extract ((i:Int)).toNat ((i:Int)+1).toNat)))) from Zm (l:=(some (i:Int))) (h:=(some ((i:Int)+1))) (Qa rfl) (by exact (Qa rfl)) (by exact (Qa rfl)) Zo rfl (by first | omega | (simp only[aj,ae]; omega)) (by first | omega | (simp only[aj,ae]; omega)) (by first | omega | (simp only[aj,ae]; omega))) ?_
 iterate 7 refine w_ ?_
 cases hb25:(decide ((((l5V ((Qs s).1).1.length (QW s.2.2.1 ((Qs s).1).2) (k:Int)).1).extract ((i:Int)).toNat ((i:Int)+1).toNat)=(⟨#[63]⟩:ByteArray)))
 have hb25':=a6 hb25
 iterate 7 refine w_ ?_
 obtain ⟨x26,hx27⟩:=gx codes2 i
 have hczx26:=hZ2 _ (a8 hx27)
 iterate 2 refine w_ ?_
 refine lc (ZR (Qa rfl) (Qa rfl) rfl (by first | (simp only[X5]; omega) | (refine b4 (Nat.add_le_add_left (Qc8 _ i) _) ?_; omega))) ?_
 refine w_ ?_
 refine lc (QG (e:= .str) (z':=x26++(((l5V ((Qs s).1).1.length (QW s.2.2.1 ((Qs s).1).2) (k:Int)).1).extract ((i:Int)).toNat ((i:Int)+1).toNat)) (Qa rfl) rfl hx27 rfl (Qf rfl) rfl KT rfl rfl)<|Qc ?_
 iterate 4 refine w_ ?_
 refine Qc<|QE ⟨i+1,(codes2.set i (x26++(((l5V ((Qs s).1).1.length (QW s.2.2.1 ((Qs s).1).2) (k:Int)).1).extract ((i:Int)).toNat ((i:Int)+1).toNat))),by omega,rfl,by first | exact hA2.trans (QpJ hu1 (by omega) ‹_› hx27) | exact hA2.trans (QqE hu1 (by omega) ‹_› hx27),(by rw[au]; exact hL2),(QiB hZ2 hx27 (by rw[aU]; first | exact aO _ | exact Nat.add_le_add_left (Qc8 _ _) _)),rfl⟩ (by omega) ?_
 exact wp [] ⟨rfl,rfl,rfl,rfl,rfl,rfl,rfl,(Qh (by first | rfl | simp)),trivial⟩
 have hb25':=a7 hb25
 iterate 9 refine w_ ?_
 obtain ⟨x28,hx29⟩:=gx codes2 i
 have hczx28:=hZ2 _ (a8 hx29)
 iterate 2 refine w_ ?_
 refine lc (ZR (Qa rfl) (Qa rfl) rfl (by first | (simp only[X5]; omega) | (refine b4 (Nat.add_le_add_left (Qc8 _ i) _) ?_; omega))) ?_
 refine w_ ?_
 refine lc (QG (e:= .str) (z':=x28++(⟨#[48]⟩:ByteArray)) (Qa rfl) rfl hx29 rfl (Qf rfl) rfl KT rfl rfl)<|Qc ?_
 iterate 4 refine w_ ?_
 refine Qc<|QE ⟨i+1,(codes2.set i (x28++(⟨#[48]⟩:ByteArray))),by omega,rfl,by first | exact hA2.trans (QpJ hu1 (by omega) ‹_› hx29) | exact hA2.trans (QqE hu1 (by omega) ‹_› hx29),(by rw[au]; exact hL2),(QiB hZ2 hx29 (by rw[aU]; first | exact aO _ | exact Nat.add_le_add_left (Qc8 _ _) _)),rfl⟩ (by omega) ?_
 exact wp [] ⟨rfl,rfl,rfl,rfl,rfl,rfl,rfl,(Qh (by first | rfl | simp)),trivial⟩
 have hb5':=a7 hb5
 iterate 2 refine w_ ?_
 refine lc (Qi Y4 rfl (ah.1 rfl) rfl rfl) ?_
 iterate 3 refine w_ ?_
 refine AC.wk (Qv 21 (p:=1) (off:=0) 90 QK rfl rfl (Fresh.of rfl) (nlr rfl))<|AC.wk (Qv 22 (p:=1) (off:=1) 9 .str rfl rfl (Fresh.of rfl) (nlr rfl))<|AC.wk (Qv 23 (p:=1) (off:=2) 106 QA rfl rfl (Fresh.of rfl) (nlr rfl))<|Zf ?_
 subst hO
 have e30:(false:Bool)=((sgV s).2):=by
  (rw[Qde ‹_›]; done)
 exact QF _ _ [(0,21),(1,22),(2,23)] (QM rfl (Qz rfl rfl Q3 rfl) (Qb rfl)) (by rw[← e30] <;> rfl) ⟨(Qh (by (rw[Qde ‹_›]; rfl))),(Qh (by (rw[Qde ‹_›]; rfl))),(Qh (by (rw[Qde ‹_›]; rfl))),trivial⟩ rfl rfl
 have hb4':=a7 hb4
 iterate 8 refine w_ ?_
 refine lc (Qi Y4 rfl (ah.1 rfl) rfl rfl) ?_
 iterate 3 refine w_ ?_
 refine AC.wk (Qv 24 (p:=1) (off:=0) 90 QK rfl rfl (Fresh.of rfl) (nlr rfl))<|AC.wk (Qv 25 (p:=1) (off:=1) 9 .str rfl rfl (Fresh.of rfl) (nlr rfl))<|AC.wk (Qv 26 (p:=1) (off:=2) 106 QA rfl rfl (Fresh.of rfl) (nlr rfl))<|Zf ?_
 subst hO
 have e31:(false:Bool)=((sgV s).2):=by
  (rw[Qdf (Kz (VX (Yi ‹_›).2.2.2.2.1) ‹_›)]; done)
 exact QF _ _ [(0,24),(1,25),(2,26)] (QM rfl (Qz rfl rfl Q3 rfl) (Qb rfl)) (by rw[← e31] <;> rfl) ⟨(Qh (by (rw[Qdf (Kz (VX (Yi ‹_›).2.2.2.2.1) ‹_›)]; rfl))),(Qh (by (rw[Qdf (Kz (VX (Yi ‹_›).2.2.2.2.1) ‹_›)]; rfl))),(Qh (by (rw[Qdf (Kz (VX (Yi ‹_›).2.2.2.2.1) ‹_›)]; rfl))),trivial⟩ rfl rfl
end Go.Proofs.YtjaadeknhofhpaaGreat
namespace Go.Proofs.YtjaadeknhofhpaaGreat
open Go.RowKit
set_option maxRecDepth 100000
set_option maxHeartbeats 4000000
abbrev DRg:=List ByteArray×List DMv
instance (n m:Nat) (v:DMv):Decidable (MvOk n m v):=inferInstanceAs (Decidable (_∧_))
def QlR (r:DRg):Prop:=(1≤r.1.length∧r.1.length≤300)∧r.2.length≤4000∧r.1.Nodup∧∀v∈r.2,MvOk r.1.length 24 v
instance (r:DRg):Decidable (QlR r):=inferInstanceAs (Decidable (_∧_))
def QvK (l:List ByteArray):List (ByteArray×Bool):=l.foldl (fun m x=>Vl .str m x true) []
section
variable {r:DRg}{k:Nat}{x y:ByteArray}{v:DMv}{l:List ByteArray}{m:List (ByteArray×Bool)}
end
def QqX (f:Int→Bool):Nat→List Int
  | 0=>[]
  | k+1=>QqX f k++(if f (k:Int)=true then [] else [(k:Int)])
section
variable {f:Int→Bool}{k n:Nat}{α:Type _}{l:List α}{p:α→Bool}{x:α}
end
def byT (r:DRg)(t:Int):Bool:=r.2.any fun v=>decide (v.2.1=t)
def Qu4 (r:DRg)(t:Int):Bool:=r.2.any fun v=>decide (v.1=t)
def mfV (r:DRg)(k:Int):List DMv×Bool:=if QlR r∧0≤k∧k < r.1.length then (r.2.filter fun v=>decide (v.1=k),true) else ([],false)
def dlV (r:DRg):List Int×Bool:=if QlR r then (QqX (Qu4 r) r.1.length,true) else ([],false)
section
variable [∀s,Decidable (StgOk s)]
def dtV (s:Q9)(r:DRg):List Int×Bool:=if StgOk s∧QlR r then (QqX (byT r) s.2.2.1.length,true) else ([],false)
end
def QvN (k:Int)(ms:List DMv):List DMv:=ms.filter fun v=>decide (v.1=k)
end Go.Proofs.YtjaadeknhofhpaaGreat
namespace Go.Proofs.YtjaadeknhofhpaaGreat
open Go.RowKit
set_option maxRecDepth 100000
set_option maxHeartbeats 4000000
section
variable {α:Type}[DecidableEq α]{a b:List α}{k:Nat}{x y:α}
end
section
variable [∀s,Decidable (StgOk s)]
def QpC (s:Q9):List Int:=(dtV s (Qs s).1).1
def QpW (s:Q9):Bool:=decide ((0:Int) < ((dlV (Qs s).1).1.length:Int))
def frV (s:Q9):List Int×Bool×Bool:=if (sgV s).2=true then (QpC s,QpW s,true) else ([],false,false)
def pfI (a b:Q9):Bool×Bool:=if (frV a).2.2=true∧(frV b).2.2=true∧a.2.1=b.2.1∧a.2.2.1=b.2.2.1 then (decide ((frV a).1=(frV b).1)&&(!(frV b).2.1||(frV a).2.1),true) else (false,false)
def pfV (a b:Q9):Bool×Bool:=if (sgV a).2=true∧(sgV b).2=true∧a.2.1=b.2.1∧a.2.2.1=b.2.2.1 then (decide (QpC a=QpC b)&&(QpW a|| !QpW b),true) else (false,false)
section
variable {a b:Q9}
end
end
end Go.Proofs.YtjaadeknhofhpaaGreat
namespace Go.Proofs.YtjaadeknhofhpaaGreat
open Go.RowKit
set_option maxRecDepth 100000
set_option maxHeartbeats 4000000
theorem QL {A:Amb}{P:Program}{o:Oper}{s:St}{d:Nat}{b b':Bool}(e:b=b')(h:Does A P o s (s.put d (lf (dB b)))):Does A P o s (s.put d (lf (dB b'))):=e▸h
abbrev DSg:=List (ByteArray×Int)×List ByteArray×List DAr
theorem H1 (ss:List QJ)[Decidable (XK ss)]:FC Tryz.prog 164 [(false,[.dat (.sl 90 XF) ss])] [] 0 (Zk (lf (dB (decide (XK ss))))):=QbN fun gh w vs h=>by
  obtain ⟨v,rfl,hr⟩:=h.leaf1
  exact (Qep v ss w hr).mono fun _ _ h=>U8 h
theorem Qal (ss:List QJ)[Decidable (XK ss)]:FC Tryz.prog 171 [(false,[.dat (.sl 90 XF) ss])] [] 0 (Zk (lf (dB (decide (XK ss))))):=QbN fun gh w vs h=>by
  obtain ⟨v,rfl,hr⟩:=h.leaf1
  exact (Hx v ss w hr).mono fun _ _ h=>U8 h
def Vs (n:Int)(l:Zy):Prop:=(0≤l.1∧l.1≤n - 1)∨(l.1= -1∧l.2=false)
instance (n:Int) (l:Zy):Decidable (Vs n l):=inferInstanceAs (Decidable (_∨_))
def YC (s:ByteArray)(n:Int):Prop:=(∀c∈s.toList,c=48∨c=49)∧(s.size:Int)=n
instance (s:ByteArray) (n:Int):Decidable (YC s n):=inferInstanceAs (Decidable (_∧_))
section
variable {n:Int}{l:Zy}{s x y:ByteArray}{k:Nat}{c d:UInt8}{a:DAr}
theorem QlL (h:0≤l.1∧l.1≤n - 1):true=decide (Vs n l):=(aI (.inl h)).symm
theorem QpZ (h:¬(0≤l.1∧l.1≤n - 1)):Ty.beq QbM l (-1,false)=decide (Vs n l):=by
  rw[bC,Ty.beq_iff,aN]
  constructor
  · rintro rfl; exact .inr ⟨rfl,rfl⟩
  · rintro (h1 | h1)
    · exact absurd h1 h
    · exact Prod.ext h1.1 h1.2
theorem QsQ (h:¬(0≤l.1∧l.1≤n - 1))(h1:l.1= -1):(!l.2)=decide (Vs n l):=by
  rw[bC,aN]
  constructor
  · intro h2; exact .inr ⟨h1,by simpa using h2⟩
  · rintro (h2 | h2)
    · exact absurd h2 h
    · simp[h2.2]
theorem Qtf (h:¬(0≤l.1∧l.1≤n - 1))(h1:¬l.1= -1):false=decide (Vs n l):=(az (by rintro (h2 | h2); exact h h2; exact h1 h2.1)).symm
theorem Qbl (h:s[((k:Int)).toNat]? =some c):s.toList[k]? =some c:=by
  have h:s[k]? =some c:=h
  rw[bj]
  obtain ⟨hk,h2⟩:∃hk:k < s.size,s[k]=c:=by
    by_cases hk:k < s.size
    · rw[d8 s k hk] at h; exact ⟨hk,cu h⟩
    · rw[getElem?_neg s k hk] at h; cases h
  rw[ai (by simpa using hk)]
  rw[← h2]; simp; rfl
theorem Hc (hB:∀j,j < k→∀c,s.toList[j]? =some c→c=48∨c=49)(hx:s[((k:Int)).toNat]? =some c)(h:c=48∨c=49):∀j,j < k+1→∀c,s.toList[j]? =some c→c=48∨c=49:=fun j hj d hd=>by
  by_cases e:j=k
  · subst e; rw[Qbl hx] at hd; cases hd; exact h
  · exact hB j (by omega) d hd
theorem Qme (hx:s[((k:Int)).toNat]? =some c)(h1:¬c=48)(h2:¬c=49):false=decide (YC s n):=(az fun h=>by
  rcases h.1 c (a8 (Qbl hx)) with h | h
  · exact h1 h
  · exact h2 h).symm
theorem QiS (hB:∀j,j < k→∀c,s.toList[j]? =some c→c=48∨c=49)(hk:s.size≤k):decide ((s.size:Int)=n)=decide (YC s n):=cO.2 ⟨fun h=>⟨fun c hc=>by
    obtain ⟨j,hj⟩:=aJ.1 hc
    have:=(ab.1 hj).1
    rw[X7] at this
    exact hB j (by omega) c hj,h⟩,fun h=>h.2⟩
def Xy (a:DAr)(x y:ByteArray)(j:Nat):Prop:=if (j:Int)=a.2.1 then (decide (bAt x j=49)= !a.2.2.1∧decide (bAt y j=49)=a.2.2.1) else bAt x j=bAt y j
instance (a:DAr) (x y:ByteArray) (j:Nat):Decidable (Xy a x y j):=by unfold Xy; exact inferInstance
def Fit (a:DAr)(x y:ByteArray):Prop:=∀j,j < x.size→Xy a x y j
instance (a:DAr) (x y:ByteArray):Decidable (Fit a x y):=by unfold Fit; exact inferInstance
theorem Qif (hF:∀j,j < k→Xy a x y j)(h:Xy a x y k):∀j,j < k+1→Xy a x y j:=fun j hj=>by
  by_cases e:j=k
  · subst e; exact h
  · exact hF j (by omega)
theorem QkA (hk:k < x.size)(h:¬Xy a x y k):false=decide (Fit a x y):=(az fun h1=>h (h1 k hk)).symm
theorem Qso (hF:∀j,j < k→Xy a x y j)(hk:x.size≤k):true=decide (Fit a x y):=(aI fun j hj=>hF j (by omega)).symm
theorem Jz (h:¬(k:Int)=a.2.1)(hx:x[((k:Int)).toNat]? =some c)(hy:y[((k:Int)).toNat]? =some d):Xy a x y k↔c=d:=by
  unfold Xy; rw[if_neg h,QC hx,QC hy]
theorem Qo6 (h:(k:Int)=a.2.1)(hx:x[((k:Int)).toNat]? =some c)(hy:y[((k:Int)).toNat]? =some d):Xy a x y k↔(decide (c=49)= !a.2.2.1∧decide (d=49)=a.2.2.1):=by
  unfold Xy; rw[if_pos h,QC hx,QC hy]
theorem Qbu (h:(k:Int)=a.2.1)(hx:x[((k:Int)).toNat]? =some c)(h1:(decide (c=49)==a.2.2.1)=true):¬Xy a x y k:=by
  unfold Xy; rw[if_pos h,QC hx]
  rintro ⟨h2,_⟩
  rw[h2] at h1
  cases ha:a.2.2.1 <;> rw[ha] at h1 <;> cases h1
theorem QbZ (h:(k:Int)=a.2.1)(hy:y[((k:Int)).toNat]? =some d)(h1:(decide (d=49)==a.2.2.1)=false):¬Xy a x y k:=by
  unfold Xy; rw[if_pos h,QC hy]
  rintro ⟨_,h2⟩
  rw[h2] at h1
  cases ha:a.2.2.1 <;> rw[ha] at h1 <;> cases h1
theorem Qfv (h:(k:Int)=a.2.1)(hx:x[((k:Int)).toNat]? =some c)(hy:y[((k:Int)).toNat]? =some d)(h1:(decide (c=49)==a.2.2.1)=false)(h2:(decide (d=49)==a.2.2.1)=true):Xy a x y k:=by
  rw[Qo6 h hx hy]
  cases ha:a.2.2.1 <;> rw[ha] at h1 h2 <;> cases hc:decide (c=49) <;> rw[hc] at h1 <;> cases hd:decide (d=49) <;> rw[hd] at h2 <;> first | exact ⟨rfl,rfl⟩ | exact absurd h1 (by decide) | exact absurd h2 (by decide)
def Hj (code:ByteArray)(sig:Int)(b:ByteArray):ByteArray:=(code.extract 0 sig.toNat++b)++code.extract (sig+1).toNat code.size
end
theorem Jb (l:Int×Bool)(n:Int)(hn:0≤n∧n≤1000000):FC Tryz.prog 167 [(true,[dI l.1,dB l.2]),(false,[dI n])] [] 0 (Zk (lB (decide (Vs n l)))):=by
 refine Qy Tryz.func167 rfl rfl Tryz.ntmps167 fun O_ hO w0_ N0_ X_ h0_ f0_=> ?_
 refine AC.fact (QH (x:= .tmp 0) (i:=0) (Qf rfl) rfl) fun hi1=>AC.fact (Ql (x:= .tmp 1) (Qa rfl)) fun hi2=> ?_
 refine w_ ?_
 refine xbx 0 ?_
 iterate 7 refine w_ ?_
 refine lc (dK (Zx l.1 0 (n - 1)) YN) ?_
 refine w_ ?_
 cases hb3:(decide (0≤l.1∧l.1≤(n - 1)))
 have hb3':=a6 hb3
 refine w_ ?_
 refine lgy rfl rfl (Qi XM ⟨_,_,rfl,(Evl.ev (Qu rfl)),rfl⟩ (ah.1 rfl) rfl rfl)<|lgy rfl rfl (U4 Ux Jw (Qf rfl) (Qf rfl) (p:=l) (q:=((-1),false)) rfl rfl rfl) ?_
 iterate 4 refine w_ ?_
 subst hO
 have e4:(Ty.beq Qw l ((-1),false):Bool)=(decide (Vs n l)):=by
  exact QpZ ‹_›
 exact Qe (Res.one rfl (Qb rfl)) (by rw[e4] <;> rfl) rfl
 have hb3':=a7 hb3
 iterate 7 refine w_ ?_
 subst hO
 have e5:(true:Bool)=(decide (Vs n l)):=by
  exact QlL ‹_›
 exact Qe (Res.one rfl (Qb rfl)) (by rw[← e5] <;> rfl) rfl
theorem Qcz (l:Int×Bool)(n:Int)(hn:0≤n∧n≤1000000):FC Tryz.prog 169 [(true,[dI l.1,dB l.2]),(false,[dI n])] [] 0 (Zk (lB (decide (Vs n l)))):=by
 refine Qy Tryz.func169 rfl rfl Tryz.ntmps169 fun O_ hO w0_ N0_ X_ h0_ f0_=> ?_
 refine AC.fact (QH (x:= .tmp 0) (i:=0) (Qf rfl) rfl) fun hi1=>AC.fact (Ql (x:= .tmp 1) (Qa rfl)) fun hi2=> ?_
 refine w_ ?_
 refine xbx 0 ?_
 iterate 7 refine w_ ?_
 refine lc (dK (XB l.1 0 (n - 1)) WQ) ?_
 refine w_ ?_
 cases hb3:(decide (0≤l.1∧l.1≤(n - 1)))
 have hb3':=a6 hb3
 iterate 4 refine w_ ?_
 cases hb4:(decide (l.1=(-1)))
 have hb4':=a6 hb4
 iterate 8 refine w_ ?_
 subst hO
 have e5:(false:Bool)=(decide (Vs n l)):=by
  exact Qtf ‹_› ‹_›
 exact Qe (Res.one rfl (Qb rfl)) (by rw[← e5] <;> rfl) rfl
 have hb4':=a7 hb4
 iterate 8 refine w_ ?_
 subst hO
 have e6:(!l.2:Bool)=(decide (Vs n l)):=by
  exact QsQ ‹_› ‹_›
 exact Qe (Res.one rfl (Qb rfl)) (by rw[e6] <;> rfl) rfl
 have hb3':=a7 hb3
 iterate 4 refine w_ ?_
 refine Qg rfl rfl rfl ?_ rfl
 refine Qg rfl rfl rfl ?_ rfl
 refine Qg rfl rfl rfl ?_ rfl
 iterate 5 refine w_ ?_
 subst hO
 have e7:(true:Bool)=(decide (Vs n l)):=by
  exact QlL ‹_›
 exact Qe (Res.one rfl (Qb rfl)) (by rw[← e7] <;> rfl) rfl
theorem QdM (s:ByteArray)(n:Int):FC Tryz.prog 176 [(false,[dS s]),(false,[dI n])] [] 0 (Zk (lB (decide (YC s n)))):=by
 refine Qy Tryz.func176 rfl rfl Tryz.ntmps176 fun O_ hO w0_ N0_ X_ h0_ f0_=> ?_
 refine AC.fact (Ql (x:= .tmp 1) (Qa rfl)) fun hi1=> ?_
 iterate 8 refine w_ ?_
 refine Qm (fun m_ s_=>∃(k:Nat),k≤s.size∧m_=s.size - k∧(∀j,j < k→∀c,s.toList[j]? =some c→c=48∨c=49)∧s_=⟨[(0,lf (dS s)),(1,lI n),(5,lI (k:Int))],[]⟩) ⟨0,ap _,rfl,(fun j hj=>absurd hj (b7 j)),rfl⟩ ?_ ?_
 exact wo []
 rintro m_ s_ ⟨k,hk2,hm3,hB,rfl⟩
 iterate 4 refine w_ ?_
 refine AL.fact (Z4 (x:= .tmp 7) (Qa rfl)) fun hl4=>lc (ZO (Qa rfl) rfl Zo) ?_
 iterate 2 refine w_ ?_
 cases hb5:(decide ((k:Int) < (s.size:Int)))
 have hb5':=a6 hb5
 iterate 5 refine w_ ?_
 refine AL.fact (Z4 (x:= .tmp 22) (Qa rfl)) fun hl6=>lc (ZO (Qa rfl) rfl Zo) ?_
 iterate 5 refine w_ ?_
 subst hO
 have e7:(decide ((s.size:Int)=n):Bool)=(decide (YC s n)):=by
  exact QiS hB (by omega)
 exact Qe (Res.one rfl (Qb rfl)) (by rw[e7] <;> rfl) rfl
 have hb5':=a7 hb5
 iterate 7 refine w_ ?_
 obtain ⟨c8,hc9⟩:=gs s (((k:Int)).toNat)
 refine w_ ?_
 refine lc (Q7 (Qa rfl) (QB 48 rfl) rfl) ?_
 refine w_ ?_
 cases hb10:(!decide (c8=48))
 have hb10':(c8=48):=QT hb10
 iterate 13 refine w_ ?_
 refine Qc<|QE ⟨k+1,by omega,rfl,(Hc hB ‹_› (by first | exact .inl ‹_› | exact .inr ‹_›)),rfl⟩ (by omega) ?_
 exact wo []
 have hb10':¬(c8=48):=Q0 hb10
 iterate 3 refine w_ ?_
 refine lgy rfl rfl (Q7 (Qa rfl) (QB 49 rfl) rfl) ?_
 iterate 2 refine w_ ?_
 cases hb11:(!decide (c8=49))
 have hb11':(c8=49):=QT hb11
 iterate 7 refine w_ ?_
 refine Qc<|QE ⟨k+1,by omega,rfl,(Hc hB ‹_› (by first | exact .inl ‹_› | exact .inr ‹_›)),rfl⟩ (by omega) ?_
 exact wo []
 have hb11':¬(c8=49):=Q0 hb11
 iterate 5 refine w_ ?_
 subst hO
 have e12:(false:Bool)=(decide (YC s n)):=by
  exact Qme (k:=k) ‹_› ‹_› ‹_›
 exact Qe (Res.one rfl (Qb rfl)) (by rw[← e12] <;> rfl) rfl
theorem QdJ (s:ByteArray)(n:Int):FC Tryz.prog 181 [(false,[dS s]),(false,[dI n])] [] 0 (Zk (lB (decide (YC s n)))):=by
 refine Qy Tryz.func181 rfl rfl Tryz.ntmps181 fun O_ hO w0_ N0_ X_ h0_ f0_=> ?_
 refine AC.fact (Ql (x:= .tmp 1) (Qa rfl)) fun hi1=> ?_
 iterate 8 refine w_ ?_
 refine Qm (fun m_ s_=>∃(k:Nat),k≤s.size∧m_=s.size - k∧(∀j,j < k→∀c,s.toList[j]? =some c→c=48∨c=49)∧s_=⟨[(0,lf (dS s)),(1,lI n),(5,lI (k:Int))],[]⟩) ⟨0,ap _,rfl,(fun j hj=>absurd hj (b7 j)),rfl⟩ ?_ ?_
 exact wo []
 rintro m_ s_ ⟨k,hk2,hm3,hB,rfl⟩
 iterate 4 refine w_ ?_
 refine AL.fact (Z4 (x:= .tmp 7) (Qa rfl)) fun hl4=>lc (ZO (Qa rfl) rfl Zo) ?_
 iterate 2 refine w_ ?_
 cases hb5:(decide ((k:Int) < (s.size:Int)))
 have hb5':=a6 hb5
 iterate 5 refine w_ ?_
 refine AL.fact (Z4 (x:= .tmp 22) (Qa rfl)) fun hl6=>lc (ZO (Qa rfl) rfl Zo) ?_
 iterate 5 refine w_ ?_
 subst hO
 have e7:(decide ((s.size:Int)=n):Bool)=(decide (YC s n)):=by
  exact QiS hB (by omega)
 exact Qe (Res.one rfl (Qb rfl)) (by rw[e7] <;> rfl) rfl
 have hb5':=a7 hb5
 iterate 7 refine w_ ?_
 obtain ⟨c8,hc9⟩:=gs s (((k:Int)).toNat)
 refine w_ ?_
 refine lc (Q7 (Qa rfl) (QB 48 rfl) rfl) ?_
 refine w_ ?_
 cases hb10:(!decide (c8=48))
 have hb10':(c8=48):=QT hb10
 iterate 13 refine w_ ?_
 refine Qc<|QE ⟨k+1,by omega,rfl,(Hc hB ‹_› (by first | exact .inl ‹_› | exact .inr ‹_›)),rfl⟩ (by omega) ?_
 exact wo []
 have hb10':¬(c8=48):=Q0 hb10
 iterate 3 refine w_ ?_
 refine lgy rfl rfl (Q7 (Qa rfl) (QB 49 rfl) rfl) ?_
 iterate 2 refine w_ ?_
 cases hb11:(!decide (c8=49))
 have hb11':(c8=49):=QT hb11
 iterate 7 refine w_ ?_
 refine Qc<|QE ⟨k+1,by omega,rfl,(Hc hB ‹_› (by first | exact .inl ‹_› | exact .inr ‹_›)),rfl⟩ (by omega) ?_
 exact wo []
 have hb11':¬(c8=49):=Q0 hb11
 iterate 5 refine w_ ?_
 subst hO
 have e12:(false:Bool)=(decide (YC s n)):=by
  exact Qme (k:=k) ‹_› ‹_› ‹_›
 exact Qe (Res.one rfl (Qb rfl)) (by rw[← e12] <;> rfl) rfl
theorem Qas (a:Int×Int×Bool×Int)(x:ByteArray)(y:ByteArray)(hxy:x.size≤y.size):FC Tryz.prog 177 [(true,[dI a.1,dI a.2.1,dB a.2.2.1,dI a.2.2.2]),(false,[dS x]),(false,[dS y])] [] 0 (Zk (lB (decide (Fit a x y)))):=by
 refine Qy Tryz.func177 rfl rfl Tryz.ntmps177 fun O_ hO w0_ N0_ X_ h0_ f0_=> ?_
 refine AC.fact (QH (x:= .tmp 0) (i:=0) (Qf rfl) rfl) fun hi1=>AC.fact (QH (x:= .tmp 0) (i:=1) (Qf rfl) rfl) fun hi2=>AC.fact (QH (x:= .tmp 0) (i:=3) (Qf rfl) rfl) fun hi3=> ?_
 refine w_ ?_
 refine xbx 0 ?_
 iterate 5 refine w_ ?_
 refine AL.fact (Z4 (x:= .tmp 8) (Qa rfl)) fun hl4=>lc (ZO (Qa rfl) rfl Zo) ?_
 iterate 3 refine w_ ?_
 refine Qm (fun m_ s_=>∃(k:Nat),k≤x.size∧m_=x.size - k∧(∀j,j < k→Xy a x y j)∧s_=⟨[(1,lf (dS x)),(2,lf (dS y)),(3,lP 0 0),(9,lI (x.size:Int)),(10,lI (k:Int))],[(0,some (.box 106 [dI a.1,dI a.2.1,dB a.2.2.1,dI a.2.2.2]))]⟩) ⟨0,ap _,rfl,(fun j hj=>absurd hj (b7 j)),rfl⟩ ?_ ?_
 exact wo []
 rintro m_ s_ ⟨k,hk5,hm6,hF,rfl⟩
 iterate 4 refine w_ ?_
 cases hb7:(decide ((k:Int) < (x.size:Int)))
 have hb7':=a6 hb7
 iterate 7 refine w_ ?_
 subst hO
 have e8:(true:Bool)=(decide (Fit a x y)):=by
  exact Qso hF (by omega)
 exact Qe (Res.one rfl (Qb rfl)) (by rw[← e8] <;> rfl) rfl
 have hb7':=a7 hb7
 iterate 16 refine w_ ?_
 cases hb9:(!decide ((k:Int)=a.2.1))
 have hb9':((k:Int)=a.2.1):=QT hb9
 refine w_ ?_
 obtain ⟨c10,hc11⟩:=gs x (((k:Int)).toNat)
 cases hb12:((decide (c10=49))==a.2.2.1)
 obtain ⟨c13,hc14⟩:=gs y (((k:Int)).toNat)
 apply dW [io 26 _,io 27 _,io 28 _,io 29 (lB (decide (c10=49))),io 30 _,io 31 _,io 32 (lB false),io 33 _,io 34 _,io 35 _,io 36 _,io 37 (lB (decide (c13=49))),io 38 _,io 39 _,io 40 (lB (!((decide (c13=49))==a.2.2.1))),io 41 _,io 25 _] [0,1,0,0,15,15,0,0,0,256,0,0,3840,3840,0,0,0]
 iterate 3 refine z_ ?_
 refine zz (fun _ h_=>ac (Qt (h_.v rfl) (QB 49 rfl) rfl) rfl) ?_
 iterate 2 refine z_ ?_
 refine zz (fun _ h_=>ac (QL (hb12) (J0 (h_.v rfl) (h_.v rfl) rfl JJ)) rfl) ?_
 iterate 4 refine z_ ?_
 refine zz (fun _ h_=>day rfl (h_.k rfl) (Qt (h_.v rfl) (QB 49 rfl) rfl) rfl) ?_
 iterate 2 refine z_ ?_
 refine zz (fun _ h_=>day rfl (h_.k rfl) (VD (h_.v rfl) (h_.v rfl) rfl JJ) rfl) ?_
 iterate 2 refine z_ ?_
 exact zN
 cases hb15:((decide (c13=49))==a.2.2.1)
 iterate 5 refine w_ ?_
 subst hO
 have e16:(false:Bool)=(decide (Fit a x y)):=by
  exact QkA (k:=k) (by omega) (fun h=>by first | exact absurd ((Jz ‹_› ‹_› ‹_›).1 h) ‹_› | exact Qbu ‹_› ‹_› ‹_› h | exact QbZ ‹_› ‹_› ‹_› h)
 exact Qe (Res.one rfl (Qb rfl)) (by rw[← e16] <;> rfl) rfl
 iterate 6 refine w_ ?_
 refine Qc<|QE ⟨k+1,by omega,rfl,(Qif hF (by first | exact (Jz ‹_› ‹_› ‹_›).2 ‹_› | exact Qfv ‹_› ‹_› ‹_› ‹_› ‹_›)),rfl⟩ (by omega) ?_
 exact wo []
 apply dW [io 26 _,io 27 _,io 28 _,io 29 (lB (decide (c10=49))),io 30 _,io 31 _,io 32 (lB true),io 33 _,io 34 _,io 35 _,io 36 _,io 37 _,io 38 _,io 39 _,io 40 _,io 41 _,io 25 _] [0,1,0,0,15,15,0,0,0,256,0,0,3840,3840,0,0,0]
 iterate 3 refine z_ ?_
 refine zz (fun _ h_=>ac (Qt (h_.v rfl) (QB 49 rfl) rfl) rfl) ?_
 iterate 2 refine z_ ?_
 refine zz (fun _ h_=>ac (QL (hb12) (J0 (h_.v rfl) (h_.v rfl) rfl JJ)) rfl) ?_
 iterate 10 refine z_ ?_
 exact zN
 iterate 5 refine w_ ?_
 subst hO
 have e17:(false:Bool)=(decide (Fit a x y)):=by
  exact QkA (k:=k) (by omega) (fun h=>by first | exact absurd ((Jz ‹_› ‹_› ‹_›).1 h) ‹_› | exact Qbu ‹_› ‹_› ‹_› h | exact QbZ ‹_› ‹_› ‹_› h)
 exact Qe (Res.one rfl (Qb rfl)) (by rw[← e17] <;> rfl) rfl
 have hb9':¬((k:Int)=a.2.1):=Q0 hb9
 refine w_ ?_
 obtain ⟨c18,hc19⟩:=gs x (((k:Int)).toNat)
 obtain ⟨c20,hc21⟩:=gs y (((k:Int)).toNat)
 apply dW [io 18 _,io 19 _,io 20 _,io 21 _,io 22 _,io 23 _,io 24 _] [0,1,0,7,15,7,0]
 iterate 7 refine z_ ?_
 exact zN
 cases hb22:(!decide (c18=c20))
 have hb22':(c18=c20):=QT hb22
 iterate 6 refine w_ ?_
 refine Qc<|QE ⟨k+1,by omega,rfl,(Qif hF (by first | exact (Jz ‹_› ‹_› ‹_›).2 ‹_› | exact Qfv ‹_› ‹_› ‹_› ‹_› ‹_›)),rfl⟩ (by omega) ?_
 exact wo []
 have hb22':¬(c18=c20):=Q0 hb22
 iterate 5 refine w_ ?_
 subst hO
 have e23:(false:Bool)=(decide (Fit a x y)):=by
  exact QkA (k:=k) (by omega) (fun h=>by first | exact absurd ((Jz ‹_› ‹_› ‹_›).1 h) ‹_› | exact Qbu ‹_› ‹_› ‹_› h | exact QbZ ‹_› ‹_› ‹_› h)
 exact Qe (Res.one rfl (Qb rfl)) (by rw[← e23] <;> rfl) rfl
theorem Uu (code:ByteArray)(sig:Int)(b:ByteArray)(hs:0≤sig∧sig < (code.size:Int))(hb:code.size≤1000000∧b.size≤1000000):FC Tryz.prog 271 [(false,[dS code]),(false,[dI sig]),(false,[dS b])] [] 0 (Zk (lf (dS (Hj code sig b)))):=by
 refine Qy Tryz.func271 rfl rfl Tryz.ntmps271 fun O_ hO w0_ N0_ X_ h0_ f0_=> ?_
 refine AC.fact (Ql (x:= .tmp 1) (Qa rfl)) fun hi1=> ?_
 iterate 3 refine w_ ?_
 apply dW [io 7 _,io 8 _,io 9 (lf (dS (code.extract 0 (sig).toNat))),io 10 _,io 11 (lf (dS ((code.extract 0 (sig).toNat)++b))),io 12 _,io 13 _,io 14 _,io 15 (lf (dS (code.extract (sig+1).toNat code.size))),io 16 (lf (dS (((code.extract 0 (sig).toNat)++b)++(code.extract (sig+1).toNat code.size)))),io 6 _] [0,1,0,7,0,31,63,63,31,0,0]
 iterate 2 refine z_ ?_
 refine zz (fun _ h_=>ac (show Does _ _ _ _ (St.put _ 9 (lf (dS (code.extract 0 (sig).toNat)))) from Zm (l:=none) (h:=(some sig)) (h_.v rfl) (by exact trivial) (by exact (h_.v rfl)) Zo rfl (by first | omega | (simp only[aj,ae]; omega)) (by first | omega | (simp only[aj,ae]; omega)) (by first | omega | (simp only[aj,ae]; omega))) rfl) ?_
 refine z_ ?_
 refine zz (fun _ h_=>ac (ZR (h_.v rfl) (h_.v rfl) rfl (by first | omega | (simp only[aU,aP]; omega))) rfl) ?_
 iterate 3 refine z_ ?_
 refine zz (fun _ h_=>ac (show Does _ _ _ _ (St.put _ 15 (lf (dS (code.extract (sig+1).toNat code.size)))) from Zm (l:=(some (sig+1))) (h:=none) (h_.v rfl) (by exact (h_.v rfl)) (by exact trivial) Zo rfl (by first | omega | (simp only[aj,ae]; omega)) (by first | omega | (simp only[aj,ae]; omega)) (by first | omega | (simp only[aj,ae]; omega))) rfl)<|zz (fun _ h_=>ac (ZR (h_.v rfl) (h_.v rfl) rfl (by first | omega | (simp only[aU,aP]; omega))) rfl) ?_
 refine z_ ?_
 exact zN
 refine w_ ?_
 subst hO
 have e2:(((code.extract 0 (sig).toNat)++b)++(code.extract (sig+1).toNat code.size):ByteArray)=(Hj code sig b):=by
  rfl
 exact Qe (Res.one rfl (Qb rfl)) (by rw[e2] <;> rfl) rfl
end Go.Proofs.YtjaadeknhofhpaaGreat
