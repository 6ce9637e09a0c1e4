/- Walks over abstract states: the state graph, both sides. -/
import Derived.Test.YtnakmhfjafecpaaGreatWp
set_option linter.unusedSimpArgs false
set_option linter.unusedVariables false
set_option linter.unusedSectionVars false
namespace Go.Proofs.YtnakmhfjafecpaaGreat
open Go.RowKit
set_option maxRecDepth 100000
set_option maxHeartbeats 4000000
def Uk:Nat→List ByteArray→List UInt8→List ByteArray
  | _,c,[]=>c
  | i,c,v :: vs=>Uk (i+1) (c.set i ((c[i]?).getD ByteArray.empty++⟨#[v]⟩)) vs
def goS (n:Nat)(arcs:List DAr):Nat→Nat→List ByteArray→Option (List ByteArray)
  | 0,_,c=>some c
  | f+1,k,c=>if (ZX n arcs (k:Int)).2=true then goS n arcs f (k+1) (Uk 0 c (ZX n arcs (k:Int)).1) else none
section
variable {n f k i m:Nat}{arcs:List DAr}{c codes:List ByteArray}{vs us:List UInt8}{v:UInt8}{x:ByteArray}
theorem Qau (hv:vs[i]? =some v)(hx:c[i]? =some x):Uk i c (vs.drop i)=Uk (i+1) (c.set i (x++⟨#[v]⟩)) (vs.drop (i+1)):=by
  rw[ZS hv,Uk,hx]
  rfl
theorem QfX (h:vs.length≤i):Uk i c (vs.drop i)=c:=by rw[List.drop_eq_nil_of_le h,Uk]
theorem Qgm:∀(i:Nat) (c:List ByteArray) (vs:List UInt8),(Uk i c vs).length=c.length
  | _,_,[]=>by rw[Uk]
  | i,c,v :: vs=>by rw[Uk,Qgm]; simp
theorem Qmg (hk:k < m)(h:(ZX n arcs (k:Int)).2=true):goS n arcs (m - k) k c=goS n arcs (m - (k+1)) (k+1) (Uk 0 c (ZX n arcs (k:Int)).1):=by
  rw[show m - k=(m - (k+1))+1 by omega,goS,if_pos h]
theorem Qbn (hk:k < m)(h:(ZX n arcs (k:Int)).2=false):goS n arcs (m - k) k c=none:=by
  rw[show m - k=(m - (k+1))+1 by omega,goS,if_neg (by rw[h]; decide)]
theorem Vs (hk:m≤k):goS n arcs (m - k) k c=some c:=by rw[show m - k=0 by omega,goS]
theorem QmN {j:Nat}(h:(ZX n arcs (j:Int)).2=false)(hk:k≤j)(hj:j < k+f):goS n arcs f k c=none:=by
  induction f generalizing k c with
  | zero=>omega
  | succ f ih=>
    rw[goS]
    by_cases e:j=k
    · subst e; rw[if_neg (by rw[h]; decide)]
    · split
      · exact ih (by omega) (by omega)
      · rfl
theorem Qic (hr:∀a∈arcs,InR n a)(sig:Int):(ZX n arcs sig).2=(l5V n arcs sig).2:=by
  rcases QbQ (sig:=sig) hr with ⟨h1,h2,_⟩ | ⟨us,h1,_,h2⟩
  · rw[h1,h2]
  · rw[h1,h2]
theorem QhX (h:¬0 < ((XN n arcs m).length:Int))(hk:k < m):(l5V n arcs (k:Int)).2=true:=by
  induction m with
  | zero=>omega
  | succ m ih=>
    simp only[XN,List.length_append] at h
    by_cases e:k=m
    · subst e
      cases h2:(l5V n arcs (k:Int)).2 with
      | true=>rfl
      | false=>rw[h2] at h; simp at h
    · exact ih (by omega) (by omega)
theorem UB (hr:∀a∈arcs,InR n a)(h:0 < ((XN n arcs m).length:Int)):goS n arcs m 0 c=none:=by
  have:∃j,j < m∧(l5V n arcs (j:Int)).2=false:=by
    induction m with
    | zero=>simp[XN] at h
    | succ m ih=>
      simp only[XN,List.length_append] at h
      cases h2:(l5V n arcs (m:Int)).2 with
      | false=>exact ⟨m,by omega,h2⟩
      | true=>
        rw[h2] at h
        obtain ⟨j,h3,h4⟩:=ih (by simpa using h)
        exact ⟨j,by omega,h4⟩
  obtain ⟨j,h1,h2⟩:=this
  exact QmN ((Qic hr _).trans h2) (Nat.zero_le _) (by omega)
theorem Qg8 (hr:∀a∈arcs,InR n a)(sig:Int):(ZX n arcs sig).1.length≤n:=by
  rcases QbQ (sig:=sig) hr with ⟨_,_,_,h2⟩ | ⟨us,_,h1,h2⟩
  · rw[h2]; exact Nat.zero_le _
  · rw[h2,List.length_map,h1]; exact Nat.le_refl _
theorem Qb5 {b:Nat}{y:ByteArray}(h:∀z∈c,z.size≤b)(hx:c[i]? =some x)(hy:y.size≤x.size+1):∀z∈c.set i y,z.size≤b+1:=fun z hz=>by
  rcases List.mem_or_eq_of_mem_set hz with h1 | h1
  · exact Nat.le_succ_of_le (h z h1)
  · rw[h1]; have:=h x (List.mem_of_getElem? hx); omega
theorem Vi {ls:List Zn}{ms:List DMv}{q:Nat}(h:∀v∈ms,MvOk n q v):∀a∈QP ls ms,InR n a:=fun a ha=>by
  obtain ⟨v,hv,rfl⟩:=List.mem_map.1 ha
  obtain ⟨h1,_,h2⟩:=h v hv
  exact ⟨h1,h2⟩
theorem Qoi {sig:Int}(hr:∀a∈arcs,InR n a)(h:(l5V n arcs sig).2=true):∃us:List UInt8,(l5V n arcs sig).1=⟨us.toArray⟩∧us.length=n∧(l5V n arcs sig).1.size=n∧ZX n arcs sig=(us.map q0,true):=by
  rcases QbQ (sig:=sig) hr with ⟨h1,_⟩ | ⟨us,h1,h2,h3⟩
  · rw[h1] at h; cases h
  · exact ⟨us,by rw[h1],h2,by rw[h1,← h2]; rfl,h3⟩
theorem Qbq (b:ByteArray)(i:Nat):(b.extract i (i+1)).size≤1:=by simp only[ByteArray.size_extract]; omega
theorem Qps (hu:us[i]? =some v):(⟨us.toArray⟩:ByteArray).extract i (i+1)=⟨#[v]⟩:=by
  apply ByteArray.ext
  simp only[ByteArray.data_extract]
  obtain ⟨h1,h2⟩:=List.getElem?_eq_some_iff.1 hu
  apply Array.ext
  · simp; omega
  · intro j h3 h4
    have:j=0:=by simp at h4; omega
    subst this
    simp[h2]
theorem QnW (hu:us[i]? =some v):(us.map q0)[i]? =some (q0 v):=by rw[List.getElem?_map,hu]; rfl
theorem Qmw {b:ByteArray}(hb:b=⟨us.toArray⟩)(hi:i < us.length)(hd:decide (b.extract i (i+1)=⟨#[63]⟩)=true)(hx:c[i]? =some x):Uk i c ((us.map q0).drop i)=Uk (i+1) (c.set i (x++⟨#[48]⟩)) ((us.map q0).drop (i+1)):=by
  have hu:=List.getElem?_eq_getElem hi
  have h1:=of_decide_eq_true hd
  rw[hb,Qps hu] at h1
  have h2:us[i]=63:=by
    have:=congrArg (fun b:ByteArray=>b.data[0]?) h1
    simpa using this
  have:=Qau (QnW hu) hx
  rwa [show q0 us[i]=48 by rw[h2]; rfl] at this
theorem Qlq {b:ByteArray}(hb:b=⟨us.toArray⟩)(hi:i < us.length)(hd:decide (b.extract i (i+1)=⟨#[63]⟩)=false)(hx:c[i]? =some x):Uk i c ((us.map q0).drop i)=Uk (i+1) (c.set i (x++b.extract i (i+1))) ((us.map q0).drop (i+1)):=by
  have hu:=List.getElem?_eq_getElem hi
  have h1:=of_decide_eq_false hd
  rw[hb,Qps hu] at h1 ⊢
  have:=Qau (QnW hu) hx
  rwa [show q0 us[i]=us[i] by unfold q0; rw[if_neg]; intro e; exact h1 (by rw[e])] at this
theorem Qmc (h:us.length≤i):Uk i c ((us.map q0).drop i)=c:=QfX (by simpa using h)
end
section
variable [∀s,Decidable (StgOk s)]{s:Q5}{c:List ByteArray}
def Ju:List (ByteArray×Int)×List ByteArray×List DAr:=([],[],[])
def sgV (s:Q5):(List (ByteArray×Int)×List ByteArray×List DAr)×Bool:=
  if (Qc s).2=true∧¬4000 < (Qc s).1.2.length then
    (match goS (Qc s).1.1.length (QP s.2.2.1 (Qc s).1.2) s.2.1.length 0 (List.replicate (Qc s).1.1.length ByteArray.empty) with
    | some c=>((s.2.1,c,QP s.2.2.1 (Qc s).1.2),true)
    | none=>(Ju,false))
  else (Ju,false)
theorem WJ (h:(Qc s).2=false):sgV s=(Ju,false):=if_neg fun h2=>by rw[h] at h2; cases h2.1
theorem Vt (h:(4000:Int) < ((Qc s).1.2.length:Int)):sgV s=(Ju,false):=if_neg fun h2=>h2.2 (by omega)
theorem VG (h:goS (Qc s).1.1.length (QP s.2.2.1 (Qc s).1.2) s.2.1.length 0 (List.replicate (Qc s).1.1.length ByteArray.empty)=none):sgV s=(Ju,false):=by
  unfold sgV
  rw[h]
  split <;> rfl
theorem Vv (h1:(Qc s).2=true)(h2:¬(4000:Int) < ((Qc s).1.2.length:Int))(h:goS (Qc s).1.1.length (QP s.2.2.1 (Qc s).1.2) s.2.1.length 0 (List.replicate (Qc s).1.1.length ByteArray.empty)=some c):
    sgV s=((s.2.1,c,QP s.2.2.1 (Qc s).1.2),true):=by
  unfold sgV
  rw[if_pos ⟨h1,by omega⟩,h]
end
theorem Yn (s:(Int×(List (List Int×List Int)))×(List (ByteArray×Int))×(List (Int×Bool))×ByteArray)[∀s,Decidable (StgOk s)]:FC Tryz.prog 91 [(true,[dI s.1.1, .dat (.sl 159 (.pr (.sl 3 .int) (.sl 3 .int))) s.1.2, .dat (.sl 145 (.pr .str .int)) s.2.1, .dat (.sl 61 (.pr .int .bool)) s.2.2.1,dS s.2.2.2])] [] 0 (Is (PV.tup [(true,[.ref 0, .ref 1, .ref 2]),(false,[dB ((sgV s).2)])]) [(0,some (.arr 145 (.pr .str .int) (((sgV s).1).1))),(1,some (.arr 9 .str (((sgV s).1).2.1))),(2,some (.arr 179 (.pr .int (.pr .int (.pr .bool .int))) (((sgV s).1).2.2)))]):=by
 refine QN Tryz.func91 rfl rfl Tryz.ntmps91 fun O_ hO w0_ N0_ X_ h0_ f0_=> ?_
 refine AC.fact (QG (x:= .tmp 0) (i:=0) (Qb rfl) rfl) fun hi1=> ?_
 refine w_ ?_
 refine lc (Qw 0 (Qb rfl) rfl rfl (Fresh.of rfl) (nlr rfl))<|lc (Qp 1 (.pr (.sl 145 (.pr .str .int)) (.pr (.sl 9 .str) (.sl 179 (.pr .int (.pr .int (.pr .bool .int)))))) VR rfl rfl (Fresh.of rfl) (nlr rfl)) ?_
 iterate 4 refine w_ ?_
 refine lc (Q6 2 (Ww s) JR ⟨_,_,rfl,(Qb rfl),rfl⟩ rfl rfl ⟨Fresh.of rfl,Fresh.of rfl,trivial⟩ (nlr rfl)) ?_
 iterate 3 refine w_ ?_
 refine lc (Qp 4 (.pr (.sl 9 .str) (.sl 226 (.pr .int (.pr .int .int)))) Wr rfl rfl (Fresh.of rfl) (nlr rfl))<|lc (Qe (Qa rfl) rfl (Qb rfl) rfl ZD rfl) ?_
 iterate 7 refine w_ ?_
 cases hb2:((Qc s).2)
 ·iterate 8 refine w_ ?_
  refine lc (QH KC rfl (List.all_eq_true.1 rfl) rfl rfl)<|lc (Qe (Qa rfl) rfl (Qb rfl) rfl ZA rfl) ?_
  iterate 2 refine w_ ?_
  refine AC.wk (QR 5 (p:=1) (off:=0) 145 (.pr .str .int) rfl rfl (Fresh.of rfl) (nlr rfl))<|AC.wk (QR 6 (p:=1) (off:=1) 9 .str rfl rfl (Fresh.of rfl) (nlr rfl))<|AC.wk (QR 7 (p:=1) (off:=2) 179 (.pr .int (.pr .int (.pr .bool .int))) rfl rfl (Fresh.of rfl) (nlr rfl))<|Qf ?_
  subst hO
  have e3:(false:Bool)=((sgV s).2):=by
   (rw[WJ (by assumption)]; done)
  exact QF _ _ [(0,5),(1,6),(2,7)] (QC rfl (Q3 rfl rfl ZA rfl) (Qd rfl)) ((congrArg (fun z_=>PV.tup [(true,[.ref 5, .ref 6, .ref 7]),(false,[dB z_])]) e3)) ⟨(Qy (by (rw[WJ (by assumption)]; rfl))),(Qy (by (rw[WJ (by assumption)]; rfl))),(Qy (by (rw[WJ (by assumption)]; rfl))),trivial⟩ rfl rfl
 ·iterate 6 refine w_ ?_
  cases hb4:(decide (4000 < ((((Qc s).1).2).length:Int)))
  ·have hb4':=of_decide_eq_false hb4
   iterate 2 refine w_ ?_
   obtain ⟨hsg,hN1,hN2,hNd,hMv,hMl⟩:=Zo (s:=s) (by assumption)
   have hir:=Vi (ls:=s.2.2.1) hMv
   have hsl:=Qc1 hsg.sigs
   refine dw [io 26 (lP 0 2),io 27 (lf (.dat (.sl 145 (.pr .str .int)) s.2.1)),⟨some 28,lR 8,[(8,some (.arr 145 (.pr .str .int) s.2.1))]⟩,io 29 (lP 4 0),io 30 (lR 2),io 31 (lI ((((Qc s).1).1).length:Int)),⟨some 32,lR 9,[(9,some (.arr 9 .str (List.replicate ((((Qc s).1).1).length) (Ty.zero .str))))]⟩,io 33 (ag [dI s.1.1, .dat (.sl 159 (.pr (.sl 3 .int) (.sl 3 .int))) s.1.2, .dat (.sl 145 (.pr .str .int)) s.2.1, .dat (.sl 61 (.pr .int .bool)) s.2.2.1,dS s.2.2.2]),io 34 (ag [.ref 2, .ref 3]),⟨some 35,lR 10,[(10,some (.arr 179 (.pr .int (.pr .int (.pr .bool .int))) (QP s.2.2.1 ((Qc s).1).2)))]⟩,io 36 (ag [.ref 8, .ref 9, .ref 10]),⟨some 6,lP 11 0,[(11,some (.box 59 [.val (.slice none 0 0), .val (.slice none 0 0), .val (.slice none 0 0)]))]⟩,⟨none,lf (.val undef),[(11,some (.box 59 [.ref 8, .ref 9, .ref 10]))]⟩] [0,1,3,0,8,24,56,0,0,391,1023,0,4095] mixed rfl (by kernel_rfl) ⟨dxf Hg rfl rfl rfl,dxl QeI rfl rfl rfl rfl rfl,fun _ h_=>ac (Yq 8 (YG s.2.1 (by omega)) Qhb ⟨_,_,rfl,(h_.w rfl),rfl⟩ rfl (h_.fr 8 rfl) (nlr rfl)) rfl,dxf VY rfl rfl rfl,dxl Xe rfl rfl rfl rfl rfl,fun _ h_=>ac (KU (h_.v rfl) (h_.n 2 rfl) rfl Zi) rfl,fun _ h_=>ac (VX 9 (e:= .str) (n:=(((Qc s).1).1).length) (h_.v rfl) (h_.v rfl) Zi Qoc rfl (by omega) (by omega) rfl (h_.fr 9 rfl) (nlr rfl)) rfl,dxa Q9 rfl rfl rfl rfl,dxa ZD rfl rfl rfl rfl,fun _ h_=>ac (QaM 10 (Kj s ((Qc s).1) (fun m hm=>(hMv m hm).2.1) (by omega)) QiJ ⟨_,_,rfl,(Ev.b (h_.w rfl)),⟨_,_,rfl,(XR (h_.w rfl) ⟨_,_,rfl, .inr ⟨_,_,_,_,rfl,(h_.en 2 rfl),rfl⟩,⟨_,_,rfl, .inr ⟨_,_,_,_,rfl,(h_.en 3 rfl),rfl⟩,rfl⟩⟩),rfl⟩⟩ rfl (h_.fr 10 rfl) (nlr rfl)) rfl,fun _ h_=>ac (QH KC ⟨_,_,rfl,(h_.w rfl),⟨_,_,rfl,(h_.w rfl),⟨_,_,rfl,(h_.w rfl),rfl⟩⟩⟩ (List.all_eq_true.1 (by simp only[Zx,Wv,List.all_cons,List.all_nil]; rw[(h_.en 8 rfl),(h_.en 9 rfl),(h_.en 10 rfl)]; rfl)) rfl rfl) rfl,fun _ h_=>ac (Qp 11 (.pr (.sl 145 (.pr .str .int)) (.pr (.sl 9 .str) (.sl 179 (.pr .int (.pr .int (.pr .bool .int)))))) VR rfl rfl (h_.fr 11 rfl) (nlr rfl)) rfl,fun _ h_=>ac (Qe (h_.v rfl) (h_.en 11 rfl) (h_.w rfl) (by simp only[Zx,Wv,List.all_cons,List.all_nil]; rw[(h_.en 8 rfl),(h_.en 9 rfl),(h_.en 10 rfl)]; rfl) ZA rfl) rfl,⟨⟩⟩ ?_
   iterate 4 refine w_ ?_
   refine AL.fact (Qq (x:= .tmp 38) (Qa rfl)) fun hl5=> ?_
   iterate 4 refine w_ ?_
   refine Qx (fun m_ s_=>∃(k:Nat) (codes:List ByteArray),k≤s.2.1.length∧m_=s.2.1.length - k∧(goS (Qc s).1.1.length (QP s.2.2.1 (Qc s).1.2) s.2.1.length 0 (List.replicate (Qc s).1.1.length ByteArray.empty)=goS (Qc s).1.1.length (QP s.2.2.1 (Qc s).1.2) (s.2.1.length - k) k codes)∧(codes.length=(Qc s).1.1.length)∧(∀c∈codes,c.size≤300*k)∧s_=⟨[(2,lP 1 0),(4,lP 4 0),(6,lP 11 0),(39,lI (s.2.1.length:Int)),(40,lI (k:Int))],[(1,some (.box 59 [.val (.slice none 0 0), .val (.slice none 0 0), .val (.slice none 0 0)])),(2,some (.arr 9 .str (((Qc s).1).1))),(3,some (.arr 226 (.pr .int (.pr .int .int)) (((Qc s).1).2))),(4,some (.box 98 [.ref 2, .ref 3])),(8,some (.arr 145 (.pr .str .int) s.2.1)),(10,some (.arr 179 (.pr .int (.pr .int (.pr .bool .int))) (QP s.2.2.1 ((Qc s).1).2))),(11,some (.box 59 [.ref 8, .ref 12, .ref 10])),(12,some (.arr 9 .str codes))]⟩) ⟨0,List.replicate ((((Qc s).1).1).length) (Ty.zero .str),Nat.zero_le _,rfl,rfl,(by simp),(fun c hc=>by rw[List.eq_of_mem_replicate hc]; exact Nat.zero_le _),rfl⟩ ?_ ?_
   · exact Wk.of [(1,1),(2,2),(3,3),(4,4),(8,8),(10,10),(11,11),(12,9)] rfl ⟨rfl,rfl,rfl,rfl,rfl,trivial⟩ ⟨rfl,rfl,rfl,rfl,rfl,rfl,rfl,(Qy (by first | rfl | simp)),trivial⟩ rfl rfl
   rintro m_ s_ ⟨k,codes,hk6,hm7,hA,hL,hZ,rfl⟩
   iterate 4 refine w_ ?_
   cases hb8:(decide ((k:Int) < (s.2.1.length:Int)))
   ·have hb8':=of_decide_eq_false hb8
    refine w_ ?_
    refine QB ?_
    refine (?_:AC _ _ _ _ _)
    iterate 2 refine w_ ?_
    refine lc (Qe (Qa rfl) rfl (Qb rfl) rfl ZA rfl) ?_
    iterate 2 refine w_ ?_
    refine Qf ?_
    subst hO
    have e9:(true:Bool)=((sgV s).2):=by
     (rw[Vv (by assumption) (by assumption) (hA.trans (Vs (by omega)))]; done)
    exact QF _ _ [(0,8),(1,12),(2,10)] (QC rfl (Q3 rfl rfl ZA rfl) (Qd rfl)) ((congrArg (fun z_=>PV.tup [(true,[.ref 8, .ref 12, .ref 10]),(false,[dB z_])]) e9)) ⟨(Qy (by (rw[Vv (by assumption) (by assumption) (hA.trans (Vs (by omega)))]; done))),(Qy (by (rw[Vv (by assumption) (by assumption) (hA.trans (Vs (by omega)))]; done))),(Qy (by (rw[Vv (by assumption) (by assumption) (hA.trans (Vs (by omega)))]; done))),trivial⟩ rfl rfl
   ·have hb8':=of_decide_eq_true hb8
    iterate 15 refine w_ ?_
    refine lc (Wo 13 (H9 ((((Qc s).1).1).length:Int) (QP s.2.2.1 ((Qc s).1).2) (k:Int) (by omega) hir) QiR ⟨_,_,rfl,(Ev.b (Qb rfl)),⟨_,_,rfl,(Us (Qa rfl) rfl),⟨_,_,rfl,(Ev.b (Qb rfl)),rfl⟩⟩⟩ rfl rfl rfl ⟨Fresh.of rfl,trivial⟩ (nlr rfl)) ?_
    iterate 11 refine w_ ?_
    cases hb10:((ZX ((((Qc s).1).1).length:Int).toNat (QP s.2.2.1 ((Qc s).1).2) (k:Int)).2)
    ·iterate 2 refine w_ ?_
     refine lc (QH KC rfl (List.all_eq_true.1 rfl) rfl rfl)<|lc (Qe (Qa rfl) rfl (Qb rfl) rfl ZA rfl) ?_
     iterate 2 refine w_ ?_
     refine AC.wk (QR 14 (p:=1) (off:=0) 145 (.pr .str .int) rfl rfl (Fresh.of rfl) (nlr rfl))<|AC.wk (QR 15 (p:=1) (off:=1) 9 .str rfl rfl (Fresh.of rfl) (nlr rfl))<|AC.wk (QR 16 (p:=1) (off:=2) 179 (.pr .int (.pr .int (.pr .bool .int))) rfl rfl (Fresh.of rfl) (nlr rfl))<|Qf ?_
     subst hO
     have e11:(false:Bool)=((sgV s).2):=by
      (rw[VG (hA.trans (Qbn (by omega) (by assumption)))]; done)
     exact QF _ _ [(0,14),(1,15),(2,16)] (QC rfl (Q3 rfl rfl ZA rfl) (Qd rfl)) ((congrArg (fun z_=>PV.tup [(true,[.ref 14, .ref 15, .ref 16]),(false,[dB z_])]) e11)) ⟨(Qy (by (rw[VG (hA.trans (Qbn (by omega) (by assumption)))]; rfl))),(Qy (by (rw[VG (hA.trans (Qbn (by omega) (by assumption)))]; rfl))),(Qy (by (rw[VG (hA.trans (Qbn (by omega) (by assumption)))]; rfl))),trivial⟩ rfl rfl
    ·iterate 8 refine w_ ?_
     refine Qx (fun m_ s_=>∃(i:Nat) (codes2:List ByteArray),i≤(ZX (((Qc s).1.1.length:Int)).toNat (QP s.2.2.1 (Qc s).1.2) (k:Int)).1.length∧m_=(ZX (((Qc s).1.1.length:Int)).toNat (QP s.2.2.1 (Qc s).1.2) (k:Int)).1.length - i∧(Uk 0 codes (ZX (((Qc s).1.1.length:Int)).toNat (QP s.2.2.1 (Qc s).1.2) (k:Int)).1=Uk i codes2 ((ZX (((Qc s).1.1.length:Int)).toNat (QP s.2.2.1 (Qc s).1.2) (k:Int)).1.drop i))∧(codes2.length=(Qc s).1.1.length)∧(∀c∈codes2,c.size≤300*k+i)∧s_=⟨[(2,lP 1 0),(4,lP 4 0),(6,lP 11 0),(7,lI (k:Int)),(8,lR 13),(9,lB true),(39,lI (s.2.1.length:Int)),(40,lI (k:Int)),(41,lB true),(42,lI (k:Int)),(43,PV.tup [(false,[.ref 13]),(false,[dB true])]),(44,lP 4 0),(45,lR 2),(46,lI ((((Qc s).1).1).length:Int)),(47,lP 11 2),(48,lR 10),(49,lI (k:Int)),(50,PV.tup [(false,[.ref 13]),(false,[dB true])]),(51,lR 13),(52,lB true),(53,lB true),(54,lB (!true)),(56,lR 13),(57,lI (((ZX ((((Qc s).1).1).length:Int).toNat (QP s.2.2.1 ((Qc s).1).2) (k:Int)).1).length:Int)),(58,lI (i:Int))],[(1,some (.box 59 [.val (.slice none 0 0), .val (.slice none 0 0), .val (.slice none 0 0)])),(2,some (.arr 9 .str (((Qc s).1).1))),(3,some (.arr 226 (.pr .int (.pr .int .int)) (((Qc s).1).2))),(4,some (.box 98 [.ref 2, .ref 3])),(8,some (.arr 145 (.pr .str .int) s.2.1)),(10,some (.arr 179 (.pr .int (.pr .int (.pr .bool .int))) (QP s.2.2.1 ((Qc s).1).2))),(11,some (.box 59 [.ref 8, .ref 17, .ref 10])),(13,some (.arr 5 .u8 ((ZX ((((Qc s).1).1).length:Int).toNat (QP s.2.2.1 ((Qc s).1).2) (k:Int)).1))),(17,some (.arr 9 .str codes2))]⟩) ⟨0,codes,Nat.zero_le _,rfl,rfl,hL,hZ,rfl⟩ ?_ ?_
     · exact Wk.of [(1,1),(2,2),(3,3),(4,4),(8,8),(10,10),(11,11),(13,13),(17,12)] rfl ⟨rfl,rfl,rfl,rfl,rfl,rfl,rfl,rfl,rfl,rfl,rfl,rfl,rfl,rfl,rfl,rfl,rfl,rfl,rfl,rfl,rfl,rfl,rfl,rfl,rfl,trivial⟩ ⟨rfl,rfl,rfl,rfl,rfl,rfl,rfl,rfl,rfl,trivial⟩ rfl rfl
     rintro m_ s_ ⟨i,codes2,hk12,hm13,hA2,hL2,hZ2,rfl⟩
     have hvl:(ZX (((Qc s).1.1.length:Int)).toNat (QP s.2.2.1 (Qc s).1.2) (k:Int)).1.length≤(Qc s).1.1.length:=Qg8 hir (k:Int)
     iterate 4 refine w_ ?_
     cases hb14:(decide ((i:Int) < (((ZX ((((Qc s).1).1).length:Int).toNat (QP s.2.2.1 ((Qc s).1).2) (k:Int)).1).length:Int)))
     ·have hb14':=of_decide_eq_false hb14
      refine w_ ?_
      refine QB ?_
      refine (?_:AC _ _ _ _ _)
      iterate 3 refine w_ ?_
      refine Qk<|QU ⟨k+1,codes2,by omega,rfl,(by rw[hA,Qmg (by omega) (by assumption)]; exact congrArg _ (hA2.trans (QfX (by omega)))),hL2,(fun c hc=>Nat.le_trans (hZ2 c hc) (by have hvl:(ZX (((Qc s).1.1.length:Int)).toNat (QP s.2.2.1 (Qc s).1.2) (k:Int)).1.length≤(Qc s).1.1.length:=Qg8 hir (k:Int); omega)),rfl⟩ (by omega) ?_
      exact Wk.of [(1,1),(2,2),(3,3),(4,4),(8,8),(10,10),(11,11),(12,17)] rfl ⟨rfl,rfl,rfl,rfl,rfl,trivial⟩ ⟨rfl,rfl,rfl,rfl,rfl,rfl,rfl,rfl,trivial⟩ rfl rfl
     ·have hb14':=of_decide_eq_true hb14
      iterate 6 refine w_ ?_
      refine lc (Qu (e:= .u8) (Qa rfl) rfl (Qa rfl) QV QS rfl (by omega) (by first | omega | (simp only[List.length_set]; omega))) ?_
      obtain ⟨x15,hx16⟩:∃z,((ZX ((((Qc s).1).1).length:Int).toNat (QP s.2.2.1 ((Qc s).1).2) (k:Int)).1)[i]? =some z:=⟨_,List.getElem?_eq_getElem (by omega)⟩
      refine lc (QL (e:= .u8) (Qa rfl) rfl hx16 rfl QS rfl rfl) ?_
      iterate 3 refine w_ ?_
      obtain ⟨x17,hx18⟩:∃z,codes2[i]? =some z:=⟨_,List.getElem?_eq_getElem (by omega)⟩
      have hczx17:=hZ2 _ (List.mem_of_getElem? hx18)
      refine dv [io 63 (lP 11 1),io 64 (lR 17),io 65 (lI (i:Int)),io 66 (lf (.ept 17 1 i 0)),io 67 (lf (dS x17)),io 68 (lf (.dat .u8 x15)),⟨some 69,lR 18,[(18,some (.arr 5 .u8 ([x15])))]⟩,io 70 (lf (dS (⟨#[x15]⟩:ByteArray))),io 71 (lf (dS (x17++(⟨#[x15]⟩:ByteArray)))),io 72 (lf (.ept 17 1 i 0)),⟨none,lf (.val undef),[(17,some (.arr 9 .str (codes2.set i (x17++(⟨#[x15]⟩:ByteArray)))))]⟩] [0,1,0,7,15,0,32,96,255,511,1023] mixed rfl (by kernel_rfl) ⟨dxf W8 rfl rfl rfl,dxl Xe rfl rfl rfl rfl rfl,dxm rfl rfl,fun _ h_=>ac (Qu (e:= .str) (h_.v rfl) (h_.en 17 rfl) (h_.v rfl) Zi Ze rfl (by omega) (by first | omega | (simp only[List.length_set]; omega))) rfl,fun _ h_=>ac (QL (e:= .str) (h_.v rfl) (h_.n 17 rfl) hx18 rfl Ze rfl rfl) rfl,dxm rfl rfl,fun _ h_=>ac (Qg 18 (e:= .u8) QV QS Qf8 rfl ⟨_,_,rfl,(h_.w rfl),rfl⟩ (List.all_eq_true.1 rfl) ⟨_,_,_,_,rfl,⟨rfl,rfl⟩,⟨rfl,rfl⟩,rfl⟩ (by decide) rfl rfl (h_.fr 18 rfl) (nlr rfl)) rfl,fun _ h_=>ac (Y2 (ys:=[x15]) (Ui (h_.v rfl) (h_.n 18 rfl)) QV Hm W9 rfl) rfl,fun _ h_=>ac (Xs (h_.v rfl) (h_.v rfl) rfl (by simp only[Qad]; omega)) rfl,fun _ h_=>ac (Qu (e:= .str) (h_.v rfl) (h_.en 17 rfl) (h_.v rfl) Zi Ze rfl (by omega) (by first | omega | (simp only[List.length_set]; omega))) rfl,fun _ h_=>ac (QX (e:= .str) (z':=x17++(⟨#[x15]⟩:ByteArray)) (h_.v rfl) (h_.n 17 rfl) hx18 rfl (h_.w rfl) rfl Ze rfl rfl) rfl,⟨⟩⟩ ?_
      refine (?_:AC _ _ _ _ _)
      iterate 3 refine w_ ?_
      refine Qk<|QU ⟨i+1,(codes2.set i (x17++(⟨#[x15]⟩:ByteArray))),by omega,rfl,hA2.trans (Qau hx16 hx18),(by rw[List.length_set]; exact hL2),(Qb5 hZ2 hx18 (by rw[ByteArray.size_append]; exact Nat.le_refl _)),rfl⟩ (by omega) ?_
      exact Wk.of [(1,1),(2,2),(3,3),(4,4),(8,8),(10,10),(11,11),(13,13),(17,17)] rfl ⟨rfl,rfl,rfl,rfl,rfl,rfl,rfl,rfl,rfl,rfl,rfl,rfl,rfl,rfl,rfl,rfl,rfl,rfl,rfl,rfl,rfl,rfl,rfl,rfl,rfl,trivial⟩ ⟨rfl,rfl,rfl,rfl,rfl,rfl,rfl,rfl,(Qy (by first | rfl | simp)),trivial⟩ rfl rfl
  ·have hb4':=of_decide_eq_true hb4
   iterate 2 refine w_ ?_
   refine lc (QH KC rfl (List.all_eq_true.1 rfl) rfl rfl)<|lc (Qe (Qa rfl) rfl (Qb rfl) rfl ZA rfl) ?_
   iterate 2 refine w_ ?_
   refine AC.wk (QR 19 (p:=1) (off:=0) 145 (.pr .str .int) rfl rfl (Fresh.of rfl) (nlr rfl))<|AC.wk (QR 20 (p:=1) (off:=1) 9 .str rfl rfl (Fresh.of rfl) (nlr rfl))<|AC.wk (QR 21 (p:=1) (off:=2) 179 (.pr .int (.pr .int (.pr .bool .int))) rfl rfl (Fresh.of rfl) (nlr rfl))<|Qf ?_
   subst hO
   have e19:(false:Bool)=((sgV s).2):=by
    (rw[Vt (by assumption)]; done)
   exact QF _ _ [(0,19),(1,20),(2,21)] (QC rfl (Q3 rfl rfl ZA rfl) (Qd rfl)) ((congrArg (fun z_=>PV.tup [(true,[.ref 19, .ref 20, .ref 21]),(false,[dB z_])]) e19)) ⟨(Qy (by (rw[Vt (by assumption)]; rfl))),(Qy (by (rw[Vt (by assumption)]; rfl))),(Qy (by (rw[Vt (by assumption)]; rfl))),trivial⟩ rfl rfl
theorem Xt (s:(Int×(List (List Int×List Int)))×(List (ByteArray×Int))×(List (Int×Bool))×ByteArray)[∀s,Decidable (StgOk s)]:FC Tryz.prog 163 [(true,[dI s.1.1, .dat (.sl 159 (.pr (.sl 3 .int) (.sl 3 .int))) s.1.2, .dat (.sl 145 (.pr .str .int)) s.2.1, .dat (.sl 61 (.pr .int .bool)) s.2.2.1,dS s.2.2.2])] [] 0 (Is (PV.tup [(true,[.ref 0, .ref 1, .ref 2]),(false,[dB ((sgV s).2)])]) [(0,some (.arr 145 (.pr .str .int) (((sgV s).1).1))),(1,some (.arr 9 .str (((sgV s).1).2.1))),(2,some (.arr 179 (.pr .int (.pr .int (.pr .bool .int))) (((sgV s).1).2.2)))]):=by
 refine QN Tryz.func163 rfl rfl Tryz.ntmps163 fun O_ hO w0_ N0_ X_ h0_ f0_=> ?_
 refine AC.fact (QG (x:= .tmp 0) (i:=0) (Qb rfl) rfl) fun hi1=> ?_
 refine w_ ?_
 refine lc (Qw 0 (Qb rfl) rfl rfl (Fresh.of rfl) (nlr rfl))<|lc (Qp 1 (.pr (.sl 145 (.pr .str .int)) (.pr (.sl 9 .str) (.sl 179 (.pr .int (.pr .int (.pr .bool .int)))))) VR rfl rfl (Fresh.of rfl) (nlr rfl)) ?_
 iterate 4 refine w_ ?_
 refine lc (Q6 2 (Wt s) Qav ⟨_,_,rfl,(Qb rfl),rfl⟩ rfl rfl ⟨Fresh.of rfl,Fresh.of rfl,trivial⟩ (nlr rfl)) ?_
 iterate 3 refine w_ ?_
 refine lc (Qp 4 (.pr (.sl 9 .str) (.sl 226 (.pr .int (.pr .int .int)))) Wr rfl rfl (Fresh.of rfl) (nlr rfl))<|lc (Qe (Qa rfl) rfl (Qb rfl) rfl ZD rfl) ?_
 iterate 7 refine w_ ?_
 cases hb2:((Qc s).2)
 ·iterate 15 refine w_ ?_
  refine lc (QH KC rfl (List.all_eq_true.1 rfl) rfl rfl)<|lc (Qe (Qa rfl) rfl (Qb rfl) rfl ZA rfl) ?_
  iterate 2 refine w_ ?_
  refine AC.wk (QR 5 (p:=1) (off:=0) 145 (.pr .str .int) rfl rfl (Fresh.of rfl) (nlr rfl))<|AC.wk (QR 6 (p:=1) (off:=1) 9 .str rfl rfl (Fresh.of rfl) (nlr rfl))<|AC.wk (QR 7 (p:=1) (off:=2) 179 (.pr .int (.pr .int (.pr .bool .int))) rfl rfl (Fresh.of rfl) (nlr rfl))<|Qf ?_
  subst hO
  have e3:(false:Bool)=((sgV s).2):=by
   (rw[WJ (by assumption)]; done)
  exact QF _ _ [(0,5),(1,6),(2,7)] (QC rfl (Q3 rfl rfl ZA rfl) (Qd rfl)) ((congrArg (fun z_=>PV.tup [(true,[.ref 5, .ref 6, .ref 7]),(false,[dB z_])]) e3)) ⟨(Qy (by (rw[WJ (by assumption)]; rfl))),(Qy (by (rw[WJ (by assumption)]; rfl))),(Qy (by (rw[WJ (by assumption)]; rfl))),trivial⟩ rfl rfl
 ·iterate 2 refine w_ ?_
  refine lgy rfl rfl (QaM 8 (QaR s ((Qc s).1) (Zo (s:=s) (by assumption)).2.2.2.2.1 (by have:=(Zo (s:=s) (by assumption)).2.2.1; omega) (by have:=Qc1 (Zo (s:=s) (by assumption)).1.sigs; omega)) QiQ ⟨_,_,rfl,(Ev.b (Qb rfl)),⟨_,_,rfl,(XR (Qb rfl) ⟨_,_,rfl, .inr ⟨_,_,_,_,rfl,rfl,rfl⟩,⟨_,_,rfl, .inr ⟨_,_,_,_,rfl,rfl,rfl⟩,rfl⟩⟩),rfl⟩⟩ rfl (Fresh.of rfl) (nlr rfl)) ?_
  iterate 4 refine w_ ?_
  cases hb4:(decide (0 < ((XN ((Qc s).1).1.length (QP s.2.2.1 ((Qc s).1).2) s.2.1.length).length:Int)))
  ·have hb4':=of_decide_eq_false hb4
   iterate 6 refine w_ ?_
   cases hb5:(decide (4000 < ((((Qc s).1).2).length:Int)))
   ·have hb5':=of_decide_eq_false hb5
    iterate 2 refine w_ ?_
    obtain ⟨hsg,hN1,hN2,hNd,hMv,hMl⟩:=Zo (s:=s) (by assumption)
    have hir:=Vi (ls:=s.2.2.1) hMv
    have hsl:=Qc1 hsg.sigs
    refine dw [⟨some 36,lR 9,[(9,some (.arr 145 (.pr .str .int) ([])))]⟩,io 37 (lP 0 2),io 38 (lf (.dat (.sl 145 (.pr .str .int)) s.2.1)),⟨some 39,lR 10,[(10,some (.arr 145 (.pr .str .int) (([])++s.2.1))),(9,none)]⟩,io 40 (lP 4 0),io 41 (lR 2),io 42 (lI ((((Qc s).1).1).length:Int)),⟨some 43,lR 11,[(11,some (.arr 9 .str (List.replicate ((((Qc s).1).1).length) (Ty.zero .str))))]⟩,io 44 (ag [.ref 10, .ref 11, .val (.slice none 0 0)]),⟨some 6,lP 12 0,[(12,some (.box 59 [.val (.slice none 0 0), .val (.slice none 0 0), .val (.slice none 0 0)]))]⟩,⟨none,lf (.val undef),[(12,some (.box 59 [.ref 10, .ref 11, .val (.slice none 0 0)]))]⟩] [0,0,2,7,0,16,48,112,255,0,1023] mixed rfl (by kernel_rfl) ⟨fun _ h_=>ac (Qg 9 (e:=(.pr .str .int)) YQ Z4 K1 rfl rfl (List.all_eq_true.1 rfl) ⟨rfl,rfl⟩ (by decide) rfl rfl (h_.fr 9 rfl) (nlr rfl)) rfl,dxf Hg rfl rfl rfl,dxl QeI rfl rfl rfl rfl rfl,fun _ h_=>ac (Zj 10 (h_.v rfl) (h_.en 9 rfl) (Evl.rep (h_.v rfl)) rfl YQ Qbc (by first | omega | (simp only[List.length_append,List.length_map,List.length_take,List.length_cons,List.length_nil]; omega) | (simp only[List.length_append,List.length_drop,List.length_take,List.length_cons,List.length_nil]; omega)) rfl (h_.fr 10 rfl) (nlr rfl)) rfl,dxf VY rfl rfl rfl,dxl Xe rfl rfl rfl rfl rfl,fun _ h_=>ac (KU (h_.v rfl) (h_.n 2 rfl) rfl Zi) rfl,fun _ h_=>ac (VX 11 (e:= .str) (n:=(((Qc s).1).1).length) (h_.v rfl) (h_.v rfl) Zi Qoc rfl (by omega) (by omega) rfl (h_.fr 11 rfl) (nlr rfl)) rfl,fun _ h_=>ac (QH KC ⟨_,_,rfl,(h_.w rfl),⟨_,_,rfl,(h_.w rfl),rfl⟩⟩ (List.all_eq_true.1 (by simp only[Zx,Wv,List.all_cons,List.all_nil]; rw[(h_.en 10 rfl),(h_.en 11 rfl)]; rfl)) rfl rfl) rfl,fun _ h_=>ac (Qp 12 (.pr (.sl 145 (.pr .str .int)) (.pr (.sl 9 .str) (.sl 179 (.pr .int (.pr .int (.pr .bool .int)))))) VR rfl rfl (h_.fr 12 rfl) (nlr rfl)) rfl,fun _ h_=>ac (Qe (h_.v rfl) (h_.en 12 rfl) (h_.w rfl) (by simp only[Zx,Wv,List.all_cons,List.all_nil]; rw[(h_.en 10 rfl),(h_.en 11 rfl)]; rfl) ZA rfl) rfl,⟨⟩⟩ ?_
    iterate 4 refine w_ ?_
    refine AL.fact (Qq (x:= .tmp 46) (Qa rfl)) fun hl6=> ?_
    iterate 4 refine w_ ?_
    refine Qx (fun m_ s_=>∃(k:Nat) (codes:List ByteArray),k≤s.2.1.length∧m_=s.2.1.length - k∧(goS (Qc s).1.1.length (QP s.2.2.1 (Qc s).1.2) s.2.1.length 0 (List.replicate (Qc s).1.1.length ByteArray.empty)=goS (Qc s).1.1.length (QP s.2.2.1 (Qc s).1.2) (s.2.1.length - k) k codes)∧(codes.length=(Qc s).1.1.length)∧(∀c∈codes,c.size≤300*k)∧s_=⟨[(1,lP 0 0),(2,lP 1 0),(3,lB false),(4,lP 4 0),(6,lP 12 0),(47,lI (s.2.1.length:Int)),(48,lI (k:Int))],[(0,some (.box 39 [dI s.1.1, .dat (.sl 159 (.pr (.sl 3 .int) (.sl 3 .int))) s.1.2, .dat (.sl 145 (.pr .str .int)) s.2.1, .dat (.sl 61 (.pr .int .bool)) s.2.2.1,dS s.2.2.2])),(1,some (.box 59 [.val (.slice none 0 0), .val (.slice none 0 0), .val (.slice none 0 0)])),(2,some (.arr 9 .str (((Qc s).1).1))),(3,some (.arr 226 (.pr .int (.pr .int .int)) (((Qc s).1).2))),(4,some (.box 98 [.ref 2, .ref 3])),(10,some (.arr 145 (.pr .str .int) (([])++s.2.1))),(12,some (.box 59 [.ref 10, .ref 13, .val (.slice none 0 0)])),(13,some (.arr 9 .str codes))]⟩) ⟨0,List.replicate ((((Qc s).1).1).length) (Ty.zero .str),Nat.zero_le _,rfl,rfl,(by simp),(fun c hc=>by rw[List.eq_of_mem_replicate hc]; exact Nat.zero_le _),rfl⟩ ?_ ?_
    · exact Wk.of [(0,0),(1,1),(2,2),(3,3),(4,4),(10,10),(12,12),(13,11)] rfl ⟨rfl,rfl,rfl,rfl,rfl,rfl,rfl,trivial⟩ ⟨rfl,rfl,rfl,rfl,rfl,rfl,rfl,(Qy (by first | rfl | simp)),trivial⟩ rfl rfl
    rintro m_ s_ ⟨k,codes,hk7,hm8,hA,hL,hZ,rfl⟩
    iterate 4 refine w_ ?_
    cases hb9:(decide ((k:Int) < (s.2.1.length:Int)))
    ·have hb9':=of_decide_eq_false hb9
     refine w_ ?_
     refine QB ?_
     refine (?_:AC _ _ _ _ _)
     iterate 8 refine w_ ?_
     refine AC.wk (QR 14 (p:=12) (off:=2) 179 (.pr .int (.pr .int (.pr .bool .int))) rfl rfl (Fresh.of rfl) (nlr rfl)) ?_
     refine Qx (fun m_ s_=>∃(j:Nat),j≤(((Qc s).1).2).length∧m_=(((Qc s).1).2).length - j∧s_=⟨[(1,lP 0 0),(2,lP 1 0),(3,lB false),(6,lP 12 0),(82,lR 3),(83,lI ((((Qc s).1).2).length:Int)),(84,lI (j:Int))],[(0,some (.box 39 [dI s.1.1, .dat (.sl 159 (.pr (.sl 3 .int) (.sl 3 .int))) s.1.2, .dat (.sl 145 (.pr .str .int)) s.2.1, .dat (.sl 61 (.pr .int .bool)) s.2.2.1,dS s.2.2.2])),(1,some (.box 59 [.val (.slice none 0 0), .val (.slice none 0 0), .val (.slice none 0 0)])),(3,some (.arr 226 (.pr .int (.pr .int .int)) (((Qc s).1).2))),(10,some (.arr 145 (.pr .str .int) (([])++s.2.1))),(12,some (.box 59 [.ref 10, .ref 13, .ref 15])),(13,some (.arr 9 .str codes)),(15,some (.arr 179 (.pr .int (.pr .int (.pr .bool .int))) ((((Qc s).1).2.take j).map (Qc2 s.2.2.1))))]⟩) ⟨0,Nat.zero_le _,rfl,rfl⟩ ?_ ?_
     · exact Wk.of [(0,0),(1,1),(3,3),(10,10),(12,12),(13,13),(15,14)] rfl ⟨rfl,rfl,rfl,rfl,rfl,rfl,rfl,trivial⟩ ⟨rfl,rfl,rfl,rfl,rfl,rfl,(Qy (by first | rfl | simp)),trivial⟩ rfl rfl
     rintro m_ s_ ⟨j,hk10,hm11,rfl⟩
     iterate 4 refine w_ ?_
     cases hb12:(decide ((j:Int) < ((((Qc s).1).2).length:Int)))
     ·have hb12':=of_decide_eq_false hb12
      refine w_ ?_
      refine QB ?_
      refine (?_:AC _ _ _ _ _)
      iterate 2 refine w_ ?_
      refine lc (Qe (Qa rfl) rfl (Qb rfl) rfl ZA rfl) ?_
      iterate 2 refine w_ ?_
      refine Qf ?_
      subst hO
      have e13:(true:Bool)=((sgV s).2):=by
       (rw[Vv (by assumption) (by assumption) (hA.trans (Vs (by omega)))]; done)
      exact QF _ _ [(0,10),(1,13),(2,15)] (QC rfl (Q3 rfl rfl ZA rfl) (Qd rfl)) ((congrArg (fun z_=>PV.tup [(true,[.ref 10, .ref 13, .ref 15]),(false,[dB z_])]) e13)) ⟨(Qy (by (rw[Vv (by assumption) (by assumption) (hA.trans (Vs (by omega)))]; rfl))),(Qy (by (rw[Vv (by assumption) (by assumption) (hA.trans (Vs (by omega)))]; done))),(Qy (by (rw[Vv (by assumption) (by assumption) (hA.trans (Vs (by omega))),Yi (by omega)]; rfl))),trivial⟩ rfl rfl
     ·have hb12':=of_decide_eq_true hb12
      iterate 5 refine w_ ?_
      refine lc (Qu (e:=(.pr .int (.pr .int .int))) (Qa rfl) rfl (Qa rfl) Z6 Zr rfl (by omega) (by first | omega | (simp only[List.length_set]; omega))) ?_
      obtain ⟨mv,hx15⟩:∃z,(((Qc s).1).2)[j]? =some z:=⟨_,List.getElem?_eq_getElem (by omega)⟩
      have hrm:=(hMv _ (List.mem_of_getElem? hx15)).2.1
      refine lc (QgG (e:=(.pr .int (.pr .int .int))) (Qa rfl) rfl hx15 rfl Zr rfl rfl)<|lc (Qp 16 (.pr .int (.pr .int .int)) Yu rfl rfl (Fresh.of rfl) (nlr rfl))<|lc (Qe (Qa rfl) rfl (Qb rfl) rfl Zr rfl) ?_
      iterate 6 refine w_ ?_
      refine AL.fact (QA (x:= .tmp 91) (Qa rfl)) fun hi16=> ?_
      obtain ⟨x17,hx18⟩:∃z,s.2.2.1[(mv.2.1).toNat]? =some z:=⟨_,List.getElem?_eq_getElem (by omega)⟩
      have hla:=Qbj hx18
      refine lc (Qh (Qa rfl) (Qa rfl) X2 Yr rfl (by omega) hx18) ?_
      refine w_ ?_
      refine lc (Qp 17 (.pr .int .bool) JY rfl rfl (Fresh.of rfl) (nlr rfl))<|lc (Qe (Qa rfl) rfl (Qb rfl) rfl Yr rfl) ?_
      iterate 6 refine w_ ?_
      refine AL.fact (QA (x:= .tmp 97) (Qa rfl)) fun hi19=> ?_
      iterate 2 refine w_ ?_
      refine AL.fact (QA (x:= .tmp 99) (Qa rfl)) fun hi20=> ?_
      iterate 4 refine w_ ?_
      refine AL.fact (QA (x:= .tmp 103) (Qa rfl)) fun hi21=>lc (QH Qjt ⟨_,_,rfl,(Qb rfl),⟨_,_,rfl,(Qb rfl),⟨_,_,rfl,(Qb rfl),⟨_,_,rfl,(Qb rfl),rfl⟩⟩⟩⟩ (List.all_eq_true.1 rfl) rfl rfl)<|lc (Qg 18 (e:=(.pr .int (.pr .int (.pr .bool .int)))) Ks WF UE rfl ⟨_,_,rfl,(Qb rfl),rfl⟩ (List.all_eq_true.1 rfl) ⟨_,_,_,_,rfl,⟨[dI mv.1],[dI x17.1,dB x17.2,dI mv.2.2],_,_,_,_,rfl,rfl,⟨rfl,rfl⟩,⟨[dI x17.1],[dB x17.2,dI mv.2.2],_,_,_,_,rfl,rfl,⟨rfl,rfl⟩,⟨[dB x17.2],[dI mv.2.2],_,_,_,_,rfl,rfl,⟨rfl,rfl⟩,⟨rfl,rfl⟩,rfl⟩,rfl⟩,rfl⟩,⟨rfl,rfl⟩,rfl⟩ (by decide) rfl rfl (Fresh.of rfl) (nlr rfl))<|lc (QQ 19 (Qa rfl) rfl (Qa rfl) rfl rfl Ks Qju (by first | omega | (simp only[List.length_append,List.length_map,List.length_take,List.length_cons,List.length_nil]; omega) | (simp only[List.length_append,List.length_drop,List.length_take,List.length_cons,List.length_nil]; omega)) rfl (Fresh.of rfl) (nlr rfl)) ?_
      refine w_ ?_
      refine lc (Qe (Qa rfl) rfl (Qb rfl) rfl Qop rfl)<|Qk ?_
      refine (?_:AC _ _ _ _ _)
      iterate 3 refine w_ ?_
      refine Qk<|QU ⟨j+1,by omega,rfl,rfl⟩ (by omega) ?_
      exact Wk.of [(0,0),(1,1),(3,3),(10,10),(12,12),(13,13),(15,19)] rfl ⟨rfl,rfl,rfl,rfl,rfl,rfl,rfl,trivial⟩ ⟨rfl,rfl,rfl,rfl,rfl,rfl,(Qy (by rw[QW hx15]; simp[Qc2,hla])),trivial⟩ rfl rfl
    ·have hb9':=of_decide_eq_true hb9
     iterate 12 refine w_ ?_
     refine lc (Zm (Uo s ((Qc s).1) (k:Int) hMv (by omega)) QcQ ⟨_,_,rfl,(Ev.b (Qb rfl)),⟨_,_,rfl,(XR (Qb rfl) ⟨_,_,rfl, .inr ⟨_,_,_,_,rfl,rfl,rfl⟩,⟨_,_,rfl, .inr ⟨_,_,_,_,rfl,rfl,rfl⟩,rfl⟩⟩),⟨_,_,rfl,(Ev.b (Qb rfl)),rfl⟩⟩⟩ rfl rfl rfl) ?_
     iterate 6 refine w_ ?_
     refine Wp ?_
     obtain ⟨us,hu1,hu2,hu3,hu4⟩:=Qoi (sig:=(k:Int)) hir (QhX (m:=s.2.1.length) (by assumption) (by omega))
     iterate 7 refine w_ ?_
     refine Qx (fun m_ s_=>∃(i:Nat) (codes2:List ByteArray),i≤codes.length∧m_=codes.length - i∧(Uk 0 codes (us.map q0)=Uk i codes2 ((us.map q0).drop i))∧(codes2.length=(Qc s).1.1.length)∧(∀c∈codes2,c.size≤300*k+i)∧s_=⟨[(1,lP 0 0),(2,lP 1 0),(3,lB false),(4,lP 4 0),(6,lP 12 0),(7,lI (k:Int)),(8,lf (dS ((l5V ((Qc s).1).1.length (QP s.2.2.1 ((Qc s).1).2) (k:Int)).1))),(47,lI (s.2.1.length:Int)),(48,lI (k:Int)),(49,lB true),(50,lI (k:Int)),(51,PV.tup [(false,[dS ((l5V ((Qc s).1).1.length (QP s.2.2.1 ((Qc s).1).2) (k:Int)).1)]),(false,[dB ((l5V ((Qc s).1).1.length (QP s.2.2.1 ((Qc s).1).2) (k:Int)).2)])]),(52,ag [dI s.1.1, .dat (.sl 159 (.pr (.sl 3 .int) (.sl 3 .int))) s.1.2, .dat (.sl 145 (.pr .str .int)) s.2.1, .dat (.sl 61 (.pr .int .bool)) s.2.2.1,dS s.2.2.2]),(53,ag [.ref 2, .ref 3]),(54,lI (k:Int)),(55,PV.tup [(false,[dS ((l5V ((Qc s).1).1.length (QP s.2.2.1 ((Qc s).1).2) (k:Int)).1)]),(false,[dB ((l5V ((Qc s).1).1.length (QP s.2.2.1 ((Qc s).1).2) (k:Int)).2)])]),(56,lf (dS ((l5V ((Qc s).1).1.length (QP s.2.2.1 ((Qc s).1).2) (k:Int)).1))),(57,lB ((l5V ((Qc s).1).1.length (QP s.2.2.1 ((Qc s).1).2) (k:Int)).2)),(58,lP 12 1),(60,lI (codes.length:Int)),(61,lI (i:Int))],[(0,some (.box 39 [dI s.1.1, .dat (.sl 159 (.pr (.sl 3 .int) (.sl 3 .int))) s.1.2, .dat (.sl 145 (.pr .str .int)) s.2.1, .dat (.sl 61 (.pr .int .bool)) s.2.2.1,dS s.2.2.2])),(1,some (.box 59 [.val (.slice none 0 0), .val (.slice none 0 0), .val (.slice none 0 0)])),(2,some (.arr 9 .str (((Qc s).1).1))),(3,some (.arr 226 (.pr .int (.pr .int .int)) (((Qc s).1).2))),(4,some (.box 98 [.ref 2, .ref 3])),(10,some (.arr 145 (.pr .str .int) (([])++s.2.1))),(12,some (.box 59 [.ref 10, .ref 20, .val (.slice none 0 0)])),(20,some (.arr 9 .str codes2))]⟩) ⟨0,codes,Nat.zero_le _,rfl,rfl,hL,hZ,rfl⟩ ?_ ?_
     · exact Wk.of [(0,0),(1,1),(2,2),(3,3),(4,4),(10,10),(12,12),(20,13)] rfl ⟨rfl,rfl,rfl,rfl,rfl,rfl,rfl,rfl,rfl,rfl,rfl,rfl,rfl,rfl,rfl,rfl,rfl,rfl,rfl,rfl,rfl,trivial⟩ ⟨rfl,rfl,rfl,rfl,rfl,rfl,rfl,rfl,trivial⟩ rfl rfl
     rintro m_ s_ ⟨i,codes2,hk22,hm23,hA2,hL2,hZ2,rfl⟩
     iterate 4 refine w_ ?_
     cases hb24:(decide ((i:Int) < (codes.length:Int)))
     ·have hb24':=of_decide_eq_false hb24
      refine w_ ?_
      refine QB ?_
      refine (?_:AC _ _ _ _ _)
      iterate 3 refine w_ ?_
      refine Qk<|QU ⟨k+1,codes2,by omega,rfl,(by rw[hA,Qmg (by omega) (by rw[hu4])]; exact congrArg _ (by rw[hu4]; exact hA2.trans (Qmc (by omega)))),hL2,(fun c hc=>Nat.le_trans (hZ2 c hc) (by omega)),rfl⟩ (by omega) ?_
      exact Wk.of [(0,0),(1,1),(2,2),(3,3),(4,4),(10,10),(12,12),(13,20)] rfl ⟨rfl,rfl,rfl,rfl,rfl,rfl,rfl,trivial⟩ ⟨rfl,rfl,rfl,rfl,rfl,rfl,rfl,rfl,trivial⟩ rfl rfl
     ·have hb24':=of_decide_eq_true hb24
      iterate 13 refine w_ ?_
      refine lc (show Does _ _ _ _ (St.put _ 68 (lf (dS (((l5V ((Qc s).1).1.length (QP s.2.2.1 ((Qc s).1).2) (k:Int)).1).extract ((i:Int)).toNat ((i:Int)+1).toNat)))) from Qf6 (l:=(some (i:Int))) (h:=(some ((i:Int)+1))) (Qa rfl) (by exact (Qa rfl)) (by exact (Qa rfl)) W9 rfl (by first | omega | (simp only[Option.getD_none,Option.getD_some]; omega)) (by first | omega | (simp only[Option.getD_none,Option.getD_some]; omega)) (by first | omega | (simp only[Option.getD_none,Option.getD_some]; omega))) ?_
      iterate 7 refine w_ ?_
      cases hb25:(decide ((((l5V ((Qc s).1).1.length (QP s.2.2.1 ((Qc s).1).2) (k:Int)).1).extract ((i:Int)).toNat ((i:Int)+1).toNat)=(⟨#[63]⟩:ByteArray)))
      ·have hb25':=of_decide_eq_false hb25
       iterate 6 refine w_ ?_
       refine lc (Qu (e:= .str) (Qa rfl) rfl (Qa rfl) Zi Ze rfl (by omega) (by first | omega | (simp only[List.length_set]; omega))) ?_
       obtain ⟨x26,hx27⟩:∃z,codes2[i]? =some z:=⟨_,List.getElem?_eq_getElem (by omega)⟩
       have hczx26:=hZ2 _ (List.mem_of_getElem? hx27)
       refine lc (QL (e:= .str) (Qa rfl) rfl hx27 rfl Ze rfl rfl) ?_
       refine w_ ?_
       refine lc (Xs (Qa rfl) (Qa rfl) rfl (by first | (simp only[Qad]; omega) | (refine Nat.le_trans (Nat.add_le_add_left (Qbq _ i) _) ?_; omega))) ?_
       refine lc (Qu (e:= .str) (Qa rfl) rfl (Qa rfl) Zi Ze rfl (by omega) (by first | omega | (simp only[List.length_set]; omega)))<|lc (QX (e:= .str) (z':=x26++(((l5V ((Qc s).1).1.length (QP s.2.2.1 ((Qc s).1).2) (k:Int)).1).extract ((i:Int)).toNat ((i:Int)+1).toNat)) (Qa rfl) rfl hx27 rfl (Qb rfl) rfl Ze rfl rfl)<|Qk ?_
       refine (?_:AC _ _ _ _ _)
       iterate 3 refine w_ ?_
       refine Qk<|QU ⟨i+1,(codes2.set i (x26++(((l5V ((Qc s).1).1.length (QP s.2.2.1 ((Qc s).1).2) (k:Int)).1).extract ((i:Int)).toNat ((i:Int)+1).toNat))),by omega,rfl,by first | exact hA2.trans (Qmw hu1 (by omega) (by assumption) hx27) | exact hA2.trans (Qlq hu1 (by omega) (by assumption) hx27),(by rw[List.length_set]; exact hL2),(Qb5 hZ2 hx27 (by rw[ByteArray.size_append]; first | exact Nat.le_refl _ | exact Nat.add_le_add_left (Qbq _ _) _)),rfl⟩ (by omega) ?_
       exact Wk.of [(0,0),(1,1),(2,2),(3,3),(4,4),(10,10),(12,12),(20,20)] rfl ⟨rfl,rfl,rfl,rfl,rfl,rfl,rfl,rfl,rfl,rfl,rfl,rfl,rfl,rfl,rfl,rfl,rfl,rfl,rfl,rfl,rfl,trivial⟩ ⟨rfl,rfl,rfl,rfl,rfl,rfl,rfl,(Qy (by first | rfl | simp)),trivial⟩ rfl rfl
      ·have hb25':=of_decide_eq_true hb25
       iterate 8 refine w_ ?_
       refine lc (Qu (e:= .str) (Qa rfl) rfl (Qa rfl) Zi Ze rfl (by omega) (by first | omega | (simp only[List.length_set]; omega))) ?_
       obtain ⟨x28,hx29⟩:∃z,codes2[i]? =some z:=⟨_,List.getElem?_eq_getElem (by omega)⟩
       have hczx28:=hZ2 _ (List.mem_of_getElem? hx29)
       refine lc (QL (e:= .str) (Qa rfl) rfl hx29 rfl Ze rfl rfl) ?_
       refine w_ ?_
       refine lc (Xs (Qa rfl) (Qa rfl) rfl (by first | (simp only[Qad]; omega) | (refine Nat.le_trans (Nat.add_le_add_left (Qbq _ i) _) ?_; omega))) ?_
       refine lc (Qu (e:= .str) (Qa rfl) rfl (Qa rfl) Zi Ze rfl (by omega) (by first | omega | (simp only[List.length_set]; omega)))<|lc (QX (e:= .str) (z':=x28++(⟨#[48]⟩:ByteArray)) (Qa rfl) rfl hx29 rfl (Qb rfl) rfl Ze rfl rfl)<|Qk ?_
       refine (?_:AC _ _ _ _ _)
       iterate 3 refine w_ ?_
       refine Qk<|QU ⟨i+1,(codes2.set i (x28++(⟨#[48]⟩:ByteArray))),by omega,rfl,by first | exact hA2.trans (Qmw hu1 (by omega) (by assumption) hx29) | exact hA2.trans (Qlq hu1 (by omega) (by assumption) hx29),(by rw[List.length_set]; exact hL2),(Qb5 hZ2 hx29 (by rw[ByteArray.size_append]; first | exact Nat.le_refl _ | exact Nat.add_le_add_left (Qbq _ _) _)),rfl⟩ (by omega) ?_
       exact Wk.of [(0,0),(1,1),(2,2),(3,3),(4,4),(10,10),(12,12),(20,20)] rfl ⟨rfl,rfl,rfl,rfl,rfl,rfl,rfl,rfl,rfl,rfl,rfl,rfl,rfl,rfl,rfl,rfl,rfl,rfl,rfl,rfl,rfl,trivial⟩ ⟨rfl,rfl,rfl,rfl,rfl,rfl,rfl,(Qy (by first | rfl | simp)),trivial⟩ rfl rfl
   ·have hb5':=of_decide_eq_true hb5
    iterate 2 refine w_ ?_
    refine lc (QH KC rfl (List.all_eq_true.1 rfl) rfl rfl)<|lc (Qe (Qa rfl) rfl (Qb rfl) rfl ZA rfl) ?_
    iterate 2 refine w_ ?_
    refine AC.wk (QR 21 (p:=1) (off:=0) 145 (.pr .str .int) rfl rfl (Fresh.of rfl) (nlr rfl))<|AC.wk (QR 22 (p:=1) (off:=1) 9 .str rfl rfl (Fresh.of rfl) (nlr rfl))<|AC.wk (QR 23 (p:=1) (off:=2) 179 (.pr .int (.pr .int (.pr .bool .int))) rfl rfl (Fresh.of rfl) (nlr rfl))<|Qf ?_
    subst hO
    have e30:(false:Bool)=((sgV s).2):=by
     (rw[Vt (by assumption)]; done)
    exact QF _ _ [(0,21),(1,22),(2,23)] (QC rfl (Q3 rfl rfl ZA rfl) (Qd rfl)) ((congrArg (fun z_=>PV.tup [(true,[.ref 21, .ref 22, .ref 23]),(false,[dB z_])]) e30)) ⟨(Qy (by (rw[Vt (by assumption)]; rfl))),(Qy (by (rw[Vt (by assumption)]; rfl))),(Qy (by (rw[Vt (by assumption)]; rfl))),trivial⟩ rfl rfl
  ·have hb4':=of_decide_eq_true hb4
   iterate 8 refine w_ ?_
   refine lc (QH KC rfl (List.all_eq_true.1 rfl) rfl rfl)<|lc (Qe (Qa rfl) rfl (Qb rfl) rfl ZA rfl) ?_
   iterate 2 refine w_ ?_
   refine AC.wk (QR 24 (p:=1) (off:=0) 145 (.pr .str .int) rfl rfl (Fresh.of rfl) (nlr rfl))<|AC.wk (QR 25 (p:=1) (off:=1) 9 .str rfl rfl (Fresh.of rfl) (nlr rfl))<|AC.wk (QR 26 (p:=1) (off:=2) 179 (.pr .int (.pr .int (.pr .bool .int))) rfl rfl (Fresh.of rfl) (nlr rfl))<|Qf ?_
   subst hO
   have e31:(false:Bool)=((sgV s).2):=by
    (rw[VG (UB (Vi (Zo (by assumption)).2.2.2.2.1) (by assumption))]; done)
   exact QF _ _ [(0,24),(1,25),(2,26)] (QC rfl (Q3 rfl rfl ZA rfl) (Qd rfl)) ((congrArg (fun z_=>PV.tup [(true,[.ref 24, .ref 25, .ref 26]),(false,[dB z_])]) e31)) ⟨(Qy (by (rw[VG (UB (Vi (Zo (by assumption)).2.2.2.2.1) (by assumption))]; rfl))),(Qy (by (rw[VG (UB (Vi (Zo (by assumption)).2.2.2.2.1) (by assumption))]; rfl))),(Qy (by (rw[VG (UB (Vi (Zo (by assumption)).2.2.2.2.1) (by assumption))]; rfl))),trivial⟩ rfl rfl
end Go.Proofs.YtnakmhfjafecpaaGreat
