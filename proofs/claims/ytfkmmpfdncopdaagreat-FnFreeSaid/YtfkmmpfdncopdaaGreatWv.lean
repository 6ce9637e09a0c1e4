/- Walks over abstract states: the state graph, both sides. -/
import Derived.Test.YtfkmmpfdncopdaaGreatWp
set_option linter.unusedSimpArgs false
set_option linter.unusedVariables false
set_option linter.unusedSectionVars false
namespace Go.Proofs.YtfkmmpfdncopdaaGreat
open Go.RowKit
set_option maxRecDepth 100000
set_option maxHeartbeats 4000000
def WH:Nat→List ByteArray→List UInt8→List ByteArray
  | _,c,[]=>c
  | i,c,v :: vs=>WH (i+1) (c.set i ((c[i]?).getD ByteArray.empty++⟨#[v]⟩)) vs
def goS (n:Nat)(arcs:List DAr):Nat→Nat→List ByteArray→Option (List ByteArray)
  | 0,_,c=>some c
  | f+1,k,c=>if (We n arcs (k:Int)).2=true then goS n arcs f (k+1) (WH 0 c (We n arcs (k:Int)).1) else none
section
variable {n f k i m:Nat}{arcs:List DAr}{c codes:List ByteArray}{vs us:List UInt8}{v:UInt8}{x:ByteArray}
theorem QcB (hv:vs[i]? =some v)(hx:c[i]? =some x):WH i c (vs.drop i)=WH (i+1) (c.set i (x++⟨#[v]⟩)) (vs.drop (i+1)):=by
  rw[ZU hv,WH,hx]
  rfl
theorem QkW (h:vs.length≤i):WH i c (vs.drop i)=c:=by rw[bw h,WH]
theorem Qd5:∀(i:Nat) (c:List ByteArray) (vs:List UInt8),(WH i c vs).length=c.length
  | _,_,[]=>by rw[WH]
  | i,c,v :: vs=>by rw[WH,Qd5]; simp
theorem QoP (hk:k < m)(h:(We n arcs (k:Int)).2=true):goS n arcs (m - k) k c=goS n arcs (m - (k+1)) (k+1) (WH 0 c (We n arcs (k:Int)).1):=by
  rw[show m - k=(m - (k+1))+1 by omega,goS,if_pos h]
theorem HT (hk:m≤k):goS n arcs (m - k) k c=some c:=by rw[show m - k=0 by omega,goS]
theorem QlN {j:Nat}(h:(We n arcs (j:Int)).2=false)(hk:k≤j)(hj:j < k+f):goS n arcs f k c=none:=by
  induction f generalizing k c with
  | zero=>omega
  | succ f ih=>
    rw[goS]
    by_cases e:j=k
    · subst e; rw[if_neg (by rw[h]; decide)]
    · split
      · exact ih (by omega) (by omega)
      · rfl
theorem Qgl (hr:∀a∈arcs,InR n a)(sig:Int):(We n arcs sig).2=(l5V n arcs sig).2:=by
  rcases Qaq (sig:=sig) hr with ⟨h1,h2,_⟩ | ⟨us,h1,_,h2⟩
  · rw[h1,h2]
  · rw[h1,h2]
theorem QfC (h:¬0 < ((Xj n arcs m).length:Int))(hk:k < m):(l5V n arcs (k:Int)).2=true:=by
  induction m with
  | zero=>omega
  | succ m ih=>
    simp only[Xj,ak] at h
    by_cases e:k=m
    · subst e
      cases h2:(l5V n arcs (k:Int)).2 with
      | true=>rfl
      | false=>rw[h2] at h; simp at h
    · exact ih (by omega) (by omega)
theorem VA (hr:∀a∈arcs,InR n a)(h:0 < ((Xj n arcs m).length:Int)):goS n arcs m 0 c=none:=by
  have:∃j,j < m∧(l5V n arcs (j:Int)).2=false:=by
    induction m with
    | zero=>simp[Xj] at h
    | succ m ih=>
      simp only[Xj,ak] at h
      cases h2:(l5V n arcs (m:Int)).2 with
      | false=>exact ⟨m,by omega,h2⟩
      | true=>
        rw[h2] at h
        obtain ⟨j,h3,h4⟩:=ih (by simpa using h)
        exact ⟨j,by omega,h4⟩
  obtain ⟨j,h1,h2⟩:=this
  exact QlN ((Qgl hr _).trans h2) (aS _) (by omega)
theorem QkI (hr:∀a∈arcs,InR n a)(sig:Int):(We n arcs sig).1.length≤n:=by
  rcases Qaq (sig:=sig) hr with ⟨_,_,_,h2⟩ | ⟨us,_,h1,h2⟩
  · rw[h2]; exact aS _
  · rw[h2,aQ,h1]; exact aO _
theorem Qe2 {b:Nat}{y:ByteArray}(h:∀z∈c,z.size≤b)(hx:c[i]? =some x)(hy:y.size≤x.size+1):∀z∈c.set i y,z.size≤b+1:=fun z hz=>by
  rcases bX hz with h1 | h1
  · exact cJ (h z h1)
  · rw[h1]; have:=h x (ao hx); omega
theorem Wh {ls:List ZA}{ms:List DMv}{q:Nat}(h:∀v∈ms,MvOk n q v):∀a∈Qu ls ms,InR n a:=fun a ha=>by
  obtain ⟨v,hv,rfl⟩:=b8.1 ha
  obtain ⟨h1,_,h2⟩:=h v hv
  exact ⟨h1,h2⟩
theorem QoB {sig:Int}(hr:∀a∈arcs,InR n a)(h:(l5V n arcs sig).2=true):∃us:List UInt8,(l5V n arcs sig).1=⟨us.toArray⟩∧us.length=n∧(l5V n arcs sig).1.size=n∧We n arcs sig=(us.map q0,true):=by
  rcases Qaq (sig:=sig) hr with ⟨h1,_⟩ | ⟨us,h1,h2,h3⟩
  · rw[h1] at h; cases h
  · exact ⟨us,by rw[h1],h2,by rw[h1,← h2]; rfl,h3⟩
theorem H8 (b:ByteArray)(i:Nat):(b.extract i (i+1)).size≤1:=by simp only[aL]; omega
theorem Qpy (hu:us[i]? =some v):(⟨us.toArray⟩:ByteArray).extract i (i+1)=⟨#[v]⟩:=by
  apply ByteArray.ext
  simp only[ByteArray.data_extract]
  obtain ⟨h1,h2⟩:=aj.1 hu
  apply Array.ext
  · simp; omega
  · intro j h3 h4
    have:j=0:=by simp at h4; omega
    subst this
    simp[h2]
theorem QnN (hu:us[i]? =some v):(us.map q0)[i]? =some (q0 v):=by rw[bo,hu]; rfl
theorem QjV {b:ByteArray}(hb:b=⟨us.toArray⟩)(hi:i < us.length)(hd:decide (b.extract i (i+1)=⟨#[63]⟩)=true)(hx:c[i]? =some x):WH i c ((us.map q0).drop i)=WH (i+1) (c.set i (x++⟨#[48]⟩)) ((us.map q0).drop (i+1)):=by
  have hu:=aa hi
  have h1:=ae hd
  rw[hb,Qpy hu] at h1
  have h2:us[i]=63:=by
    have:=congrArg (fun b:ByteArray=>b.data[0]?) h1
    simpa using this
  have:=QcB (QnN hu) hx
  rwa [show q0 us[i]=48 by rw[h2]; rfl] at this
theorem Ql4 {b:ByteArray}(hb:b=⟨us.toArray⟩)(hi:i < us.length)(hd:decide (b.extract i (i+1)=⟨#[63]⟩)=false)(hx:c[i]? =some x):WH i c ((us.map q0).drop i)=WH (i+1) (c.set i (x++b.extract i (i+1))) ((us.map q0).drop (i+1)):=by
  have hu:=aa hi
  have h1:=ab hd
  rw[hb,Qpy hu] at h1 ⊢
  have:=QcB (QnN hu) hx
  rwa [show q0 us[i]=us[i] by unfold q0; rw[if_neg]; intro e; exact h1 (by rw[e])] at this
theorem QlH (h:us.length≤i):WH i c ((us.map q0).drop i)=c:=QkW (by simpa using h)
end
section
variable [∀s,Decidable (StgOk s)]{s:Zk}{c:List ByteArray}
def Qbq:List (ByteArray×Int)×List ByteArray×List DAr:=([],[],[])
def sgV (s:Zk):(List (ByteArray×Int)×List ByteArray×List DAr)×Bool:=
  if (Qh s).2=true∧¬4000 < (Qh s).1.2.length then
    (match goS (Qh s).1.1.length (Qu s.2.2.1 (Qh s).1.2) s.2.1.length 0 (List.replicate (Qh s).1.1.length ByteArray.empty) with
    | some c=>((s.2.1,c,Qu s.2.2.1 (Qh s).1.2),true)
    | none=>(Qbq,false))
  else (Qbq,false)
theorem H5 (h:(Qh s).2=false):sgV s=(Qbq,false):=if_neg fun h2=>by rw[h] at h2; cases h2.1
theorem Qag (h:(4000:Int) < ((Qh s).1.2.length:Int)):sgV s=(Qbq,false):=if_neg fun h2=>h2.2 (by omega)
theorem H9 (h:goS (Qh s).1.1.length (Qu s.2.2.1 (Qh s).1.2) s.2.1.length 0 (List.replicate (Qh s).1.1.length ByteArray.empty)=none):sgV s=(Qbq,false):=by
  unfold sgV
  rw[h]
  split <;> rfl
theorem Ji (h1:(Qh s).2=true)(h2:¬(4000:Int) < ((Qh s).1.2.length:Int))(h:goS (Qh s).1.1.length (Qu s.2.2.1 (Qh s).1.2) s.2.1.length 0 (List.replicate (Qh s).1.1.length ByteArray.empty)=some c):
    sgV s=((s.2.1,c,Qu s.2.2.1 (Qh s).1.2),true):=by
  unfold sgV
  rw[if_pos ⟨h1,by omega⟩,h]
end
theorem Y1 (s:(Int×(List (List Int×List Int)))×(List (ByteArray×Int))×(List (Int×Bool))×ByteArray)[∀s,Decidable (StgOk s)]:FC Tryz.prog 59 [(true,[dI s.1.1, .dat (.sl 237 (.pr (.sl 3 .int) (.sl 3 .int))) s.1.2, .dat (.sl 203 (.pr .str .int)) s.2.1, .dat (.sl 120 (.pr .int .bool)) s.2.2.1,dS s.2.2.2])] [] 0 (Is (PV.tup [(true,[.ref 0, .ref 1, .ref 2]),(false,[dB ((sgV s).2)])]) [ar 0 203 (.pr .str .int) (((sgV s).1).1),ar 1 9 .str (((sgV s).1).2.1),ar 2 136 (.pr .int (.pr .int (.pr .bool .int))) (((sgV s).1).2.2)]):=by
 refine Qj Tryz.func59 rfl rfl Tryz.ntmps59 fun O_ hO w0_ N0_ X_ h0_ f0_=> ?_
 refine acG 0 0 fun hi1=> ?_
 refine w_ ?_
 refine xbx 0 ?_
 refine lc (xal 1 (.pr (.sl 203 (.pr .str .int)) (.pr (.sl 9 .str) (.sl 136 (.pr .int (.pr .int (.pr .bool .int)))))) Yr) ?_
 iterate 4 refine w_ ?_
 refine lc (dG 2 (Hm s) QfX) ?_
 iterate 3 refine w_ ?_
 refine lc (xal 4 (.pr (.sl 9 .str) (.sl 184 (.pr .int (.pr .int .int)))) Qc3) ?_
 iterate 8 refine w_ ?_
 cases hb2:((Qh s).2)
 ·iterate 15 refine w_ ?_
  refine lc (Qn QdK rfl (aw.1 rfl) rfl rfl) ?_
  iterate 3 refine w_ ?_
  refine AC.wk (QB 5 (p:=1) (off:=0) 203 (.pr .str .int) rfl rfl (Fresh.of rfl) (nlr rfl))<|AC.wk (QB 6 (p:=1) (off:=1) 9 .str rfl rfl (Fresh.of rfl) (nlr rfl))<|AC.wk (QB 7 (p:=1) (off:=2) 136 (.pr .int (.pr .int (.pr .bool .int))) rfl rfl (Fresh.of rfl) (nlr rfl))<|Qb ?_
  have e3:(false:Bool)=((sgV s).2):=by
   (rw[H5 (by assumption)]; done)
  exact fi_ [(0,5),(1,6),(2,7)] hO ⟨(Qk (by (rw[H5 (by assumption)]; rfl))),(Qk (by (rw[H5 (by assumption)]; rfl))),(Qk (by (rw[H5 (by assumption)]; rfl))),trivial⟩ (h0:=(congrArg (fun z_=>PV.tup [(true,[.ref 5, .ref 6, .ref 7]),(false,[dB z_])]) e3))
 ·iterate 2 refine w_ ?_
  refine lgy rfl rfl (Ha 8 (Hl s ((Qh s).1) (ZT (s:=s) (by assumption)).2.2.2.2.1 (by have:=(ZT (s:=s) (by assumption)).2.2.1; omega) (by have:=Qd1 (ZT (s:=s) (by assumption)).1.sigs; omega)) Qgz ⟨_,_,rfl,(Ev.b (Qm rfl)),⟨_,_,rfl,(QbO (Qm rfl) ⟨_,_,rfl, .inr ⟨_,_,_,_,rfl,rfl,rfl⟩,⟨_,_,rfl, .inr ⟨_,_,_,_,rfl,rfl,rfl⟩,rfl⟩⟩),rfl⟩⟩ rfl (Fresh.of rfl) (nlr rfl)) ?_
  iterate 4 refine w_ ?_
  cases hb4:(decide (0 < ((Xj ((Qh s).1).1.length (Qu s.2.2.1 ((Qh s).1).2) s.2.1.length).length:Int)))
  ·have hb4':=ab hb4
   iterate 6 refine w_ ?_
   refine cd_ (fun hb5 hb5'=> ?_) fun hb5 hb5'=> ?_
   ·refine w_ ?_
    obtain ⟨hsg,hN1,hN2,hNd,hMv,hMl⟩:=ZT (s:=s) (by assumption)
    have hir:=Wh (ls:=s.2.2.1) hMv
    have hsl:=Qd1 hsg.sigs
    apply dW [⟨some 36,lR 9,[ar 9 203 (.pr .str .int) ([])]⟩,io 37 (lP 0 2),io 38 (lf (.dat (.sl 203 (.pr .str .int)) s.2.1)),⟨some 39,lR 10,[ar 10 203 (.pr .str .int) (([])++s.2.1),(9,none)]⟩,io 40 (lP 4 0),io 41 (lR 2),io 42 (lI ((((Qh s).1).1).length:Int)),⟨some 43,lR 11,[ar 11 9 .str (List.replicate ((((Qh s).1).1).length) (Ty.zero .str))]⟩,io 44 (ag [.ref 10, .ref 11, .val (.slice none 0 0)]),⟨some 6,lP 12 0,[bx 12 28 [.val (.slice none 0 0), .val (.slice none 0 0), .val (.slice none 0 0)]]⟩,⟨none,lf (.val undef),[bx 12 28 [.ref 10, .ref 11, .val (.slice none 0 0)]]⟩] [0,1,1,0,15,15,15,15,0,511,0]
    refine zz (fun _ h_=>ac (dBs 9 (e:=(.pr .str .int)) KT) rfl) ?_
    iterate 2 refine z_ ?_
    refine zz (fun _ h_=>ac (Zh 10 (h_.v rfl) (h_.en 9 rfl) (Evl.rep (h_.v rfl)) rfl QgE H2 (by first | omega | (simp only[ak,aQ,ap,aq,aD]; omega) | (simp only[ak,bh,ap,aq,aD]; omega)) rfl (h_.fr 10 rfl) (nlr rfl)) rfl) ?_
    iterate 3 refine z_ ?_
    refine zz (fun _ h_=>ac (UG 11 (e:= .str) (n:=(((Qh s).1).1).length) (h_.v rfl) (h_.v rfl) ZE QpX rfl (by omega) (by omega) rfl (h_.fr 11 rfl) (nlr rfl)) rfl)<|zz (fun _ h_=>ac (Qn QdK ⟨_,_,rfl,(h_.w rfl),⟨_,_,rfl,(h_.w rfl),rfl⟩⟩ (aw.1 (by simp only[Q9,VM,bm,bI]; rw[(h_.en 10 rfl),(h_.en 11 rfl)]; rfl)) rfl rfl) rfl)<|zz (fun _ h_=>ac (Kr 12 (.pr (.sl 203 (.pr .str .int)) (.pr (.sl 9 .str) (.sl 136 (.pr .int (.pr .int (.pr .bool .int)))))) Yr rfl rfl (h_.fr 12 rfl) (nlr rfl)) rfl)<|zz (fun _ h_=>ac (Zy (h_.v rfl) (h_.en 12 rfl) (h_.w rfl) (by simp only[Q9,VM,bm,bI]; rw[(h_.en 10 rfl),(h_.en 11 rfl)]; rfl) YL rfl) rfl) ?_
    exact zN
    iterate 4 refine w_ ?_
    refine alL 46 fun hl6=> ?_
    iterate 4 refine w_ ?_
    refine QE (fun m_ s_=>∃(k:Nat) (codes:List ByteArray),k≤s.2.1.length∧m_=s.2.1.length - k∧(goS (Qh s).1.1.length (Qu s.2.2.1 (Qh s).1.2) s.2.1.length 0 (List.replicate (Qh s).1.1.length ByteArray.empty)=goS (Qh s).1.1.length (Qu s.2.2.1 (Qh s).1.2) (s.2.1.length - k) k codes)∧(codes.length=(Qh s).1.1.length)∧(∀c∈codes,c.size≤300*k)∧s_=⟨[(1,lP 0 0),(2,lP 1 0),(3,lB false),(4,lP 4 0),(6,lP 12 0),(47,lI (s.2.1.length:Int)),(48,lI (k:Int))],[bx 0 83 [dI s.1.1, .dat (.sl 237 (.pr (.sl 3 .int) (.sl 3 .int))) s.1.2, .dat (.sl 203 (.pr .str .int)) s.2.1, .dat (.sl 120 (.pr .int .bool)) s.2.2.1,dS s.2.2.2],bx 1 28 [.val (.slice none 0 0), .val (.slice none 0 0), .val (.slice none 0 0)],ar 2 9 .str (((Qh s).1).1),ar 3 184 (.pr .int (.pr .int .int)) (((Qh s).1).2),bx 4 178 [.ref 2, .ref 3],ar 10 203 (.pr .str .int) (([])++s.2.1),bx 12 28 [.ref 10, .ref 13, .val (.slice none 0 0)],ar 13 9 .str codes]⟩) ⟨0,List.replicate ((((Qh s).1).1).length) (Ty.zero .str),aS _,rfl,rfl,(by simp),(fun c hc=>by rw[cw hc]; exact aS _),rfl⟩ ?_ ?_
    · exact Wk.of [(13,11)] rfl ⟨rfl,rfl,rfl,rfl,rfl,rfl,rfl,trivial⟩ ⟨rfl,rfl,rfl,rfl,rfl,rfl,rfl,(Qk (by first | rfl | simp)),trivial⟩ rfl rfl
    rintro m_ s_ ⟨k,codes,hk7,hm8,hA,hL,hZ,rfl⟩
    iterate 4 refine w_ ?_
    cases hb9:(decide ((k:Int) < (s.2.1.length:Int)))
    ·have hb9':=ab hb9
     refine w_ ?_
     refine Qi ?_
     refine (?_:AC _ _ _ _ _)
     iterate 8 refine w_ ?_
     refine AC.wk (QB 14 (p:=12) (off:=2) 136 (.pr .int (.pr .int (.pr .bool .int))) rfl rfl (Fresh.of rfl) (nlr rfl)) ?_
     refine lp0 ((((Qh s).1).2).length) (fun j=>⟨[(1,lP 0 0),(2,lP 1 0),(3,lB false),(6,lP 12 0),(82,lR 3),(83,lI ((((Qh s).1).2).length:Int)),(84,lI (j:Int))],[bx 0 83 [dI s.1.1, .dat (.sl 237 (.pr (.sl 3 .int) (.sl 3 .int))) s.1.2, .dat (.sl 203 (.pr .str .int)) s.2.1, .dat (.sl 120 (.pr .int .bool)) s.2.2.1,dS s.2.2.2],bx 1 28 [.val (.slice none 0 0), .val (.slice none 0 0), .val (.slice none 0 0)],ar 3 184 (.pr .int (.pr .int .int)) (((Qh s).1).2),ar 10 203 (.pr .str .int) (([])++s.2.1),bx 12 28 [.ref 10, .ref 13, .ref 15],ar 13 9 .str codes,ar 15 136 (.pr .int (.pr .int (.pr .bool .int))) ((((Qh s).1).2.take j).map (Qhk s.2.2.1))]⟩) ?_ fun j hk10=> ?_
     · exact Wk.of [(15,14)] rfl ⟨rfl,rfl,rfl,rfl,rfl,rfl,rfl,trivial⟩ ⟨rfl,rfl,rfl,rfl,rfl,rfl,(Qk (by first | rfl | simp)),trivial⟩ rfl rfl
     iterate 4 refine w_ ?_
     cases hb11:(decide ((j:Int) < ((((Qh s).1).2).length:Int)))
     ·have hb11':=ab hb11
      refine w_ ?_
      refine Qi ?_
      refine (?_:AC _ _ _ _ _)
      iterate 5 refine w_ ?_
      refine Qb ?_
      have e12:(true:Bool)=((sgV s).2):=by
       (rw[Ji (by assumption) (by assumption) (hA.trans (HT (by omega)))]; done)
      exact fi_ [(0,10),(1,13),(2,15)] hO ⟨(Qk (by (rw[Ji (by assumption) (by assumption) (hA.trans (HT (by omega)))]; rfl))),(Qk (by (rw[Ji (by assumption) (by assumption) (hA.trans (HT (by omega)))]; done))),(Qk (by (rw[Ji (by assumption) (by assumption) (hA.trans (HT (by omega))),ZG (by omega)]; rfl))),trivial⟩ (h0:=(congrArg (fun z_=>PV.tup [(true,[.ref 10, .ref 13, .ref 15]),(false,[dB z_])]) e12))
     ·have hb11':=ae hb11
      iterate 6 refine w_ ?_
      obtain ⟨mv,hx14⟩:∃z,(((Qh s).1).2)[j]? =some z:=⟨_,aa (by omega)⟩
      have hrm:=(hMv _ (ao hx14)).2.1
      refine w_ ?_
      refine lc (xal 16 (.pr .int (.pr .int .int)) Vl) ?_
      iterate 7 refine w_ ?_
      refine alI 91 fun hi15=> ?_
      obtain ⟨x16,hx17⟩:∃z,s.2.2.1[(mv.2.1).toNat]? =some z:=⟨_,aa (by omega)⟩
      have hla:=Qdc hx17
      iterate 2 refine w_ ?_
      refine lc (xal 17 (.pr .int .bool) Xv) ?_
      iterate 7 refine w_ ?_
      refine alI 97 fun hi18=> ?_
      iterate 2 refine w_ ?_
      refine alI 99 fun hi19=> ?_
      iterate 4 refine w_ ?_
      refine alI 103 fun hi20=> ?_
      refine lc (Qn Qm8 ⟨_,_,rfl,(Qm rfl),⟨_,_,rfl,(Qm rfl),⟨_,_,rfl,(Qm rfl),⟨_,_,rfl,(Qm rfl),rfl⟩⟩⟩⟩ (aw.1 rfl) rfl rfl) ?_
      refine lc (dBs 18 (e:=(.pr .int (.pr .int (.pr .bool .int)))) Vr (hab:=by exact ⟨_,_,_,_,rfl,⟨[dI mv.1],[dI x16.1,dB x16.2,dI mv.2.2],_,_,_,_,rfl,rfl,⟨rfl,rfl⟩,⟨[dI x16.1],[dB x16.2,dI mv.2.2],_,_,_,_,rfl,rfl,⟨rfl,rfl⟩,⟨[dB x16.2],[dI mv.2.2],_,_,_,_,rfl,rfl,⟨rfl,rfl⟩,⟨rfl,rfl⟩,rfl⟩,rfl⟩,rfl⟩,⟨rfl,rfl⟩,rfl⟩)) ?_
      refine lc (dA 19 QmX) ?_
      iterate 2 refine w_ ?_
      refine Qd ?_
      refine (?_:AC _ _ _ _ _)
      iterate 3 refine w_ ?_
      refine Qd ?_
      refine l0_ ?_
      exact Wk.of [(15,19)] rfl ⟨rfl,rfl,rfl,rfl,rfl,rfl,rfl,trivial⟩ ⟨rfl,rfl,rfl,rfl,rfl,rfl,(Qk (by rw[Q0 hx14]; simp[Qhk,hla])),trivial⟩ rfl rfl
    ·have hb9':=ae hb9
     iterate 12 refine w_ ?_
     refine lc (VB (WY s ((Qh s).1) (k:Int) hMv (by omega)) Qas ⟨_,_,rfl,(Ev.b (Qm rfl)),⟨_,_,rfl,(QbO (Qm rfl) ⟨_,_,rfl, .inr ⟨_,_,_,_,rfl,rfl,rfl⟩,⟨_,_,rfl, .inr ⟨_,_,_,_,rfl,rfl,rfl⟩,rfl⟩⟩),⟨_,_,rfl,(Ev.b (Qm rfl)),rfl⟩⟩⟩ rfl rfl rfl) ?_
     iterate 6 refine w_ ?_
     refine Zl ?_
     obtain ⟨us,hu1,hu2,hu3,hu4⟩:=QoB (sig:=(k:Int)) hir (QfC (m:=s.2.1.length) (by assumption) (by omega))
     iterate 7 refine w_ ?_
     refine QE (fun m_ s_=>∃(i:Nat) (codes2:List ByteArray),i≤codes.length∧m_=codes.length - i∧(WH 0 codes (us.map q0)=WH i codes2 ((us.map q0).drop i))∧(codes2.length=(Qh s).1.1.length)∧(∀c∈codes2,c.size≤300*k+i)∧s_=⟨[(1,lP 0 0),(2,lP 1 0),(3,lB false),(4,lP 4 0),(6,lP 12 0),(7,lI (k:Int)),(8,lf (dS ((l5V ((Qh s).1).1.length (Qu s.2.2.1 ((Qh s).1).2) (k:Int)).1))),(47,lI (s.2.1.length:Int)),(48,lI (k:Int)),(49,lB true),(50,lI (k:Int)),(51,PV.tup [(false,[dS ((l5V ((Qh s).1).1.length (Qu s.2.2.1 ((Qh s).1).2) (k:Int)).1)]),(false,[dB ((l5V ((Qh s).1).1.length (Qu s.2.2.1 ((Qh s).1).2) (k:Int)).2)])]),(52,ag [dI s.1.1, .dat (.sl 237 (.pr (.sl 3 .int) (.sl 3 .int))) s.1.2, .dat (.sl 203 (.pr .str .int)) s.2.1, .dat (.sl 120 (.pr .int .bool)) s.2.2.1,dS s.2.2.2]),(53,ag [.ref 2, .ref 3]),(54,lI (k:Int)),(55,PV.tup [(false,[dS ((l5V ((Qh s).1).1.length (Qu s.2.2.1 ((Qh s).1).2) (k:Int)).1)]),(false,[dB ((l5V ((Qh s).1).1.length (Qu s.2.2.1 ((Qh s).1).2) (k:Int)).2)])]),(56,lf (dS ((l5V ((Qh s).1).1.length (Qu s.2.2.1 ((Qh s).1).2) (k:Int)).1))),(57,lB ((l5V ((Qh s).1).1.length (Qu s.2.2.1 ((Qh s).1).2) (k:Int)).2)),(58,lP 12 1),(60,lI (codes.length:Int)),(61,lI (i:Int))],[bx 0 83 [dI s.1.1, .dat (.sl 237 (.pr (.sl 3 .int) (.sl 3 .int))) s.1.2, .dat (.sl 203 (.pr .str .int)) s.2.1, .dat (.sl 120 (.pr .int .bool)) s.2.2.1,dS s.2.2.2],bx 1 28 [.val (.slice none 0 0), .val (.slice none 0 0), .val (.slice none 0 0)],ar 2 9 .str (((Qh s).1).1),ar 3 184 (.pr .int (.pr .int .int)) (((Qh s).1).2),bx 4 178 [.ref 2, .ref 3],ar 10 203 (.pr .str .int) (([])++s.2.1),bx 12 28 [.ref 10, .ref 20, .val (.slice none 0 0)],ar 20 9 .str codes2]⟩) ⟨0,codes,aS _,rfl,rfl,hL,hZ,rfl⟩ ?_ ?_
     · exact Wk.of [(20,13)] rfl ⟨rfl,rfl,rfl,rfl,rfl,rfl,rfl,rfl,rfl,rfl,rfl,rfl,rfl,rfl,rfl,rfl,rfl,rfl,rfl,rfl,rfl,trivial⟩ ⟨rfl,rfl,rfl,rfl,rfl,rfl,rfl,rfl,trivial⟩ rfl rfl
     rintro m_ s_ ⟨i,codes2,hk21,hm22,hA2,hL2,hZ2,rfl⟩
     iterate 4 refine w_ ?_
     cases hb23:(decide ((i:Int) < (codes.length:Int)))
     ·have hb23':=ab hb23
      refine w_ ?_
      refine Qi ?_
      refine (?_:AC _ _ _ _ _)
      iterate 3 refine w_ ?_
      refine Qd<|Q5 ⟨k+1,codes2,by omega,rfl,(by rw[hA,QoP (by omega) (by rw[hu4])]; exact congrArg _ (by rw[hu4]; exact hA2.trans (QlH (by omega)))),hL2,(fun c hc=>bn (hZ2 c hc) (by omega)),rfl⟩ (by omega) ?_
      exact Wk.of [(13,20)] rfl ⟨rfl,rfl,rfl,rfl,rfl,rfl,rfl,trivial⟩ ⟨rfl,rfl,rfl,rfl,rfl,rfl,rfl,rfl,trivial⟩ rfl rfl
     ·have hb23':=ae hb23
      iterate 13 refine w_ ?_
      refine lc (show Does _ _ _ _ (St.put _ 68 (lf (dS (((l5V ((Qh s).1).1.length (Qu s.2.2.1 ((Qh s).1).2) (k:Int)).1).extract ((i:Int)).toNat ((i:Int)+1).toNat)))) from Qw (l:=(some (i:Int))) (h:=(some ((i:Int)+1))) (Qa rfl) (by exact (Qa rfl)) (by exact (Qa rfl)) QR rfl (by first | omega | (simp only[ai,ah]; omega)) (by first | omega | (simp only[ai,ah]; omega)) (by first | omega | (simp only[ai,ah]; omega))) ?_
      iterate 7 refine w_ ?_
      cases hb24:(decide ((((l5V ((Qh s).1).1.length (Qu s.2.2.1 ((Qh s).1).2) (k:Int)).1).extract ((i:Int)).toNat ((i:Int)+1).toNat)=(⟨#[63]⟩:ByteArray)))
      ·have hb24':=ab hb24
       iterate 7 refine w_ ?_
       obtain ⟨x25,hx26⟩:∃z,codes2[i]? =some z:=⟨_,aa (by omega)⟩
       have hczx25:=hZ2 _ (ao hx26)
       iterate 2 refine w_ ?_
       refine lc (QH (Qa rfl) (Qa rfl) rfl (by first | (simp only[ZB]; omega) | (refine bn (bV (H8 _ i) _) ?_; omega))) ?_
       refine w_ ?_
       refine lc (Qs (e:= .str) (z':=x25++(((l5V ((Qh s).1).1.length (Qu s.2.2.1 ((Qh s).1).2) (k:Int)).1).extract ((i:Int)).toNat ((i:Int)+1).toNat)) (Qa rfl) rfl hx26 rfl (Qm rfl) rfl ZM rfl rfl)<|Qd ?_
       refine (?_:AC _ _ _ _ _)
       iterate 3 refine w_ ?_
       refine Qd<|Q5 ⟨i+1,(codes2.set i (x25++(((l5V ((Qh s).1).1.length (Qu s.2.2.1 ((Qh s).1).2) (k:Int)).1).extract ((i:Int)).toNat ((i:Int)+1).toNat))),by omega,rfl,by first | exact hA2.trans (QjV hu1 (by omega) (by assumption) hx26) | exact hA2.trans (Ql4 hu1 (by omega) (by assumption) hx26),(by rw[aA]; exact hL2),(Qe2 hZ2 hx26 (by rw[aK]; first | exact aO _ | exact bV (H8 _ _) _)),rfl⟩ (by omega) ?_
       exact Wk.of [] rfl ⟨rfl,rfl,rfl,rfl,rfl,rfl,rfl,rfl,rfl,rfl,rfl,rfl,rfl,rfl,rfl,rfl,rfl,rfl,rfl,rfl,rfl,trivial⟩ ⟨rfl,rfl,rfl,rfl,rfl,rfl,rfl,(Qk (by first | rfl | simp)),trivial⟩ rfl rfl
      ·have hb24':=ae hb24
       iterate 9 refine w_ ?_
       obtain ⟨x27,hx28⟩:∃z,codes2[i]? =some z:=⟨_,aa (by omega)⟩
       have hczx27:=hZ2 _ (ao hx28)
       iterate 2 refine w_ ?_
       refine lc (QH (Qa rfl) (Qa rfl) rfl (by first | (simp only[ZB]; omega) | (refine bn (bV (H8 _ i) _) ?_; omega))) ?_
       refine w_ ?_
       refine lc (Qs (e:= .str) (z':=x27++(⟨#[48]⟩:ByteArray)) (Qa rfl) rfl hx28 rfl (Qm rfl) rfl ZM rfl rfl)<|Qd ?_
       refine (?_:AC _ _ _ _ _)
       iterate 3 refine w_ ?_
       refine Qd<|Q5 ⟨i+1,(codes2.set i (x27++(⟨#[48]⟩:ByteArray))),by omega,rfl,by first | exact hA2.trans (QjV hu1 (by omega) (by assumption) hx28) | exact hA2.trans (Ql4 hu1 (by omega) (by assumption) hx28),(by rw[aA]; exact hL2),(Qe2 hZ2 hx28 (by rw[aK]; first | exact aO _ | exact bV (H8 _ _) _)),rfl⟩ (by omega) ?_
       exact Wk.of [] rfl ⟨rfl,rfl,rfl,rfl,rfl,rfl,rfl,rfl,rfl,rfl,rfl,rfl,rfl,rfl,rfl,rfl,rfl,rfl,rfl,rfl,rfl,trivial⟩ ⟨rfl,rfl,rfl,rfl,rfl,rfl,rfl,(Qk (by first | rfl | simp)),trivial⟩ rfl rfl
   ·refine w_ ?_
    refine lc (Qn QdK rfl (aw.1 rfl) rfl rfl) ?_
    iterate 3 refine w_ ?_
    refine AC.wk (QB 21 (p:=1) (off:=0) 203 (.pr .str .int) rfl rfl (Fresh.of rfl) (nlr rfl))<|AC.wk (QB 22 (p:=1) (off:=1) 9 .str rfl rfl (Fresh.of rfl) (nlr rfl))<|AC.wk (QB 23 (p:=1) (off:=2) 136 (.pr .int (.pr .int (.pr .bool .int))) rfl rfl (Fresh.of rfl) (nlr rfl))<|Qb ?_
    have e29:(false:Bool)=((sgV s).2):=by
     (rw[Qag (by assumption)]; done)
    exact fi_ [(0,21),(1,22),(2,23)] hO ⟨(Qk (by (rw[Qag (by assumption)]; rfl))),(Qk (by (rw[Qag (by assumption)]; rfl))),(Qk (by (rw[Qag (by assumption)]; rfl))),trivial⟩ (h0:=(congrArg (fun z_=>PV.tup [(true,[.ref 21, .ref 22, .ref 23]),(false,[dB z_])]) e29))
  ·have hb4':=ae hb4
   iterate 8 refine w_ ?_
   refine lc (Qn QdK rfl (aw.1 rfl) rfl rfl) ?_
   iterate 3 refine w_ ?_
   refine AC.wk (QB 24 (p:=1) (off:=0) 203 (.pr .str .int) rfl rfl (Fresh.of rfl) (nlr rfl))<|AC.wk (QB 25 (p:=1) (off:=1) 9 .str rfl rfl (Fresh.of rfl) (nlr rfl))<|AC.wk (QB 26 (p:=1) (off:=2) 136 (.pr .int (.pr .int (.pr .bool .int))) rfl rfl (Fresh.of rfl) (nlr rfl))<|Qb ?_
   have e30:(false:Bool)=((sgV s).2):=by
    (rw[H9 (VA (Wh (ZT (by assumption)).2.2.2.2.1) (by assumption))]; done)
   exact fi_ [(0,24),(1,25),(2,26)] hO ⟨(Qk (by (rw[H9 (VA (Wh (ZT (by assumption)).2.2.2.2.1) (by assumption))]; rfl))),(Qk (by (rw[H9 (VA (Wh (ZT (by assumption)).2.2.2.2.1) (by assumption))]; rfl))),(Qk (by (rw[H9 (VA (Wh (ZT (by assumption)).2.2.2.2.1) (by assumption))]; rfl))),trivial⟩ (h0:=(congrArg (fun z_=>PV.tup [(true,[.ref 24, .ref 25, .ref 26]),(false,[dB z_])]) e30))
end Go.Proofs.YtfkmmpfdncopdaaGreat
namespace Go.Proofs.YtfkmmpfdncopdaaGreat
open Go.RowKit
set_option maxRecDepth 100000
set_option maxHeartbeats 4000000
abbrev DRg:=List ByteArray×List DMv
instance (n m:Nat) (v:DMv):Decidable (MvOk n m v):=inferInstanceAs (Decidable (_∧_))
def QhB (r:DRg):Prop:=(1≤r.1.length∧r.1.length≤300)∧r.2.length≤4000∧r.1.Nodup∧∀v∈r.2,MvOk r.1.length 24 v
instance (r:DRg):Decidable (QhB r):=inferInstanceAs (Decidable (_∧_))
def Qrs (l:List ByteArray):List (ByteArray×Bool):=l.foldl (fun m x=>VL .str m x true) []
section
variable {r:DRg}{k:Nat}{x y:ByteArray}{v:DMv}{l:List ByteArray}{m:List (ByteArray×Bool)}
end
def Qj8 (f:Int→Bool):Nat→List Int
  | 0=>[]
  | k+1=>Qj8 f k++(if f (k:Int)=true then [] else [(k:Int)])
section
variable {f:Int→Bool}{k n:Nat}{α:Type _}{l:List α}{p:α→Bool}{x:α}
end
def byT (r:DRg)(t:Int):Bool:=r.2.any fun v=>decide (v.2.1=t)
def QpS (r:DRg)(t:Int):Bool:=r.2.any fun v=>decide (v.1=t)
def mfV (r:DRg)(k:Int):List DMv×Bool:=if QhB r∧0≤k∧k < r.1.length then (r.2.filter fun v=>decide (v.1=k),true) else ([],false)
def dlV (r:DRg):List Int×Bool:=if QhB r then (Qj8 (QpS r) r.1.length,true) else ([],false)
section
variable [∀s,Decidable (StgOk s)]
def dtV (s:Zk)(r:DRg):List Int×Bool:=if StgOk s∧QhB r then (Qj8 (byT r) s.2.2.1.length,true) else ([],false)
end
def Qrw (k:Int)(ms:List DMv):List DMv:=ms.filter fun v=>decide (v.1=k)
end Go.Proofs.YtfkmmpfdncopdaaGreat
namespace Go.Proofs.YtfkmmpfdncopdaaGreat
open Go.RowKit
set_option maxRecDepth 100000
set_option maxHeartbeats 4000000
section
variable {α:Type}[DecidableEq α]{a b:List α}{k:Nat}{x y:α}
end
section
variable [∀s,Decidable (StgOk s)]
def QlY (s:Zk):List Int:=(dtV s (Qh s).1).1
def Qkz (s:Zk):Bool:=decide ((0:Int) < ((dlV (Qh s).1).1.length:Int))
def frV (s:Zk):List Int×Bool×Bool:=if (sgV s).2=true then (QlY s,Qkz s,true) else ([],false,false)
def pfI (a b:Zk):Bool×Bool:=if (frV a).2.2=true∧(frV b).2.2=true∧a.2.1=b.2.1∧a.2.2.1=b.2.2.1 then (decide ((frV a).1=(frV b).1)&&(!(frV b).2.1||(frV a).2.1),true) else (false,false)
def pfV (a b:Zk):Bool×Bool:=if (sgV a).2=true∧(sgV b).2=true∧a.2.1=b.2.1∧a.2.2.1=b.2.2.1 then (decide (QlY a=QlY b)&&(Qkz a|| !Qkz b),true) else (false,false)
section
variable {a b:Zk}
end
end
end Go.Proofs.YtfkmmpfdncopdaaGreat
namespace Go.Proofs.YtfkmmpfdncopdaaGreat
open Go.RowKit
set_option maxRecDepth 100000
set_option maxHeartbeats 4000000
theorem QA {A:Amb}{P:Program}{o:Oper}{s:St}{d:Nat}{b b':Bool}(e:b=b')(h:Does A P o s (s.put d (lf (dB b)))):Does A P o s (s.put d (lf (dB b'))):=e▸h
abbrev DSg:=List (ByteArray×Int)×List ByteArray×List DAr
theorem Kd (ss:List Qy)[Decidable (YQ ss)]:FC Tryz.prog 153 [(false,[.dat (.sl 203 YF) ss])] [] 0 (QU (lf (dB (decide (YQ ss))))):=QdS fun gh w vs h=>by
  obtain ⟨v,rfl,hr⟩:=h.leaf1
  exact (Qan v ss w hr).mono fun _ _ h=>KP h
theorem Js (ss:List Qy)[Decidable (YQ ss)]:FC Tryz.prog 162 [(false,[.dat (.sl 203 YF) ss])] [] 0 (QU (lf (dB (decide (YQ ss))))):=QdS fun gh w vs h=>by
  obtain ⟨v,rfl,hr⟩:=h.leaf1
  exact (U9 v ss w hr).mono fun _ _ h=>KP h
def VS (n:Int)(l:ZA):Prop:=(0≤l.1∧l.1≤n - 1)∨(l.1= -1∧l.2=false)
instance (n:Int) (l:ZA):Decidable (VS n l):=inferInstanceAs (Decidable (_∨_))
def ZN (s:ByteArray)(n:Int):Prop:=(∀c∈s.toList,c=48∨c=49)∧(s.size:Int)=n
instance (s:ByteArray) (n:Int):Decidable (ZN s n):=inferInstanceAs (Decidable (_∧_))
section
variable {n:Int}{l:ZA}{s x y:ByteArray}{k:Nat}{c d:UInt8}{a:DAr}
theorem Qhw (h:0≤l.1∧l.1≤n - 1):true=decide (VS n l):=(aJ (.inl h)).symm
theorem Qlr (h:¬(0≤l.1∧l.1≤n - 1)):Ty.beq Qc4 l (-1,false)=decide (VS n l):=by
  rw[bP,Ty.beq_iff,aT]
  constructor
  · rintro rfl; exact .inr ⟨rfl,rfl⟩
  · rintro (h1 | h1)
    · exact absurd h1 h
    · exact Prod.ext h1.1 h1.2
theorem Qn4 (h:¬(0≤l.1∧l.1≤n - 1))(h1:l.1= -1):(!l.2)=decide (VS n l):=by
  rw[bP,aT]
  constructor
  · intro h2; exact .inr ⟨h1,by simpa using h2⟩
  · rintro (h2 | h2)
    · exact absurd h2 h
    · simp[h2.2]
theorem QnY (h:¬(0≤l.1∧l.1≤n - 1))(h1:¬l.1= -1):false=decide (VS n l):=(az (by rintro (h2 | h2); exact h h2; exact h1 h2.1)).symm
theorem Jb (h:s[((k:Int)).toNat]? =some c):s.toList[k]? =some c:=by
  have h:s[k]? =some c:=h
  rw[aZ]
  obtain ⟨hk,h2⟩:∃hk:k < s.size,s[k]=c:=by
    by_cases hk:k < s.size
    · rw[b5 s k hk] at h; exact ⟨hk,Option.some.inj h⟩
    · rw[getElem?_neg s k hk] at h; cases h
  rw[aa (by simpa using hk)]
  rw[← h2]; simp; rfl
theorem Uy (hB:∀j,j < k→∀c,s.toList[j]? =some c→c=48∨c=49)(hx:s[((k:Int)).toNat]? =some c)(h:c=48∨c=49):∀j,j < k+1→∀c,s.toList[j]? =some c→c=48∨c=49:=fun j hj d hd=>by
  by_cases e:j=k
  · subst e; rw[Jb hx] at hd; cases hd; exact h
  · exact hB j (by omega) d hd
theorem Qhb (hx:s[((k:Int)).toNat]? =some c)(h1:¬c=48)(h2:¬c=49):false=decide (ZN s n):=(az fun h=>by
  rcases h.1 c (ao (Jb hx)) with h | h
  · exact h1 h
  · exact h2 h).symm
theorem Qer (hB:∀j,j < k→∀c,s.toList[j]? =some c→c=48∨c=49)(hk:s.size≤k):decide ((s.size:Int)=n)=decide (ZN s n):=bQ.2 ⟨fun h=>⟨fun c hc=>by
    obtain ⟨j,hj⟩:=aM.1 hc
    have:=(aj.1 hj).1
    rw[YV] at this
    exact hB j (by omega) c hj,h⟩,fun h=>h.2⟩
def YC (a:DAr)(x y:ByteArray)(j:Nat):Prop:=if (j:Int)=a.2.1 then (decide (bAt x j=49)= !a.2.2.1∧decide (bAt y j=49)=a.2.2.1) else bAt x j=bAt y j
instance (a:DAr) (x y:ByteArray) (j:Nat):Decidable (YC a x y j):=by unfold YC; exact inferInstance
def Fit (a:DAr)(x y:ByteArray):Prop:=∀j,j < x.size→YC a x y j
instance (a:DAr) (x y:ByteArray):Decidable (Fit a x y):=by unfold Fit; exact inferInstance
theorem Qei (hF:∀j,j < k→YC a x y j)(h:YC a x y k):∀j,j < k+1→YC a x y j:=fun j hj=>by
  by_cases e:j=k
  · subst e; exact h
  · exact hF j (by omega)
theorem Qgt (hk:k < x.size)(h:¬YC a x y k):false=decide (Fit a x y):=(az fun h1=>h (h1 k hk)).symm
theorem Qme (hF:∀j,j < k→YC a x y j)(hk:x.size≤k):true=decide (Fit a x y):=(aJ fun j hj=>hF j (by omega)).symm
theorem Ue (h:¬(k:Int)=a.2.1)(hx:x[((k:Int)).toNat]? =some c)(hy:y[((k:Int)).toNat]? =some d):YC a x y k↔c=d:=by
  unfold YC; rw[if_neg h,Q3 hx,Q3 hy]
theorem Qj6 (h:(k:Int)=a.2.1)(hx:x[((k:Int)).toNat]? =some c)(hy:y[((k:Int)).toNat]? =some d):YC a x y k↔(decide (c=49)= !a.2.2.1∧decide (d=49)=a.2.2.1):=by
  unfold YC; rw[if_pos h,Q3 hx,Q3 hy]
theorem Jv (h:(k:Int)=a.2.1)(hx:x[((k:Int)).toNat]? =some c)(h1:(decide (c=49)==a.2.2.1)=true):¬YC a x y k:=by
  unfold YC; rw[if_pos h,Q3 hx]
  rintro ⟨h2,_⟩
  rw[h2] at h1
  cases ha:a.2.2.1 <;> rw[ha] at h1 <;> cases h1
theorem JT (h:(k:Int)=a.2.1)(hy:y[((k:Int)).toNat]? =some d)(h1:(decide (d=49)==a.2.2.1)=false):¬YC a x y k:=by
  unfold YC; rw[if_pos h,Q3 hy]
  rintro ⟨_,h2⟩
  rw[h2] at h1
  cases ha:a.2.2.1 <;> rw[ha] at h1 <;> cases h1
theorem QcM (h:(k:Int)=a.2.1)(hx:x[((k:Int)).toNat]? =some c)(hy:y[((k:Int)).toNat]? =some d)(h1:(decide (c=49)==a.2.2.1)=false)(h2:(decide (d=49)==a.2.2.1)=true):YC a x y k:=by
  rw[Qj6 h hx hy]
  cases ha:a.2.2.1 <;> rw[ha] at h1 h2 <;> cases hc:decide (c=49) <;> rw[hc] at h1 <;> cases hd:decide (d=49) <;> rw[hd] at h2 <;> first | exact ⟨rfl,rfl⟩ | exact absurd h1 (by decide) | exact absurd h2 (by decide)
def Jt (code:ByteArray)(sig:Int)(b:ByteArray):ByteArray:=(code.extract 0 sig.toNat++b)++code.extract (sig+1).toNat code.size
end
theorem V1 (l:Int×Bool)(n:Int)(hn:0≤n∧n≤1000000):FC Tryz.prog 155 [(true,[dI l.1,dB l.2]),(false,[dI n])] [] 0 (QU (lB (decide (VS n l)))):=by
 refine Qj Tryz.func155 rfl rfl Tryz.ntmps155 fun O_ hO w0_ N0_ X_ h0_ f0_=> ?_
 refine acG 0 0 fun hi1=> ?_
 refine acI 1 fun hi2=> ?_
 refine w_ ?_
 refine xbx 0 ?_
 iterate 7 refine w_ ?_
 refine lc (dK (QX l.1 0 (n - 1)) ZV) ?_
 refine w_ ?_
 cases hb3:(decide (0≤l.1∧l.1≤(n - 1)))
 ·have hb3':=ab hb3
  refine w_ ?_
  refine lgy rfl rfl (Qn Ux ⟨_,_,rfl,(Evl.ev (Ql rfl)),rfl⟩ (aw.1 rfl) rfl rfl)<|lgy rfl rfl (QiA Qnr Qmx (Qm rfl) (Qm rfl) (p:=l) (q:=((-1),false)) rfl rfl rfl) ?_
  iterate 3 refine w_ ?_
  refine Qb<|fqB hO ?_
  exact Qlr (by assumption)
 ·have hb3':=ae hb3
  iterate 6 refine w_ ?_
  refine Qb<|fqB hO ?_
  exact Qhw (by assumption)
theorem Hw (l:Int×Bool)(n:Int)(hn:0≤n∧n≤1000000):FC Tryz.prog 230 [(true,[dI l.1,dB l.2]),(false,[dI n])] [] 0 (QU (lB (decide (VS n l)))):=by
 refine Qj Tryz.func230 rfl rfl Tryz.ntmps230 fun O_ hO w0_ N0_ X_ h0_ f0_=> ?_
 refine acG 0 0 fun hi1=> ?_
 refine acI 1 fun hi2=> ?_
 refine w_ ?_
 refine xbx 0 ?_
 iterate 7 refine w_ ?_
 refine lc (dK (Z7 l.1 0 (n - 1)) Yw) ?_
 refine w_ ?_
 cases hb3:(decide (0≤l.1∧l.1≤(n - 1)))
 ·have hb3':=ab hb3
  iterate 4 refine w_ ?_
  cases hb4:(decide (l.1=(-1)))
  ·have hb4':=ab hb4
   iterate 7 refine w_ ?_
   refine Qb<|fqB hO ?_
   exact QnY (by assumption) (by assumption)
  ·have hb4':=ae hb4
   iterate 7 refine w_ ?_
   refine Qb<|fqB hO ?_
   exact Qn4 (by assumption) (by assumption)
 ·have hb3':=ae hb3
  iterate 4 refine w_ ?_
  refine Qo rfl rfl rfl ?_ rfl
  refine Qo rfl rfl rfl ?_ rfl
  refine Qo rfl rfl rfl ?_ rfl
  iterate 4 refine w_ ?_
  refine Qb<|fqB hO ?_
  exact Qhw (by assumption)
theorem Qbc (s:ByteArray)(n:Int):FC Tryz.prog 154 [(false,[dS s]),(false,[dI n])] [] 0 (QU (lB (decide (ZN s n)))):=by
 refine Qj Tryz.func154 rfl rfl Tryz.ntmps154 fun O_ hO w0_ N0_ X_ h0_ f0_=> ?_
 refine acI 1 fun hi1=> ?_
 iterate 8 refine w_ ?_
 refine lpK s.size (fun k=>∀j,j < k→∀c,s.toList[j]? =some c→c=48∨c=49) (fun k=>⟨[(0,lf (dS s)),(1,lI n),(5,lI (k:Int))],[]⟩) ((fun j hj=>absurd hj (bc j))) ?_ fun k hk2 hB=> ?_
 · exact Wk.of [] rfl ⟨rfl,rfl,rfl,trivial⟩ trivial rfl rfl
 iterate 4 refine w_ ?_
 refine alS 7 fun hl3=> ?_
 refine lc (QI (Qa rfl) rfl QR) ?_
 iterate 2 refine w_ ?_
 cases hb4:(decide ((k:Int) < (s.size:Int)))
 ·have hb4':=ab hb4
  refine w_ ?_
  refine Qi ?_
  refine (?_:AC _ _ _ _ _)
  iterate 2 refine w_ ?_
  refine alS 22 fun hl5=> ?_
  refine lc (QI (Qa rfl) rfl QR) ?_
  iterate 4 refine w_ ?_
  refine Qb<|fqB hO ?_
  exact Qer hB (by omega)
 ·have hb4':=ae hb4
  iterate 7 refine w_ ?_
  obtain ⟨c6,hc7⟩:∃z,s[((k:Int)).toNat]? =some z:=⟨_,b5 _ _ (by omega)⟩
  refine w_ ?_
  refine lc (QF (Qa rfl) (QK 48 rfl) rfl) ?_
  refine w_ ?_
  cases hb8:(!decide (c6=48))
  ·have hb8':(c6=48):=Qz hb8
   iterate 7 refine w_ ?_
   refine AC.skip ?_
   refine (?_:AC _ _ _ _ _)
   iterate 4 refine w_ ?_
   refine Qd ?_
   refine lK_ ((Uy hB (by assumption) (by first | exact .inl (by assumption) | exact .inr (by assumption)))) ?_
   exact Wk.of [] rfl ⟨rfl,rfl,rfl,trivial⟩ trivial rfl rfl
  ·have hb8':¬(c6=48):=QN hb8
   iterate 3 refine w_ ?_
   refine lgy rfl rfl (QF (Qa rfl) (QK 49 rfl) rfl) ?_
   iterate 2 refine w_ ?_
   cases hb9:(!decide (c6=49))
   ·have hb9':(c6=49):=Qz hb9
    refine w_ ?_
    refine AC.skip ?_
    refine (?_:AC _ _ _ _ _)
    iterate 4 refine w_ ?_
    refine Qd ?_
    refine lK_ ((Uy hB (by assumption) (by first | exact .inl (by assumption) | exact .inr (by assumption)))) ?_
    exact Wk.of [] rfl ⟨rfl,rfl,rfl,trivial⟩ trivial rfl rfl
   ·have hb9':¬(c6=49):=QN hb9
    iterate 4 refine w_ ?_
    refine Qb<|fqB hO ?_
    exact Qhb (k:=k) (by assumption) (by assumption) (by assumption)
theorem Ud (s:ByteArray)(n:Int):FC Tryz.prog 163 [(false,[dS s]),(false,[dI n])] [] 0 (QU (lB (decide (ZN s n)))):=by
 refine Qj Tryz.func163 rfl rfl Tryz.ntmps163 fun O_ hO w0_ N0_ X_ h0_ f0_=> ?_
 refine acI 1 fun hi1=> ?_
 iterate 8 refine w_ ?_
 refine lpK s.size (fun k=>∀j,j < k→∀c,s.toList[j]? =some c→c=48∨c=49) (fun k=>⟨[(0,lf (dS s)),(1,lI n),(5,lI (k:Int))],[]⟩) ((fun j hj=>absurd hj (bc j))) ?_ fun k hk2 hB=> ?_
 · exact Wk.of [] rfl ⟨rfl,rfl,rfl,trivial⟩ trivial rfl rfl
 iterate 4 refine w_ ?_
 refine alS 7 fun hl3=> ?_
 refine lc (QI (Qa rfl) rfl QR) ?_
 iterate 2 refine w_ ?_
 cases hb4:(decide ((k:Int) < (s.size:Int)))
 ·have hb4':=ab hb4
  refine w_ ?_
  refine Qi ?_
  refine (?_:AC _ _ _ _ _)
  iterate 2 refine w_ ?_
  refine alS 22 fun hl5=> ?_
  refine lc (QI (Qa rfl) rfl QR) ?_
  iterate 4 refine w_ ?_
  refine Qb<|fqB hO ?_
  exact Qer hB (by omega)
 ·have hb4':=ae hb4
  iterate 7 refine w_ ?_
  obtain ⟨c6,hc7⟩:∃z,s[((k:Int)).toNat]? =some z:=⟨_,b5 _ _ (by omega)⟩
  refine w_ ?_
  refine lc (QF (Qa rfl) (QK 48 rfl) rfl) ?_
  refine w_ ?_
  cases hb8:(!decide (c6=48))
  ·have hb8':(c6=48):=Qz hb8
   iterate 7 refine w_ ?_
   refine AC.skip ?_
   refine (?_:AC _ _ _ _ _)
   iterate 4 refine w_ ?_
   refine Qd ?_
   refine lK_ ((Uy hB (by assumption) (by first | exact .inl (by assumption) | exact .inr (by assumption)))) ?_
   exact Wk.of [] rfl ⟨rfl,rfl,rfl,trivial⟩ trivial rfl rfl
  ·have hb8':¬(c6=48):=QN hb8
   iterate 3 refine w_ ?_
   refine lgy rfl rfl (QF (Qa rfl) (QK 49 rfl) rfl) ?_
   iterate 2 refine w_ ?_
   cases hb9:(!decide (c6=49))
   ·have hb9':(c6=49):=Qz hb9
    refine w_ ?_
    refine AC.skip ?_
    refine (?_:AC _ _ _ _ _)
    iterate 4 refine w_ ?_
    refine Qd ?_
    refine lK_ ((Uy hB (by assumption) (by first | exact .inl (by assumption) | exact .inr (by assumption)))) ?_
    exact Wk.of [] rfl ⟨rfl,rfl,rfl,trivial⟩ trivial rfl rfl
   ·have hb9':¬(c6=49):=QN hb9
    iterate 4 refine w_ ?_
    refine Qb<|fqB hO ?_
    exact Qhb (k:=k) (by assumption) (by assumption) (by assumption)
theorem Ja (a:Int×Int×Bool×Int)(x:ByteArray)(y:ByteArray)(hxy:x.size≤y.size):FC Tryz.prog 156 [(true,[dI a.1,dI a.2.1,dB a.2.2.1,dI a.2.2.2]),(false,[dS x]),(false,[dS y])] [] 0 (QU (lB (decide (Fit a x y)))):=by
 refine Qj Tryz.func156 rfl rfl Tryz.ntmps156 fun O_ hO w0_ N0_ X_ h0_ f0_=> ?_
 refine acG 0 0 fun hi1=> ?_
 refine acG 0 1 fun hi2=> ?_
 refine acG 0 3 fun hi3=> ?_
 refine w_ ?_
 refine xbx 0 ?_
 iterate 5 refine w_ ?_
 refine alS 8 fun hl4=> ?_
 refine lc (QI (Qa rfl) rfl QR) ?_
 iterate 3 refine w_ ?_
 refine lpK x.size (fun k=>∀j,j < k→YC a x y j) (fun k=>⟨[(1,lf (dS x)),(2,lf (dS y)),(3,lP 0 0),(9,lI (x.size:Int)),(10,lI (k:Int))],[bx 0 136 [dI a.1,dI a.2.1,dB a.2.2.1,dI a.2.2.2]]⟩) ((fun j hj=>absurd hj (bc j))) ?_ fun k hk5 hF=> ?_
 · exact Wk.of [] rfl ⟨rfl,rfl,rfl,rfl,rfl,trivial⟩ ⟨rfl,trivial⟩ rfl rfl
 iterate 4 refine w_ ?_
 cases hb6:(decide ((k:Int) < (x.size:Int)))
 ·have hb6':=ab hb6
  refine w_ ?_
  refine Qi ?_
  refine (?_:AC _ _ _ _ _)
  iterate 3 refine w_ ?_
  refine Qb<|fqB hO ?_
  exact Qme hF (by omega)
 ·have hb6':=ae hb6
  iterate 16 refine w_ ?_
  cases hb7:(!decide ((k:Int)=a.2.1))
  ·have hb7':((k:Int)=a.2.1):=Qz hb7
   refine w_ ?_
   obtain ⟨c8,hc9⟩:∃z,x[((k:Int)).toNat]? =some z:=⟨_,b5 _ _ (by omega)⟩
   cases hb10:((decide (c8=49))==a.2.2.1)
   ·obtain ⟨c11,hc12⟩:∃z,y[((k:Int)).toNat]? =some z:=⟨_,b5 _ _ (by omega)⟩
    apply dW (i3 26 _ _ _ (io 29 (lB (decide (c8=49))) :: i2 30 _ _ (io 32 (lB false) :: i4 33 _ _ _ _ (io 37 (lB (decide (c11=49))) :: i2 38 _ _ [io 40 (lB (!((decide (c11=49))==a.2.2.1))),io 41 _,io 25 _])))) [0,1,0,0,15,15,0,0,0,256,0,0,3840,3840,0,0,0]
    iterate 3 refine z_ ?_
    refine zz (fun _ h_=>ac (Zw (h_.v rfl) (QK 49 rfl) rfl) rfl) ?_
    iterate 2 refine z_ ?_
    refine zz (fun _ h_=>ac (QA (hb10) (QG (h_.v rfl) (h_.v rfl) rfl Zc)) rfl) ?_
    iterate 4 refine z_ ?_
    refine zz (fun _ h_=>day rfl (h_.k rfl) (Zw (h_.v rfl) (QK 49 rfl) rfl) rfl) ?_
    iterate 2 refine z_ ?_
    refine zz (fun _ h_=>day rfl (h_.k rfl) (ZI (h_.v rfl) (h_.v rfl) rfl Zc) rfl) ?_
    iterate 2 refine z_ ?_
    exact zN
    cases hb13:((decide (c11=49))==a.2.2.1)
    ·iterate 4 refine w_ ?_
     refine Qb<|fqB hO ?_
     exact Qgt (k:=k) (by omega) (fun h=>by first | exact absurd ((Ue (by assumption) (by assumption) (by assumption)).1 h) (by assumption) | exact Jv (by assumption) (by assumption) (by assumption) h | exact JT (by assumption) (by assumption) (by assumption) h)
    ·refine w_ ?_
     refine AC.skip ?_
     refine (?_:AC _ _ _ _ _)
     iterate 3 refine w_ ?_
     refine Qd ?_
     refine lK_ ((Qei hF (by first | exact (Ue (by assumption) (by assumption) (by assumption)).2 (by assumption) | exact QcM (by assumption) (by assumption) (by assumption) (by assumption) (by assumption)))) ?_
     exact Wk.of [] rfl ⟨rfl,rfl,rfl,rfl,rfl,trivial⟩ ⟨rfl,trivial⟩ rfl rfl
   ·apply dW (i3 26 _ _ _ (io 29 (lB (decide (c8=49))) :: i2 30 _ _ (io 32 (lB true) :: i9 33 _ _ _ _ _ _ _ _ _ [io 25 _]))) [0,1,0,0,15,15,0,0,0,256,0,0,3840,3840,0,0,0]
    iterate 3 refine z_ ?_
    refine zz (fun _ h_=>ac (Zw (h_.v rfl) (QK 49 rfl) rfl) rfl) ?_
    iterate 2 refine z_ ?_
    refine zz (fun _ h_=>ac (QA (hb10) (QG (h_.v rfl) (h_.v rfl) rfl Zc)) rfl) ?_
    iterate 10 refine z_ ?_
    exact zN
    iterate 4 refine w_ ?_
    refine Qb<|fqB hO ?_
    exact Qgt (k:=k) (by omega) (fun h=>by first | exact absurd ((Ue (by assumption) (by assumption) (by assumption)).1 h) (by assumption) | exact Jv (by assumption) (by assumption) (by assumption) h | exact JT (by assumption) (by assumption) (by assumption) h)
  ·have hb7':¬((k:Int)=a.2.1):=QN hb7
   refine w_ ?_
   obtain ⟨c14,hc15⟩:∃z,x[((k:Int)).toNat]? =some z:=⟨_,b5 _ _ (by omega)⟩
   obtain ⟨c16,hc17⟩:∃z,y[((k:Int)).toNat]? =some z:=⟨_,b5 _ _ (by omega)⟩
   apply dW (i7 18 _ _ _ _ _ _ _ []) [0,1,0,7,15,7,0]
   iterate 7 refine z_ ?_
   exact zN
   cases hb18:(!decide (c14=c16))
   ·have hb18':(c14=c16):=Qz hb18
    refine w_ ?_
    refine AC.skip ?_
    refine (?_:AC _ _ _ _ _)
    iterate 3 refine w_ ?_
    refine Qd ?_
    refine lK_ ((Qei hF (by first | exact (Ue (by assumption) (by assumption) (by assumption)).2 (by assumption) | exact QcM (by assumption) (by assumption) (by assumption) (by assumption) (by assumption)))) ?_
    exact Wk.of [] rfl ⟨rfl,rfl,rfl,rfl,rfl,trivial⟩ ⟨rfl,trivial⟩ rfl rfl
   ·have hb18':¬(c14=c16):=QN hb18
    iterate 4 refine w_ ?_
    refine Qb<|fqB hO ?_
    exact Qgt (k:=k) (by omega) (fun h=>by first | exact absurd ((Ue (by assumption) (by assumption) (by assumption)).1 h) (by assumption) | exact Jv (by assumption) (by assumption) (by assumption) h | exact JT (by assumption) (by assumption) (by assumption) h)
theorem WL (code:ByteArray)(sig:Int)(b:ByteArray)(hs:0≤sig∧sig < (code.size:Int))(hb:code.size≤1000000∧b.size≤1000000):FC Tryz.prog 248 [(false,[dS code]),(false,[dI sig]),(false,[dS b])] [] 0 (QU (lf (dS (Jt code sig b)))):=by
 refine Qj Tryz.func248 rfl rfl Tryz.ntmps248 fun O_ hO w0_ N0_ X_ h0_ f0_=> ?_
 refine acI 1 fun hi1=> ?_
 iterate 3 refine w_ ?_
 apply dW (i2 7 _ _ (io 9 (lf (dS (code.extract 0 (sig).toNat))) :: io 10 _ :: io 11 (lf (dS ((code.extract 0 (sig).toNat)++b))) :: i3 12 _ _ _ [io 15 (lf (dS (code.extract (sig+1).toNat code.size))),io 16 (lf (dS (((code.extract 0 (sig).toNat)++b)++(code.extract (sig+1).toNat code.size)))),io 6 _])) [0,1,0,7,0,31,63,63,31,0,0]
 iterate 2 refine z_ ?_
 refine zz (fun _ h_=>ac (show Does _ _ _ _ (St.put _ 9 (lf (dS (code.extract 0 (sig).toNat)))) from Qw (l:=none) (h:=(some sig)) (h_.v rfl) (by exact trivial) (by exact (h_.v rfl)) QR rfl (by first | omega | (simp only[ai,ah]; omega)) (by first | omega | (simp only[ai,ah]; omega)) (by first | omega | (simp only[ai,ah]; omega))) rfl) ?_
 refine z_ ?_
 refine zz (fun _ h_=>ac (QH (h_.v rfl) (h_.v rfl) rfl (by first | omega | (simp only[aK,aL]; omega))) rfl) ?_
 iterate 3 refine z_ ?_
 refine zz (fun _ h_=>ac (show Does _ _ _ _ (St.put _ 15 (lf (dS (code.extract (sig+1).toNat code.size)))) from Qw (l:=(some (sig+1))) (h:=none) (h_.v rfl) (by exact (h_.v rfl)) (by exact trivial) QR rfl (by first | omega | (simp only[ai,ah]; omega)) (by first | omega | (simp only[ai,ah]; omega)) (by first | omega | (simp only[ai,ah]; omega))) rfl)<|zz (fun _ h_=>ac (QH (h_.v rfl) (h_.v rfl) rfl (by first | omega | (simp only[aK,aL]; omega))) rfl) ?_
 refine z_ ?_
 exact zN
 refine Qb<|fqS hO ?_
 rfl
end Go.Proofs.YtfkmmpfdncopdaaGreat
