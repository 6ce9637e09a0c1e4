/- Walks over abstract states: the state graph, both sides. -/
import Derived.Test.YtgpdhgadmjfokaaGreatHWp
set_option linter.unusedSimpArgs false
set_option linter.unusedVariables false
set_option linter.unusedSectionVars false
namespace Go.Proofs.YtgpdhgadmjfokaaGreat
open Go.RowKit
set_option maxRecDepth 100000
set_option maxHeartbeats 4000000
def WN:Nat→List ByteArray→List UInt8→List ByteArray
  | _,c,[]=>c
  | i,c,v :: vs=>WN (i+1) (c.set i ((c[i]?).getD ByteArray.empty++⟨#[v]⟩)) vs
def goS (n:Nat)(arcs:List DAr):Nat→Nat→List ByteArray→Option (List ByteArray)
  | 0,_,c=>some c
  | f+1,k,c=>if (Wg n arcs (k:Int)).2=true then goS n arcs f (k+1) (WN 0 c (Wg n arcs (k:Int)).1) else none
section
variable {n f k i m:Nat}{arcs:List DAr}{c codes:List ByteArray}{vs us:List UInt8}{v:UInt8}{x:ByteArray}
theorem QcS (hv:vs[i]? =some v)(hx:c[i]? =some x):WN i c (vs.drop i)=WN (i+1) (c.set i (x++⟨#[v]⟩)) (vs.drop (i+1)):=by
  rw[ZX hv,WN,hx]
  rfl
theorem Qlw (h:vs.length≤i):WN i c (vs.drop i)=c:=by rw[bz h,WN]
theorem Qeo:∀(i:Nat) (c:List ByteArray) (vs:List UInt8),(WN i c vs).length=c.length
  | _,_,[]=>by rw[WN]
  | i,c,v :: vs=>by rw[WN,Qeo]; simp
theorem QpF (hk:k < m)(h:(Wg n arcs (k:Int)).2=true):goS n arcs (m - k) k c=goS n arcs (m - (k+1)) (k+1) (WN 0 c (Wg n arcs (k:Int)).1):=by
  rw[show m - k=(m - (k+1))+1 by omega,goS,if_pos h]
theorem Qao (hk:m≤k):goS n arcs (m - k) k c=some c:=by rw[show m - k=0 by omega,goS]
theorem Ql1 {j:Nat}(h:(Wg n arcs (j:Int)).2=false)(hk:k≤j)(hj:j < k+f):goS n arcs f k c=none:=by
  induction f generalizing k c with
  | zero=>omega
  | succ f ih=>
    rw[goS]
    by_cases e:j=k
    · subst e; rw[if_neg (by rw[h]; decide)]
    · split
      · exact ih (by omega) (by omega)
      · rfl
theorem Qgj (hr:∀a∈arcs,InR n a)(sig:Int):(Wg n arcs sig).2=(l5V n arcs sig).2:=by
  rcases Qa8 (sig:=sig) hr with ⟨h1,h2,_⟩ | ⟨us,h1,_,h2⟩
  · rw[h1,h2]
  · rw[h1,h2]
theorem Qht (h:¬0 < ((Xn n arcs m).length:Int))(hk:k < m):(l5V n arcs (k:Int)).2=true:=by
  induction m with
  | zero=>omega
  | succ m ih=>
    simp only[Xn,ak] at h
    by_cases e:k=m
    · subst e
      cases h2:(l5V n arcs (k:Int)).2 with
      | true=>rfl
      | false=>rw[h2] at h; simp at h
    · exact ih (by omega) (by omega)
theorem VA (hr:∀a∈arcs,InR n a)(h:0 < ((Xn n arcs m).length:Int)):goS n arcs m 0 c=none:=by
  have:∃j,j < m∧(l5V n arcs (j:Int)).2=false:=by
    induction m with
    | zero=>simp[Xn] at h
    | succ m ih=>
      simp only[Xn,ak] at h
      cases h2:(l5V n arcs (m:Int)).2 with
      | false=>exact ⟨m,by omega,h2⟩
      | true=>
        rw[h2] at h
        obtain ⟨j,h3,h4⟩:=ih (by simpa using h)
        exact ⟨j,by omega,h4⟩
  obtain ⟨j,h1,h2⟩:=this
  exact Ql1 ((Qgj hr _).trans h2) (aT _) (by omega)
theorem Qkt (hr:∀a∈arcs,InR n a)(sig:Int):(Wg n arcs sig).1.length≤n:=by
  rcases Qa8 (sig:=sig) hr with ⟨_,_,_,h2⟩ | ⟨us,_,h1,h2⟩
  · rw[h2]; exact aT _
  · rw[h2,aQ,h1]; exact aO _
theorem QeL {b:Nat}{y:ByteArray}(h:∀z∈c,z.size≤b)(hx:c[i]? =some x)(hy:y.size≤x.size+1):∀z∈c.set i y,z.size≤b+1:=fun z hz=>by
  rcases bX hz with h1 | h1
  · exact cJ (h z h1)
  · rw[h1]; have:=h x (ao hx); omega
theorem Ws {ls:List Zu}{ms:List DMv}{q:Nat}(h:∀v∈ms,MvOk n q v):∀a∈Qv ls ms,InR n a:=fun a ha=>by
  obtain ⟨v,hv,rfl⟩:=b8.1 ha
  obtain ⟨h1,_,h2⟩:=h v hv
  exact ⟨h1,h2⟩
theorem QpJ {sig:Int}(hr:∀a∈arcs,InR n a)(h:(l5V n arcs sig).2=true):∃us:List UInt8,(l5V n arcs sig).1=⟨us.toArray⟩∧us.length=n∧(l5V n arcs sig).1.size=n∧Wg n arcs sig=(us.map q0,true):=by
  rcases Qa8 (sig:=sig) hr with ⟨h1,_⟩ | ⟨us,h1,h2,h3⟩
  · rw[h1] at h; cases h
  · exact ⟨us,by rw[h1],h2,by rw[h1,← h2]; rfl,h3⟩
theorem H1 (b:ByteArray)(i:Nat):(b.extract i (i+1)).size≤1:=by simp only[aL]; omega
theorem Qq9 (hu:us[i]? =some v):(⟨us.toArray⟩:ByteArray).extract i (i+1)=⟨#[v]⟩:=by
  apply ByteArray.ext
  simp only[ByteArray.data_extract]
  obtain ⟨h1,h2⟩:=aj.1 hu
  apply Array.ext
  · simp; omega
  · intro j h3 h4
    have:j=0:=by simp at h4; omega
    subst this
    simp[h2]
theorem Qn4 (hu:us[i]? =some v):(us.map q0)[i]? =some (q0 v):=by rw[bo,hu]; rfl
theorem QlY {b:ByteArray}(hb:b=⟨us.toArray⟩)(hi:i < us.length)(hd:decide (b.extract i (i+1)=⟨#[63]⟩)=true)(hx:c[i]? =some x):WN i c ((us.map q0).drop i)=WN (i+1) (c.set i (x++⟨#[48]⟩)) ((us.map q0).drop (i+1)):=by
  have hu:=aa hi
  have h1:=ae hd
  rw[hb,Qq9 hu] at h1
  have h2:us[i]=63:=by
    have:=congrArg (fun b:ByteArray=>b.data[0]?) h1
    simpa using this
  have:=QcS (Qn4 hu) hx
  rwa [show q0 us[i]=48 by rw[h2]; rfl] at this
theorem Qk6 {b:ByteArray}(hb:b=⟨us.toArray⟩)(hi:i < us.length)(hd:decide (b.extract i (i+1)=⟨#[63]⟩)=false)(hx:c[i]? =some x):WN i c ((us.map q0).drop i)=WN (i+1) (c.set i (x++b.extract i (i+1))) ((us.map q0).drop (i+1)):=by
  have hu:=aa hi
  have h1:=ab hd
  rw[hb,Qq9 hu] at h1 ⊢
  have:=QcS (Qn4 hu) hx
  rwa [show q0 us[i]=us[i] by unfold q0; rw[if_neg]; intro e; exact h1 (by rw[e])] at this
theorem QkU (h:us.length≤i):WN i c ((us.map q0).drop i)=c:=Qlw (by simpa using h)
end
section
variable [∀s,Decidable (StgOk s)]{s:QR}{c:List ByteArray}
def Um:List (ByteArray×Int)×List ByteArray×List DAr:=([],[],[])
def sgV (s:QR):(List (ByteArray×Int)×List ByteArray×List DAr)×Bool:=
  if (Qh s).2=true∧¬4000 < (Qh s).1.2.length then
    (match goS (Qh s).1.1.length (Qv s.2.2.1 (Qh s).1.2) s.2.1.length 0 (List.replicate (Qh s).1.1.length ByteArray.empty) with
    | some c=>((s.2.1,c,Qv s.2.2.1 (Qh s).1.2),true)
    | none=>(Um,false))
  else (Um,false)
theorem Qad (h:(Qh s).2=false):sgV s=(Um,false):=if_neg fun h2=>by rw[h] at h2; cases h2.1
theorem HL (h:(4000:Int) < ((Qh s).1.2.length:Int)):sgV s=(Um,false):=if_neg fun h2=>h2.2 (by omega)
theorem HK (h:goS (Qh s).1.1.length (Qv s.2.2.1 (Qh s).1.2) s.2.1.length 0 (List.replicate (Qh s).1.1.length ByteArray.empty)=none):sgV s=(Um,false):=by
  unfold sgV
  rw[h]
  split <;> rfl
theorem K5 (h1:(Qh s).2=true)(h2:¬(4000:Int) < ((Qh s).1.2.length:Int))(h:goS (Qh s).1.1.length (Qv s.2.2.1 (Qh s).1.2) s.2.1.length 0 (List.replicate (Qh s).1.1.length ByteArray.empty)=some c):
    sgV s=((s.2.1,c,Qv s.2.2.1 (Qh s).1.2),true):=by
  unfold sgV
  rw[if_pos ⟨h1,by omega⟩,h]
end
theorem Y2 (s:(Int×(List (List Int×List Int)))×(List (ByteArray×Int))×(List (Int×Bool))×ByteArray)[∀s,Decidable (StgOk s)]:FC Tryz.prog 143 [(true,[dI s.1.1, .dat (.sl 245 (.pr (.sl 3 .int) (.sl 3 .int))) s.1.2, .dat (.sl 44 (.pr .str .int)) s.2.1, .dat (.sl 86 (.pr .int .bool)) s.2.2.1,dS s.2.2.2])] [] 0 (Is (PV.tup [(true,[.ref 0, .ref 1, .ref 2]),(false,[dB ((sgV s).2)])]) [ar 0 44 (.pr .str .int) (((sgV s).1).1),ar 1 9 .str (((sgV s).1).2.1),ar 2 46 (.pr .int (.pr .int (.pr .bool .int))) (((sgV s).1).2.2)]):=by
 refine Qj Tryz.func143 rfl rfl Tryz.ntmps143 fun O_ hO w0_ N0_ X_ h0_ f0_=> ?_
 refine acG 0 0 fun hi1=> ?_
 refine w_ ?_
 refine xbx 0 ?_
 refine lc (xal 1 (.pr (.sl 44 (.pr .str .int)) (.pr (.sl 9 .str) (.sl 46 (.pr .int (.pr .int (.pr .bool .int)))))) Ys) ?_
 iterate 4 refine w_ ?_
 refine lc (dG 2 (HD s) Qf0) ?_
 iterate 3 refine w_ ?_
 refine lc (xal 4 (.pr (.sl 9 .str) (.sl 263 (.pr .int (.pr .int .int)))) Qdq) ?_
 iterate 8 refine w_ ?_
 cases hb2:((Qh s).2)
 ·iterate 15 refine w_ ?_
  refine lc (Qn Qdx rfl (aw.1 rfl) rfl rfl) ?_
  iterate 3 refine w_ ?_
  refine AC.wk (QD 5 (p:=1) (off:=0) 44 (.pr .str .int) rfl rfl (Fresh.of rfl) (nlr rfl))<|AC.wk (QD 6 (p:=1) (off:=1) 9 .str rfl rfl (Fresh.of rfl) (nlr rfl))<|AC.wk (QD 7 (p:=1) (off:=2) 46 (.pr .int (.pr .int (.pr .bool .int))) rfl rfl (Fresh.of rfl) (nlr rfl))<|Qb ?_
  have e3:(false:Bool)=((sgV s).2):=by
   (rw[Qad (by assumption)]; done)
  exact fi_ [(0,5),(1,6),(2,7)] hO ⟨(Qk (by (rw[Qad (by assumption)]; rfl))),(Qk (by (rw[Qad (by assumption)]; rfl))),(Qk (by (rw[Qad (by assumption)]; rfl))),trivial⟩ (h0:=(congrArg (fun z_=>PV.tup [(true,[.ref 5, .ref 6, .ref 7]),(false,[dB z_])]) e3))
 ·iterate 2 refine w_ ?_
  refine lgy rfl rfl (Hk 8 (Hv s ((Qh s).1) (ZW (s:=s) (by assumption)).2.2.2.2.1 (by have:=(ZW (s:=s) (by assumption)).2.2.1; omega) (by have:=Qew (ZW (s:=s) (by assumption)).1.sigs; omega)) Qhz ⟨_,_,rfl,(Ev.b (Qm rfl)),⟨_,_,rfl,(QcT (Qm rfl) ⟨_,_,rfl, .inr ⟨_,_,_,_,rfl,rfl,rfl⟩,⟨_,_,rfl, .inr ⟨_,_,_,_,rfl,rfl,rfl⟩,rfl⟩⟩),rfl⟩⟩ rfl (Fresh.of rfl) (nlr rfl)) ?_
  iterate 4 refine w_ ?_
  cases hb4:(decide (0 < ((Xn ((Qh s).1).1.length (Qv s.2.2.1 ((Qh s).1).2) s.2.1.length).length:Int)))
  ·have hb4':=ab hb4
   iterate 6 refine w_ ?_
   refine cd_ (fun hb5 hb5'=> ?_) fun hb5 hb5'=> ?_
   ·refine w_ ?_
    obtain ⟨hsg,hN1,hN2,hNd,hMv,hMl⟩:=ZW (s:=s) (by assumption)
    have hir:=Ws (ls:=s.2.2.1) hMv
    have hsl:=Qew hsg.sigs
    apply dW [⟨some 36,lR 9,[ar 9 44 (.pr .str .int) ([])]⟩,io 37 (lP 0 2),io 38 (lf (.dat (.sl 44 (.pr .str .int)) s.2.1)),⟨some 39,lR 10,[ar 10 44 (.pr .str .int) (([])++s.2.1),(9,none)]⟩,io 40 (lP 4 0),io 41 (lR 2),io 42 (lI ((((Qh s).1).1).length:Int)),⟨some 43,lR 11,[ar 11 9 .str (List.replicate ((((Qh s).1).1).length) (Ty.zero .str))]⟩,io 44 (ag [.ref 10, .ref 11, .val (.slice none 0 0)]),⟨some 6,lP 12 0,[bx 12 27 [.val (.slice none 0 0), .val (.slice none 0 0), .val (.slice none 0 0)]]⟩,⟨none,lf (.val undef),[bx 12 27 [.ref 10, .ref 11, .val (.slice none 0 0)]]⟩] [0,1,1,0,15,15,15,15,0,511,0]
    refine zz (fun _ h_=>ac (dBs 9 (e:=(.pr .str .int)) QbP) rfl) ?_
    iterate 2 refine z_ ?_
    refine zz (fun _ h_=>ac (Zj 10 (h_.v rfl) (h_.en 9 rfl) (Evl.rep (h_.v rfl)) rfl QfH Qdn (by first | omega | (simp only[ak,aQ,ap,aq,aE]; omega) | (simp only[ak,bh,ap,aq,aE]; omega)) rfl (h_.fr 10 rfl) (nlr rfl)) rfl) ?_
    iterate 3 refine z_ ?_
    refine zz (fun _ h_=>ac (US 11 (e:= .str) (n:=(((Qh s).1).1).length) (h_.v rfl) (h_.v rfl) ZF QqH rfl (by omega) (by omega) rfl (h_.fr 11 rfl) (nlr rfl)) rfl)<|zz (fun _ h_=>ac (Qn Qdx ⟨_,_,rfl,(h_.w rfl),⟨_,_,rfl,(h_.w rfl),rfl⟩⟩ (aw.1 (by simp only[Zc,VQ,bm,bK]; rw[(h_.en 10 rfl),(h_.en 11 rfl)]; rfl)) rfl rfl) rfl)<|zz (fun _ h_=>ac (KA 12 (.pr (.sl 44 (.pr .str .int)) (.pr (.sl 9 .str) (.sl 46 (.pr .int (.pr .int (.pr .bool .int)))))) Ys rfl rfl (h_.fr 12 rfl) (nlr rfl)) rfl)<|zz (fun _ h_=>ac (ZA (h_.v rfl) (h_.en 12 rfl) (h_.w rfl) (by simp only[Zc,VQ,bm,bK]; rw[(h_.en 10 rfl),(h_.en 11 rfl)]; rfl) YP rfl) rfl) ?_
    exact zN
    iterate 4 refine w_ ?_
    refine alL 46 fun hl6=> ?_
    iterate 4 refine w_ ?_
    refine QF (fun m_ s_=>∃(k:Nat) (codes:List ByteArray),k≤s.2.1.length∧m_=s.2.1.length - k∧(goS (Qh s).1.1.length (Qv s.2.2.1 (Qh s).1.2) s.2.1.length 0 (List.replicate (Qh s).1.1.length ByteArray.empty)=goS (Qh s).1.1.length (Qv s.2.2.1 (Qh s).1.2) (s.2.1.length - k) k codes)∧(codes.length=(Qh s).1.1.length)∧(∀c∈codes,c.size≤300*k)∧s_=⟨[(1,lP 0 0),(2,lP 1 0),(3,lB false),(4,lP 4 0),(6,lP 12 0),(47,lI (s.2.1.length:Int)),(48,lI (k:Int))],[bx 0 62 [dI s.1.1, .dat (.sl 245 (.pr (.sl 3 .int) (.sl 3 .int))) s.1.2, .dat (.sl 44 (.pr .str .int)) s.2.1, .dat (.sl 86 (.pr .int .bool)) s.2.2.1,dS s.2.2.2],bx 1 27 [.val (.slice none 0 0), .val (.slice none 0 0), .val (.slice none 0 0)],ar 2 9 .str (((Qh s).1).1),ar 3 263 (.pr .int (.pr .int .int)) (((Qh s).1).2),bx 4 160 [.ref 2, .ref 3],ar 10 44 (.pr .str .int) (([])++s.2.1),bx 12 27 [.ref 10, .ref 13, .val (.slice none 0 0)],ar 13 9 .str codes]⟩) ⟨0,List.replicate ((((Qh s).1).1).length) (Ty.zero .str),aT _,rfl,rfl,(by simp),(fun c hc=>by rw[cB hc]; exact aT _),rfl⟩ ?_ ?_
    · exact Wk.of [(13,11)] rfl ⟨rfl,rfl,rfl,rfl,rfl,rfl,rfl,trivial⟩ ⟨rfl,rfl,rfl,rfl,rfl,rfl,rfl,(Qk (by first | rfl | simp)),trivial⟩ rfl rfl
    rintro m_ s_ ⟨k,codes,hk7,hm8,hA,hL,hZ,rfl⟩
    iterate 4 refine w_ ?_
    cases hb9:(decide ((k:Int) < (s.2.1.length:Int)))
    ·have hb9':=ab hb9
     refine w_ ?_
     refine Qi ?_
     refine (?_:AC _ _ _ _ _)
     iterate 8 refine w_ ?_
     refine AC.wk (QD 14 (p:=12) (off:=2) 46 (.pr .int (.pr .int (.pr .bool .int))) rfl rfl (Fresh.of rfl) (nlr rfl)) ?_
     refine lp0 ((((Qh s).1).2).length) (fun j=>⟨[(1,lP 0 0),(2,lP 1 0),(3,lB false),(6,lP 12 0),(82,lR 3),(83,lI ((((Qh s).1).2).length:Int)),(84,lI (j:Int))],[bx 0 62 [dI s.1.1, .dat (.sl 245 (.pr (.sl 3 .int) (.sl 3 .int))) s.1.2, .dat (.sl 44 (.pr .str .int)) s.2.1, .dat (.sl 86 (.pr .int .bool)) s.2.2.1,dS s.2.2.2],bx 1 27 [.val (.slice none 0 0), .val (.slice none 0 0), .val (.slice none 0 0)],ar 3 263 (.pr .int (.pr .int .int)) (((Qh s).1).2),ar 10 44 (.pr .str .int) (([])++s.2.1),bx 12 27 [.ref 10, .ref 13, .ref 15],ar 13 9 .str codes,ar 15 46 (.pr .int (.pr .int (.pr .bool .int))) ((((Qh s).1).2.take j).map (QhY s.2.2.1))]⟩) ?_ fun j hk10=> ?_
     · exact Wk.of [(15,14)] rfl ⟨rfl,rfl,rfl,rfl,rfl,rfl,rfl,trivial⟩ ⟨rfl,rfl,rfl,rfl,rfl,rfl,(Qk (by first | rfl | simp)),trivial⟩ rfl rfl
     iterate 4 refine w_ ?_
     cases hb11:(decide ((j:Int) < ((((Qh s).1).2).length:Int)))
     ·have hb11':=ab hb11
      refine w_ ?_
      refine Qi ?_
      refine (?_:AC _ _ _ _ _)
      iterate 5 refine w_ ?_
      refine Qb ?_
      have e12:(true:Bool)=((sgV s).2):=by
       (rw[K5 (by assumption) (by assumption) (hA.trans (Qao (by omega)))]; done)
      exact fi_ [(0,10),(1,13),(2,15)] hO ⟨(Qk (by (rw[K5 (by assumption) (by assumption) (hA.trans (Qao (by omega)))]; rfl))),(Qk (by (rw[K5 (by assumption) (by assumption) (hA.trans (Qao (by omega)))]; done))),(Qk (by (rw[K5 (by assumption) (by assumption) (hA.trans (Qao (by omega))),ZH (by omega)]; rfl))),trivial⟩ (h0:=(congrArg (fun z_=>PV.tup [(true,[.ref 10, .ref 13, .ref 15]),(false,[dB z_])]) e12))
     ·have hb11':=ae hb11
      iterate 6 refine w_ ?_
      obtain ⟨mv,hx14⟩:∃z,(((Qh s).1).2)[j]? =some z:=⟨_,aa (by omega)⟩
      have hrm:=(hMv _ (ao hx14)).2.1
      refine w_ ?_
      refine lc (xal 16 (.pr .int (.pr .int .int)) Vo) ?_
      iterate 7 refine w_ ?_
      refine alI 91 fun hi15=> ?_
      obtain ⟨x16,hx17⟩:∃z,s.2.2.1[(mv.2.1).toNat]? =some z:=⟨_,aa (by omega)⟩
      have hla:=QdR hx17
      iterate 2 refine w_ ?_
      refine lc (xal 17 (.pr .int .bool) WR) ?_
      iterate 7 refine w_ ?_
      refine alI 97 fun hi18=> ?_
      iterate 2 refine w_ ?_
      refine alI 99 fun hi19=> ?_
      iterate 4 refine w_ ?_
      refine alI 103 fun hi20=> ?_
      refine lc (Qn QoV ⟨_,_,rfl,(Qm rfl),⟨_,_,rfl,(Qm rfl),⟨_,_,rfl,(Qm rfl),⟨_,_,rfl,(Qm rfl),rfl⟩⟩⟩⟩ (aw.1 rfl) rfl rfl) ?_
      refine lc (dBs 18 (e:=(.pr .int (.pr .int (.pr .bool .int)))) KH (hab:=by exact ⟨_,_,_,_,rfl,⟨[dI mv.1],[dI x16.1,dB x16.2,dI mv.2.2],_,_,_,_,rfl,rfl,⟨rfl,rfl⟩,⟨[dI x16.1],[dB x16.2,dI mv.2.2],_,_,_,_,rfl,rfl,⟨rfl,rfl⟩,⟨[dB x16.2],[dI mv.2.2],_,_,_,_,rfl,rfl,⟨rfl,rfl⟩,⟨rfl,rfl⟩,rfl⟩,rfl⟩,rfl⟩,⟨rfl,rfl⟩,rfl⟩)) ?_
      refine lc (dA 19 Qpb) ?_
      iterate 2 refine w_ ?_
      refine Qd ?_
      refine (?_:AC _ _ _ _ _)
      iterate 3 refine w_ ?_
      refine Qd ?_
      refine l0_ ?_
      exact Wk.of [(15,19)] rfl ⟨rfl,rfl,rfl,rfl,rfl,rfl,rfl,trivial⟩ ⟨rfl,rfl,rfl,rfl,rfl,rfl,(Qk (by rw[Q1 hx14]; simp[QhY,hla])),trivial⟩ rfl rfl
    ·have hb9':=ae hb9
     iterate 12 refine w_ ?_
     refine lc (VJ (W7 s ((Qh s).1) (k:Int) hMv (by omega)) QbY ⟨_,_,rfl,(Ev.b (Qm rfl)),⟨_,_,rfl,(QcT (Qm rfl) ⟨_,_,rfl, .inr ⟨_,_,_,_,rfl,rfl,rfl⟩,⟨_,_,rfl, .inr ⟨_,_,_,_,rfl,rfl,rfl⟩,rfl⟩⟩),⟨_,_,rfl,(Ev.b (Qm rfl)),rfl⟩⟩⟩ rfl rfl rfl) ?_
     iterate 6 refine w_ ?_
     refine Zl ?_
     obtain ⟨us,hu1,hu2,hu3,hu4⟩:=QpJ (sig:=(k:Int)) hir (Qht (m:=s.2.1.length) (by assumption) (by omega))
     iterate 7 refine w_ ?_
     refine QF (fun m_ s_=>∃(i:Nat) (codes2:List ByteArray),i≤codes.length∧m_=codes.length - i∧(WN 0 codes (us.map q0)=WN i codes2 ((us.map q0).drop i))∧(codes2.length=(Qh s).1.1.length)∧(∀c∈codes2,c.size≤300*k+i)∧s_=⟨[(1,lP 0 0),(2,lP 1 0),(3,lB false),(4,lP 4 0),(6,lP 12 0),(7,lI (k:Int)),(8,lf (dS ((l5V ((Qh s).1).1.length (Qv s.2.2.1 ((Qh s).1).2) (k:Int)).1))),(47,lI (s.2.1.length:Int)),(48,lI (k:Int)),(49,lB true),(50,lI (k:Int)),(51,PV.tup [(false,[dS ((l5V ((Qh s).1).1.length (Qv s.2.2.1 ((Qh s).1).2) (k:Int)).1)]),(false,[dB ((l5V ((Qh s).1).1.length (Qv s.2.2.1 ((Qh s).1).2) (k:Int)).2)])]),(52,ag [dI s.1.1, .dat (.sl 245 (.pr (.sl 3 .int) (.sl 3 .int))) s.1.2, .dat (.sl 44 (.pr .str .int)) s.2.1, .dat (.sl 86 (.pr .int .bool)) s.2.2.1,dS s.2.2.2]),(53,ag [.ref 2, .ref 3]),(54,lI (k:Int)),(55,PV.tup [(false,[dS ((l5V ((Qh s).1).1.length (Qv s.2.2.1 ((Qh s).1).2) (k:Int)).1)]),(false,[dB ((l5V ((Qh s).1).1.length (Qv s.2.2.1 ((Qh s).1).2) (k:Int)).2)])]),(56,lf (dS ((l5V ((Qh s).1).1.length (Qv s.2.2.1 ((Qh s).1).2) (k:Int)).1))),(57,lB ((l5V ((Qh s).1).1.length (Qv s.2.2.1 ((Qh s).1).2) (k:Int)).2)),(58,lP 12 1),(60,lI (codes.length:Int)),(61,lI (i:Int))],[bx 0 62 [dI s.1.1, .dat (.sl 245 (.pr (.sl 3 .int) (.sl 3 .int))) s.1.2, .dat (.sl 44 (.pr .str .int)) s.2.1, .dat (.sl 86 (.pr .int .bool)) s.2.2.1,dS s.2.2.2],bx 1 27 [.val (.slice none 0 0), .val (.slice none 0 0), .val (.slice none 0 0)],ar 2 9 .str (((Qh s).1).1),ar 3 263 (.pr .int (.pr .int .int)) (((Qh s).1).2),bx 4 160 [.ref 2, .ref 3],ar 10 44 (.pr .str .int) (([])++s.2.1),bx 12 27 [.ref 10, .ref 20, .val (.slice none 0 0)],ar 20 9 .str codes2]⟩) ⟨0,codes,aT _,rfl,rfl,hL,hZ,rfl⟩ ?_ ?_
     · exact Wk.of [(20,13)] rfl ⟨rfl,rfl,rfl,rfl,rfl,rfl,rfl,rfl,rfl,rfl,rfl,rfl,rfl,rfl,rfl,rfl,rfl,rfl,rfl,rfl,rfl,trivial⟩ ⟨rfl,rfl,rfl,rfl,rfl,rfl,rfl,rfl,trivial⟩ rfl rfl
     rintro m_ s_ ⟨i,codes2,hk21,hm22,hA2,hL2,hZ2,rfl⟩
     iterate 4 refine w_ ?_
     cases hb23:(decide ((i:Int) < (codes.length:Int)))
     ·have hb23':=ab hb23
      refine w_ ?_
      refine Qi ?_
      refine (?_:AC _ _ _ _ _)
      iterate 3 refine w_ ?_
      refine Qd<|Q8 ⟨k+1,codes2,by omega,rfl,(by rw[hA,QpF (by omega) (by rw[hu4])]; exact congrArg _ (by rw[hu4]; exact hA2.trans (QkU (by omega)))),hL2,(fun c hc=>bn (hZ2 c hc) (by omega)),rfl⟩ (by omega) ?_
      exact Wk.of [(13,20)] rfl ⟨rfl,rfl,rfl,rfl,rfl,rfl,rfl,trivial⟩ ⟨rfl,rfl,rfl,rfl,rfl,rfl,rfl,rfl,trivial⟩ rfl rfl
     ·have hb23':=ae hb23
      iterate 13 refine w_ ?_
      refine lc (show Does _ _ _ _ (St.put _ 68 (lf (dS (((l5V ((Qh s).1).1.length (Qv s.2.2.1 ((Qh s).1).2) (k:Int)).1).extract ((i:Int)).toNat ((i:Int)+1).toNat)))) from Qy (l:=(some (i:Int))) (h:=(some ((i:Int)+1))) (Qa rfl) (by exact (Qa rfl)) (by exact (Qa rfl)) QT rfl (by first | omega | (simp only[ai,ah]; omega)) (by first | omega | (simp only[ai,ah]; omega)) (by first | omega | (simp only[ai,ah]; omega))) ?_
      iterate 7 refine w_ ?_
      cases hb24:(decide ((((l5V ((Qh s).1).1.length (Qv s.2.2.1 ((Qh s).1).2) (k:Int)).1).extract ((i:Int)).toNat ((i:Int)+1).toNat)=(⟨#[63]⟩:ByteArray)))
      ·have hb24':=ab hb24
       iterate 7 refine w_ ?_
       obtain ⟨x25,hx26⟩:∃z,codes2[i]? =some z:=⟨_,aa (by omega)⟩
       have hczx25:=hZ2 _ (ao hx26)
       iterate 2 refine w_ ?_
       refine lc (QI (Qa rfl) (Qa rfl) rfl (by first | (simp only[ZI]; omega) | (refine bn (bV (H1 _ i) _) ?_; omega))) ?_
       refine w_ ?_
       refine lc (Qu (e:= .str) (z':=x25++(((l5V ((Qh s).1).1.length (Qv s.2.2.1 ((Qh s).1).2) (k:Int)).1).extract ((i:Int)).toNat ((i:Int)+1).toNat)) (Qa rfl) rfl hx26 rfl (Qm rfl) rfl ZQ rfl rfl)<|Qd ?_
       refine (?_:AC _ _ _ _ _)
       iterate 3 refine w_ ?_
       refine Qd<|Q8 ⟨i+1,(codes2.set i (x25++(((l5V ((Qh s).1).1.length (Qv s.2.2.1 ((Qh s).1).2) (k:Int)).1).extract ((i:Int)).toNat ((i:Int)+1).toNat))),by omega,rfl,by first | exact hA2.trans (QlY hu1 (by omega) (by assumption) hx26) | exact hA2.trans (Qk6 hu1 (by omega) (by assumption) hx26),(by rw[aA]; exact hL2),(QeL hZ2 hx26 (by rw[aK]; first | exact aO _ | exact bV (H1 _ _) _)),rfl⟩ (by omega) ?_
       exact Wk.of [] rfl ⟨rfl,rfl,rfl,rfl,rfl,rfl,rfl,rfl,rfl,rfl,rfl,rfl,rfl,rfl,rfl,rfl,rfl,rfl,rfl,rfl,rfl,trivial⟩ ⟨rfl,rfl,rfl,rfl,rfl,rfl,rfl,(Qk (by first | rfl | simp)),trivial⟩ rfl rfl
      ·have hb24':=ae hb24
       iterate 9 refine w_ ?_
       obtain ⟨x27,hx28⟩:∃z,codes2[i]? =some z:=⟨_,aa (by omega)⟩
       have hczx27:=hZ2 _ (ao hx28)
       iterate 2 refine w_ ?_
       refine lc (QI (Qa rfl) (Qa rfl) rfl (by first | (simp only[ZI]; omega) | (refine bn (bV (H1 _ i) _) ?_; omega))) ?_
       refine w_ ?_
       refine lc (Qu (e:= .str) (z':=x27++(⟨#[48]⟩:ByteArray)) (Qa rfl) rfl hx28 rfl (Qm rfl) rfl ZQ rfl rfl)<|Qd ?_
       refine (?_:AC _ _ _ _ _)
       iterate 3 refine w_ ?_
       refine Qd<|Q8 ⟨i+1,(codes2.set i (x27++(⟨#[48]⟩:ByteArray))),by omega,rfl,by first | exact hA2.trans (QlY hu1 (by omega) (by assumption) hx28) | exact hA2.trans (Qk6 hu1 (by omega) (by assumption) hx28),(by rw[aA]; exact hL2),(QeL hZ2 hx28 (by rw[aK]; first | exact aO _ | exact bV (H1 _ _) _)),rfl⟩ (by omega) ?_
       exact Wk.of [] rfl ⟨rfl,rfl,rfl,rfl,rfl,rfl,rfl,rfl,rfl,rfl,rfl,rfl,rfl,rfl,rfl,rfl,rfl,rfl,rfl,rfl,rfl,trivial⟩ ⟨rfl,rfl,rfl,rfl,rfl,rfl,rfl,(Qk (by first | rfl | simp)),trivial⟩ rfl rfl
   ·refine w_ ?_
    refine lc (Qn Qdx rfl (aw.1 rfl) rfl rfl) ?_
    iterate 3 refine w_ ?_
    refine AC.wk (QD 21 (p:=1) (off:=0) 44 (.pr .str .int) rfl rfl (Fresh.of rfl) (nlr rfl))<|AC.wk (QD 22 (p:=1) (off:=1) 9 .str rfl rfl (Fresh.of rfl) (nlr rfl))<|AC.wk (QD 23 (p:=1) (off:=2) 46 (.pr .int (.pr .int (.pr .bool .int))) rfl rfl (Fresh.of rfl) (nlr rfl))<|Qb ?_
    have e29:(false:Bool)=((sgV s).2):=by
     (rw[HL (by assumption)]; done)
    exact fi_ [(0,21),(1,22),(2,23)] hO ⟨(Qk (by (rw[HL (by assumption)]; rfl))),(Qk (by (rw[HL (by assumption)]; rfl))),(Qk (by (rw[HL (by assumption)]; rfl))),trivial⟩ (h0:=(congrArg (fun z_=>PV.tup [(true,[.ref 21, .ref 22, .ref 23]),(false,[dB z_])]) e29))
  ·have hb4':=ae hb4
   iterate 8 refine w_ ?_
   refine lc (Qn Qdx rfl (aw.1 rfl) rfl rfl) ?_
   iterate 3 refine w_ ?_
   refine AC.wk (QD 24 (p:=1) (off:=0) 44 (.pr .str .int) rfl rfl (Fresh.of rfl) (nlr rfl))<|AC.wk (QD 25 (p:=1) (off:=1) 9 .str rfl rfl (Fresh.of rfl) (nlr rfl))<|AC.wk (QD 26 (p:=1) (off:=2) 46 (.pr .int (.pr .int (.pr .bool .int))) rfl rfl (Fresh.of rfl) (nlr rfl))<|Qb ?_
   have e30:(false:Bool)=((sgV s).2):=by
    (rw[HK (VA (Ws (ZW (by assumption)).2.2.2.2.1) (by assumption))]; done)
   exact fi_ [(0,24),(1,25),(2,26)] hO ⟨(Qk (by (rw[HK (VA (Ws (ZW (by assumption)).2.2.2.2.1) (by assumption))]; rfl))),(Qk (by (rw[HK (VA (Ws (ZW (by assumption)).2.2.2.2.1) (by assumption))]; rfl))),(Qk (by (rw[HK (VA (Ws (ZW (by assumption)).2.2.2.2.1) (by assumption))]; rfl))),trivial⟩ (h0:=(congrArg (fun z_=>PV.tup [(true,[.ref 24, .ref 25, .ref 26]),(false,[dB z_])]) e30))
end Go.Proofs.YtgpdhgadmjfokaaGreat
namespace Go.Proofs.YtgpdhgadmjfokaaGreat
open Go.RowKit
set_option maxRecDepth 100000
set_option maxHeartbeats 4000000
abbrev DRg:=List ByteArray×List DMv
instance (n m:Nat) (v:DMv):Decidable (MvOk n m v):=inferInstanceAs (Decidable (_∧_))
def Qiw (r:DRg):Prop:=(1≤r.1.length∧r.1.length≤300)∧r.2.length≤4000∧r.1.Nodup∧∀v∈r.2,MvOk r.1.length 24 v
instance (r:DRg):Decidable (Qiw r):=inferInstanceAs (Decidable (_∧_))
def QsO (l:List ByteArray):List (ByteArray×Bool):=l.foldl (fun m x=>VS .str m x true) []
section
variable {r:DRg}{k:Nat}{x y:ByteArray}{v:DMv}{l:List ByteArray}{m:List (ByteArray×Bool)}
end
def QlT (f:Int→Bool):Nat→List Int
  | 0=>[]
  | k+1=>QlT f k++(if f (k:Int)=true then [] else [(k:Int)])
section
variable {f:Int→Bool}{k n:Nat}{α:Type _}{l:List α}{p:α→Bool}{x:α}
end
def byT (r:DRg)(t:Int):Bool:=r.2.any fun v=>decide (v.2.1=t)
def Qp5 (r:DRg)(t:Int):Bool:=r.2.any fun v=>decide (v.1=t)
def mfV (r:DRg)(k:Int):List DMv×Bool:=if Qiw r∧0≤k∧k < r.1.length then (r.2.filter fun v=>decide (v.1=k),true) else ([],false)
def dlV (r:DRg):List Int×Bool:=if Qiw r then (QlT (Qp5 r) r.1.length,true) else ([],false)
section
variable [∀s,Decidable (StgOk s)]
def dtV (s:QR)(r:DRg):List Int×Bool:=if StgOk s∧Qiw r then (QlT (byT r) s.2.2.1.length,true) else ([],false)
end
def QsC (k:Int)(ms:List DMv):List DMv:=ms.filter fun v=>decide (v.1=k)
end Go.Proofs.YtgpdhgadmjfokaaGreat
namespace Go.Proofs.YtgpdhgadmjfokaaGreat
open Go.RowKit
set_option maxRecDepth 100000
set_option maxHeartbeats 4000000
section
variable {α:Type}[DecidableEq α]{a b:List α}{k:Nat}{x y:α}
end
section
variable [∀s,Decidable (StgOk s)]
def QkL (s:QR):List Int:=(dtV s (Qh s).1).1
def QlZ (s:QR):Bool:=decide ((0:Int) < ((dlV (Qh s).1).1.length:Int))
def frV (s:QR):List Int×Bool×Bool:=if (sgV s).2=true then (QkL s,QlZ s,true) else ([],false,false)
def pfI (a b:QR):Bool×Bool:=if (frV a).2.2=true∧(frV b).2.2=true∧a.2.1=b.2.1∧a.2.2.1=b.2.2.1 then (decide ((frV a).1=(frV b).1)&&(!(frV b).2.1||(frV a).2.1),true) else (false,false)
def pfV (a b:QR):Bool×Bool:=if (sgV a).2=true∧(sgV b).2=true∧a.2.1=b.2.1∧a.2.2.1=b.2.2.1 then (decide (QkL a=QkL b)&&(QlZ a|| !QlZ b),true) else (false,false)
section
variable {a b:QR}
end
end
end Go.Proofs.YtgpdhgadmjfokaaGreat
namespace Go.Proofs.YtgpdhgadmjfokaaGreat
open Go.RowKit
set_option maxRecDepth 100000
set_option maxHeartbeats 4000000
theorem QB {A:Amb}{P:Program}{o:Oper}{s:St}{d:Nat}{b b':Bool}(e:b=b')(h:Does A P o s (s.put d (lf (dB b)))):Does A P o s (s.put d (lf (dB b'))):=e▸h
abbrev DSg:=List (ByteArray×Int)×List ByteArray×List DAr
theorem KI (ss:List Qz)[Decidable (YO ss)]:FC Tryz.prog 211 [(false,[.dat (.sl 44 YH) ss])] [] 0 (QV (lf (dB (decide (YO ss))))):=Qd3 fun gh w vs h=>by
  obtain ⟨v,rfl,hr⟩:=h.leaf1
  exact (QbE v ss w hr).mono fun _ _ h=>KO h
theorem Jb (ss:List Qz)[Decidable (YO ss)]:FC Tryz.prog 207 [(false,[.dat (.sl 44 YH) ss])] [] 0 (QV (lf (dB (decide (YO ss))))):=Qd3 fun gh w vs h=>by
  obtain ⟨v,rfl,hr⟩:=h.leaf1
  exact (U8 v ss w hr).mono fun _ _ h=>KO h
def V5 (n:Int)(l:Zu):Prop:=(0≤l.1∧l.1≤n - 1)∨(l.1= -1∧l.2=false)
instance (n:Int) (l:Zu):Decidable (V5 n l):=inferInstanceAs (Decidable (_∨_))
def ZN (s:ByteArray)(n:Int):Prop:=(∀c∈s.toList,c=48∨c=49)∧(s.size:Int)=n
instance (s:ByteArray) (n:Int):Decidable (ZN s n):=inferInstanceAs (Decidable (_∧_))
section
variable {n:Int}{l:Zu}{s x y:ByteArray}{k:Nat}{c d:UInt8}{a:DAr}
theorem QhW (h:0≤l.1∧l.1≤n - 1):true=decide (V5 n l):=(aJ (.inl h)).symm
theorem QkK (h:¬(0≤l.1∧l.1≤n - 1)):Ty.beq JS l (-1,false)=decide (V5 n l):=by
  rw[bu,Ty.beq_iff,aU]
  constructor
  · rintro rfl; exact .inr ⟨rfl,rfl⟩
  · rintro (h1 | h1)
    · exact absurd h1 h
    · exact Prod.ext h1.1 h1.2
theorem Qpy (h:¬(0≤l.1∧l.1≤n - 1))(h1:l.1= -1):(!l.2)=decide (V5 n l):=by
  rw[bu,aU]
  constructor
  · intro h2; exact .inr ⟨h1,by simpa using h2⟩
  · rintro (h2 | h2)
    · exact absurd h2 h
    · simp[h2.2]
theorem Qpc (h:¬(0≤l.1∧l.1≤n - 1))(h1:¬l.1= -1):false=decide (V5 n l):=(az (by rintro (h2 | h2); exact h h2; exact h1 h2.1)).symm
theorem Jt (h:s[((k:Int)).toNat]? =some c):s.toList[k]? =some c:=by
  have h:s[k]? =some c:=h
  rw[b5]
  obtain ⟨hk,h2⟩:∃hk:k < s.size,s[k]=c:=by
    by_cases hk:k < s.size
    · rw[b6 s k hk] at h; exact ⟨hk,Option.some.inj h⟩
    · rw[getElem?_neg s k hk] at h; cases h
  rw[aa (by simpa using hk)]
  rw[← h2]; simp; rfl
theorem UC (hB:∀j,j < k→∀c,s.toList[j]? =some c→c=48∨c=49)(hx:s[((k:Int)).toNat]? =some c)(h:c=48∨c=49):∀j,j < k+1→∀c,s.toList[j]? =some c→c=48∨c=49:=fun j hj d hd=>by
  by_cases e:j=k
  · subst e; rw[Jt hx] at hd; cases hd; exact h
  · exact hB j (by omega) d hd
theorem Qis (hx:s[((k:Int)).toNat]? =some c)(h1:¬c=48)(h2:¬c=49):false=decide (ZN s n):=(az fun h=>by
  rcases h.1 c (ao (Jt hx)) with h | h
  · exact h1 h
  · exact h2 h).symm
theorem QeD (hB:∀j,j < k→∀c,s.toList[j]? =some c→c=48∨c=49)(hk:s.size≤k):decide ((s.size:Int)=n)=decide (ZN s n):=bQ.2 ⟨fun h=>⟨fun c hc=>by
    obtain ⟨j,hj⟩:=aM.1 hc
    have:=(aj.1 hj).1
    rw[YW] at this
    exact hB j (by omega) c hj,h⟩,fun h=>h.2⟩
def Yy (a:DAr)(x y:ByteArray)(j:Nat):Prop:=if (j:Int)=a.2.1 then (decide (bAt x j=49)= !a.2.2.1∧decide (bAt y j=49)=a.2.2.1) else bAt x j=bAt y j
instance (a:DAr) (x y:ByteArray) (j:Nat):Decidable (Yy a x y j):=by unfold Yy; exact inferInstance
def Fit (a:DAr)(x y:ByteArray):Prop:=∀j,j < x.size→Yy a x y j
instance (a:DAr) (x y:ByteArray):Decidable (Fit a x y):=by unfold Fit; exact inferInstance
theorem Qen (hF:∀j,j < k→Yy a x y j)(h:Yy a x y k):∀j,j < k+1→Yy a x y j:=fun j hj=>by
  by_cases e:j=k
  · subst e; exact h
  · exact hF j (by omega)
theorem QgW (hk:k < x.size)(h:¬Yy a x y k):false=decide (Fit a x y):=(az fun h1=>h (h1 k hk)).symm
theorem QnD (hF:∀j,j < k→Yy a x y j)(hk:x.size≤k):true=decide (Fit a x y):=(aJ fun j hj=>hF j (by omega)).symm
theorem Ug (h:¬(k:Int)=a.2.1)(hx:x[((k:Int)).toNat]? =some c)(hy:y[((k:Int)).toNat]? =some d):Yy a x y k↔c=d:=by
  unfold Yy; rw[if_neg h,Q3 hx,Q3 hy]
theorem QkV (h:(k:Int)=a.2.1)(hx:x[((k:Int)).toNat]? =some c)(hy:y[((k:Int)).toNat]? =some d):Yy a x y k↔(decide (c=49)= !a.2.2.1∧decide (d=49)=a.2.2.1):=by
  unfold Yy; rw[if_pos h,Q3 hx,Q3 hy]
theorem JV (h:(k:Int)=a.2.1)(hx:x[((k:Int)).toNat]? =some c)(h1:(decide (c=49)==a.2.2.1)=true):¬Yy a x y k:=by
  unfold Yy; rw[if_pos h,Q3 hx]
  rintro ⟨h2,_⟩
  rw[h2] at h1
  cases ha:a.2.2.1 <;> rw[ha] at h1 <;> cases h1
theorem JA (h:(k:Int)=a.2.1)(hy:y[((k:Int)).toNat]? =some d)(h1:(decide (d=49)==a.2.2.1)=false):¬Yy a x y k:=by
  unfold Yy; rw[if_pos h,Q3 hy]
  rintro ⟨_,h2⟩
  rw[h2] at h1
  cases ha:a.2.2.1 <;> rw[ha] at h1 <;> cases h1
theorem Qc8 (h:(k:Int)=a.2.1)(hx:x[((k:Int)).toNat]? =some c)(hy:y[((k:Int)).toNat]? =some d)(h1:(decide (c=49)==a.2.2.1)=false)(h2:(decide (d=49)==a.2.2.1)=true):Yy a x y k:=by
  rw[QkV h hx hy]
  cases ha:a.2.2.1 <;> rw[ha] at h1 h2 <;> cases hc:decide (c=49) <;> rw[hc] at h1 <;> cases hd:decide (d=49) <;> rw[hd] at h2 <;> first | exact ⟨rfl,rfl⟩ | exact absurd h1 (by decide) | exact absurd h2 (by decide)
def Jy (code:ByteArray)(sig:Int)(b:ByteArray):ByteArray:=(code.extract 0 sig.toNat++b)++code.extract (sig+1).toNat code.size
end
theorem Ub (l:Int×Bool)(n:Int)(hn:0≤n∧n≤1000000):FC Tryz.prog 213 [(true,[dI l.1,dB l.2]),(false,[dI n])] [] 0 (QV (lB (decide (V5 n l)))):=by
 refine Qj Tryz.func213 rfl rfl Tryz.ntmps213 fun O_ hO w0_ N0_ X_ h0_ f0_=> ?_
 refine acG 0 0 fun hi1=> ?_
 refine acI 1 fun hi2=> ?_
 refine w_ ?_
 refine xbx 0 ?_
 iterate 7 refine w_ ?_
 refine lc (dK (QZ l.1 0 (n - 1)) ZE) ?_
 refine w_ ?_
 cases hb3:(decide (0≤l.1∧l.1≤(n - 1)))
 ·have hb3':=ab hb3
  refine w_ ?_
  refine lgy rfl rfl (Qn JD ⟨_,_,rfl,(Evl.ev (Ql rfl)),rfl⟩ (aw.1 rfl) rfl rfl)<|lgy rfl rfl (Qjf Qo5 QpD (Qm rfl) (Qm rfl) (p:=l) (q:=((-1),false)) rfl rfl rfl) ?_
  iterate 3 refine w_ ?_
  refine Qb<|fqB hO ?_
  exact QkK (by assumption)
 ·have hb3':=ae hb3
  iterate 6 refine w_ ?_
  refine Qb<|fqB hO ?_
  exact QhW (by assumption)
theorem HH (l:Int×Bool)(n:Int)(hn:0≤n∧n≤1000000):FC Tryz.prog 314 [(true,[dI l.1,dB l.2]),(false,[dI n])] [] 0 (QV (lB (decide (V5 n l)))):=by
 refine Qj Tryz.func314 rfl rfl Tryz.ntmps314 fun O_ hO w0_ N0_ X_ h0_ f0_=> ?_
 refine acG 0 0 fun hi1=> ?_
 refine acI 1 fun hi2=> ?_
 refine w_ ?_
 refine xbx 0 ?_
 iterate 7 refine w_ ?_
 refine lc (dK (Z8 l.1 0 (n - 1)) YB) ?_
 refine w_ ?_
 cases hb3:(decide (0≤l.1∧l.1≤(n - 1)))
 ·have hb3':=ab hb3
  iterate 4 refine w_ ?_
  cases hb4:(decide (l.1=(-1)))
  ·have hb4':=ab hb4
   iterate 7 refine w_ ?_
   refine Qb<|fqB hO ?_
   exact Qpc (by assumption) (by assumption)
  ·have hb4':=ae hb4
   iterate 7 refine w_ ?_
   refine Qb<|fqB hO ?_
   exact Qpy (by assumption) (by assumption)
 ·have hb3':=ae hb3
  iterate 4 refine w_ ?_
  refine Qo rfl rfl rfl ?_ rfl
  refine Qo rfl rfl rfl ?_ rfl
  refine Qo rfl rfl rfl ?_ rfl
  iterate 4 refine w_ ?_
  refine Qb<|fqB hO ?_
  exact QhW (by assumption)
theorem Qb1 (s:ByteArray)(n:Int):FC Tryz.prog 212 [(false,[dS s]),(false,[dI n])] [] 0 (QV (lB (decide (ZN s n)))):=by
 refine Qj Tryz.func212 rfl rfl Tryz.ntmps212 fun O_ hO w0_ N0_ X_ h0_ f0_=> ?_
 refine acI 1 fun hi1=> ?_
 iterate 8 refine w_ ?_
 refine lpK s.size (fun k=>∀j,j < k→∀c,s.toList[j]? =some c→c=48∨c=49) (fun k=>⟨[(0,lf (dS s)),(1,lI n),(5,lI (k:Int))],[]⟩) ((fun j hj=>absurd hj (bc j))) ?_ fun k hk2 hB=> ?_
 · exact Wk.of [] rfl ⟨rfl,rfl,rfl,trivial⟩ trivial rfl rfl
 iterate 4 refine w_ ?_
 refine alS 7 fun hl3=> ?_
 refine lc (QJ (Qa rfl) rfl QT) ?_
 iterate 2 refine w_ ?_
 cases hb4:(decide ((k:Int) < (s.size:Int)))
 ·have hb4':=ab hb4
  refine w_ ?_
  refine Qi ?_
  refine (?_:AC _ _ _ _ _)
  iterate 2 refine w_ ?_
  refine alS 22 fun hl5=> ?_
  refine lc (QJ (Qa rfl) rfl QT) ?_
  iterate 4 refine w_ ?_
  refine Qb<|fqB hO ?_
  exact QeD hB (by omega)
 ·have hb4':=ae hb4
  iterate 7 refine w_ ?_
  obtain ⟨c6,hc7⟩:∃z,s[((k:Int)).toNat]? =some z:=⟨_,b6 _ _ (by omega)⟩
  refine w_ ?_
  refine lc (QH (Qa rfl) (QM 48 rfl) rfl) ?_
  refine w_ ?_
  cases hb8:(!decide (c6=48))
  ·have hb8':(c6=48):=QA hb8
   iterate 7 refine w_ ?_
   refine AC.skip ?_
   refine (?_:AC _ _ _ _ _)
   iterate 4 refine w_ ?_
   refine Qd ?_
   refine lK_ ((UC hB (by assumption) (by first | exact .inl (by assumption) | exact .inr (by assumption)))) ?_
   exact Wk.of [] rfl ⟨rfl,rfl,rfl,trivial⟩ trivial rfl rfl
  ·have hb8':¬(c6=48):=QP hb8
   iterate 3 refine w_ ?_
   refine lgy rfl rfl (QH (Qa rfl) (QM 49 rfl) rfl) ?_
   iterate 2 refine w_ ?_
   cases hb9:(!decide (c6=49))
   ·have hb9':(c6=49):=QA hb9
    refine w_ ?_
    refine AC.skip ?_
    refine (?_:AC _ _ _ _ _)
    iterate 4 refine w_ ?_
    refine Qd ?_
    refine lK_ ((UC hB (by assumption) (by first | exact .inl (by assumption) | exact .inr (by assumption)))) ?_
    exact Wk.of [] rfl ⟨rfl,rfl,rfl,trivial⟩ trivial rfl rfl
   ·have hb9':¬(c6=49):=QP hb9
    iterate 4 refine w_ ?_
    refine Qb<|fqB hO ?_
    exact Qis (k:=k) (by assumption) (by assumption) (by assumption)
theorem VZ (s:ByteArray)(n:Int):FC Tryz.prog 208 [(false,[dS s]),(false,[dI n])] [] 0 (QV (lB (decide (ZN s n)))):=by
 refine Qj Tryz.func208 rfl rfl Tryz.ntmps208 fun O_ hO w0_ N0_ X_ h0_ f0_=> ?_
 refine acI 1 fun hi1=> ?_
 iterate 8 refine w_ ?_
 refine lpK s.size (fun k=>∀j,j < k→∀c,s.toList[j]? =some c→c=48∨c=49) (fun k=>⟨[(0,lf (dS s)),(1,lI n),(5,lI (k:Int))],[]⟩) ((fun j hj=>absurd hj (bc j))) ?_ fun k hk2 hB=> ?_
 · exact Wk.of [] rfl ⟨rfl,rfl,rfl,trivial⟩ trivial rfl rfl
 iterate 4 refine w_ ?_
 refine alS 7 fun hl3=> ?_
 refine lc (QJ (Qa rfl) rfl QT) ?_
 iterate 2 refine w_ ?_
 cases hb4:(decide ((k:Int) < (s.size:Int)))
 ·have hb4':=ab hb4
  refine w_ ?_
  refine Qi ?_
  refine (?_:AC _ _ _ _ _)
  iterate 2 refine w_ ?_
  refine alS 22 fun hl5=> ?_
  refine lc (QJ (Qa rfl) rfl QT) ?_
  iterate 4 refine w_ ?_
  refine Qb<|fqB hO ?_
  exact QeD hB (by omega)
 ·have hb4':=ae hb4
  iterate 7 refine w_ ?_
  obtain ⟨c6,hc7⟩:∃z,s[((k:Int)).toNat]? =some z:=⟨_,b6 _ _ (by omega)⟩
  refine w_ ?_
  refine lc (QH (Qa rfl) (QM 48 rfl) rfl) ?_
  refine w_ ?_
  cases hb8:(!decide (c6=48))
  ·have hb8':(c6=48):=QA hb8
   iterate 7 refine w_ ?_
   refine AC.skip ?_
   refine (?_:AC _ _ _ _ _)
   iterate 4 refine w_ ?_
   refine Qd ?_
   refine lK_ ((UC hB (by assumption) (by first | exact .inl (by assumption) | exact .inr (by assumption)))) ?_
   exact Wk.of [] rfl ⟨rfl,rfl,rfl,trivial⟩ trivial rfl rfl
  ·have hb8':¬(c6=48):=QP hb8
   iterate 3 refine w_ ?_
   refine lgy rfl rfl (QH (Qa rfl) (QM 49 rfl) rfl) ?_
   iterate 2 refine w_ ?_
   cases hb9:(!decide (c6=49))
   ·have hb9':(c6=49):=QA hb9
    refine w_ ?_
    refine AC.skip ?_
    refine (?_:AC _ _ _ _ _)
    iterate 4 refine w_ ?_
    refine Qd ?_
    refine lK_ ((UC hB (by assumption) (by first | exact .inl (by assumption) | exact .inr (by assumption)))) ?_
    exact Wk.of [] rfl ⟨rfl,rfl,rfl,trivial⟩ trivial rfl rfl
   ·have hb9':¬(c6=49):=QP hb9
    iterate 4 refine w_ ?_
    refine Qb<|fqB hO ?_
    exact Qis (k:=k) (by assumption) (by assumption) (by assumption)
theorem Jc (a:Int×Int×Bool×Int)(x:ByteArray)(y:ByteArray)(hxy:x.size≤y.size):FC Tryz.prog 214 [(true,[dI a.1,dI a.2.1,dB a.2.2.1,dI a.2.2.2]),(false,[dS x]),(false,[dS y])] [] 0 (QV (lB (decide (Fit a x y)))):=by
 refine Qj Tryz.func214 rfl rfl Tryz.ntmps214 fun O_ hO w0_ N0_ X_ h0_ f0_=> ?_
 refine acG 0 0 fun hi1=> ?_
 refine acG 0 1 fun hi2=> ?_
 refine acG 0 3 fun hi3=> ?_
 refine w_ ?_
 refine xbx 0 ?_
 iterate 5 refine w_ ?_
 refine alS 8 fun hl4=> ?_
 refine lc (QJ (Qa rfl) rfl QT) ?_
 iterate 3 refine w_ ?_
 refine lpK x.size (fun k=>∀j,j < k→Yy a x y j) (fun k=>⟨[(1,lf (dS x)),(2,lf (dS y)),(3,lP 0 0),(9,lI (x.size:Int)),(10,lI (k:Int))],[bx 0 46 [dI a.1,dI a.2.1,dB a.2.2.1,dI a.2.2.2]]⟩) ((fun j hj=>absurd hj (bc j))) ?_ fun k hk5 hF=> ?_
 · exact Wk.of [] rfl ⟨rfl,rfl,rfl,rfl,rfl,trivial⟩ ⟨rfl,trivial⟩ rfl rfl
 iterate 4 refine w_ ?_
 cases hb6:(decide ((k:Int) < (x.size:Int)))
 ·have hb6':=ab hb6
  refine w_ ?_
  refine Qi ?_
  refine (?_:AC _ _ _ _ _)
  iterate 3 refine w_ ?_
  refine Qb<|fqB hO ?_
  exact QnD hF (by omega)
 ·have hb6':=ae hb6
  iterate 16 refine w_ ?_
  cases hb7:(!decide ((k:Int)=a.2.1))
  ·have hb7':((k:Int)=a.2.1):=QA hb7
   refine w_ ?_
   obtain ⟨c8,hc9⟩:∃z,x[((k:Int)).toNat]? =some z:=⟨_,b6 _ _ (by omega)⟩
   cases hb10:((decide (c8=49))==a.2.2.1)
   ·obtain ⟨c11,hc12⟩:∃z,y[((k:Int)).toNat]? =some z:=⟨_,b6 _ _ (by omega)⟩
    apply dW (i3 26 _ _ _ (io 29 (lB (decide (c8=49))) :: i2 30 _ _ (io 32 (lB false) :: i4 33 _ _ _ _ (io 37 (lB (decide (c11=49))) :: i2 38 _ _ [io 40 (lB (!((decide (c11=49))==a.2.2.1))),io 41 _,io 25 _])))) [0,1,0,0,15,15,0,0,0,256,0,0,3840,3840,0,0,0]
    iterate 3 refine z_ ?_
    refine zz (fun _ h_=>ac (Zz (h_.v rfl) (QM 49 rfl) rfl) rfl) ?_
    iterate 2 refine z_ ?_
    refine zz (fun _ h_=>ac (QB (hb10) (QG (h_.v rfl) (h_.v rfl) rfl Zf)) rfl) ?_
    iterate 4 refine z_ ?_
    refine zz (fun _ h_=>day rfl (h_.k rfl) (Zz (h_.v rfl) (QM 49 rfl) rfl) rfl) ?_
    iterate 2 refine z_ ?_
    refine zz (fun _ h_=>day rfl (h_.k rfl) (ZL (h_.v rfl) (h_.v rfl) rfl Zf) rfl) ?_
    iterate 2 refine z_ ?_
    exact zN
    cases hb13:((decide (c11=49))==a.2.2.1)
    ·iterate 4 refine w_ ?_
     refine Qb<|fqB hO ?_
     exact QgW (k:=k) (by omega) (fun h=>by first | exact absurd ((Ug (by assumption) (by assumption) (by assumption)).1 h) (by assumption) | exact JV (by assumption) (by assumption) (by assumption) h | exact JA (by assumption) (by assumption) (by assumption) h)
    ·refine w_ ?_
     refine AC.skip ?_
     refine (?_:AC _ _ _ _ _)
     iterate 3 refine w_ ?_
     refine Qd ?_
     refine lK_ ((Qen hF (by first | exact (Ug (by assumption) (by assumption) (by assumption)).2 (by assumption) | exact Qc8 (by assumption) (by assumption) (by assumption) (by assumption) (by assumption)))) ?_
     exact Wk.of [] rfl ⟨rfl,rfl,rfl,rfl,rfl,trivial⟩ ⟨rfl,trivial⟩ rfl rfl
   ·apply dW (i3 26 _ _ _ (io 29 (lB (decide (c8=49))) :: i2 30 _ _ (io 32 (lB true) :: i9 33 _ _ _ _ _ _ _ _ _ [io 25 _]))) [0,1,0,0,15,15,0,0,0,256,0,0,3840,3840,0,0,0]
    iterate 3 refine z_ ?_
    refine zz (fun _ h_=>ac (Zz (h_.v rfl) (QM 49 rfl) rfl) rfl) ?_
    iterate 2 refine z_ ?_
    refine zz (fun _ h_=>ac (QB (hb10) (QG (h_.v rfl) (h_.v rfl) rfl Zf)) rfl) ?_
    iterate 10 refine z_ ?_
    exact zN
    iterate 4 refine w_ ?_
    refine Qb<|fqB hO ?_
    exact QgW (k:=k) (by omega) (fun h=>by first | exact absurd ((Ug (by assumption) (by assumption) (by assumption)).1 h) (by assumption) | exact JV (by assumption) (by assumption) (by assumption) h | exact JA (by assumption) (by assumption) (by assumption) h)
  ·have hb7':¬((k:Int)=a.2.1):=QP hb7
   refine w_ ?_
   obtain ⟨c14,hc15⟩:∃z,x[((k:Int)).toNat]? =some z:=⟨_,b6 _ _ (by omega)⟩
   obtain ⟨c16,hc17⟩:∃z,y[((k:Int)).toNat]? =some z:=⟨_,b6 _ _ (by omega)⟩
   apply dW (i7 18 _ _ _ _ _ _ _ []) [0,1,0,7,15,7,0]
   iterate 7 refine z_ ?_
   exact zN
   cases hb18:(!decide (c14=c16))
   ·have hb18':(c14=c16):=QA hb18
    refine w_ ?_
    refine AC.skip ?_
    refine (?_:AC _ _ _ _ _)
    iterate 3 refine w_ ?_
    refine Qd ?_
    refine lK_ ((Qen hF (by first | exact (Ug (by assumption) (by assumption) (by assumption)).2 (by assumption) | exact Qc8 (by assumption) (by assumption) (by assumption) (by assumption) (by assumption)))) ?_
    exact Wk.of [] rfl ⟨rfl,rfl,rfl,rfl,rfl,trivial⟩ ⟨rfl,trivial⟩ rfl rfl
   ·have hb18':¬(c14=c16):=QP hb18
    iterate 4 refine w_ ?_
    refine Qb<|fqB hO ?_
    exact QgW (k:=k) (by omega) (fun h=>by first | exact absurd ((Ug (by assumption) (by assumption) (by assumption)).1 h) (by assumption) | exact JV (by assumption) (by assumption) (by assumption) h | exact JA (by assumption) (by assumption) (by assumption) h)
theorem WP (code:ByteArray)(sig:Int)(b:ByteArray)(hs:0≤sig∧sig < (code.size:Int))(hb:code.size≤1000000∧b.size≤1000000):FC Tryz.prog 315 [(false,[dS code]),(false,[dI sig]),(false,[dS b])] [] 0 (QV (lf (dS (Jy code sig b)))):=by
 refine Qj Tryz.func315 rfl rfl Tryz.ntmps315 fun O_ hO w0_ N0_ X_ h0_ f0_=> ?_
 refine acI 1 fun hi1=> ?_
 iterate 3 refine w_ ?_
 apply dW (i2 7 _ _ (io 9 (lf (dS (code.extract 0 (sig).toNat))) :: io 10 _ :: io 11 (lf (dS ((code.extract 0 (sig).toNat)++b))) :: i3 12 _ _ _ [io 15 (lf (dS (code.extract (sig+1).toNat code.size))),io 16 (lf (dS (((code.extract 0 (sig).toNat)++b)++(code.extract (sig+1).toNat code.size)))),io 6 _])) [0,1,0,7,0,31,63,63,31,0,0]
 iterate 2 refine z_ ?_
 refine zz (fun _ h_=>ac (show Does _ _ _ _ (St.put _ 9 (lf (dS (code.extract 0 (sig).toNat)))) from Qy (l:=none) (h:=(some sig)) (h_.v rfl) (by exact trivial) (by exact (h_.v rfl)) QT rfl (by first | omega | (simp only[ai,ah]; omega)) (by first | omega | (simp only[ai,ah]; omega)) (by first | omega | (simp only[ai,ah]; omega))) rfl) ?_
 refine z_ ?_
 refine zz (fun _ h_=>ac (QI (h_.v rfl) (h_.v rfl) rfl (by first | omega | (simp only[aK,aL]; omega))) rfl) ?_
 iterate 3 refine z_ ?_
 refine zz (fun _ h_=>ac (show Does _ _ _ _ (St.put _ 15 (lf (dS (code.extract (sig+1).toNat code.size)))) from Qy (l:=(some (sig+1))) (h:=none) (h_.v rfl) (by exact (h_.v rfl)) (by exact trivial) QT rfl (by first | omega | (simp only[ai,ah]; omega)) (by first | omega | (simp only[ai,ah]; omega)) (by first | omega | (simp only[ai,ah]; omega))) rfl)<|zz (fun _ h_=>ac (QI (h_.v rfl) (h_.v rfl) rfl (by first | omega | (simp only[aK,aL]; omega))) rfl) ?_
 refine z_ ?_
 exact zN
 refine Qb<|fqS hO ?_
 rfl
end Go.Proofs.YtgpdhgadmjfokaaGreat
