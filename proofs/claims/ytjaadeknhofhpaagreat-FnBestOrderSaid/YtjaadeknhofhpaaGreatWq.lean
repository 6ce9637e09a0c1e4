/- Walks over abstract states: the state graph, both sides. -/
import Derived.Test.YtjaadeknhofhpaaGreatWl
import Derived.Test.YtjaadeknhofhpaaGreatWo
set_option linter.unusedSimpArgs false
set_option linter.unusedVariables false
set_option linter.unusedSectionVars false
namespace Go.Proofs.YtjaadeknhofhpaaGreat
open Go.RowKit
set_option maxRecDepth 100000
set_option maxHeartbeats 4000000
structure Rok (m:Nat) (st:RS):Prop where
  one:1≤st.1.length
  most:st.1.length≤300
  nd:st.1.Nodup
  mv:∀v∈st.2.1,MvOk st.1.length m v
section
variable {n:Xj}{k f:Nat}{mk:ByteArray}{t:Int}{ts:List Int}{st:RS}{s:QX}{l:List ByteArray}{x:ByteArray}
theorem QpF (h:0≤YA l x):YA l x < l.length:=by
  unfold YA ZN at h ⊢
  cases hf:l.findIdx? (fun y=>decide (y=x)) with
  | none=>rw[hf] at h; simp at h
  | some i=>
    obtain ⟨h1,_⟩:=bO.1 hf
    simp; omega
theorem Qfy (h:¬0≤YA l x):x∉l:=fun hm=>by
  unfold YA ZN at h
  cases hf:l.findIdx? (fun y=>decide (y=x)) with
  | none=>
    have:=List.findIdx?_eq_none_iff.1 hf x hm
    simp at this
  | some i=>rw[hf] at h; simp at h
theorem MvOk.grow {a b m:Nat}{v:DMv}(h:MvOk a m v)(hab:a≤b):MvOk b m v:=by
  obtain ⟨⟨h1,h2⟩,h3,h4,h5⟩:=h
  exact ⟨⟨h1,by omega⟩,h3,h4,by omega⟩
theorem QrP (hk:k < st.1.length)(hts:∀t∈ts,0≤t∧t < n.2.length)(h:Rok n.2.length st):Rok n.2.length (goT n k mk ts st).1∧(goT n k mk ts st).1.2.1.length≤st.2.1.length+ts.length∧st.1.length≤(goT n k mk ts st).1.1.length:=by
  induction ts generalizing st with
  | nil=>rw[goT]; exact ⟨h,by simp,aL _⟩
  | cons t ts ih=>
    have ht:=hts t (aA ..)
    have hts':∀t∈ts,0≤t∧t < n.2.length:=fun t h=>hts t (aD _ h)
    rw[goT]
    split
    · exact ⟨h,by simp,aL _⟩
    · split
      · rename_i h0
        have hlt:=QpF h0
        obtain ⟨h1,h2,h3⟩:=ih (st:=(st.1,st.2.1++[((k:Int),t,YA st.1 (Ym n mk t).1)],st.2.2)) hk hts' ⟨h.one,h.most,h.nd,fun v hv=>by
          rcases aJ.1 hv with hv | hv
          · exact h.mv v hv
          · rw[aM.1 hv]; exact ⟨⟨cC _,by simpa using hk⟩,ht,h0,hlt⟩⟩
        exact ⟨h1,by simp at h2 ⊢; omega,h3⟩
      · rename_i h0
        split
        · exact ⟨h,by simp,aL _⟩
        · rename_i h4
          have hm:=h.most
          obtain ⟨h1,h2,h3⟩:=ih (st:=(st.1++[(Ym n mk t).1],st.2.1++[((k:Int),t,(st.1.length:Int))],st.2.2++[((k:Int),t,(st.1.length:Int))])) (by simp; omega) hts' ⟨by simp,by simp; omega,
            b7.2 ⟨h.nd,by simp,fun a ha b hb e=>Qfy h0 (by rw[aM.1 hb] at e; exact e▸ha)⟩,fun v hv=>by
              rcases aJ.1 hv with hv | hv
              · exact (h.mv v hv).grow (by simp)
              · rw[aM.1 hv]; exact ⟨⟨cC _,by simp; omega⟩,ht,cC _,by simp; omega⟩⟩
          exact ⟨h1,by simp at h2 ⊢; omega,by simp at h3; omega⟩
theorem Qrj (hn:n.2.length≤24)(h:Rok n.2.length st)(hl:st.2.1.length≤24*k):Rok n.2.length (goK n f k st).1∧(goK n f k st).1.2.1.length≤24*(k+f):=by
  induction f generalizing k st with
  | zero=>rw[goK]; exact ⟨h,by omega⟩
  | succ f ih=>
    rw[goK]
    cases hx:st.1[k]? with
    | none=>exact ⟨h,by show st.2.1.length≤_; omega⟩
    | some mk=>
      obtain ⟨h1,h2,h3⟩:=QrP (mk:=mk) (ts:=Zl n mk) (au.1 hx).1 (fun t ht=>by
        obtain ⟨i,hi⟩:=aS.1 ht
        exact YW hi) h
      have h4:=Uv n mk
      show Rok n.2.length (if _ then _ else _:RS×QiM).1∧(if _ then _ else _:RS×QiM).1.2.1.length≤_
      split
      · obtain ⟨h5, h6⟩ := ih (k := k + 1) h1 (by omega)
        exact ⟨h5,by omega⟩
      · exact ⟨h1,by omega⟩
theorem QnP (hs:StgOk s):Rok s.2.2.1.length (Yt s).1∧(Yt s).1.2.1.length≤7224:=by
  have h:=Qrj (n:=s.1) (k:=0) (f:=301) (st:=([s.2.2.2],[],[((0:Int),(0:Int),(0:Int))])) hs.net.2.1 ⟨by simp,by simp,by simp,by simp⟩ (by simp)
  rw[← hs.len] at h
  exact h
end
theorem QeQ {ss:List Q9}(h:Qec ss):ss.length≤24:=by
  have:=h.2.2
  omega
section
variable [∀s,Decidable (StgOk s)]{s:QX}
theorem X5 (h:¬StgOk s):Qe s=(Qkz,false):=if_neg fun h2=>h h2.1
theorem YM (h:(exV s).2.2.2=false):Qe s=(Qkz,false):=if_neg fun h2=>by
  have:(Yt s).2.2.2=false:=h
  rw[this] at h2
  cases h2.2
theorem X6 (hs:StgOk s)(h:(exV s).2.2.2=true):Qe s=((exV s).1,true):=if_pos ⟨hs,h⟩
theorem ZX (h:(Qe s).2=true):StgOk s∧1≤(Qe s).1.1.length∧(Qe s).1.1.length≤300∧(Qe s).1.1.Nodup∧(∀v∈(Qe s).1.2,MvOk (Qe s).1.1.length s.2.2.1.length v)∧(Qe s).1.2.length≤7224:=by
  unfold Qe at h ⊢
  split
  · rename_i h1
    obtain ⟨h2,h3⟩:=QnP h1.1
    exact ⟨h1.1,h2.one,h2.most,h2.nd,h2.mv,h3⟩
  · rename_i h1
    rw[if_neg h1] at h
    cases h
end
section
variable {s:QX}
theorem QgQ (h:¬0≤(l4V s).2.2.2.1)(h2:(l4V s).2.2.2.2=false):(exV s).2.2.2=true:=by
  have h:¬0≤(Yt s).2.2.1:=h
  have h2:(!(Yt s).2.2.2&&decide ((Yt s).2.2.1 < 0))=false:=h2
  show (Yt s).2.2.2=true
  rw[aK (by omega)] at h2
  simpa using h2
theorem QgN (h:¬0≤(l4V s).2.2.2.1)(h2:(l4V s).2.2.2.2=true):(exV s).2.2.2=false:=by
  have h2:(!(Yt s).2.2.2&&decide ((Yt s).2.2.1 < 0))=true:=h2
  rw[aF] at h2
  show (Yt s).2.2.2=false
  simpa using h2.1
end
theorem QmI {n:Xj}{k:Nat}{mk:ByteArray}{ts:List Int}{st:RS}(h:(goT n k mk ts st).2.2.2=true):(goT n k mk ts st).2.2.1= -1:=by
  induction ts generalizing st with
  | nil=>rw[goT]
  | cons t ts ih=>
    rw[goT] at h ⊢
    split
    · rename_i h1; rw[if_pos h1] at h; cases h
    · rename_i h1
      rw[if_neg h1] at h
      split
      · rename_i h2; rw[if_pos h2] at h; exact ih h
      · rename_i h2
        rw[if_neg h2] at h
        split
        · rfl
        · rename_i h3; rw[if_neg h3] at h; exact ih h
theorem Qnk {n:Xj}{f k:Nat}{st:RS}(h:(goK n f k st).2.2.2=true):(goK n f k st).2.2.1= -1:=by
  induction f generalizing k st with
  | zero=>rw[goK]
  | succ f ih=>
    rw[goK] at h ⊢
    cases hx:st.1[k]? with
    | none=>rfl
    | some mk=>
      rw[hx] at h
      simp only at h ⊢
      split
      · rename_i h1; rw[if_pos h1] at h; exact ih h
      · rename_i h1; rw[if_neg h1] at h; exact QmI h
theorem Qg4 {s:QX}(h:0≤(l4V s).2.2.2.1):(exV s).2.2.2=false:=by
  have h:0≤(Yt s).2.2.1:=h
  show (Yt s).2.2.2=false
  cases he:(Yt s).2.2.2 with
  | false=>rfl
  | true=>
    have:=Qnk (n:=s.1) (f:=301) (k:=0) (st:=([s.2.2.2],[],[((0:Int),(0:Int),(0:Int))])) he
    have h2:(Yt s).2.2.1= -1:=this
    omega
theorem VD (s:(Int×(List (List Int×List Int)))×(List (ByteArray×Int))×(List (Int×Bool))×ByteArray)[∀s,Decidable (StgOk s)]:FC Tryz.prog 215 [(true,[dI s.1.1, .dat QZ s.1.2, .dat QJ s.2.1, .dat QR s.2.2.1,dS s.2.2.2])] [] 0 (Is (PV.tup [(true,[.ref 0, .ref 1]),(false,[dB ((Qe s).2)])]) [(0,some (.arr 9 .str (((Qe s).1).1))),(1,some (.arr 229 ZZ (((Qe s).1).2)))]):=by
 refine QO Tryz.func215 rfl rfl Tryz.ntmps215 fun O_ hO w0_ N0_ X_ h0_ f0_=> ?_
 refine AC.fact (QI (x:= .tmp 0) (i:=0) (Qb rfl) rfl) fun hi1=> ?_
 refine w_ ?_
 refine lc (Qy 0 (Qb rfl) rfl rfl (Fresh.of rfl) (nlr rfl))<|lc (Qj 1 QeK Wf rfl rfl (Fresh.of rfl) (nlr rfl)) ?_
 iterate 5 refine w_ ?_
 refine lc (Ql (YQ s) KE ⟨_,_,rfl,(Qb rfl),rfl⟩ rfl rfl) ?_
 iterate 2 refine w_ ?_
 cases hb2:(decide (StgOk s))
 have hb2':=a7 hb2
 iterate 2 refine w_ ?_
 refine lc (QA K2 rfl (ae.1 rfl) rfl rfl)<|lc (Qc (Qa rfl) rfl (Qb rfl) rfl ZM rfl) ?_
 iterate 2 refine w_ ?_
 refine AC.wk (QF 2 (p:=1) (off:=0) 9 .str rfl rfl (Fresh.of rfl) (nlr rfl))<|AC.wk (QF 3 (p:=1) (off:=1) 229 ZZ rfl rfl (Fresh.of rfl) (nlr rfl))<|Q4 ?_
 subst hO
 have e3:(false:Bool)=((Qe s).2):=by
  (rw[X5 ‹_›]; done)
 exact QD _ _ [(0,2),(1,3)] (QB rfl (QG rfl rfl ZM rfl) (Qd rfl)) (by rw[← e3] <;> rfl) ⟨(Qp (by (rw[X5 ‹_›]; rfl))),(Qp (by (rw[X5 ‹_›]; rfl))),trivial⟩ rfl rfl
 have hb2':=a8 hb2
 iterate 4 refine w_ ?_
 refine lc (Q8 4 (Qch s ‹_›) QjU ⟨_,_,rfl,(Qb rfl),rfl⟩ rfl rfl ⟨Fresh.of rfl,Fresh.of rfl,trivial⟩ (nlr rfl)) ?_
 iterate 5 refine w_ ?_
 refine lc (Qj 6 QeK Wf rfl rfl (Fresh.of rfl) (nlr rfl))<|lc (Qc (Qa rfl) rfl (Qb rfl) rfl ZM rfl) ?_
 iterate 9 refine w_ ?_
 cases hb4:((exV s).2.2.2)
 iterate 2 refine w_ ?_
 refine lc (QA K2 rfl (ae.1 rfl) rfl rfl)<|lc (Qc (Qa rfl) rfl (Qb rfl) rfl ZM rfl) ?_
 iterate 2 refine w_ ?_
 refine AC.wk (QF 7 (p:=1) (off:=0) 9 .str rfl rfl (Fresh.of rfl) (nlr rfl))<|AC.wk (QF 8 (p:=1) (off:=1) 229 ZZ rfl rfl (Fresh.of rfl) (nlr rfl))<|Q4 ?_
 subst hO
 have e5:(false:Bool)=((Qe s).2):=by
  (rw[YM ‹_›]; done)
 exact QD _ _ [(0,7),(1,8)] (QB rfl (QG rfl rfl ZM rfl) (Qd rfl)) (by rw[← e5] <;> rfl) ⟨(Qp (by (rw[YM ‹_›]; rfl))),(Qp (by (rw[YM ‹_›]; rfl))),trivial⟩ rfl rfl
 iterate 4 refine w_ ?_
 refine lc (Qc (Qa rfl) rfl (Qb rfl) rfl ZM rfl) ?_
 iterate 3 refine w_ ?_
 subst hO
 have e6:(true:Bool)=((Qe s).2):=by
  (rw[X6 ‹_› ‹_›]; done)
 exact QD _ _ [(0,4),(1,5)] (QB rfl (QG rfl rfl ZM rfl) (Qd rfl)) (by rw[← e6] <;> rfl) ⟨(Qp (by (rw[X6 ‹_› ‹_›]; done))),(Qp (by (rw[X6 ‹_› ‹_›]; done))),trivial⟩ rfl rfl
theorem VF (s:(Int×(List (List Int×List Int)))×(List (ByteArray×Int))×(List (Int×Bool))×ByteArray)[∀s,Decidable (StgOk s)]:FC Tryz.prog 124 [(true,[dI s.1.1, .dat QZ s.1.2, .dat QJ s.2.1, .dat QR s.2.2.1,dS s.2.2.2])] [] 0 (Is (PV.tup [(true,[.ref 0, .ref 1]),(false,[dB ((Qe s).2)])]) [(0,some (.arr 9 .str (((Qe s).1).1))),(1,some (.arr 229 ZZ (((Qe s).1).2)))]):=by
 refine QO Tryz.func124 rfl rfl Tryz.ntmps124 fun O_ hO w0_ N0_ X_ h0_ f0_=> ?_
 refine AC.fact (QI (x:= .tmp 0) (i:=0) (Qb rfl) rfl) fun hi1=> ?_
 refine w_ ?_
 refine lc (Qy 0 (Qb rfl) rfl rfl (Fresh.of rfl) (nlr rfl))<|lc (Qj 1 QeK Wf rfl rfl (Fresh.of rfl) (nlr rfl)) ?_
 iterate 5 refine w_ ?_
 refine lc (Ql (Yi s) X3 ⟨_,_,rfl,(Qb rfl),rfl⟩ rfl rfl) ?_
 iterate 2 refine w_ ?_
 cases hb2:(decide (StgOk s))
 have hb2':=a7 hb2
 iterate 2 refine w_ ?_
 refine lc (QA K2 rfl (ae.1 rfl) rfl rfl)<|lc (Qc (Qa rfl) rfl (Qb rfl) rfl ZM rfl) ?_
 iterate 2 refine w_ ?_
 refine AC.wk (QF 2 (p:=1) (off:=0) 9 .str rfl rfl (Fresh.of rfl) (nlr rfl))<|AC.wk (QF 3 (p:=1) (off:=1) 229 ZZ rfl rfl (Fresh.of rfl) (nlr rfl))<|Q4 ?_
 subst hO
 have e3:(false:Bool)=((Qe s).2):=by
  (rw[X5 ‹_›]; done)
 exact QD _ _ [(0,2),(1,3)] (QB rfl (QG rfl rfl ZM rfl) (Qd rfl)) (by rw[← e3] <;> rfl) ⟨(Qp (by (rw[X5 ‹_›]; rfl))),(Qp (by (rw[X5 ‹_›]; rfl))),trivial⟩ rfl rfl
 have hb2':=a8 hb2
 iterate 4 refine w_ ?_
 refine lc (Q8 4 (QcN s ‹_›) QkP ⟨_,_,rfl,(Qb rfl),rfl⟩ rfl rfl ⟨Fresh.of rfl,Fresh.of rfl,Fresh.of rfl,trivial⟩ (nlr rfl))<|lc (Qj 7 Qrw Qdb rfl rfl (Fresh.of rfl) (nlr rfl))<|lc (Qc (Qa rfl) rfl (Qb rfl) rfl UN rfl) ?_
 iterate 5 refine w_ ?_
 refine AL.fact (QC (x:= .tmp 12) (Qa rfl)) fun hi4=> ?_
 iterate 2 refine w_ ?_
 cases hb5:(decide (0≤((l4V s).2.2.2.1)))
 have hb5':=a7 hb5
 iterate 4 refine w_ ?_
 cases hb6:((l4V s).2.2.2.2)
 iterate 5 refine w_ ?_
 refine lc (Qc (Qa rfl) rfl (Qb rfl) rfl ZM rfl) ?_
 iterate 3 refine w_ ?_
 subst hO
 have e7:(true:Bool)=((Qe s).2):=by
  (rw[X6 ‹_› (QgQ ‹_› ‹_›)]; done)
 exact QD _ _ [(0,4),(1,5)] (QB rfl (QG rfl rfl ZM rfl) (Qd rfl)) (by rw[← e7] <;> rfl) ⟨(Qp (by (rw[X6 ‹_› (QgQ ‹_› ‹_›)]; rfl))),(Qp (by (rw[X6 ‹_› (QgQ ‹_› ‹_›)]; rfl))),trivial⟩ rfl rfl
 iterate 2 refine w_ ?_
 refine lc (QA K2 rfl (ae.1 rfl) rfl rfl)<|lc (Qc (Qa rfl) rfl (Qb rfl) rfl ZM rfl) ?_
 iterate 2 refine w_ ?_
 refine AC.wk (QF 8 (p:=1) (off:=0) 9 .str rfl rfl (Fresh.of rfl) (nlr rfl))<|AC.wk (QF 9 (p:=1) (off:=1) 229 ZZ rfl rfl (Fresh.of rfl) (nlr rfl))<|Q4 ?_
 subst hO
 have e8:(false:Bool)=((Qe s).2):=by
  (rw[YM (QgN ‹_› ‹_›)]; done)
 exact QD _ _ [(0,8),(1,9)] (QB rfl (QG rfl rfl ZM rfl) (Qd rfl)) (by rw[← e8] <;> rfl) ⟨(Qp (by (rw[YM (QgN ‹_› ‹_›)]; rfl))),(Qp (by (rw[YM (QgN ‹_› ‹_›)]; rfl))),trivial⟩ rfl rfl
 have hb5':=a8 hb5
 iterate 6 refine w_ ?_
 refine lc (QA K2 rfl (ae.1 rfl) rfl rfl)<|lc (Qc (Qa rfl) rfl (Qb rfl) rfl ZM rfl) ?_
 iterate 2 refine w_ ?_
 refine AC.wk (QF 10 (p:=1) (off:=0) 9 .str rfl rfl (Fresh.of rfl) (nlr rfl))<|AC.wk (QF 11 (p:=1) (off:=1) 229 ZZ rfl rfl (Fresh.of rfl) (nlr rfl))<|Q4 ?_
 subst hO
 have e9:(false:Bool)=((Qe s).2):=by
  (rw[YM (Qg4 ‹_›)]; done)
 exact QD _ _ [(0,10),(1,11)] (QB rfl (QG rfl rfl ZM rfl) (Qd rfl)) (by rw[← e9] <;> rfl) ⟨(Qp (by (rw[YM (Qg4 ‹_›)]; rfl))),(Qp (by (rw[YM (Qg4 ‹_›)]; rfl))),trivial⟩ rfl rfl
end Go.Proofs.YtjaadeknhofhpaaGreat
namespace Go.Proofs.YtjaadeknhofhpaaGreat
open Go.RowKit
set_option maxRecDepth 100000
set_option maxHeartbeats 4000000
def Kj:Nat→List ByteArray→List UInt8→List ByteArray
  | _,c,[]=>c
  | i,c,v :: vs=>Kj (i+1) (c.set i ((c[i]?).getD ByteArray.empty++⟨#[v]⟩)) vs
def goS (n:Nat)(arcs:List DAr):Nat→Nat→List ByteArray→Option (List ByteArray)
  | 0,_,c=>some c
  | f+1,k,c=>if (YG n arcs (k:Int)).2=true then goS n arcs f (k+1) (Kj 0 c (YG n arcs (k:Int)).1) else none
section
variable {n f k i m:Nat}{arcs:List DAr}{c codes:List ByteArray}{vs us:List UInt8}{v:UInt8}{x:ByteArray}
theorem Qck (hv:vs[i]? =some v)(hx:c[i]? =some x):Kj i c (vs.drop i)=Kj (i+1) (c.set i (x++⟨#[v]⟩)) (vs.drop (i+1)):=by
  rw[YC hv,Kj,hx]
  rfl
theorem Qh9 (h:vs.length≤i):Kj i c (vs.drop i)=c:=by rw[bk h,Kj]
theorem Qig:∀(i:Nat) (c:List ByteArray) (vs:List UInt8),(Kj i c vs).length=c.length
  | _,_,[]=>by rw[Kj]
  | i,c,v :: vs=>by rw[Kj,Qig]; simp
theorem Qpj (hk:k < m)(h:(YG n arcs (k:Int)).2=true):goS n arcs (m - k) k c=goS n arcs (m - (k+1)) (k+1) (Kj 0 c (YG n arcs (k:Int)).1):=by
  rw[show m - k=(m - (k+1))+1 by omega,goS,if_pos h]
theorem Qdk (hk:k < m)(h:(YG n arcs (k:Int)).2=false):goS n arcs (m - k) k c=none:=by
  rw[show m - k=(m - (k+1))+1 by omega,goS,if_neg (by rw[h]; decide)]
theorem UQ (hk:m≤k):goS n arcs (m - k) k c=some c:=by rw[show m - k=0 by omega,goS]
theorem QoT {j:Nat}(h:(YG n arcs (j:Int)).2=false)(hk:k≤j)(hj:j < k+f):goS n arcs f k c=none:=by
  induction f generalizing k c with
  | zero=>omega
  | succ f ih=>
    rw[goS]
    by_cases e:j=k
    · subst e; rw[if_neg (by rw[h]; decide)]
    · split
      · exact ih (by omega) (by omega)
      · rfl
theorem Qjd (hr:∀a∈arcs,InR n a)(sig:Int):(YG n arcs sig).2=(l5V n arcs sig).2:=by
  rcases QeN (sig:=sig) hr with ⟨h1,h2,_⟩ | ⟨us,h1,_,h2⟩
  · rw[h1,h2]
  · rw[h1,h2]
theorem Qi5 (h:¬0 < ((WR n arcs m).length:Int))(hk:k < m):(l5V n arcs (k:Int)).2=true:=by
  induction m with
  | zero=>omega
  | succ m ih=>
    simp only[WR,aa] at h
    by_cases e:k=m
    · subst e
      cases h2:(l5V n arcs (k:Int)).2 with
      | true=>rfl
      | false=>rw[h2] at h; simp at h
    · exact ih (by omega) (by omega)
theorem K7 (hr:∀a∈arcs,InR n a)(h:0 < ((WR n arcs m).length:Int)):goS n arcs m 0 c=none:=by
  have:∃j,j < m∧(l5V n arcs (j:Int)).2=false:=by
    induction m with
    | zero=>simp[WR] at h
    | succ m ih=>
      simp only[WR,aa] at h
      cases h2:(l5V n arcs (m:Int)).2 with
      | false=>exact ⟨m,by omega,h2⟩
      | true=>
        rw[h2] at h
        obtain ⟨j,h3,h4⟩:=ih (by simpa using h)
        exact ⟨j,by omega,h4⟩
  obtain ⟨j,h1,h2⟩:=this
  exact QoT ((Qjd hr _).trans h2) (aw _) (by omega)
theorem QiP (hr:∀a∈arcs,InR n a)(sig:Int):(YG n arcs sig).1.length≤n:=by
  rcases QeN (sig:=sig) hr with ⟨_,_,_,h2⟩ | ⟨us,_,h1,h2⟩
  · rw[h2]; exact aw _
  · rw[h2,av,h1]; exact aL _
theorem QdU {b:Nat}{y:ByteArray}(h:∀z∈c,z.size≤b)(hx:c[i]? =some x)(hy:y.size≤x.size+1):∀z∈c.set i y,z.size≤b+1:=fun z hz=>by
  rcases c9 hz with h1 | h1
  · exact Nat.le_succ_of_le (h z h1)
  · rw[h1]; have:=h x (ai hx); omega
theorem Um {ls:List ZD}{ms:List DMv}{q:Nat}(h:∀v∈ms,MvOk n q v):∀a∈Q1 ls ms,InR n a:=fun a ha=>by
  obtain ⟨v,hv,rfl⟩:=bM.1 ha
  obtain ⟨h1,_,h2⟩:=h v hv
  exact ⟨h1,h2⟩
theorem Qrk {sig:Int}(hr:∀a∈arcs,InR n a)(h:(l5V n arcs sig).2=true):∃us:List UInt8,(l5V n arcs sig).1=⟨us.toArray⟩∧us.length=n∧(l5V n arcs sig).1.size=n∧YG n arcs sig=(us.map q0,true):=by
  rcases QeN (sig:=sig) hr with ⟨h1,_⟩ | ⟨us,h1,h2,h3⟩
  · rw[h1] at h; cases h
  · exact ⟨us,by rw[h1],h2,by rw[h1,← h2]; rfl,h3⟩
theorem Qc1 (b:ByteArray)(i:Nat):(b.extract i (i+1)).size≤1:=by simp only[aR]; omega
theorem QsD (hu:us[i]? =some v):(⟨us.toArray⟩:ByteArray).extract i (i+1)=⟨#[v]⟩:=by
  apply ByteArray.ext
  simp only[ByteArray.data_extract]
  obtain ⟨h1,h2⟩:=au.1 hu
  apply Array.ext
  · simp; omega
  · intro j h3 h4
    have:j=0:=by simp at h4; omega
    subst this
    simp[h2]
theorem Qq3 (hu:us[i]? =some v):(us.map q0)[i]? =some (q0 v):=by rw[bj,hu]; rfl
theorem Qn3 {b:ByteArray}(hb:b=⟨us.toArray⟩)(hi:i < us.length)(hd:decide (b.extract i (i+1)=⟨#[63]⟩)=true)(hx:c[i]? =some x):Kj i c ((us.map q0).drop i)=Kj (i+1) (c.set i (x++⟨#[48]⟩)) ((us.map q0).drop (i+1)):=by
  have hu:=ap hi
  have h1:=a8 hd
  rw[hb,QsD hu] at h1
  have h2:us[i]=63:=by
    have:=congrArg (fun b:ByteArray=>b.data[0]?) h1
    simpa using this
  have:=Qck (Qq3 hu) hx
  rwa [show q0 us[i]=48 by rw[h2]; rfl] at this
theorem Qoe {b:ByteArray}(hb:b=⟨us.toArray⟩)(hi:i < us.length)(hd:decide (b.extract i (i+1)=⟨#[63]⟩)=false)(hx:c[i]? =some x):Kj i c ((us.map q0).drop i)=Kj (i+1) (c.set i (x++b.extract i (i+1))) ((us.map q0).drop (i+1)):=by
  have hu:=ap hi
  have h1:=a7 hd
  rw[hb,QsD hu] at h1 ⊢
  have:=Qck (Qq3 hu) hx
  rwa [show q0 us[i]=us[i] by unfold q0; rw[if_neg]; intro e; exact h1 (by rw[e])] at this
theorem Qoh (h:us.length≤i):Kj i c ((us.map q0).drop i)=c:=Qh9 (by simpa using h)
end
section
variable [∀s,Decidable (StgOk s)]{s:QX}{c:List ByteArray}
def Qaw:List (ByteArray×Int)×List ByteArray×List DAr:=([],[],[])
def sgV (s:QX):(List (ByteArray×Int)×List ByteArray×List DAr)×Bool:=
  if (Qe s).2=true∧¬4000 < (Qe s).1.2.length then
    (match goS (Qe s).1.1.length (Q1 s.2.2.1 (Qe s).1.2) s.2.1.length 0 (List.replicate (Qe s).1.1.length ByteArray.empty) with
    | some c=>((s.2.1,c,Q1 s.2.2.1 (Qe s).1.2),true)
    | none=>(Qaw,false))
  else (Qaw,false)
theorem VV (h:(Qe s).2=false):sgV s=(Qaw,false):=if_neg fun h2=>by rw[h] at h2; cases h2.1
theorem UP (h:(4000:Int) < ((Qe s).1.2.length:Int)):sgV s=(Qaw,false):=if_neg fun h2=>h2.2 (by omega)
theorem UI (h:goS (Qe s).1.1.length (Q1 s.2.2.1 (Qe s).1.2) s.2.1.length 0 (List.replicate (Qe s).1.1.length ByteArray.empty)=none):sgV s=(Qaw,false):=by
  unfold sgV
  rw[h]
  split <;> rfl
theorem UL (h1:(Qe s).2=true)(h2:¬(4000:Int) < ((Qe s).1.2.length:Int))(h:goS (Qe s).1.1.length (Q1 s.2.2.1 (Qe s).1.2) s.2.1.length 0 (List.replicate (Qe s).1.1.length ByteArray.empty)=some c):
    sgV s=((s.2.1,c,Q1 s.2.2.1 (Qe s).1.2),true):=by
  unfold sgV
  rw[if_pos ⟨h1,by omega⟩,h]
end
theorem Xc (s:(Int×(List (List Int×List Int)))×(List (ByteArray×Int))×(List (Int×Bool))×ByteArray)[∀s,Decidable (StgOk s)]:FC Tryz.prog 112 [(true,[dI s.1.1, .dat QZ s.1.2, .dat QJ s.2.1, .dat QR s.2.2.1,dS s.2.2.2])] [] 0 (Is (PV.tup [(true,[.ref 0, .ref 1, .ref 2]),(false,[dB ((sgV s).2)])]) [(0,some (.arr 90 QY (((sgV s).1).1))),(1,some (.arr 9 .str (((sgV s).1).2.1))),(2,some (.arr 106 UC (((sgV s).1).2.2)))]):=by
 refine QO Tryz.func112 rfl rfl Tryz.ntmps112 fun O_ hO w0_ N0_ X_ h0_ f0_=> ?_
 refine AC.fact (QI (x:= .tmp 0) (i:=0) (Qb rfl) rfl) fun hi1=> ?_
 refine w_ ?_
 refine lc (Qy 0 (Qb rfl) rfl rfl (Fresh.of rfl) (nlr rfl))<|lc (Qj 1 QgX U5 rfl rfl (Fresh.of rfl) (nlr rfl)) ?_
 iterate 4 refine w_ ?_
 refine lc (Q8 2 (VD s) Qaq ⟨_,_,rfl,(Qb rfl),rfl⟩ rfl rfl ⟨Fresh.of rfl,Fresh.of rfl,trivial⟩ (nlr rfl)) ?_
 iterate 3 refine w_ ?_
 refine lc (Qj 4 QeK Wf rfl rfl (Fresh.of rfl) (nlr rfl))<|lc (Qc (Qa rfl) rfl (Qb rfl) rfl ZM rfl) ?_
 iterate 7 refine w_ ?_
 cases hb2:((Qe s).2)
 iterate 8 refine w_ ?_
 refine lc (QA JO rfl (ae.1 rfl) rfl rfl)<|lc (Qc (Qa rfl) rfl (Qb rfl) rfl Yh rfl) ?_
 iterate 2 refine w_ ?_
 refine AC.wk (QF 5 (p:=1) (off:=0) 90 QY rfl rfl (Fresh.of rfl) (nlr rfl))<|AC.wk (QF 6 (p:=1) (off:=1) 9 .str rfl rfl (Fresh.of rfl) (nlr rfl))<|AC.wk (QF 7 (p:=1) (off:=2) 106 UC rfl rfl (Fresh.of rfl) (nlr rfl))<|Q4 ?_
 subst hO
 have e3:(false:Bool)=((sgV s).2):=by
  (rw[VV ‹_›]; done)
 exact QD _ _ [(0,5),(1,6),(2,7)] (QB rfl (QG rfl rfl Yh rfl) (Qd rfl)) (by rw[← e3] <;> rfl) ⟨(Qp (by (rw[VV ‹_›]; rfl))),(Qp (by (rw[VV ‹_›]; rfl))),(Qp (by (rw[VV ‹_›]; rfl))),trivial⟩ rfl rfl
 iterate 6 refine w_ ?_
 cases hb4:(decide (4000 < ((((Qe s).1).2).length:Int)))
 have hb4':=a7 hb4
 iterate 2 refine w_ ?_
 obtain ⟨hsg,hN1,hN2,hNd,hMv,hMl⟩:=ZX (s:=s) ‹_›
 have hir:=Um (ls:=s.2.2.1) hMv
 have hsl:=QeQ hsg.sigs
 refine dw [io 26 (lP 0 2),io 27 (lf (.dat QJ s.2.1)),⟨some 28,lR 8,[(8,some (.arr 90 QY s.2.1))]⟩,io 29 (lP 4 0),io 30 (lR 2),io 31 (lI ((((Qe s).1).1).length:Int)),⟨some 32,lR 9,[(9,some (.arr 9 .str (List.replicate ((((Qe s).1).1).length) (Ty.zero .str))))]⟩,io 33 (ag [dI s.1.1, .dat QZ s.1.2, .dat QJ s.2.1, .dat QR s.2.2.1,dS s.2.2.2]),io 34 (ag [.ref 2, .ref 3]),⟨some 35,lR 10,[(10,some (.arr 106 UC (Q1 s.2.2.1 ((Qe s).1).2)))]⟩,io 36 (ag [.ref 8, .ref 9, .ref 10]),⟨some 6,lP 11 0,[(11,some (.box 52 [.val (.slice none 0 0), .val (.slice none 0 0), .val (.slice none 0 0)]))]⟩,⟨none,lf (.val undef),[(11,some (.box 52 [.ref 8, .ref 9, .ref 10]))]⟩] [0,1,3,0,8,24,56,0,0,391,1023,0,4095] mixed rfl (by kernel_rfl) ⟨dxf XH rfl rfl rfl,dxl Ub rfl rfl rfl rfl rfl,fun _ h_=>ac (YF 8 (XD s.2.1 (by omega)) Qkr ⟨_,_,rfl,(h_.w rfl),rfl⟩ rfl (h_.fr 8 rfl) (nlr rfl)) rfl,dxf V5 rfl rfl rfl,dxl XS rfl rfl rfl rfl rfl,fun _ h_=>ac (Hh (h_.v rfl) (h_.n 2 rfl) rfl Zo) rfl,fun _ h_=>ac (Kg 9 (e:= .str) (n:=(((Qe s).1).1).length) (h_.v rfl) (h_.v rfl) Zo QqX rfl (by omega) (by omega) rfl (h_.fr 9 rfl) (nlr rfl)) rfl,dxa Qz rfl rfl rfl rfl,dxa ZM rfl rfl rfl rfl,fun _ h_=>ac (QcB 10 (JB s ((Qe s).1) (fun m hm=>(hMv m hm).2.1) (by omega)) Qkf ⟨_,_,rfl,(Ev.b (h_.w rfl)),⟨_,_,rfl,(UM (h_.w rfl) ⟨_,_,rfl, .inr ⟨_,_,_,_,rfl,(h_.en 2 rfl),rfl⟩,⟨_,_,rfl, .inr ⟨_,_,_,_,rfl,(h_.en 3 rfl),rfl⟩,rfl⟩⟩),rfl⟩⟩ rfl (h_.fr 10 rfl) (nlr rfl)) rfl,fun _ h_=>ac (QA JO ⟨_,_,rfl,(h_.w rfl),⟨_,_,rfl,(h_.w rfl),⟨_,_,rfl,(h_.w rfl),rfl⟩⟩⟩ (ae.1 (by simp only[ZB,X7,aQ,b8]; rw[(h_.en 8 rfl),(h_.en 9 rfl),(h_.en 10 rfl)]; rfl)) rfl rfl) rfl,fun _ h_=>ac (Qj 11 QgX U5 rfl rfl (h_.fr 11 rfl) (nlr rfl)) rfl,fun _ h_=>ac (Qc (h_.v rfl) (h_.en 11 rfl) (h_.w rfl) (by simp only[ZB,X7,aQ,b8]; rw[(h_.en 8 rfl),(h_.en 9 rfl),(h_.en 10 rfl)]; rfl) Yh rfl) rfl,⟨⟩⟩ ?_
 iterate 4 refine w_ ?_
 refine AL.fact (Qo (x:= .tmp 38) (Qa rfl)) fun hl5=> ?_
 iterate 4 refine w_ ?_
 refine Qu (fun m_ s_=>∃(k:Nat) (codes:List ByteArray),k≤s.2.1.length∧m_=s.2.1.length - k∧(goS (Qe s).1.1.length (Q1 s.2.2.1 (Qe s).1.2) s.2.1.length 0 (List.replicate (Qe s).1.1.length ByteArray.empty)=goS (Qe s).1.1.length (Q1 s.2.2.1 (Qe s).1.2) (s.2.1.length - k) k codes)∧(codes.length=(Qe s).1.1.length)∧(∀c∈codes,c.size≤300*k)∧s_=⟨[(2,lP 1 0),(4,lP 4 0),(6,lP 11 0),(39,lI (s.2.1.length:Int)),(40,lI (k:Int))],[(1,some (.box 52 [.val (.slice none 0 0), .val (.slice none 0 0), .val (.slice none 0 0)])),(2,some (.arr 9 .str (((Qe s).1).1))),(3,some (.arr 229 ZZ (((Qe s).1).2))),(4,some (.box 164 [.ref 2, .ref 3])),(8,some (.arr 90 QY s.2.1)),(10,some (.arr 106 UC (Q1 s.2.2.1 ((Qe s).1).2))),(11,some (.box 52 [.ref 8, .ref 12, .ref 10])),(12,some (.arr 9 .str codes))]⟩) ⟨0,List.replicate ((((Qe s).1).1).length) (Ty.zero .str),aw _,rfl,rfl,(by simp),(fun c hc=>by rw[cq hc]; exact aw _),rfl⟩ ?_ ?_
 exact wp [(1,1),(2,2),(3,3),(4,4),(8,8),(10,10),(11,11),(12,9)] ⟨rfl,rfl,rfl,rfl,rfl,rfl,rfl,(Qp (by first | rfl | simp)),trivial⟩
 rintro m_ s_ ⟨k,codes,hk6,hm7,hA,hL,hZ,rfl⟩
 iterate 4 refine w_ ?_
 cases hb8:(decide ((k:Int) < (s.2.1.length:Int)))
 have hb8':=a7 hb8
 iterate 5 refine w_ ?_
 refine lc (Qc (Qa rfl) rfl (Qb rfl) rfl Yh rfl) ?_
 iterate 3 refine w_ ?_
 subst hO
 have e9:(true:Bool)=((sgV s).2):=by
  (rw[UL ‹_› ‹_› (hA.trans (UQ (by omega)))]; done)
 exact QD _ _ [(0,8),(1,12),(2,10)] (QB rfl (QG rfl rfl Yh rfl) (Qd rfl)) (by rw[← e9] <;> rfl) ⟨(Qp (by (rw[UL ‹_› ‹_› (hA.trans (UQ (by omega)))]; done))),(Qp (by (rw[UL ‹_› ‹_› (hA.trans (UQ (by omega)))]; done))),(Qp (by (rw[UL ‹_› ‹_› (hA.trans (UQ (by omega)))]; done))),trivial⟩ rfl rfl
 have hb8':=a8 hb8
 iterate 15 refine w_ ?_
 refine lc (XK 13 (QbZ ((((Qe s).1).1).length:Int) (Q1 s.2.2.1 ((Qe s).1).2) (k:Int) (by omega) hir) Qjk ⟨_,_,rfl,(Ev.b (Qb rfl)),⟨_,_,rfl,(U3 (Qa rfl) rfl),⟨_,_,rfl,(Ev.b (Qb rfl)),rfl⟩⟩⟩ rfl rfl rfl ⟨Fresh.of rfl,trivial⟩ (nlr rfl)) ?_
 iterate 11 refine w_ ?_
 cases hb10:((YG ((((Qe s).1).1).length:Int).toNat (Q1 s.2.2.1 ((Qe s).1).2) (k:Int)).2)
 iterate 2 refine w_ ?_
 refine lc (QA JO rfl (ae.1 rfl) rfl rfl)<|lc (Qc (Qa rfl) rfl (Qb rfl) rfl Yh rfl) ?_
 iterate 2 refine w_ ?_
 refine AC.wk (QF 14 (p:=1) (off:=0) 90 QY rfl rfl (Fresh.of rfl) (nlr rfl))<|AC.wk (QF 15 (p:=1) (off:=1) 9 .str rfl rfl (Fresh.of rfl) (nlr rfl))<|AC.wk (QF 16 (p:=1) (off:=2) 106 UC rfl rfl (Fresh.of rfl) (nlr rfl))<|Q4 ?_
 subst hO
 have e11:(false:Bool)=((sgV s).2):=by
  (rw[UI (hA.trans (Qdk (by omega) ‹_›))]; done)
 exact QD _ _ [(0,14),(1,15),(2,16)] (QB rfl (QG rfl rfl Yh rfl) (Qd rfl)) (by rw[← e11] <;> rfl) ⟨(Qp (by (rw[UI (hA.trans (Qdk (by omega) ‹_›))]; rfl))),(Qp (by (rw[UI (hA.trans (Qdk (by omega) ‹_›))]; rfl))),(Qp (by (rw[UI (hA.trans (Qdk (by omega) ‹_›))]; rfl))),trivial⟩ rfl rfl
 iterate 8 refine w_ ?_
 refine Qu (fun m_ s_=>∃(i:Nat) (codes2:List ByteArray),i≤(YG (((Qe s).1.1.length:Int)).toNat (Q1 s.2.2.1 (Qe s).1.2) (k:Int)).1.length∧m_=(YG (((Qe s).1.1.length:Int)).toNat (Q1 s.2.2.1 (Qe s).1.2) (k:Int)).1.length - i∧(Kj 0 codes (YG (((Qe s).1.1.length:Int)).toNat (Q1 s.2.2.1 (Qe s).1.2) (k:Int)).1=Kj i codes2 ((YG (((Qe s).1.1.length:Int)).toNat (Q1 s.2.2.1 (Qe s).1.2) (k:Int)).1.drop i))∧(codes2.length=(Qe s).1.1.length)∧(∀c∈codes2,c.size≤300*k+i)∧s_=⟨[(2,lP 1 0),(4,lP 4 0),(6,lP 11 0),(7,lI (k:Int)),(8,lR 13),(9,lB true),(39,lI (s.2.1.length:Int)),(40,lI (k:Int)),(41,lB true),(42,lI (k:Int)),(43,PV.tup [(false,[.ref 13]),(false,[dB true])]),(44,lP 4 0),(45,lR 2),(46,lI ((((Qe s).1).1).length:Int)),(47,lP 11 2),(48,lR 10),(49,lI (k:Int)),(50,PV.tup [(false,[.ref 13]),(false,[dB true])]),(51,lR 13),(52,lB true),(53,lB true),(54,lB (!true)),(56,lR 13),(57,lI (((YG ((((Qe s).1).1).length:Int).toNat (Q1 s.2.2.1 ((Qe s).1).2) (k:Int)).1).length:Int)),(58,lI (i:Int))],[(1,some (.box 52 [.val (.slice none 0 0), .val (.slice none 0 0), .val (.slice none 0 0)])),(2,some (.arr 9 .str (((Qe s).1).1))),(3,some (.arr 229 ZZ (((Qe s).1).2))),(4,some (.box 164 [.ref 2, .ref 3])),(8,some (.arr 90 QY s.2.1)),(10,some (.arr 106 UC (Q1 s.2.2.1 ((Qe s).1).2))),(11,some (.box 52 [.ref 8, .ref 17, .ref 10])),(13,some (.arr 5 .u8 ((YG ((((Qe s).1).1).length:Int).toNat (Q1 s.2.2.1 ((Qe s).1).2) (k:Int)).1))),(17,some (.arr 9 .str codes2))]⟩) ⟨0,codes,aw _,rfl,rfl,hL,hZ,rfl⟩ ?_ ?_
 exact wo [(1,1),(2,2),(3,3),(4,4),(8,8),(10,10),(11,11),(13,13),(17,12)]
 rintro m_ s_ ⟨i,codes2,hk12,hm13,hA2,hL2,hZ2,rfl⟩
 have hvl:(YG (((Qe s).1.1.length:Int)).toNat (Q1 s.2.2.1 (Qe s).1.2) (k:Int)).1.length≤(Qe s).1.1.length:=QiP hir (k:Int)
 iterate 4 refine w_ ?_
 cases hb14:(decide ((i:Int) < (((YG ((((Qe s).1).1).length:Int).toNat (Q1 s.2.2.1 ((Qe s).1).2) (k:Int)).1).length:Int)))
 have hb14':=a7 hb14
 iterate 6 refine w_ ?_
 refine Qm<|QV ⟨k+1,codes2,by omega,rfl,(by rw[hA,Qpj (by omega) ‹_›]; exact congrArg _ (hA2.trans (Qh9 (by omega)))),hL2,(fun c hc=>b5 (hZ2 c hc) (by have hvl:(YG (((Qe s).1.1.length:Int)).toNat (Q1 s.2.2.1 (Qe s).1.2) (k:Int)).1.length≤(Qe s).1.1.length:=QiP hir (k:Int); omega)),rfl⟩ (by omega) ?_
 exact wo [(1,1),(2,2),(3,3),(4,4),(8,8),(10,10),(11,11),(12,17)]
 have hb14':=a8 hb14
 iterate 6 refine w_ ?_
 refine lc (Qw (e:= .u8) (Qa rfl) rfl (Qa rfl) Ze Q2 rfl (by omega) (by first | omega | (simp only[aq]; omega))) ?_
 obtain ⟨x15,hx16⟩:=gx ((YG ((((Qe s).1).1).length:Int).toNat (Q1 s.2.2.1 ((Qe s).1).2) (k:Int)).1) i
 refine lc (QP (e:= .u8) (Qa rfl) rfl hx16 rfl Q2 rfl rfl) ?_
 iterate 3 refine w_ ?_
 obtain ⟨x17,hx18⟩:=gx codes2 i
 have hczx17:=hZ2 _ (ai hx18)
 refine dv [io 63 (lP 11 1),io 64 (lR 17),io 65 (lI (i:Int)),io 66 (lf (.ept 17 1 i 0)),io 67 (lf (dS x17)),io 68 (lf (.dat .u8 x15)),⟨some 69,lR 18,[(18,some (.arr 5 .u8 ([x15])))]⟩,io 70 (lf (dS (⟨#[x15]⟩:ByteArray))),io 71 (lf (dS (x17++(⟨#[x15]⟩:ByteArray)))),io 72 (lf (.ept 17 1 i 0)),⟨none,lf (.val undef),[(17,some (.arr 9 .str (codes2.set i (x17++(⟨#[x15]⟩:ByteArray)))))]⟩] [0,1,0,7,15,0,32,96,255,511,1023] mixed rfl (by kernel_rfl) ⟨dxf Uf rfl rfl rfl,dxl XS rfl rfl rfl rfl rfl,dxm rfl rfl,fun _ h_=>ac (Qw (e:= .str) (h_.v rfl) (h_.en 17 rfl) (h_.v rfl) Zo Zg rfl (by omega) (by first | omega | (simp only[aq]; omega))) rfl,fun _ h_=>ac (QP (e:= .str) (h_.v rfl) (h_.n 17 rfl) hx18 rfl Zg rfl rfl) rfl,dxm rfl rfl,fun _ h_=>ac (Qf 18 (e:= .u8) Ze Q2 QfO rfl ⟨_,_,rfl,(h_.w rfl),rfl⟩ (ae.1 rfl) ⟨_,_,_,_,rfl,⟨rfl,rfl⟩,⟨rfl,rfl⟩,rfl⟩ (by decide) rfl rfl (h_.fr 18 rfl) (nlr rfl)) rfl,fun _ h_=>ac (Xp (ys:=[x15]) (Uq (h_.v rfl) (h_.n 18 rfl)) Ze JA ZS rfl) rfl,fun _ h_=>ac (Z9 (h_.v rfl) (h_.v rfl) rfl (by simp only[XZ]; omega)) rfl,fun _ h_=>ac (Qw (e:= .str) (h_.v rfl) (h_.en 17 rfl) (h_.v rfl) Zo Zg rfl (by omega) (by first | omega | (simp only[aq]; omega))) rfl,fun _ h_=>ac (Q6 (e:= .str) (z':=x17++(⟨#[x15]⟩:ByteArray)) (h_.v rfl) (h_.n 17 rfl) hx18 rfl (h_.w rfl) rfl Zg rfl rfl) rfl,⟨⟩⟩ ?_
 iterate 4 refine w_ ?_
 refine Qm<|QV ⟨i+1,(codes2.set i (x17++(⟨#[x15]⟩:ByteArray))),by omega,rfl,hA2.trans (Qck hx16 hx18),(by rw[aq]; exact hL2),(QdU hZ2 hx18 (by rw[aV]; exact aL _)),rfl⟩ (by omega) ?_
 exact wp [(1,1),(2,2),(3,3),(4,4),(8,8),(10,10),(11,11),(13,13),(17,17)] ⟨rfl,rfl,rfl,rfl,rfl,rfl,rfl,rfl,(Qp (by first | rfl | simp)),trivial⟩
 have hb4':=a8 hb4
 iterate 2 refine w_ ?_
 refine lc (QA JO rfl (ae.1 rfl) rfl rfl)<|lc (Qc (Qa rfl) rfl (Qb rfl) rfl Yh rfl) ?_
 iterate 2 refine w_ ?_
 refine AC.wk (QF 19 (p:=1) (off:=0) 90 QY rfl rfl (Fresh.of rfl) (nlr rfl))<|AC.wk (QF 20 (p:=1) (off:=1) 9 .str rfl rfl (Fresh.of rfl) (nlr rfl))<|AC.wk (QF 21 (p:=1) (off:=2) 106 UC rfl rfl (Fresh.of rfl) (nlr rfl))<|Q4 ?_
 subst hO
 have e19:(false:Bool)=((sgV s).2):=by
  (rw[UP ‹_›]; done)
 exact QD _ _ [(0,19),(1,20),(2,21)] (QB rfl (QG rfl rfl Yh rfl) (Qd rfl)) (by rw[← e19] <;> rfl) ⟨(Qp (by (rw[UP ‹_›]; rfl))),(Qp (by (rw[UP ‹_›]; rfl))),(Qp (by (rw[UP ‹_›]; rfl))),trivial⟩ rfl rfl
theorem Ws (s:(Int×(List (List Int×List Int)))×(List (ByteArray×Int))×(List (Int×Bool))×ByteArray)[∀s,Decidable (StgOk s)]:FC Tryz.prog 106 [(true,[dI s.1.1, .dat QZ s.1.2, .dat QJ s.2.1, .dat QR s.2.2.1,dS s.2.2.2])] [] 0 (Is (PV.tup [(true,[.ref 0, .ref 1, .ref 2]),(false,[dB ((sgV s).2)])]) [(0,some (.arr 90 QY (((sgV s).1).1))),(1,some (.arr 9 .str (((sgV s).1).2.1))),(2,some (.arr 106 UC (((sgV s).1).2.2)))]):=by
 refine QO Tryz.func106 rfl rfl Tryz.ntmps106 fun O_ hO w0_ N0_ X_ h0_ f0_=> ?_
 refine AC.fact (QI (x:= .tmp 0) (i:=0) (Qb rfl) rfl) fun hi1=> ?_
 refine w_ ?_
 refine lc (Qy 0 (Qb rfl) rfl rfl (Fresh.of rfl) (nlr rfl))<|lc (Qj 1 QgX U5 rfl rfl (Fresh.of rfl) (nlr rfl)) ?_
 iterate 4 refine w_ ?_
 refine lc (Q8 2 (VF s) QaD ⟨_,_,rfl,(Qb rfl),rfl⟩ rfl rfl ⟨Fresh.of rfl,Fresh.of rfl,trivial⟩ (nlr rfl)) ?_
 iterate 3 refine w_ ?_
 refine lc (Qj 4 QeK Wf rfl rfl (Fresh.of rfl) (nlr rfl))<|lc (Qc (Qa rfl) rfl (Qb rfl) rfl ZM rfl) ?_
 iterate 7 refine w_ ?_
 cases hb2:((Qe s).2)
 iterate 15 refine w_ ?_
 refine lc (QA JO rfl (ae.1 rfl) rfl rfl)<|lc (Qc (Qa rfl) rfl (Qb rfl) rfl Yh rfl) ?_
 iterate 2 refine w_ ?_
 refine AC.wk (QF 5 (p:=1) (off:=0) 90 QY rfl rfl (Fresh.of rfl) (nlr rfl))<|AC.wk (QF 6 (p:=1) (off:=1) 9 .str rfl rfl (Fresh.of rfl) (nlr rfl))<|AC.wk (QF 7 (p:=1) (off:=2) 106 UC rfl rfl (Fresh.of rfl) (nlr rfl))<|Q4 ?_
 subst hO
 have e3:(false:Bool)=((sgV s).2):=by
  (rw[VV ‹_›]; done)
 exact QD _ _ [(0,5),(1,6),(2,7)] (QB rfl (QG rfl rfl Yh rfl) (Qd rfl)) (by rw[← e3] <;> rfl) ⟨(Qp (by (rw[VV ‹_›]; rfl))),(Qp (by (rw[VV ‹_›]; rfl))),(Qp (by (rw[VV ‹_›]; rfl))),trivial⟩ rfl rfl
 iterate 2 refine w_ ?_
 refine lgy rfl rfl (QcB 8 (QcI s ((Qe s).1) (ZX (s:=s) ‹_›).2.2.2.2.1 (by have:=(ZX (s:=s) ‹_›).2.2.1; omega) (by have:=QeQ (ZX (s:=s) ‹_›).1.sigs; omega)) QkD ⟨_,_,rfl,(Ev.b (Qb rfl)),⟨_,_,rfl,(UM (Qb rfl) ⟨_,_,rfl, .inr ⟨_,_,_,_,rfl,rfl,rfl⟩,⟨_,_,rfl, .inr ⟨_,_,_,_,rfl,rfl,rfl⟩,rfl⟩⟩),rfl⟩⟩ rfl (Fresh.of rfl) (nlr rfl)) ?_
 iterate 4 refine w_ ?_
 cases hb4:(decide (0 < ((WR ((Qe s).1).1.length (Q1 s.2.2.1 ((Qe s).1).2) s.2.1.length).length:Int)))
 have hb4':=a7 hb4
 iterate 6 refine w_ ?_
 cases hb5:(decide (4000 < ((((Qe s).1).2).length:Int)))
 have hb5':=a7 hb5
 iterate 2 refine w_ ?_
 obtain ⟨hsg,hN1,hN2,hNd,hMv,hMl⟩:=ZX (s:=s) ‹_›
 have hir:=Um (ls:=s.2.2.1) hMv
 have hsl:=QeQ hsg.sigs
 refine dw [⟨some 36,lR 9,[(9,some (.arr 90 QY ([])))]⟩,io 37 (lP 0 2),io 38 (lf (.dat QJ s.2.1)),⟨some 39,lR 10,[(10,some (.arr 90 QY (([])++s.2.1))),(9,none)]⟩,io 40 (lP 4 0),io 41 (lR 2),io 42 (lI ((((Qe s).1).1).length:Int)),⟨some 43,lR 11,[(11,some (.arr 9 .str (List.replicate ((((Qe s).1).1).length) (Ty.zero .str))))]⟩,io 44 (ag [.ref 10, .ref 11, .val (.slice none 0 0)]),⟨some 6,lP 12 0,[(12,some (.box 52 [.val (.slice none 0 0), .val (.slice none 0 0), .val (.slice none 0 0)]))]⟩,⟨none,lf (.val undef),[(12,some (.box 52 [.ref 10, .ref 11, .val (.slice none 0 0)]))]⟩] [0,0,2,7,0,16,48,112,255,0,1023] mixed rfl (by kernel_rfl) ⟨fun _ h_=>ac (Qf 9 (e:=QY) YE YJ UZ rfl rfl (ae.1 rfl) ⟨rfl,rfl⟩ (by decide) rfl rfl (h_.fr 9 rfl) (nlr rfl)) rfl,dxf XH rfl rfl rfl,dxl Ub rfl rfl rfl rfl rfl,fun _ h_=>ac (Zp 10 (h_.v rfl) (h_.en 9 rfl) (Evl.rep (h_.v rfl)) rfl YE QaO (by first | omega | (simp only[aa,av,ab,ah,aj]; omega) | (simp only[aa,ay,ab,ah,aj]; omega)) rfl (h_.fr 10 rfl) (nlr rfl)) rfl,dxf V5 rfl rfl rfl,dxl XS rfl rfl rfl rfl rfl,fun _ h_=>ac (Hh (h_.v rfl) (h_.n 2 rfl) rfl Zo) rfl,fun _ h_=>ac (Kg 11 (e:= .str) (n:=(((Qe s).1).1).length) (h_.v rfl) (h_.v rfl) Zo QqX rfl (by omega) (by omega) rfl (h_.fr 11 rfl) (nlr rfl)) rfl,fun _ h_=>ac (QA JO ⟨_,_,rfl,(h_.w rfl),⟨_,_,rfl,(h_.w rfl),rfl⟩⟩ (ae.1 (by simp only[ZB,X7,aQ,b8]; rw[(h_.en 10 rfl),(h_.en 11 rfl)]; rfl)) rfl rfl) rfl,fun _ h_=>ac (Qj 12 QgX U5 rfl rfl (h_.fr 12 rfl) (nlr rfl)) rfl,fun _ h_=>ac (Qc (h_.v rfl) (h_.en 12 rfl) (h_.w rfl) (by simp only[ZB,X7,aQ,b8]; rw[(h_.en 10 rfl),(h_.en 11 rfl)]; rfl) Yh rfl) rfl,⟨⟩⟩ ?_
 iterate 4 refine w_ ?_
 refine AL.fact (Qo (x:= .tmp 46) (Qa rfl)) fun hl6=> ?_
 iterate 4 refine w_ ?_
 refine Qu (fun m_ s_=>∃(k:Nat) (codes:List ByteArray),k≤s.2.1.length∧m_=s.2.1.length - k∧(goS (Qe s).1.1.length (Q1 s.2.2.1 (Qe s).1.2) s.2.1.length 0 (List.replicate (Qe s).1.1.length ByteArray.empty)=goS (Qe s).1.1.length (Q1 s.2.2.1 (Qe s).1.2) (s.2.1.length - k) k codes)∧(codes.length=(Qe s).1.1.length)∧(∀c∈codes,c.size≤300*k)∧s_=⟨[(1,lP 0 0),(2,lP 1 0),(3,lB false),(4,lP 4 0),(6,lP 12 0),(47,lI (s.2.1.length:Int)),(48,lI (k:Int))],[(0,some (.box 29 [dI s.1.1, .dat QZ s.1.2, .dat QJ s.2.1, .dat QR s.2.2.1,dS s.2.2.2])),(1,some (.box 52 [.val (.slice none 0 0), .val (.slice none 0 0), .val (.slice none 0 0)])),(2,some (.arr 9 .str (((Qe s).1).1))),(3,some (.arr 229 ZZ (((Qe s).1).2))),(4,some (.box 164 [.ref 2, .ref 3])),(10,some (.arr 90 QY (([])++s.2.1))),(12,some (.box 52 [.ref 10, .ref 13, .val (.slice none 0 0)])),(13,some (.arr 9 .str codes))]⟩) ⟨0,List.replicate ((((Qe s).1).1).length) (Ty.zero .str),aw _,rfl,rfl,(by simp),(fun c hc=>by rw[cq hc]; exact aw _),rfl⟩ ?_ ?_
 exact wp [(0,0),(1,1),(2,2),(3,3),(4,4),(10,10),(12,12),(13,11)] ⟨rfl,rfl,rfl,rfl,rfl,rfl,rfl,(Qp (by first | rfl | simp)),trivial⟩
 rintro m_ s_ ⟨k,codes,hk7,hm8,hA,hL,hZ,rfl⟩
 iterate 4 refine w_ ?_
 cases hb9:(decide ((k:Int) < (s.2.1.length:Int)))
 have hb9':=a7 hb9
 iterate 11 refine w_ ?_
 refine AC.wk (QF 14 (p:=12) (off:=2) 106 UC rfl rfl (Fresh.of rfl) (nlr rfl)) ?_
 refine Qu (fun m_ s_=>∃(j:Nat),j≤(((Qe s).1).2).length∧m_=(((Qe s).1).2).length - j∧s_=⟨[(1,lP 0 0),(2,lP 1 0),(3,lB false),(6,lP 12 0),(82,lR 3),(83,lI ((((Qe s).1).2).length:Int)),(84,lI (j:Int))],[(0,some (.box 29 [dI s.1.1, .dat QZ s.1.2, .dat QJ s.2.1, .dat QR s.2.2.1,dS s.2.2.2])),(1,some (.box 52 [.val (.slice none 0 0), .val (.slice none 0 0), .val (.slice none 0 0)])),(3,some (.arr 229 ZZ (((Qe s).1).2))),(10,some (.arr 90 QY (([])++s.2.1))),(12,some (.box 52 [.ref 10, .ref 13, .ref 15])),(13,some (.arr 9 .str codes)),(15,some (.arr 106 UC ((((Qe s).1).2.take j).map (Qel s.2.2.1))))]⟩) ⟨0,aw _,rfl,rfl⟩ ?_ ?_
 exact wp [(0,0),(1,1),(3,3),(10,10),(12,12),(13,13),(15,14)] ⟨rfl,rfl,rfl,rfl,rfl,rfl,(Qp (by first | rfl | simp)),trivial⟩
 rintro m_ s_ ⟨j,hk10,hm11,rfl⟩
 iterate 4 refine w_ ?_
 cases hb12:(decide ((j:Int) < ((((Qe s).1).2).length:Int)))
 have hb12':=a7 hb12
 iterate 5 refine w_ ?_
 refine lc (Qc (Qa rfl) rfl (Qb rfl) rfl Yh rfl) ?_
 iterate 3 refine w_ ?_
 subst hO
 have e13:(true:Bool)=((sgV s).2):=by
  (rw[UL ‹_› ‹_› (hA.trans (UQ (by omega)))]; done)
 exact QD _ _ [(0,10),(1,13),(2,15)] (QB rfl (QG rfl rfl Yh rfl) (Qd rfl)) (by rw[← e13] <;> rfl) ⟨(Qp (by (rw[UL ‹_› ‹_› (hA.trans (UQ (by omega)))]; rfl))),(Qp (by (rw[UL ‹_› ‹_› (hA.trans (UQ (by omega)))]; done))),(Qp (by (rw[UL ‹_› ‹_› (hA.trans (UQ (by omega))),ZF (by omega)]; rfl))),trivial⟩ rfl rfl
 have hb12':=a8 hb12
 iterate 5 refine w_ ?_
 refine lc (Qw (e:=ZZ) (Qa rfl) rfl (Qa rfl) Ys Yc rfl (by omega) (by first | omega | (simp only[aq]; omega))) ?_
 obtain ⟨mv,hx15⟩:=gx (((Qe s).1).2) j
 have hrm:=(hMv _ (ai hx15)).2.1
 refine lc (QhT (e:=ZZ) (Qa rfl) rfl hx15 rfl Yc rfl rfl)<|lc (Qj 16 ZZ Xm rfl rfl (Fresh.of rfl) (nlr rfl))<|lc (Qc (Qa rfl) rfl (Qb rfl) rfl Yc rfl) ?_
 iterate 6 refine w_ ?_
 refine AL.fact (QC (x:= .tmp 91) (Qa rfl)) fun hi16=> ?_
 obtain ⟨x17,hx18⟩:=gx s.2.2.1 ((mv.2.1).toNat)
 have hla:=Qdm hx18
 refine lc (Qh (Qa rfl) (Qa rfl) Yq ZO rfl (by omega) hx18) ?_
 refine w_ ?_
 refine lc (Qj 17 Q5 WF rfl rfl (Fresh.of rfl) (nlr rfl))<|lc (Qc (Qa rfl) rfl (Qb rfl) rfl ZO rfl) ?_
 iterate 6 refine w_ ?_
 refine AL.fact (QC (x:= .tmp 97) (Qa rfl)) fun hi19=> ?_
 iterate 2 refine w_ ?_
 refine AL.fact (QC (x:= .tmp 99) (Qa rfl)) fun hi20=> ?_
 iterate 4 refine w_ ?_
 refine AL.fact (QC (x:= .tmp 103) (Qa rfl)) fun hi21=>lc (QA Ql5 ⟨_,_,rfl,(Qb rfl),⟨_,_,rfl,(Qb rfl),⟨_,_,rfl,(Qb rfl),⟨_,_,rfl,(Qb rfl),rfl⟩⟩⟩⟩ (ae.1 rfl) rfl rfl)<|lc (Qf 18 (e:=UC) JG VU K0 rfl ⟨_,_,rfl,(Qb rfl),rfl⟩ (ae.1 rfl) ⟨_,_,_,_,rfl,⟨[dI mv.1],[dI x17.1,dB x17.2,dI mv.2.2],_,_,_,_,rfl,rfl,⟨rfl,rfl⟩,⟨[dI x17.1],[dB x17.2,dI mv.2.2],_,_,_,_,rfl,rfl,⟨rfl,rfl⟩,⟨[dB x17.2],[dI mv.2.2],_,_,_,_,rfl,rfl,⟨rfl,rfl⟩,⟨rfl,rfl⟩,rfl⟩,rfl⟩,rfl⟩,⟨rfl,rfl⟩,rfl⟩ (by decide) rfl rfl (Fresh.of rfl) (nlr rfl))<|lc (QH 19 (Qa rfl) rfl (Qa rfl) rfl rfl JG Qlr (by first | omega | (simp only[aa,av,ab,ah,aj]; omega) | (simp only[aa,ay,ab,ah,aj]; omega)) rfl (Fresh.of rfl) (nlr rfl)) ?_
 refine w_ ?_
 refine lc (Qc (Qa rfl) rfl (Qb rfl) rfl QrX rfl)<|Qm ?_
 iterate 4 refine w_ ?_
 refine Qm<|QV ⟨j+1,by omega,rfl,rfl⟩ (by omega) ?_
 exact wp [(0,0),(1,1),(3,3),(10,10),(12,12),(13,13),(15,19)] ⟨rfl,rfl,rfl,rfl,rfl,rfl,(Qp (by rw[Q0 hx15]; simp[Qel,hla])),trivial⟩
 have hb9':=a8 hb9
 iterate 12 refine w_ ?_
 refine lc (Yv (Kc s ((Qe s).1) (k:Int) hMv (by omega)) QdI ⟨_,_,rfl,(Ev.b (Qb rfl)),⟨_,_,rfl,(UM (Qb rfl) ⟨_,_,rfl, .inr ⟨_,_,_,_,rfl,rfl,rfl⟩,⟨_,_,rfl, .inr ⟨_,_,_,_,rfl,rfl,rfl⟩,rfl⟩⟩),⟨_,_,rfl,(Ev.b (Qb rfl)),rfl⟩⟩⟩ rfl rfl rfl) ?_
 iterate 6 refine w_ ?_
 refine YY ?_
 obtain ⟨us,hu1,hu2,hu3,hu4⟩:=Qrk (sig:=(k:Int)) hir (Qi5 (m:=s.2.1.length) ‹_› (by omega))
 iterate 7 refine w_ ?_
 refine Qu (fun m_ s_=>∃(i:Nat) (codes2:List ByteArray),i≤codes.length∧m_=codes.length - i∧(Kj 0 codes (us.map q0)=Kj i codes2 ((us.map q0).drop i))∧(codes2.length=(Qe s).1.1.length)∧(∀c∈codes2,c.size≤300*k+i)∧s_=⟨[(1,lP 0 0),(2,lP 1 0),(3,lB false),(4,lP 4 0),(6,lP 12 0),(7,lI (k:Int)),(8,lf (dS ((l5V ((Qe s).1).1.length (Q1 s.2.2.1 ((Qe s).1).2) (k:Int)).1))),(47,lI (s.2.1.length:Int)),(48,lI (k:Int)),(49,lB true),(50,lI (k:Int)),(51,PV.tup [(false,[dS ((l5V ((Qe s).1).1.length (Q1 s.2.2.1 ((Qe s).1).2) (k:Int)).1)]),(false,[dB ((l5V ((Qe s).1).1.length (Q1 s.2.2.1 ((Qe s).1).2) (k:Int)).2)])]),(52,ag [dI s.1.1, .dat QZ s.1.2, .dat QJ s.2.1, .dat QR s.2.2.1,dS s.2.2.2]),(53,ag [.ref 2, .ref 3]),(54,lI (k:Int)),(55,PV.tup [(false,[dS ((l5V ((Qe s).1).1.length (Q1 s.2.2.1 ((Qe s).1).2) (k:Int)).1)]),(false,[dB ((l5V ((Qe s).1).1.length (Q1 s.2.2.1 ((Qe s).1).2) (k:Int)).2)])]),(56,lf (dS ((l5V ((Qe s).1).1.length (Q1 s.2.2.1 ((Qe s).1).2) (k:Int)).1))),(57,lB ((l5V ((Qe s).1).1.length (Q1 s.2.2.1 ((Qe s).1).2) (k:Int)).2)),(58,lP 12 1),(60,lI (codes.length:Int)),(61,lI (i:Int))],[(0,some (.box 29 [dI s.1.1, .dat QZ s.1.2, .dat QJ s.2.1, .dat QR s.2.2.1,dS s.2.2.2])),(1,some (.box 52 [.val (.slice none 0 0), .val (.slice none 0 0), .val (.slice none 0 0)])),(2,some (.arr 9 .str (((Qe s).1).1))),(3,some (.arr 229 ZZ (((Qe s).1).2))),(4,some (.box 164 [.ref 2, .ref 3])),(10,some (.arr 90 QY (([])++s.2.1))),(12,some (.box 52 [.ref 10, .ref 20, .val (.slice none 0 0)])),(20,some (.arr 9 .str codes2))]⟩) ⟨0,codes,aw _,rfl,rfl,hL,hZ,rfl⟩ ?_ ?_
 exact wo [(0,0),(1,1),(2,2),(3,3),(4,4),(10,10),(12,12),(20,13)]
 rintro m_ s_ ⟨i,codes2,hk22,hm23,hA2,hL2,hZ2,rfl⟩
 iterate 4 refine w_ ?_
 cases hb24:(decide ((i:Int) < (codes.length:Int)))
 have hb24':=a7 hb24
 iterate 6 refine w_ ?_
 refine Qm<|QV ⟨k+1,codes2,by omega,rfl,(by rw[hA,Qpj (by omega) (by rw[hu4])]; exact congrArg _ (by rw[hu4]; exact hA2.trans (Qoh (by omega)))),hL2,(fun c hc=>b5 (hZ2 c hc) (by omega)),rfl⟩ (by omega) ?_
 exact wo [(0,0),(1,1),(2,2),(3,3),(4,4),(10,10),(12,12),(13,20)]
 have hb24':=a8 hb24
 iterate 13 refine w_ ?_
 refine lc (show Does _ _ _ _ (St.put _ 68 (lf (dS (((l5V ((Qe s).1).1.length (Q1 s.2.2.1 ((Qe s).1).2) (k:Int)).1).extract ((i:Int)).toNat ((i:Int)+1).toNat)))) from ZW (l:=(some (i:Int))) (h:=(some ((i:Int)+1))) (Qa rfl) (by exact (Qa rfl)) (by exact (Qa rfl)) ZS rfl (by first | omega | (simp only[ao,ak]; omega)) (by first | omega | (simp only[ao,ak]; omega)) (by first | omega | (simp only[ao,ak]; omega))) ?_
 iterate 7 refine w_ ?_
 cases hb25:(decide ((((l5V ((Qe s).1).1.length (Q1 s.2.2.1 ((Qe s).1).2) (k:Int)).1).extract ((i:Int)).toNat ((i:Int)+1).toNat)=(⟨#[63]⟩:ByteArray)))
 have hb25':=a7 hb25
 iterate 6 refine w_ ?_
 refine lc (Qw (e:= .str) (Qa rfl) rfl (Qa rfl) Zo Zg rfl (by omega) (by first | omega | (simp only[aq]; omega))) ?_
 obtain ⟨x26,hx27⟩:=gx codes2 i
 have hczx26:=hZ2 _ (ai hx27)
 refine lc (QP (e:= .str) (Qa rfl) rfl hx27 rfl Zg rfl rfl) ?_
 refine w_ ?_
 refine lc (Z9 (Qa rfl) (Qa rfl) rfl (by first | (simp only[XZ]; omega) | (refine b5 (Nat.add_le_add_left (Qc1 _ i) _) ?_; omega))) ?_
 refine lc (Qw (e:= .str) (Qa rfl) rfl (Qa rfl) Zo Zg rfl (by omega) (by first | omega | (simp only[aq]; omega)))<|lc (Q6 (e:= .str) (z':=x26++(((l5V ((Qe s).1).1.length (Q1 s.2.2.1 ((Qe s).1).2) (k:Int)).1).extract ((i:Int)).toNat ((i:Int)+1).toNat)) (Qa rfl) rfl hx27 rfl (Qb rfl) rfl Zg rfl rfl)<|Qm ?_
 iterate 4 refine w_ ?_
 refine Qm<|QV ⟨i+1,(codes2.set i (x26++(((l5V ((Qe s).1).1.length (Q1 s.2.2.1 ((Qe s).1).2) (k:Int)).1).extract ((i:Int)).toNat ((i:Int)+1).toNat))),by omega,rfl,by first | exact hA2.trans (Qn3 hu1 (by omega) ‹_› hx27) | exact hA2.trans (Qoe hu1 (by omega) ‹_› hx27),(by rw[aq]; exact hL2),(QdU hZ2 hx27 (by rw[aV]; first | exact aL _ | exact Nat.add_le_add_left (Qc1 _ _) _)),rfl⟩ (by omega) ?_
 exact wp [(0,0),(1,1),(2,2),(3,3),(4,4),(10,10),(12,12),(20,20)] ⟨rfl,rfl,rfl,rfl,rfl,rfl,rfl,(Qp (by first | rfl | simp)),trivial⟩
 have hb25':=a8 hb25
 iterate 8 refine w_ ?_
 refine lc (Qw (e:= .str) (Qa rfl) rfl (Qa rfl) Zo Zg rfl (by omega) (by first | omega | (simp only[aq]; omega))) ?_
 obtain ⟨x28,hx29⟩:=gx codes2 i
 have hczx28:=hZ2 _ (ai hx29)
 refine lc (QP (e:= .str) (Qa rfl) rfl hx29 rfl Zg rfl rfl) ?_
 refine w_ ?_
 refine lc (Z9 (Qa rfl) (Qa rfl) rfl (by first | (simp only[XZ]; omega) | (refine b5 (Nat.add_le_add_left (Qc1 _ i) _) ?_; omega))) ?_
 refine lc (Qw (e:= .str) (Qa rfl) rfl (Qa rfl) Zo Zg rfl (by omega) (by first | omega | (simp only[aq]; omega)))<|lc (Q6 (e:= .str) (z':=x28++(⟨#[48]⟩:ByteArray)) (Qa rfl) rfl hx29 rfl (Qb rfl) rfl Zg rfl rfl)<|Qm ?_
 iterate 4 refine w_ ?_
 refine Qm<|QV ⟨i+1,(codes2.set i (x28++(⟨#[48]⟩:ByteArray))),by omega,rfl,by first | exact hA2.trans (Qn3 hu1 (by omega) ‹_› hx29) | exact hA2.trans (Qoe hu1 (by omega) ‹_› hx29),(by rw[aq]; exact hL2),(QdU hZ2 hx29 (by rw[aV]; first | exact aL _ | exact Nat.add_le_add_left (Qc1 _ _) _)),rfl⟩ (by omega) ?_
 exact wp [(0,0),(1,1),(2,2),(3,3),(4,4),(10,10),(12,12),(20,20)] ⟨rfl,rfl,rfl,rfl,rfl,rfl,rfl,(Qp (by first | rfl | simp)),trivial⟩
 have hb5':=a8 hb5
 iterate 2 refine w_ ?_
 refine lc (QA JO rfl (ae.1 rfl) rfl rfl)<|lc (Qc (Qa rfl) rfl (Qb rfl) rfl Yh rfl) ?_
 iterate 2 refine w_ ?_
 refine AC.wk (QF 21 (p:=1) (off:=0) 90 QY rfl rfl (Fresh.of rfl) (nlr rfl))<|AC.wk (QF 22 (p:=1) (off:=1) 9 .str rfl rfl (Fresh.of rfl) (nlr rfl))<|AC.wk (QF 23 (p:=1) (off:=2) 106 UC rfl rfl (Fresh.of rfl) (nlr rfl))<|Q4 ?_
 subst hO
 have e30:(false:Bool)=((sgV s).2):=by
  (rw[UP ‹_›]; done)
 exact QD _ _ [(0,21),(1,22),(2,23)] (QB rfl (QG rfl rfl Yh rfl) (Qd rfl)) (by rw[← e30] <;> rfl) ⟨(Qp (by (rw[UP ‹_›]; rfl))),(Qp (by (rw[UP ‹_›]; rfl))),(Qp (by (rw[UP ‹_›]; rfl))),trivial⟩ rfl rfl
 have hb4':=a8 hb4
 iterate 8 refine w_ ?_
 refine lc (QA JO rfl (ae.1 rfl) rfl rfl)<|lc (Qc (Qa rfl) rfl (Qb rfl) rfl Yh rfl) ?_
 iterate 2 refine w_ ?_
 refine AC.wk (QF 24 (p:=1) (off:=0) 90 QY rfl rfl (Fresh.of rfl) (nlr rfl))<|AC.wk (QF 25 (p:=1) (off:=1) 9 .str rfl rfl (Fresh.of rfl) (nlr rfl))<|AC.wk (QF 26 (p:=1) (off:=2) 106 UC rfl rfl (Fresh.of rfl) (nlr rfl))<|Q4 ?_
 subst hO
 have e31:(false:Bool)=((sgV s).2):=by
  (rw[UI (K7 (Um (ZX ‹_›).2.2.2.2.1) ‹_›)]; done)
 exact QD _ _ [(0,24),(1,25),(2,26)] (QB rfl (QG rfl rfl Yh rfl) (Qd rfl)) (by rw[← e31] <;> rfl) ⟨(Qp (by (rw[UI (K7 (Um (ZX ‹_›).2.2.2.2.1) ‹_›)]; rfl))),(Qp (by (rw[UI (K7 (Um (ZX ‹_›).2.2.2.2.1) ‹_›)]; rfl))),(Qp (by (rw[UI (K7 (Um (ZX ‹_›).2.2.2.2.1) ‹_›)]; rfl))),trivial⟩ rfl rfl
end Go.Proofs.YtjaadeknhofhpaaGreat
