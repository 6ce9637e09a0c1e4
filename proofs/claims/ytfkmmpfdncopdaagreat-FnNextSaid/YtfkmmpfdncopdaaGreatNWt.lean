/- Walks over abstract states: the state graph, both sides. -/
import Derived.Test.YtfkmmpfdncopdaaGreatNWm
import Derived.Test.YtfkmmpfdncopdaaGreatNWo
set_option linter.unusedSimpArgs false
set_option linter.unusedVariables false
set_option linter.unusedSectionVars false
namespace Go.Proofs.YtfkmmpfdncopdaaGreat
open Go.RowKit
set_option maxRecDepth 100000
set_option maxHeartbeats 4000000
structure Rok (m:Nat) (st:RS):Prop where
  one:1≤st.1.length
  most:st.1.length≤300
  nd:st.1.Nodup
  mv:∀v∈st.2.1,MvOk st.1.length m v
section
variable {n:Y0}{k f:Nat}{mk:ByteArray}{t:Int}{ts:List Int}{st:RS}{s:Zq}{l:List ByteArray}{x:ByteArray}
theorem Qmd (h:0≤Yg l x):Yg l x < l.length:=by
  unfold Yg Q4 at h ⊢
  cases hf:l.findIdx? (fun y=>decide (y=x)) with
  | none=>rw[hf] at h; simp at h
  | some i=>
    obtain ⟨h1,_⟩:=bT.1 hf
    simp; omega
theorem QkD (h:¬0≤Yg l x):x∉l:=fun hm=>by
  unfold Yg Q4 at h
  cases hf:l.findIdx? (fun y=>decide (y=x)) with
  | none=>
    have:=List.findIdx?_eq_none_iff.1 hf x hm
    simp at this
  | some i=>rw[hf] at h; simp at h
theorem MvOk.grow {a b m:Nat}{v:DMv}(h:MvOk a m v)(hab:a≤b):MvOk b m v:=by
  obtain ⟨⟨h1,h2⟩,h3,h4,h5⟩:=h
  exact ⟨⟨h1,by omega⟩,h3,h4,by omega⟩
theorem Qqx (hk:k < st.1.length)(hts:∀t∈ts,0≤t∧t < n.2.length)(h:Rok n.2.length st):Rok n.2.length (goT n k mk ts st).1∧(goT n k mk ts st).1.2.1.length≤st.2.1.length+ts.length∧st.1.length≤(goT n k mk ts st).1.1.length:=by
  induction ts generalizing st with
  | nil=>rw[goT]; exact ⟨h,by simp,aO _⟩
  | cons t ts ih=>
    have ht:=hts t (az ..)
    have hts':∀t∈ts,0≤t∧t < n.2.length:=fun t h=>hts t (ax _ h)
    rw[goT]
    split
    · exact ⟨h,by simp,aO _⟩
    · split
      · rename_i h0
        have hlt:=Qmd h0
        obtain ⟨h1,h2,h3⟩:=ih (st:=(st.1,st.2.1++[((k:Int),t,Yg st.1 (ZX n mk t).1)],st.2.2)) hk hts' ⟨h.one,h.most,h.nd,fun v hv=>by
          rcases aK.1 hv with hv | hv
          · exact h.mv v hv
          · rw[aC.1 hv]; exact ⟨⟨Int.natCast_nonneg _,by simpa using hk⟩,ht,h0,hlt⟩⟩
        exact ⟨h1,by simp at h2 ⊢; omega,h3⟩
      · rename_i h0
        split
        · exact ⟨h,by simp,aO _⟩
        · rename_i h4
          have hm:=h.most
          obtain ⟨h1,h2,h3⟩:=ih (st:=(st.1++[(ZX n mk t).1],st.2.1++[((k:Int),t,(st.1.length:Int))],st.2.2++[((k:Int),t,(st.1.length:Int))])) (by simp; omega) hts' ⟨by simp,by simp; omega,
            b9.2 ⟨h.nd,by simp,fun a ha b hb e=>QkD h0 (by rw[aC.1 hb] at e; exact e▸ha)⟩,fun v hv=>by
              rcases aK.1 hv with hv | hv
              · exact (h.mv v hv).grow (by simp)
              · rw[aC.1 hv]; exact ⟨⟨Int.natCast_nonneg _,by simp; omega⟩,ht,Int.natCast_nonneg _,by simp; omega⟩⟩
          exact ⟨h1,by simp at h2 ⊢; omega,by simp at h3; omega⟩
theorem Qq0 (hn:n.2.length≤24)(h:Rok n.2.length st)(hl:st.2.1.length≤24*k):Rok n.2.length (goK n f k st).1∧(goK n f k st).1.2.1.length≤24*(k+f):=by
  induction f generalizing k st with
  | zero=>rw[goK]; exact ⟨h,by omega⟩
  | succ f ih=>
    rw[goK]
    cases hx:st.1[k]? with
    | none=>exact ⟨h,by show st.2.1.length≤_; omega⟩
    | some mk=>
      obtain ⟨h1,h2,h3⟩:=Qqx (mk:=mk) (ts:=Ug n mk) (ah.1 hx).1 (fun t ht=>by
        obtain ⟨i,hi⟩:=aM.1 ht
        exact XW hi) h
      have h4:=QfR n mk
      show Rok n.2.length (if _ then _ else _:RS×Qfi).1∧(if _ then _ else _:RS×Qfi).1.2.1.length≤_
      split
      · obtain ⟨h5, h6⟩ := ih (k := k + 1) h1 (by omega)
        exact ⟨h5,by omega⟩
      · exact ⟨h1,by omega⟩
theorem QmZ (hs:StgOk s):Rok s.2.2.1.length (Zr s).1∧(Zr s).1.2.1.length≤7224:=by
  have h:=Qq0 (n:=s.1) (k:=0) (f:=301) (st:=([s.2.2.2],[],[((0:Int),(0:Int),(0:Int))])) hs.net.2.1 ⟨by simp,by simp,by simp,by simp⟩ (by simp)
  rw[← hs.len] at h
  exact h
end
theorem Qfp {ss:List Qz}(h:Y3 ss):ss.length≤24:=by
  have:=h.2.2
  omega
section
variable [∀s,Decidable (StgOk s)]{s:Zq}
theorem VM (h:¬StgOk s):Qi s=(QhM,false):=if_neg fun h2=>h h2.1
theorem YQ (h:(exV s).2.2.2=false):Qi s=(QhM,false):=if_neg fun h2=>by
  have:(Zr s).2.2.2=false:=h
  rw[this] at h2
  cases h2.2
theorem VZ (hs:StgOk s)(h:(exV s).2.2.2=true):Qi s=((exV s).1,true):=if_pos ⟨hs,h⟩
theorem ZV (h:(Qi s).2=true):StgOk s∧1≤(Qi s).1.1.length∧(Qi s).1.1.length≤300∧(Qi s).1.1.Nodup∧(∀v∈(Qi s).1.2,MvOk (Qi s).1.1.length s.2.2.1.length v)∧(Qi s).1.2.length≤7224:=by
  unfold Qi at h ⊢
  split
  · rename_i h1
    obtain ⟨h2,h3⟩:=QmZ h1.1
    exact ⟨h1.1,h2.one,h2.most,h2.nd,h2.mv,h3⟩
  · rename_i h1
    rw[if_neg h1] at h
    cases h
end
section
variable {s:Zq}
theorem Qey (h:¬0≤(l4V s).2.2.2.1)(h2:(l4V s).2.2.2.2=false):(exV s).2.2.2=true:=by
  have h:¬0≤(Zr s).2.2.1:=h
  have h2:(!(Zr s).2.2.2&&decide ((Zr s).2.2.1 < 0))=false:=h2
  show (Zr s).2.2.2=true
  rw[aJ (by omega)] at h2
  simpa using h2
theorem Qe8 (h:¬0≤(l4V s).2.2.2.1)(h2:(l4V s).2.2.2.2=true):(exV s).2.2.2=false:=by
  have h2:(!(Zr s).2.2.2&&decide ((Zr s).2.2.1 < 0))=true:=h2
  rw[aL] at h2
  show (Zr s).2.2.2=false
  simpa using h2.1
end
theorem QjN {n:Y0}{k:Nat}{mk:ByteArray}{ts:List Int}{st:RS}(h:(goT n k mk ts st).2.2.2=true):(goT n k mk ts st).2.2.1= -1:=by
  induction ts generalizing st with
  | nil=>rw[goT]
  | cons t ts ih=>
    rw[goT] at h ⊢
    split
    · rename_i h1; rw[if_pos h1] at h; cases h
    · rename_i h1
      rw[if_neg h1] at h
      split
      · rename_i h2; rw[if_pos h2] at h; exact ih h
      · rename_i h2
        rw[if_neg h2] at h
        split
        · rfl
        · rename_i h3; rw[if_neg h3] at h; exact ih h
theorem Qj6 {n:Y0}{f k:Nat}{st:RS}(h:(goK n f k st).2.2.2=true):(goK n f k st).2.2.1= -1:=by
  induction f generalizing k st with
  | zero=>rw[goK]
  | succ f ih=>
    rw[goK] at h ⊢
    cases hx:st.1[k]? with
    | none=>rfl
    | some mk=>
      rw[hx] at h
      simp only at h ⊢
      split
      · rename_i h1; rw[if_pos h1] at h; exact ih h
      · rename_i h1; rw[if_neg h1] at h; exact QjN h
theorem QeA {s:Zq}(h:0≤(l4V s).2.2.2.1):(exV s).2.2.2=false:=by
  have h:0≤(Zr s).2.2.1:=h
  show (Zr s).2.2.2=false
  cases he:(Zr s).2.2.2 with
  | false=>rfl
  | true=>
    have:=Qj6 (n:=s.1) (f:=301) (k:=0) (st:=([s.2.2.2],[],[((0:Int),(0:Int),(0:Int))])) he
    have h2:(Zr s).2.2.1= -1:=this
    omega
theorem Qam (s:(Int×(List (List Int×List Int)))×(List (ByteArray×Int))×(List (Int×Bool))×ByteArray)[∀s,Decidable (StgOk s)]:FC Tryz.prog 144 [(true,[dI s.1.1, .dat (.sl 237 (.pr (.sl 3 .int) (.sl 3 .int))) s.1.2, .dat (.sl 203 (.pr .str .int)) s.2.1, .dat (.sl 120 (.pr .int .bool)) s.2.2.1,dS s.2.2.2])] [] 0 (Is (PV.tup [(true,[.ref 0, .ref 1]),(false,[dB ((Qi s).2)])]) [ar 0 9 .str (((Qi s).1).1),ar 1 184 (.pr .int (.pr .int .int)) (((Qi s).1).2)]):=by
 refine Ql Tryz.func144 rfl rfl Tryz.ntmps144 fun O_ hO w0_ N0_ X_ h0_ f0_=> ?_
 refine acG 0 0 fun hi1=> ?_
 refine w_ ?_
 refine xbx 0 ?_
 refine lc (xal 1 (.pr (.sl 9 .str) (.sl 184 (.pr .int (.pr .int .int)))) Qek) ?_
 iterate 5 refine w_ ?_
 refine lc (dK (Xn s) VL) ?_
 iterate 2 refine w_ ?_
 cases hb2:(decide (StgOk s))
 ·have hb2':=ab hb2
  iterate 2 refine w_ ?_
  refine lc (Qp Qa3 rfl (aB.1 rfl) rfl rfl) ?_
  iterate 3 refine w_ ?_
  refine AC.wk (Qu 2 (p:=1) (off:=0) 9 .str rfl rfl (Fresh.of rfl) (nlr rfl))<|AC.wk (Qu 3 (p:=1) (off:=1) 184 (.pr .int (.pr .int .int)) rfl rfl (Fresh.of rfl) (nlr rfl))<|Qb ?_
  have e3:(false:Bool)=((Qi s).2):=by
   (rw[VM (by assumption)]; done)
  exact fi_ [(0,2),(1,3)] hO ⟨(Qn (by (rw[VM (by assumption)]; rfl))),(Qn (by (rw[VM (by assumption)]; rfl))),trivial⟩ (h0:=(congrArg (fun z_=>PV.tup [(true,[.ref 2, .ref 3]),(false,[dB z_])]) e3))
 ·have hb2':=ae hb2
  iterate 4 refine w_ ?_
  refine lc (dG 4 (Qas s (by assumption)) QhA) ?_
  refine lc (xal 7 (.pr (.pr (.sl 9 .str) (.sl 184 (.pr .int (.pr .int .int)))) (.pr (.sl 184 (.pr .int (.pr .int .int))) (.pr .int (.pr .int .bool)))) QaO) ?_
  iterate 6 refine w_ ?_
  refine alI 12 fun hi4=> ?_
  iterate 2 refine w_ ?_
  cases hb5:(decide (0≤((l4V s).2.2.2.1)))
  ·have hb5':=ab hb5
   iterate 4 refine w_ ?_
   cases hb6:((l4V s).2.2.2.2)
   ·iterate 8 refine w_ ?_
    refine Qb ?_
    have e7:(true:Bool)=((Qi s).2):=by
     (rw[VZ (by assumption) (Qey (by assumption) (by assumption))]; done)
    exact fi_ [(0,4),(1,5)] hO ⟨(Qn (by (rw[VZ (by assumption) (Qey (by assumption) (by assumption))]; rfl))),(Qn (by (rw[VZ (by assumption) (Qey (by assumption) (by assumption))]; rfl))),trivial⟩ (h0:=(congrArg (fun z_=>PV.tup [(true,[.ref 4, .ref 5]),(false,[dB z_])]) e7))
   ·iterate 2 refine w_ ?_
    refine lc (Qp Qa3 rfl (aB.1 rfl) rfl rfl) ?_
    iterate 3 refine w_ ?_
    refine AC.wk (Qu 8 (p:=1) (off:=0) 9 .str rfl rfl (Fresh.of rfl) (nlr rfl))<|AC.wk (Qu 9 (p:=1) (off:=1) 184 (.pr .int (.pr .int .int)) rfl rfl (Fresh.of rfl) (nlr rfl))<|Qb ?_
    have e8:(false:Bool)=((Qi s).2):=by
     (rw[YQ (Qe8 (by assumption) (by assumption))]; done)
    exact fi_ [(0,8),(1,9)] hO ⟨(Qn (by (rw[YQ (Qe8 (by assumption) (by assumption))]; rfl))),(Qn (by (rw[YQ (Qe8 (by assumption) (by assumption))]; rfl))),trivial⟩ (h0:=(congrArg (fun z_=>PV.tup [(true,[.ref 8, .ref 9]),(false,[dB z_])]) e8))
  ·have hb5':=ae hb5
   iterate 6 refine w_ ?_
   refine lc (Qp Qa3 rfl (aB.1 rfl) rfl rfl) ?_
   iterate 3 refine w_ ?_
   refine AC.wk (Qu 10 (p:=1) (off:=0) 9 .str rfl rfl (Fresh.of rfl) (nlr rfl))<|AC.wk (Qu 11 (p:=1) (off:=1) 184 (.pr .int (.pr .int .int)) rfl rfl (Fresh.of rfl) (nlr rfl))<|Qb ?_
   have e9:(false:Bool)=((Qi s).2):=by
    (rw[YQ (QeA (by assumption))]; done)
   exact fi_ [(0,10),(1,11)] hO ⟨(Qn (by (rw[YQ (QeA (by assumption))]; rfl))),(Qn (by (rw[YQ (QeA (by assumption))]; rfl))),trivial⟩ (h0:=(congrArg (fun z_=>PV.tup [(true,[.ref 10, .ref 11]),(false,[dB z_])]) e9))
end Go.Proofs.YtfkmmpfdncopdaaGreat
namespace Go.Proofs.YtfkmmpfdncopdaaGreat
open Go.RowKit
set_option maxRecDepth 100000
set_option maxHeartbeats 4000000
def W4:Nat→List ByteArray→List UInt8→List ByteArray
  | _,c,[]=>c
  | i,c,v :: vs=>W4 (i+1) (c.set i ((c[i]?).getD ByteArray.empty++⟨#[v]⟩)) vs
def goS (n:Nat)(arcs:List DAr):Nat→Nat→List ByteArray→Option (List ByteArray)
  | 0,_,c=>some c
  | f+1,k,c=>if (Wg n arcs (k:Int)).2=true then goS n arcs f (k+1) (W4 0 c (Wg n arcs (k:Int)).1) else none
section
variable {n f k i m:Nat}{arcs:List DAr}{c codes:List ByteArray}{vs us:List UInt8}{v:UInt8}{x:ByteArray}
theorem QdL (hv:vs[i]? =some v)(hx:c[i]? =some x):W4 i c (vs.drop i)=W4 (i+1) (c.set i (x++⟨#[v]⟩)) (vs.drop (i+1)):=by
  rw[ZW hv,W4,hx]
  rfl
theorem QmU (h:vs.length≤i):W4 i c (vs.drop i)=c:=by rw[bE h,W4]
theorem QfJ:∀(i:Nat) (c:List ByteArray) (vs:List UInt8),(W4 i c vs).length=c.length
  | _,_,[]=>by rw[W4]
  | i,c,v :: vs=>by rw[W4,QfJ]; simp
theorem Qrc (hk:k < m)(h:(Wg n arcs (k:Int)).2=true):goS n arcs (m - k) k c=goS n arcs (m - (k+1)) (k+1) (W4 0 c (Wg n arcs (k:Int)).1):=by
  rw[show m - k=(m - (k+1))+1 by omega,goS,if_pos h]
theorem Qa5 (hk:m≤k):goS n arcs (m - k) k c=some c:=by rw[show m - k=0 by omega,goS]
theorem Qlq {j:Nat}(h:(Wg n arcs (j:Int)).2=false)(hk:k≤j)(hj:j < k+f):goS n arcs f k c=none:=by
  induction f generalizing k c with
  | zero=>omega
  | succ f ih=>
    rw[goS]
    by_cases e:j=k
    · subst e; rw[if_neg (by rw[h]; decide)]
    · split
      · exact ih (by omega) (by omega)
      · rfl
theorem Qh9 (hr:∀a∈arcs,InR n a)(sig:Int):(Wg n arcs sig).2=(l5V n arcs sig).2:=by
  rcases Qca (sig:=sig) hr with ⟨h1,h2,_⟩ | ⟨us,h1,_,h2⟩
  · rw[h1,h2]
  · rw[h1,h2]
theorem Qii (h:¬0 < ((Xz n arcs m).length:Int))(hk:k < m):(l5V n arcs (k:Int)).2=true:=by
  induction m with
  | zero=>omega
  | succ m ih=>
    simp only[Xz,ai] at h
    by_cases e:k=m
    · subst e
      cases h2:(l5V n arcs (k:Int)).2 with
      | true=>rfl
      | false=>rw[h2] at h; simp at h
    · exact ih (by omega) (by omega)
theorem VK (hr:∀a∈arcs,InR n a)(h:0 < ((Xz n arcs m).length:Int)):goS n arcs m 0 c=none:=by
  have:∃j,j < m∧(l5V n arcs (j:Int)).2=false:=by
    induction m with
    | zero=>simp[Xz] at h
    | succ m ih=>
      simp only[Xz,ai] at h
      cases h2:(l5V n arcs (m:Int)).2 with
      | false=>exact ⟨m,by omega,h2⟩
      | true=>
        rw[h2] at h
        obtain ⟨j,h3,h4⟩:=ih (by simpa using h)
        exact ⟨j,by omega,h4⟩
  obtain ⟨j,h1,h2⟩:=this
  exact Qlq ((Qh9 hr _).trans h2) (aR _) (by omega)
theorem Qno (hr:∀a∈arcs,InR n a)(sig:Int):(Wg n arcs sig).1.length≤n:=by
  rcases Qca (sig:=sig) hr with ⟨_,_,_,h2⟩ | ⟨us,_,h1,h2⟩
  · rw[h2]; exact aR _
  · rw[h2,aP,h1]; exact aO _
theorem Qf5 {b:Nat}{y:ByteArray}(h:∀z∈c,z.size≤b)(hx:c[i]? =some x)(hy:y.size≤x.size+1):∀z∈c.set i y,z.size≤b+1:=fun z hz=>by
  rcases c9 hz with h1 | h1
  · exact cR (h z h1)
  · rw[h1]; have:=h x (ap hx); omega
theorem Wt {ls:List ZF}{ms:List DMv}{q:Nat}(h:∀v∈ms,MvOk n q v):∀a∈Qv ls ms,InR n a:=fun a ha=>by
  obtain ⟨v,hv,rfl⟩:=ba.1 ha
  obtain ⟨h1,_,h2⟩:=h v hv
  exact ⟨h1,h2⟩
theorem Qqt {sig:Int}(hr:∀a∈arcs,InR n a)(h:(l5V n arcs sig).2=true):∃us:List UInt8,(l5V n arcs sig).1=⟨us.toArray⟩∧us.length=n∧(l5V n arcs sig).1.size=n∧Wg n arcs sig=(us.map q0,true):=by
  rcases Qca (sig:=sig) hr with ⟨h1,_⟩ | ⟨us,h1,h2,h3⟩
  · rw[h1] at h; cases h
  · exact ⟨us,by rw[h1],h2,by rw[h1,← h2]; rfl,h3⟩
theorem QaI (b:ByteArray)(i:Nat):(b.extract i (i+1)).size≤1:=by simp only[aS]; omega
theorem QsF (hu:us[i]? =some v):(⟨us.toArray⟩:ByteArray).extract i (i+1)=⟨#[v]⟩:=by
  apply ByteArray.ext
  simp only[ByteArray.data_extract]
  obtain ⟨h1,h2⟩:=ah.1 hu
  apply Array.ext
  · simp; omega
  · intro j h3 h4
    have:j=0:=by simp at h4; omega
    subst this
    simp[h2]
theorem Qpi (hu:us[i]? =some v):(us.map q0)[i]? =some (q0 v):=by rw[bq,hu]; rfl
theorem Qlf {b:ByteArray}(hb:b=⟨us.toArray⟩)(hi:i < us.length)(hd:decide (b.extract i (i+1)=⟨#[63]⟩)=true)(hx:c[i]? =some x):W4 i c ((us.map q0).drop i)=W4 (i+1) (c.set i (x++⟨#[48]⟩)) ((us.map q0).drop (i+1)):=by
  have hu:=aa hi
  have h1:=ae hd
  rw[hb,QsF hu] at h1
  have h2:us[i]=63:=by
    have:=congrArg (fun b:ByteArray=>b.data[0]?) h1
    simpa using this
  have:=QdL (Qpi hu) hx
  rwa [show q0 us[i]=48 by rw[h2]; rfl] at this
theorem Qmi {b:ByteArray}(hb:b=⟨us.toArray⟩)(hi:i < us.length)(hd:decide (b.extract i (i+1)=⟨#[63]⟩)=false)(hx:c[i]? =some x):W4 i c ((us.map q0).drop i)=W4 (i+1) (c.set i (x++b.extract i (i+1))) ((us.map q0).drop (i+1)):=by
  have hu:=aa hi
  have h1:=ab hd
  rw[hb,QsF hu] at h1 ⊢
  have:=QdL (Qpi hu) hx
  rwa [show q0 us[i]=us[i] by unfold q0; rw[if_neg]; intro e; exact h1 (by rw[e])] at this
theorem Qm9 (h:us.length≤i):W4 i c ((us.map q0).drop i)=c:=QmU (by simpa using h)
end
section
variable [∀s,Decidable (StgOk s)]{s:Zq}{c:List ByteArray}
def Qcp:List (ByteArray×Int)×List ByteArray×List DAr:=([],[],[])
def sgV (s:Zq):(List (ByteArray×Int)×List ByteArray×List DAr)×Bool:=
  if (Qi s).2=true∧¬4000 < (Qi s).1.2.length then
    (match goS (Qi s).1.1.length (Qv s.2.2.1 (Qi s).1.2) s.2.1.length 0 (List.replicate (Qi s).1.1.length ByteArray.empty) with
    | some c=>((s.2.1,c,Qv s.2.2.1 (Qi s).1.2),true)
    | none=>(Qcp,false))
  else (Qcp,false)
theorem QaC (h:(Qi s).2=false):sgV s=(Qcp,false):=if_neg fun h2=>by rw[h] at h2; cases h2.1
theorem QaU (h:(4000:Int) < ((Qi s).1.2.length:Int)):sgV s=(Qcp,false):=if_neg fun h2=>h2.2 (by omega)
theorem QaM (h:goS (Qi s).1.1.length (Qv s.2.2.1 (Qi s).1.2) s.2.1.length 0 (List.replicate (Qi s).1.1.length ByteArray.empty)=none):sgV s=(Qcp,false):=by
  unfold sgV
  rw[h]
  split <;> rfl
theorem JU (h1:(Qi s).2=true)(h2:¬(4000:Int) < ((Qi s).1.2.length:Int))(h:goS (Qi s).1.1.length (Qv s.2.2.1 (Qi s).1.2) s.2.1.length 0 (List.replicate (Qi s).1.1.length ByteArray.empty)=some c):
    sgV s=((s.2.1,c,Qv s.2.2.1 (Qi s).1.2),true):=by
  unfold sgV
  rw[if_pos ⟨h1,by omega⟩,h]
end
theorem Xm (s:(Int×(List (List Int×List Int)))×(List (ByteArray×Int))×(List (Int×Bool))×ByteArray)[∀s,Decidable (StgOk s)]:FC Tryz.prog 59 [(true,[dI s.1.1, .dat (.sl 237 (.pr (.sl 3 .int) (.sl 3 .int))) s.1.2, .dat (.sl 203 (.pr .str .int)) s.2.1, .dat (.sl 120 (.pr .int .bool)) s.2.2.1,dS s.2.2.2])] [] 0 (Is (PV.tup [(true,[.ref 0, .ref 1, .ref 2]),(false,[dB ((sgV s).2)])]) [ar 0 203 (.pr .str .int) (((sgV s).1).1),ar 1 9 .str (((sgV s).1).2.1),ar 2 136 (.pr .int (.pr .int (.pr .bool .int))) (((sgV s).1).2.2)]):=by
 refine Ql Tryz.func59 rfl rfl Tryz.ntmps59 fun O_ hO w0_ N0_ X_ h0_ f0_=> ?_
 refine acG 0 0 fun hi1=> ?_
 refine w_ ?_
 refine xbx 0 ?_
 refine lc (xal 1 (.pr (.sl 203 (.pr .str .int)) (.pr (.sl 9 .str) (.sl 136 (.pr .int (.pr .int (.pr .bool .int)))))) Xe) ?_
 iterate 4 refine w_ ?_
 refine lc (dG 2 (Qam s) QgC) ?_
 iterate 3 refine w_ ?_
 refine lc (xal 4 (.pr (.sl 9 .str) (.sl 184 (.pr .int (.pr .int .int)))) Qek) ?_
 iterate 8 refine w_ ?_
 cases hb2:((Qi s).2)
 ·iterate 15 refine w_ ?_
  refine lc (Qp Qd9 rfl (aB.1 rfl) rfl rfl) ?_
  iterate 3 refine w_ ?_
  refine AC.wk (Qu 5 (p:=1) (off:=0) 203 (.pr .str .int) rfl rfl (Fresh.of rfl) (nlr rfl))<|AC.wk (Qu 6 (p:=1) (off:=1) 9 .str rfl rfl (Fresh.of rfl) (nlr rfl))<|AC.wk (Qu 7 (p:=1) (off:=2) 136 (.pr .int (.pr .int (.pr .bool .int))) rfl rfl (Fresh.of rfl) (nlr rfl))<|Qb ?_
  have e3:(false:Bool)=((sgV s).2):=by
   (rw[QaC (by assumption)]; done)
  exact fi_ [(0,5),(1,6),(2,7)] hO ⟨(Qn (by (rw[QaC (by assumption)]; rfl))),(Qn (by (rw[QaC (by assumption)]; rfl))),(Qn (by (rw[QaC (by assumption)]; rfl))),trivial⟩ (h0:=(congrArg (fun z_=>PV.tup [(true,[.ref 5, .ref 6, .ref 7]),(false,[dB z_])]) e3))
 ·iterate 2 refine w_ ?_
  refine lgy rfl rfl (Qab 8 (Qav s ((Qi s).1) (ZV (s:=s) (by assumption)).2.2.2.2.1 (by have:=(ZV (s:=s) (by assumption)).2.2.1; omega) (by have:=Qfp (ZV (s:=s) (by assumption)).1.sigs; omega)) Qg1 ⟨_,_,rfl,(Ev.b (Qm rfl)),⟨_,_,rfl,(QdO (Qm rfl) ⟨_,_,rfl, .inr ⟨_,_,_,_,rfl,rfl,rfl⟩,⟨_,_,rfl, .inr ⟨_,_,_,_,rfl,rfl,rfl⟩,rfl⟩⟩),rfl⟩⟩ rfl (Fresh.of rfl) (nlr rfl)) ?_
  iterate 4 refine w_ ?_
  cases hb4:(decide (0 < ((Xz ((Qi s).1).1.length (Qv s.2.2.1 ((Qi s).1).2) s.2.1.length).length:Int)))
  ·have hb4':=ab hb4
   iterate 6 refine w_ ?_
   refine cd_ (fun hb5 hb5'=> ?_) fun hb5 hb5'=> ?_
   ·refine w_ ?_
    obtain ⟨hsg,hN1,hN2,hNd,hMv,hMl⟩:=ZV (s:=s) (by assumption)
    have hir:=Wt (ls:=s.2.2.1) hMv
    have hsl:=Qfp hsg.sigs
    apply dW [⟨some 36,lR 9,[ar 9 203 (.pr .str .int) ([])]⟩,io 37 (lP 0 2),io 38 (lf (.dat (.sl 203 (.pr .str .int)) s.2.1)),⟨some 39,lR 10,[ar 10 203 (.pr .str .int) (([])++s.2.1),(9,none)]⟩,io 40 (lP 4 0),io 41 (lR 2),io 42 (lI ((((Qi s).1).1).length:Int)),⟨some 43,lR 11,[ar 11 9 .str (List.replicate ((((Qi s).1).1).length) (Ty.zero .str))]⟩,io 44 (ag [.ref 10, .ref 11, .val (.slice none 0 0)]),⟨some 6,lP 12 0,[bx 12 28 [.val (.slice none 0 0), .val (.slice none 0 0), .val (.slice none 0 0)]]⟩,⟨none,lf (.val undef),[bx 12 28 [.ref 10, .ref 11, .val (.slice none 0 0)]]⟩] [0,1,1,0,15,15,15,15,0,511,0]
    refine zz (fun _ h_=>ac (dBs 9 (e:=(.pr .str .int)) JV) rfl) ?_
    iterate 2 refine z_ ?_
    refine zz (fun _ h_=>ac (Za 10 (h_.v rfl) (h_.en 9 rfl) (Evl.rep (h_.v rfl)) rfl Qib QaN (by first | omega | (simp only[ai,aP,aq,au,aF]; omega) | (simp only[ai,bd,aq,au,aF]; omega)) rfl (h_.fr 10 rfl) (nlr rfl)) rfl) ?_
    iterate 3 refine z_ ?_
    refine zz (fun _ h_=>ac (U2 11 (e:= .str) (n:=(((Qi s).1).1).length) (h_.v rfl) (h_.v rfl) Zd Qrk rfl (by omega) (by omega) rfl (h_.fr 11 rfl) (nlr rfl)) rfl)<|zz (fun _ h_=>ac (Qp Qd9 ⟨_,_,rfl,(h_.w rfl),⟨_,_,rfl,(h_.w rfl),rfl⟩⟩ (aB.1 (by simp only[Q6,Vb,bm,bJ]; rw[(h_.en 10 rfl),(h_.en 11 rfl)]; rfl)) rfl rfl) rfl)<|zz (fun _ h_=>ac (KY 12 (.pr (.sl 203 (.pr .str .int)) (.pr (.sl 9 .str) (.sl 136 (.pr .int (.pr .int (.pr .bool .int)))))) Xe rfl rfl (h_.fr 12 rfl) (nlr rfl)) rfl)<|zz (fun _ h_=>ac (Zf (h_.v rfl) (h_.en 12 rfl) (h_.w rfl) (by simp only[Q6,Vb,bm,bJ]; rw[(h_.en 10 rfl),(h_.en 11 rfl)]; rfl) Xb rfl) rfl) ?_
    exact zN
    iterate 4 refine w_ ?_
    refine alL 46 fun hl6=> ?_
    iterate 4 refine w_ ?_
    refine Qy (fun m_ s_=>∃(k:Nat) (codes:List ByteArray),k≤s.2.1.length∧m_=s.2.1.length - k∧(goS (Qi s).1.1.length (Qv s.2.2.1 (Qi s).1.2) s.2.1.length 0 (List.replicate (Qi s).1.1.length ByteArray.empty)=goS (Qi s).1.1.length (Qv s.2.2.1 (Qi s).1.2) (s.2.1.length - k) k codes)∧(codes.length=(Qi s).1.1.length)∧(∀c∈codes,c.size≤300*k)∧s_=⟨[(1,lP 0 0),(2,lP 1 0),(3,lB false),(4,lP 4 0),(6,lP 12 0),(47,lI (s.2.1.length:Int)),(48,lI (k:Int))],[bx 0 83 [dI s.1.1, .dat (.sl 237 (.pr (.sl 3 .int) (.sl 3 .int))) s.1.2, .dat (.sl 203 (.pr .str .int)) s.2.1, .dat (.sl 120 (.pr .int .bool)) s.2.2.1,dS s.2.2.2],bx 1 28 [.val (.slice none 0 0), .val (.slice none 0 0), .val (.slice none 0 0)],ar 2 9 .str (((Qi s).1).1),ar 3 184 (.pr .int (.pr .int .int)) (((Qi s).1).2),bx 4 178 [.ref 2, .ref 3],ar 10 203 (.pr .str .int) (([])++s.2.1),bx 12 28 [.ref 10, .ref 13, .val (.slice none 0 0)],ar 13 9 .str codes]⟩) ⟨0,List.replicate ((((Qi s).1).1).length) (Ty.zero .str),aR _,rfl,rfl,(by simp),(fun c hc=>by rw[cF hc]; exact aR _),rfl⟩ ?_ ?_
    · exact Wk.of [(13,11)] rfl ⟨rfl,rfl,rfl,rfl,rfl,rfl,rfl,trivial⟩ ⟨rfl,rfl,rfl,rfl,rfl,rfl,rfl,(Qn (by first | rfl | simp)),trivial⟩ rfl rfl
    rintro m_ s_ ⟨k,codes,hk7,hm8,hA,hL,hZ,rfl⟩
    iterate 4 refine w_ ?_
    cases hb9:(decide ((k:Int) < (s.2.1.length:Int)))
    ·have hb9':=ab hb9
     refine w_ ?_
     refine Qj ?_
     refine (?_:AC _ _ _ _ _)
     iterate 8 refine w_ ?_
     refine AC.wk (Qu 14 (p:=12) (off:=2) 136 (.pr .int (.pr .int (.pr .bool .int))) rfl rfl (Fresh.of rfl) (nlr rfl)) ?_
     refine lp0 ((((Qi s).1).2).length) (fun j=>⟨[(1,lP 0 0),(2,lP 1 0),(3,lB false),(6,lP 12 0),(82,lR 3),(83,lI ((((Qi s).1).2).length:Int)),(84,lI (j:Int))],[bx 0 83 [dI s.1.1, .dat (.sl 237 (.pr (.sl 3 .int) (.sl 3 .int))) s.1.2, .dat (.sl 203 (.pr .str .int)) s.2.1, .dat (.sl 120 (.pr .int .bool)) s.2.2.1,dS s.2.2.2],bx 1 28 [.val (.slice none 0 0), .val (.slice none 0 0), .val (.slice none 0 0)],ar 3 184 (.pr .int (.pr .int .int)) (((Qi s).1).2),ar 10 203 (.pr .str .int) (([])++s.2.1),bx 12 28 [.ref 10, .ref 13, .ref 15],ar 13 9 .str codes,ar 15 136 (.pr .int (.pr .int (.pr .bool .int))) ((((Qi s).1).2.take j).map (QjH s.2.2.1))]⟩) ?_ fun j hk10=> ?_
     · exact Wk.of [(15,14)] rfl ⟨rfl,rfl,rfl,rfl,rfl,rfl,rfl,trivial⟩ ⟨rfl,rfl,rfl,rfl,rfl,rfl,(Qn (by first | rfl | simp)),trivial⟩ rfl rfl
     iterate 4 refine w_ ?_
     cases hb11:(decide ((j:Int) < ((((Qi s).1).2).length:Int)))
     ·have hb11':=ab hb11
      refine w_ ?_
      refine Qj ?_
      refine (?_:AC _ _ _ _ _)
      iterate 5 refine w_ ?_
      refine Qb ?_
      have e12:(true:Bool)=((sgV s).2):=by
       (rw[JU (by assumption) (by assumption) (hA.trans (Qa5 (by omega)))]; done)
      exact fi_ [(0,10),(1,13),(2,15)] hO ⟨(Qn (by (rw[JU (by assumption) (by assumption) (hA.trans (Qa5 (by omega)))]; rfl))),(Qn (by (rw[JU (by assumption) (by assumption) (hA.trans (Qa5 (by omega)))]; done))),(Qn (by (rw[JU (by assumption) (by assumption) (hA.trans (Qa5 (by omega))),ZK (by omega)]; rfl))),trivial⟩ (h0:=(congrArg (fun z_=>PV.tup [(true,[.ref 10, .ref 13, .ref 15]),(false,[dB z_])]) e12))
     ·have hb11':=ae hb11
      iterate 6 refine w_ ?_
      obtain ⟨mv,hx14⟩:∃z,(((Qi s).1).2)[j]? =some z:=⟨_,aa (by omega)⟩
      have hrm:=(hMv _ (ap hx14)).2.1
      refine w_ ?_
      refine lc (xal 16 (.pr .int (.pr .int .int)) VQ) ?_
      iterate 7 refine w_ ?_
      refine alI 91 fun hi15=> ?_
      obtain ⟨x16,hx17⟩:∃z,s.2.2.1[(mv.2.1).toNat]? =some z:=⟨_,aa (by omega)⟩
      have hla:=QeI hx17
      iterate 2 refine w_ ?_
      refine lc (xal 17 (.pr .int .bool) XH) ?_
      iterate 7 refine w_ ?_
      refine alI 97 fun hi18=> ?_
      iterate 2 refine w_ ?_
      refine alI 99 fun hi19=> ?_
      iterate 4 refine w_ ?_
      refine alI 103 fun hi20=> ?_
      refine lc (Qp QnQ ⟨_,_,rfl,(Qm rfl),⟨_,_,rfl,(Qm rfl),⟨_,_,rfl,(Qm rfl),⟨_,_,rfl,(Qm rfl),rfl⟩⟩⟩⟩ (aB.1 rfl) rfl rfl) ?_
      refine lc (dBs 18 (e:=(.pr .int (.pr .int (.pr .bool .int)))) V0 (hab:=by exact ⟨_,_,_,_,rfl,⟨[dI mv.1],[dI x16.1,dB x16.2,dI mv.2.2],_,_,_,_,rfl,rfl,⟨rfl,rfl⟩,⟨[dI x16.1],[dB x16.2,dI mv.2.2],_,_,_,_,rfl,rfl,⟨rfl,rfl⟩,⟨[dB x16.2],[dI mv.2.2],_,_,_,_,rfl,rfl,⟨rfl,rfl⟩,⟨rfl,rfl⟩,rfl⟩,rfl⟩,rfl⟩,⟨rfl,rfl⟩,rfl⟩)) ?_
      refine lc (dA 19 Qoy) ?_
      iterate 2 refine w_ ?_
      refine Qd ?_
      refine (?_:AC _ _ _ _ _)
      iterate 3 refine w_ ?_
      refine Qd ?_
      refine l0_ ?_
      exact Wk.of [(15,19)] rfl ⟨rfl,rfl,rfl,rfl,rfl,rfl,rfl,trivial⟩ ⟨rfl,rfl,rfl,rfl,rfl,rfl,(Qn (by rw[QQ hx14]; simp[QjH,hla])),trivial⟩ rfl rfl
    ·have hb9':=ae hb9
     iterate 12 refine w_ ?_
     refine lc (VW (Vt s ((Qi s).1) (k:Int) hMv (by omega)) QbN ⟨_,_,rfl,(Ev.b (Qm rfl)),⟨_,_,rfl,(QdO (Qm rfl) ⟨_,_,rfl, .inr ⟨_,_,_,_,rfl,rfl,rfl⟩,⟨_,_,rfl, .inr ⟨_,_,_,_,rfl,rfl,rfl⟩,rfl⟩⟩),⟨_,_,rfl,(Ev.b (Qm rfl)),rfl⟩⟩⟩ rfl rfl rfl) ?_
     iterate 6 refine w_ ?_
     refine ZS ?_
     obtain ⟨us,hu1,hu2,hu3,hu4⟩:=Qqt (sig:=(k:Int)) hir (Qii (m:=s.2.1.length) (by assumption) (by omega))
     iterate 7 refine w_ ?_
     refine Qy (fun m_ s_=>∃(i:Nat) (codes2:List ByteArray),i≤codes.length∧m_=codes.length - i∧(W4 0 codes (us.map q0)=W4 i codes2 ((us.map q0).drop i))∧(codes2.length=(Qi s).1.1.length)∧(∀c∈codes2,c.size≤300*k+i)∧s_=⟨[(1,lP 0 0),(2,lP 1 0),(3,lB false),(4,lP 4 0),(6,lP 12 0),(7,lI (k:Int)),(8,lf (dS ((l5V ((Qi s).1).1.length (Qv s.2.2.1 ((Qi s).1).2) (k:Int)).1))),(47,lI (s.2.1.length:Int)),(48,lI (k:Int)),(49,lB true),(50,lI (k:Int)),(51,PV.tup [(false,[dS ((l5V ((Qi s).1).1.length (Qv s.2.2.1 ((Qi s).1).2) (k:Int)).1)]),(false,[dB ((l5V ((Qi s).1).1.length (Qv s.2.2.1 ((Qi s).1).2) (k:Int)).2)])]),(52,ag [dI s.1.1, .dat (.sl 237 (.pr (.sl 3 .int) (.sl 3 .int))) s.1.2, .dat (.sl 203 (.pr .str .int)) s.2.1, .dat (.sl 120 (.pr .int .bool)) s.2.2.1,dS s.2.2.2]),(53,ag [.ref 2, .ref 3]),(54,lI (k:Int)),(55,PV.tup [(false,[dS ((l5V ((Qi s).1).1.length (Qv s.2.2.1 ((Qi s).1).2) (k:Int)).1)]),(false,[dB ((l5V ((Qi s).1).1.length (Qv s.2.2.1 ((Qi s).1).2) (k:Int)).2)])]),(56,lf (dS ((l5V ((Qi s).1).1.length (Qv s.2.2.1 ((Qi s).1).2) (k:Int)).1))),(57,lB ((l5V ((Qi s).1).1.length (Qv s.2.2.1 ((Qi s).1).2) (k:Int)).2)),(58,lP 12 1),(60,lI (codes.length:Int)),(61,lI (i:Int))],[bx 0 83 [dI s.1.1, .dat (.sl 237 (.pr (.sl 3 .int) (.sl 3 .int))) s.1.2, .dat (.sl 203 (.pr .str .int)) s.2.1, .dat (.sl 120 (.pr .int .bool)) s.2.2.1,dS s.2.2.2],bx 1 28 [.val (.slice none 0 0), .val (.slice none 0 0), .val (.slice none 0 0)],ar 2 9 .str (((Qi s).1).1),ar 3 184 (.pr .int (.pr .int .int)) (((Qi s).1).2),bx 4 178 [.ref 2, .ref 3],ar 10 203 (.pr .str .int) (([])++s.2.1),bx 12 28 [.ref 10, .ref 20, .val (.slice none 0 0)],ar 20 9 .str codes2]⟩) ⟨0,codes,aR _,rfl,rfl,hL,hZ,rfl⟩ ?_ ?_
     · exact Wk.of [(20,13)] rfl ⟨rfl,rfl,rfl,rfl,rfl,rfl,rfl,rfl,rfl,rfl,rfl,rfl,rfl,rfl,rfl,rfl,rfl,rfl,rfl,rfl,rfl,trivial⟩ ⟨rfl,rfl,rfl,rfl,rfl,rfl,rfl,rfl,trivial⟩ rfl rfl
     rintro m_ s_ ⟨i,codes2,hk21,hm22,hA2,hL2,hZ2,rfl⟩
     iterate 4 refine w_ ?_
     cases hb23:(decide ((i:Int) < (codes.length:Int)))
     ·have hb23':=ab hb23
      refine w_ ?_
      refine Qj ?_
      refine (?_:AC _ _ _ _ _)
      iterate 3 refine w_ ?_
      refine Qd<|Q0 ⟨k+1,codes2,by omega,rfl,(by rw[hA,Qrc (by omega) (by rw[hu4])]; exact congrArg _ (by rw[hu4]; exact hA2.trans (Qm9 (by omega)))),hL2,(fun c hc=>bw (hZ2 c hc) (by omega)),rfl⟩ (by omega) ?_
      exact Wk.of [(13,20)] rfl ⟨rfl,rfl,rfl,rfl,rfl,rfl,rfl,trivial⟩ ⟨rfl,rfl,rfl,rfl,rfl,rfl,rfl,rfl,trivial⟩ rfl rfl
     ·have hb23':=ae hb23
      iterate 13 refine w_ ?_
      refine lc (show Does _ _ _ _ (St.put _ 68 (lf (dS (((l5V ((Qi s).1).1.length (Qv s.2.2.1 ((Qi s).1).2) (k:Int)).1).extract ((i:Int)).toNat ((i:Int)+1).toNat)))) from QW (l:=(some (i:Int))) (h:=(some ((i:Int)+1))) (Qa rfl) (by exact (Qa rfl)) (by exact (Qa rfl)) Zc rfl (by first | omega | (simp only[ak,aj]; omega)) (by first | omega | (simp only[ak,aj]; omega)) (by first | omega | (simp only[ak,aj]; omega))) ?_
      iterate 7 refine w_ ?_
      cases hb24:(decide ((((l5V ((Qi s).1).1.length (Qv s.2.2.1 ((Qi s).1).2) (k:Int)).1).extract ((i:Int)).toNat ((i:Int)+1).toNat)=(⟨#[63]⟩:ByteArray)))
      ·have hb24':=ab hb24
       iterate 7 refine w_ ?_
       obtain ⟨x25,hx26⟩:∃z,codes2[i]? =some z:=⟨_,aa (by omega)⟩
       have hczx25:=hZ2 _ (ap hx26)
       iterate 2 refine w_ ?_
       refine lc (Q3 (Qa rfl) (Qa rfl) rfl (by first | (simp only[Ya]; omega) | (refine bw (Nat.add_le_add_left (QaI _ i) _) ?_; omega))) ?_
       refine w_ ?_
       refine lc (Qs (e:= .str) (z':=x25++(((l5V ((Qi s).1).1.length (Qv s.2.2.1 ((Qi s).1).2) (k:Int)).1).extract ((i:Int)).toNat ((i:Int)+1).toNat)) (Qa rfl) rfl hx26 rfl (Qm rfl) rfl ZH rfl rfl)<|Qd ?_
       refine (?_:AC _ _ _ _ _)
       iterate 3 refine w_ ?_
       refine Qd<|Q0 ⟨i+1,(codes2.set i (x25++(((l5V ((Qi s).1).1.length (Qv s.2.2.1 ((Qi s).1).2) (k:Int)).1).extract ((i:Int)).toNat ((i:Int)+1).toNat))),by omega,rfl,by first | exact hA2.trans (Qlf hu1 (by omega) (by assumption) hx26) | exact hA2.trans (Qmi hu1 (by omega) (by assumption) hx26),(by rw[aD]; exact hL2),(Qf5 hZ2 hx26 (by rw[aN]; first | exact aO _ | exact Nat.add_le_add_left (QaI _ _) _)),rfl⟩ (by omega) ?_
       exact Wk.of [] rfl ⟨rfl,rfl,rfl,rfl,rfl,rfl,rfl,rfl,rfl,rfl,rfl,rfl,rfl,rfl,rfl,rfl,rfl,rfl,rfl,rfl,rfl,trivial⟩ ⟨rfl,rfl,rfl,rfl,rfl,rfl,rfl,(Qn (by first | rfl | simp)),trivial⟩ rfl rfl
      ·have hb24':=ae hb24
       iterate 9 refine w_ ?_
       obtain ⟨x27,hx28⟩:∃z,codes2[i]? =some z:=⟨_,aa (by omega)⟩
       have hczx27:=hZ2 _ (ap hx28)
       iterate 2 refine w_ ?_
       refine lc (Q3 (Qa rfl) (Qa rfl) rfl (by first | (simp only[Ya]; omega) | (refine bw (Nat.add_le_add_left (QaI _ i) _) ?_; omega))) ?_
       refine w_ ?_
       refine lc (Qs (e:= .str) (z':=x27++(⟨#[48]⟩:ByteArray)) (Qa rfl) rfl hx28 rfl (Qm rfl) rfl ZH rfl rfl)<|Qd ?_
       refine (?_:AC _ _ _ _ _)
       iterate 3 refine w_ ?_
       refine Qd<|Q0 ⟨i+1,(codes2.set i (x27++(⟨#[48]⟩:ByteArray))),by omega,rfl,by first | exact hA2.trans (Qlf hu1 (by omega) (by assumption) hx28) | exact hA2.trans (Qmi hu1 (by omega) (by assumption) hx28),(by rw[aD]; exact hL2),(Qf5 hZ2 hx28 (by rw[aN]; first | exact aO _ | exact Nat.add_le_add_left (QaI _ _) _)),rfl⟩ (by omega) ?_
       exact Wk.of [] rfl ⟨rfl,rfl,rfl,rfl,rfl,rfl,rfl,rfl,rfl,rfl,rfl,rfl,rfl,rfl,rfl,rfl,rfl,rfl,rfl,rfl,rfl,trivial⟩ ⟨rfl,rfl,rfl,rfl,rfl,rfl,rfl,(Qn (by first | rfl | simp)),trivial⟩ rfl rfl
   ·refine w_ ?_
    refine lc (Qp Qd9 rfl (aB.1 rfl) rfl rfl) ?_
    iterate 3 refine w_ ?_
    refine AC.wk (Qu 21 (p:=1) (off:=0) 203 (.pr .str .int) rfl rfl (Fresh.of rfl) (nlr rfl))<|AC.wk (Qu 22 (p:=1) (off:=1) 9 .str rfl rfl (Fresh.of rfl) (nlr rfl))<|AC.wk (Qu 23 (p:=1) (off:=2) 136 (.pr .int (.pr .int (.pr .bool .int))) rfl rfl (Fresh.of rfl) (nlr rfl))<|Qb ?_
    have e29:(false:Bool)=((sgV s).2):=by
     (rw[QaU (by assumption)]; done)
    exact fi_ [(0,21),(1,22),(2,23)] hO ⟨(Qn (by (rw[QaU (by assumption)]; rfl))),(Qn (by (rw[QaU (by assumption)]; rfl))),(Qn (by (rw[QaU (by assumption)]; rfl))),trivial⟩ (h0:=(congrArg (fun z_=>PV.tup [(true,[.ref 21, .ref 22, .ref 23]),(false,[dB z_])]) e29))
  ·have hb4':=ae hb4
   iterate 8 refine w_ ?_
   refine lc (Qp Qd9 rfl (aB.1 rfl) rfl rfl) ?_
   iterate 3 refine w_ ?_
   refine AC.wk (Qu 24 (p:=1) (off:=0) 203 (.pr .str .int) rfl rfl (Fresh.of rfl) (nlr rfl))<|AC.wk (Qu 25 (p:=1) (off:=1) 9 .str rfl rfl (Fresh.of rfl) (nlr rfl))<|AC.wk (Qu 26 (p:=1) (off:=2) 136 (.pr .int (.pr .int (.pr .bool .int))) rfl rfl (Fresh.of rfl) (nlr rfl))<|Qb ?_
   have e30:(false:Bool)=((sgV s).2):=by
    (rw[QaM (VK (Wt (ZV (by assumption)).2.2.2.2.1) (by assumption))]; done)
   exact fi_ [(0,24),(1,25),(2,26)] hO ⟨(Qn (by (rw[QaM (VK (Wt (ZV (by assumption)).2.2.2.2.1) (by assumption))]; rfl))),(Qn (by (rw[QaM (VK (Wt (ZV (by assumption)).2.2.2.2.1) (by assumption))]; rfl))),(Qn (by (rw[QaM (VK (Wt (ZV (by assumption)).2.2.2.2.1) (by assumption))]; rfl))),trivial⟩ (h0:=(congrArg (fun z_=>PV.tup [(true,[.ref 24, .ref 25, .ref 26]),(false,[dB z_])]) e30))
end Go.Proofs.YtfkmmpfdncopdaaGreat
namespace Go.Proofs.YtfkmmpfdncopdaaGreat
open Go.RowKit
set_option maxRecDepth 100000
set_option maxHeartbeats 4000000
abbrev DRg:=List ByteArray×List DMv
instance (n m:Nat) (v:DMv):Decidable (MvOk n m v):=inferInstanceAs (Decidable (_∧_))
def Qi7 (r:DRg):Prop:=(1≤r.1.length∧r.1.length≤300)∧r.2.length≤4000∧r.1.Nodup∧∀v∈r.2,MvOk r.1.length 24 v
instance (r:DRg):Decidable (Qi7 r):=inferInstanceAs (Decidable (_∧_))
def Qt2 (l:List ByteArray):List (ByteArray×Bool):=l.foldl (fun m x=>Ui .str m x true) []
section
variable {r:DRg}{k:Nat}{x y:ByteArray}{v:DMv}{l:List ByteArray}{m:List (ByteArray×Bool)}
end
def QmH (f:Int→Bool):Nat→List Int
  | 0=>[]
  | k+1=>QmH f k++(if f (k:Int)=true then [] else [(k:Int)])
section
variable {f:Int→Bool}{k n:Nat}{α:Type _}{l:List α}{p:α→Bool}{x:α}
end
def byT (r:DRg)(t:Int):Bool:=r.2.any fun v=>decide (v.2.1=t)
def QsM (r:DRg)(t:Int):Bool:=r.2.any fun v=>decide (v.1=t)
def mfV (r:DRg)(k:Int):List DMv×Bool:=if Qi7 r∧0≤k∧k < r.1.length then (r.2.filter fun v=>decide (v.1=k),true) else ([],false)
def dlV (r:DRg):List Int×Bool:=if Qi7 r then (QmH (QsM r) r.1.length,true) else ([],false)
section
variable [∀s,Decidable (StgOk s)]
def dtV (s:Zq)(r:DRg):List Int×Bool:=if StgOk s∧Qi7 r then (QmH (byT r) s.2.2.1.length,true) else ([],false)
end
def QtY (k:Int)(ms:List DMv):List DMv:=ms.filter fun v=>decide (v.1=k)
end Go.Proofs.YtfkmmpfdncopdaaGreat
namespace Go.Proofs.YtfkmmpfdncopdaaGreat
open Go.RowKit
set_option maxRecDepth 100000
set_option maxHeartbeats 4000000
section
variable {α:Type}[DecidableEq α]{a b:List α}{k:Nat}{x y:α}
end
section
variable [∀s,Decidable (StgOk s)]
def Qlv (s:Zq):List Int:=(dtV s (Qi s).1).1
def QlD (s:Zq):Bool:=decide ((0:Int) < ((dlV (Qi s).1).1.length:Int))
def frV (s:Zq):List Int×Bool×Bool:=if (sgV s).2=true then (Qlv s,QlD s,true) else ([],false,false)
def pfI (a b:Zq):Bool×Bool:=if (frV a).2.2=true∧(frV b).2.2=true∧a.2.1=b.2.1∧a.2.2.1=b.2.2.1 then (decide ((frV a).1=(frV b).1)&&(!(frV b).2.1||(frV a).2.1),true) else (false,false)
def pfV (a b:Zq):Bool×Bool:=if (sgV a).2=true∧(sgV b).2=true∧a.2.1=b.2.1∧a.2.2.1=b.2.2.1 then (decide (Qlv a=Qlv b)&&(QlD a|| !QlD b),true) else (false,false)
section
variable {a b:Zq}
end
end
end Go.Proofs.YtfkmmpfdncopdaaGreat
