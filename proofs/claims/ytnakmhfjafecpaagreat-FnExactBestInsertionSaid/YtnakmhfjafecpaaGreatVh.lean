/- Walks over abstract states: the graph with one signal more, both sides. -/
import Derived.Test.YtnakmhfjafecpaaGreatVg
set_option linter.unusedSimpArgs false
set_option linter.unusedVariables false
namespace Go.Proofs.YtnakmhfjafecpaaGreat
open Go.RowKit
set_option maxRecDepth 100000
set_option maxHeartbeats 4000000
def KP (s:ByteArray):Bool:=decide (bAt s 0=49)||decide (bAt s 0=45)
def WW (c:DSg)(s:ByteArray):Ins:=(psP [] (0,KP s),cdP c [] [] (0,KP s),[])
def Qe6 (c:DSg)(s:ByteArray):Nat→Nat→Ins→Ins
  | 0,_,st=>st
  | f+1,k,st=>if k < st.1.length then Qe6 c s f (k+1) (W9 c s st (k:Int)) else st
def YC (c:DSg)(s:ByteArray):Ins:=Qe6 c s 601 0 (WW c s)
def KU (c:DSg)(name:ByteArray)(st:Ins):DSg:=(c.1++[(name,3)],st.2.1,st.2.2)
structure InsI (c:DSg) (st:Ins):Prop where
  rng:∀p∈st.1,0≤p.1∧p.1 < (c.2.1.length:Int)
  nd:st.1.Nodup
  len:st.2.1.length=st.1.length
section
variable {c:DSg}{s name:ByteArray}{st:Ins}{ps:List PSt}{cs:List ByteArray}{as_:List DAr}{p:PSt}{k:Int}{l:Xf}{i j n:Nat}{b:Bool}{z:Int}
theorem Qj1 {q:PSt}(h:q∈psP ps p):q∈ps∨q=p:=by
  unfold psP at h
  split at h
  · exact .inl h
  · rcases List.mem_append.1 h with h | h
    · exact .inl h
    · exact .inr (List.mem_singleton.1 h)
theorem Qlz (h:ps.Nodup):(psP ps p).Nodup:=by
  unfold psP
  split
  · exact h
  · rename_i hp
    rw[List.nodup_append]
    refine ⟨h,by simp, ?_⟩
    intro a ha b hb e
    rw[List.mem_singleton] at hb
    subst hb
    subst e
    exact hp ha
theorem QgE (h:InsI c st)(hp:0≤p.1∧p.1 < (c.2.1.length:Int)):InsI c (UG c st k l p):=by
  refine ⟨fun q hq=> ?_,Qlz h.nd, ?_⟩
  · rcases Qj1 (show q ∈ psP st.1 p from hq) with h1 | h1
    · exact h.rng q h1
    · rw[h1]; exact hp
  · have := h.len
    show (cdP c st.1 st.2.1 p).length=(psP st.1 p).length
    unfold cdP psP
    split <;> simp[this]
theorem QjA:(UG c st k l p).2.2.length=st.2.2.length+1:=by simp[UG]
theorem Qkg {a:DAr}{q:PSt}(h:InsI c st)(ha:0≤a.2.2.2∧a.2.2.2 < (c.2.1.length:Int)):InsI c (KG c s k q st a)∧(KG c s k q st a).2.2.length≤st.2.2.length+1:=by
  unfold KG
  split
  · exact ⟨h,by omega⟩
  · exact ⟨QgE h ha,by rw[QjA]; omega⟩
theorem Qf1 {q:PSt}:∀(l:List DAr) (st:Ins),InsI c st→(∀a∈l,0≤a.2.2.2∧a.2.2.2 < (c.2.1.length:Int))→InsI c (l.foldl (KG c s k q) st)∧(l.foldl (KG c s k q) st).2.2.length≤st.2.2.length+l.length
  | [],st,h,_=>⟨h,by simp⟩
  | a :: l,st,h,ha=>by
    obtain ⟨h1,h2⟩:=Qkg (s:=s) (k:=k) (q:=q) h (ha a (List.mem_cons_self ..))
    obtain ⟨h3,h4⟩:=Qf1 l _ h1 fun a h=>ha a (List.mem_cons_of_mem _ h)
    rw[List.foldl_cons]
    exact ⟨h3,by rw[List.length_cons]; omega⟩
theorem HQ (hs:SignsOk c s)(h:InsI c st):InsI c (W9 c s st k)∧(W9 c s st k).2.2.length≤st.2.2.length+4001:=by
  unfold W9
  cases hx:st.1[k.toNat]? with
  | none=>exact ⟨h,by simp⟩
  | some p=>
    have hp:=h.rng p (List.mem_of_getElem? hx)
    have h1:InsI c (Qba c s st k p)∧(Qba c s st k p).2.2.length≤st.2.2.length+1:=by
      unfold Qba
      split
      · exact ⟨QgE h hp,by rw[QjA]; omega⟩
      · exact ⟨h,by omega⟩
    obtain ⟨h2,h3⟩:=Qf1 (s:=s) (k:=k) (q:=p) (Yh c.2.2 p.1) _ h1.1 fun a ha=>by
      have:=hs.at_ (QbM.1 ha).1
      rw[hs.2.1] at this
      exact this.2
    refine ⟨h2, ?_⟩
    have h4:=HW (l:=c.2.2) (q:=p.1)
    have h5:=hs.2.2.few
    simp only
    omega
theorem Qgz:∀(n:Nat) (l:List Nat),l.Nodup→(∀x∈l,x < n)→l.length≤n
  | 0,[],_,_=>Nat.le_refl _
  | 0,x :: l,_,h=>absurd (h x (List.mem_cons_self ..)) (Nat.not_lt_zero x)
  | n+1,l,hd,h=>by
    have h1:=Qgz n (l.erase n) (hd.erase n) fun x hx=>by
      have h2:=h x (List.mem_of_mem_erase hx)
      have h3:x≠n:=fun e=>by subst e; exact (List.Nodup.not_mem_erase hd) hx
      omega
    have h2:=List.length_erase (a:=n) (l:=l)
    split at h2 <;> omega
theorem InsI.few (h:InsI c st)(hn:c.2.1.length≤300):st.1.length≤600:=by
  have h1:=Qgz 600 (st.1.map fun p=>(Z2 p).toNat) ?_ ?_
  · simpa using h1
  · rw [List.Nodup, List.pairwise_map]
    refine List.Pairwise.imp_of_mem ?_ h.nd
    intro a b ha hb hne e
    apply hne
    have h2:=h.rng a ha
    have h3:=h.rng b hb
    have h4:=UO a.2
    have h5:=UO b.2
    unfold Z2 at e
    have h6:a.1=b.1∧vB a.2=vB b.2:=by omega
    refine Prod.ext h6.1 ?_
    rw[← QcL a.2,h6.2,QcL]
  · intro x hx
    obtain ⟨p,hp,rfl⟩:=List.mem_map.1 hx
    have h2:=h.rng p hp
    have h4:=UO p.2
    unfold Z2
    omega
theorem Qdx (hn:1≤c.2.1.length):InsI c (WW c s):=by
  refine ⟨fun q hq=> ?_,Qlz List.nodup_nil, ?_⟩
  · rcases Qj1 (show q ∈ psP [] (0, KP s) from hq) with h1 | h1
    · cases h1
    · rw[h1]; show (0:Int)≤0∧(0:Int) < _; omega
  · simp[WW,psP,cdP]
theorem Qj8 (hk:j < st.1.length)(hf:i=n+1):Qe6 c s i j st=Qe6 c s n (j+1) (W9 c s st (j:Int)):=by
  subst hf; rw[Qe6,if_pos hk]
theorem YG (hk:st.1.length≤j):Qe6 c s i j st=st:=by
  cases i with
  | zero=>rfl
  | succ i=>rw[Qe6,if_neg (by omega)]
theorem QgL (hx:ps[i]? =some p):(ps.take i).map (fun p=>p.1)++[p.1]=(ps.take (i+1)).map fun p=>p.1:=by rw[Q8 hx]; simp
theorem QnA (hx:(ps.map Z2)[i]? =some z):(ps.take i).map (fun p=>p.1)++[z / 2]=(ps.take (i+1)).map fun p=>p.1:=by
  obtain ⟨p,h1,h2⟩:=Qdc hx
  rw[h2,Qgq,QgL h1]
end
abbrev Qe7 (name:ByteArray):Q1→Bool:=fun x=>decide (x.1=name)
section
variable [∀c,Decidable (SgOk c)][∀s,Decidable (ZL s)]{c:DSg}{s name:ByteArray}{st:Ins}
def UZ (c:DSg)(name s:ByteArray):Bool:=okP c s&&decide (ZL name)&& !(c.1.any (Qe7 name))&& !decide (c.1.length=8)
def Qhn:DSg×List Int:=(UR,[])
def Yp (c:DSg)(name s:ByteArray):(DSg×List Int)×Bool:=
  if UZ c name s=true∧SgOk (KU c name (YC c s)) then ((KU c name (YC c s),(YC c s).1.map fun p=>p.1),true) else (Qhn,false)
def ZW (c:DSg)(name s:ByteArray):(DSg×List Int)×Bool:=
  if UZ c name s=true then ((KU c name (YC c s),(YC c s).1.map fun p=>p.1),decide (SgOk (KU c name (YC c s)))) else (Qhn,false)
theorem J9 (h:¬SignsOk c s):UZ c name s=false:=by unfold UZ; rw[← QhT h]; rfl
theorem WB (h:okP c s=false):UZ c name s=false:=by unfold UZ; rw[h]; rfl
theorem WE (h:¬ZL name):UZ c name s=false:=by unfold UZ; rw[decide_eq_false h]; simp
theorem WA (h:0≤ZO (Qe7 name) c.1):UZ c name s=false:=by unfold UZ; rw[← Un,decide_eq_true h]; simp
theorem KW (h:(c.1.length:Int)=8):UZ c name s=false:=by unfold UZ; rw[decide_eq_true (show c.1.length=8 by omega)]; simp
theorem J4 (h2:okP c s=true)(h:(8:Int)≤(c.1.length:Int)):UZ c name s=false:=by
  have:=(QeO.1 h2).1.2.2.sigs.2.2
  exact KW (by omega)
theorem XH (h1:okP c s=true)(h2:ZL name)(h3:¬0≤ZO (Qe7 name) c.1)(h4:¬(c.1.length:Int)=8):UZ c name s=true:=by
  unfold UZ; rw[h1,decide_eq_true h2,← Un,decide_eq_false h3,decide_eq_false (show¬c.1.length=8 by omega)]; rfl
theorem ZT (h:UZ c name s=false):Yp c name s=(Qhn,false):=if_neg fun h2=>by rw[h] at h2; cases h2.1
theorem KI (h:YC c s=st)(h2:¬SgOk (KU c name st)):Yp c name s=(Qhn,false):=if_neg fun h3=>h2 (by rw[h] at h3; exact h3.2)
theorem KE (h1:UZ c name s=true)(h:YC c s=st)(h2:SgOk (KU c name st)):Yp c name s=((KU c name st,st.1.map fun p=>p.1),true):=by
  unfold Yp; rw[h,if_pos ⟨h1,h2⟩]
theorem Z1 (h:UZ c name s=false):ZW c name s=(Qhn,false):=if_neg (by rw[h]; decide)
theorem Uw (h1:UZ c name s=true):ZW c name s=((KU c name (YC c s),(YC c s).1.map fun p=>p.1),decide (SgOk (KU c name (YC c s)))):=if_pos h1
theorem QoG (h:(ZW c name s).2=true):Yp c name s=ZW c name s:=by
  unfold ZW at h ⊢
  unfold Yp
  split at h
  · rename_i h1
    have h2:SgOk (KU c name (YC c s)):=of_decide_eq_true h
    rw[if_pos ⟨h1,h2⟩,if_pos h1,decide_eq_true h2]
  · cases h
theorem QoS (h:(ZW c name s).2=false):Yp c name s=(Qhn,false):=by
  unfold ZW at h
  unfold Yp
  split at h
  · exact if_neg fun h2=>(of_decide_eq_false h) h2.2
  · rename_i h1; exact if_neg fun h2=>h1 h2.1
end
theorem Qav (c:(List (ByteArray×Int))×List ByteArray×(List (Int×Int×Bool×Int)))(name:ByteArray)(signs:ByteArray)[∀c,Decidable (SgOk c)][∀s,Decidable (ZL s)](hnm:name.size≤10000000):FC Tryz.prog 213 [(true,[.dat (.sl 145 (.pr .str .int)) c.1, .dat (.sl 9 .str) c.2.1, .dat (.sl 179 (.pr .int (.pr .int (.pr .bool .int)))) c.2.2]),(false,[dS name]),(false,[dS signs])] [] 0 (Is (PV.tup [(true,[.ref 0, .ref 1, .ref 2]),(false,[.ref 3]),(false,[dB ((Yp c name signs).2)])]) [(0,some (.arr 145 (.pr .str .int) (((Yp c name signs).1.1).1))),(1,some (.arr 9 .str (((Yp c name signs).1.1).2.1))),(2,some (.arr 179 (.pr .int (.pr .int (.pr .bool .int))) (((Yp c name signs).1.1).2.2))),(3,some (.arr 3 .int ((Yp c name signs).1.2)))]):=by
 refine QM Tryz.func213 rfl rfl Tryz.ntmps213 fun O_ hO w0_ N0_ X_ h0_ f0_=> ?_
 refine w_ ?_
 refine lc (Qo 0 (Qb rfl) rfl rfl (Fresh.of rfl) (nlr rfl))<|lc (Qt 1 (.pr (.sl 145 (.pr .str .int)) (.pr (.sl 9 .str) (.sl 179 (.pr .int (.pr .int (.pr .bool .int)))))) Xd rfl rfl (Fresh.of rfl) (nlr rfl)) ?_
 iterate 7 refine w_ ?_
 refine lc (Qf (V2 c signs) QhW ⟨_,_,rfl,(Qb rfl),⟨_,_,rfl,(Qb rfl),rfl⟩⟩ rfl rfl) ?_
 iterate 10 refine w_ ?_
 cases hb1:(decide (SignsOk c signs))
 ·have hb1':=of_decide_eq_false hb1
  iterate 24 refine w_ ?_
  refine lc (QH XR rfl (List.all_eq_true.1 rfl) rfl rfl)<|lc (Qh (Qa rfl) rfl (Qb rfl) rfl QU rfl) ?_
  iterate 3 refine w_ ?_
  refine AC.wk (Q5 2 (p:=1) (off:=0) 145 (.pr .str .int) rfl rfl (Fresh.of rfl) (nlr rfl))<|AC.wk (Q5 3 (p:=1) (off:=1) 9 .str rfl rfl (Fresh.of rfl) (nlr rfl))<|AC.wk (Q5 4 (p:=1) (off:=2) 179 (.pr .int (.pr .int (.pr .bool .int))) rfl rfl (Fresh.of rfl) (nlr rfl))<|AC.wk (Wk.nilS 5 7 3 .int rfl (Fresh.of rfl) (nlr rfl))<|Qd ?_
  subst hO
  have e2:(false:Bool)=((Yp c name signs).2):=by
   (rw[ZT (J9 (by assumption))]; done)
  exact Q0 _ _ [(0,2),(1,3),(2,4),(3,5)] (ZJ rfl (Zv rfl rfl QU rfl) (Qc rfl) (Qc rfl)) ((congrArg (fun z_=>PV.tup [(true,[.ref 2, .ref 3, .ref 4]),(false,[.ref 5]),(false,[dB z_])]) e2)) ⟨(QA (by (rw[ZT (J9 (by assumption))]; rfl))),(QA (by (rw[ZT (J9 (by assumption))]; rfl))),(QA (by (rw[ZT (J9 (by assumption))]; rfl))),(QA (by (rw[ZT (J9 (by assumption))]; rfl))),trivial⟩ rfl rfl
 ·have hb1':=of_decide_eq_true hb1
  iterate 4 refine w_ ?_
  cases hb3:(okP c signs)
  ·iterate 20 refine w_ ?_
   refine lc (QH XR rfl (List.all_eq_true.1 rfl) rfl rfl)<|lc (Qh (Qa rfl) rfl (Qb rfl) rfl QU rfl) ?_
   iterate 3 refine w_ ?_
   refine AC.wk (Q5 6 (p:=1) (off:=0) 145 (.pr .str .int) rfl rfl (Fresh.of rfl) (nlr rfl))<|AC.wk (Q5 7 (p:=1) (off:=1) 9 .str rfl rfl (Fresh.of rfl) (nlr rfl))<|AC.wk (Q5 8 (p:=1) (off:=2) 179 (.pr .int (.pr .int (.pr .bool .int))) rfl rfl (Fresh.of rfl) (nlr rfl))<|AC.wk (Wk.nilS 9 7 3 .int rfl (Fresh.of rfl) (nlr rfl))<|Qd ?_
   subst hO
   have e4:(false:Bool)=((Yp c name signs).2):=by
    (rw[ZT (WB (by assumption))]; done)
   exact Q0 _ _ [(0,6),(1,7),(2,8),(3,9)] (ZJ rfl (Zv rfl rfl QU rfl) (Qc rfl) (Qc rfl)) ((congrArg (fun z_=>PV.tup [(true,[.ref 6, .ref 7, .ref 8]),(false,[.ref 9]),(false,[dB z_])]) e4)) ⟨(QA (by (rw[ZT (WB (by assumption))]; rfl))),(QA (by (rw[ZT (WB (by assumption))]; rfl))),(QA (by (rw[ZT (WB (by assumption))]; rfl))),(QA (by (rw[ZT (WB (by assumption))]; rfl))),trivial⟩ rfl rfl
  ·refine w_ ?_
   refine lgy rfl rfl (Qf (Qb9 name) QiH ⟨_,_,rfl,(Qb rfl),rfl⟩ rfl rfl) ?_
   iterate 3 refine w_ ?_
   cases hb5:(decide (ZL name))
   ·have hb5':=of_decide_eq_false hb5
    iterate 15 refine w_ ?_
    refine lc (QH XR rfl (List.all_eq_true.1 rfl) rfl rfl)<|lc (Qh (Qa rfl) rfl (Qb rfl) rfl QU rfl) ?_
    iterate 3 refine w_ ?_
    refine AC.wk (Q5 10 (p:=1) (off:=0) 145 (.pr .str .int) rfl rfl (Fresh.of rfl) (nlr rfl))<|AC.wk (Q5 11 (p:=1) (off:=1) 9 .str rfl rfl (Fresh.of rfl) (nlr rfl))<|AC.wk (Q5 12 (p:=1) (off:=2) 179 (.pr .int (.pr .int (.pr .bool .int))) rfl rfl (Fresh.of rfl) (nlr rfl))<|AC.wk (Wk.nilS 13 7 3 .int rfl (Fresh.of rfl) (nlr rfl))<|Qd ?_
    subst hO
    have e6:(false:Bool)=((Yp c name signs).2):=by
     (rw[ZT (WE (by assumption))]; done)
    exact Q0 _ _ [(0,10),(1,11),(2,12),(3,13)] (ZJ rfl (Zv rfl rfl QU rfl) (Qc rfl) (Qc rfl)) ((congrArg (fun z_=>PV.tup [(true,[.ref 10, .ref 11, .ref 12]),(false,[.ref 13]),(false,[dB z_])]) e6)) ⟨(QA (by (rw[ZT (WE (by assumption))]; rfl))),(QA (by (rw[ZT (WE (by assumption))]; rfl))),(QA (by (rw[ZT (WE (by assumption))]; rfl))),(QA (by (rw[ZT (WE (by assumption))]; rfl))),trivial⟩ rfl rfl
   ·have hb5':=of_decide_eq_true hb5
    iterate 3 refine w_ ?_
    refine lgy rfl rfl (Qf (Uy c.1 name) Qde ⟨_,_,rfl,(Qb rfl),⟨_,_,rfl,(Qb rfl),rfl⟩⟩ rfl rfl) ?_
    iterate 3 refine w_ ?_
    cases hb7:(decide (0≤(ZO (fun x:Q1=>decide (x.1=name)) c.1)))
    ·have hb7':=of_decide_eq_false hb7
     iterate 2 refine w_ ?_
     refine AL.fact (Qy (x:= .tmp 42) (Qa rfl)) fun hl8=> ?_
     iterate 4 refine w_ ?_
     cases hb9:(decide ((c.1.length:Int)=8))
     ·have hb9':=of_decide_eq_false hb9
      iterate 2 refine w_ ?_
      refine XQ ?_
      have hsp:SignsOk c signs∧Xo c signs=true:=QeO.1 (by assumption)
      have hs:=hsp.1
      have hsz:=hs.2.1
      have hn3:=hs.2.2.some_
      have hfw:=hs.2.2.few
      have hsl:=Hw hs.2.2.sigs
      have hc:∀x∈c.2.1,x.size≤1000:=fun x hx=>by have:=(hs.2.2.codes x hx).2; omega
      iterate 3 refine w_ ?_
      refine lc (Qfx (kt:=300) (et:=3) (kb:=true) (k:=(.pr .int .bool)) (vb:=false) (v:= .int) 14 rfl (Fresh.of rfl) (nlr rfl))<|lc (QfP (QnB (offs:=[(0,3),(3,1),(4,3),(7,1),(8,1)]) (zs:=[.slice none 0 0, .slice none 0 0, .slice none 0 0, .string ByteArray.empty, .slice none 0 0, .slice none 0 0, .slice none 0 0, .slice none 0 0, .map none]) Tryz.underlying297 (by kernel_rfl) (by kernel_rfl)) ⟨_,_,rfl,(Qb rfl),⟨_,_,rfl,(Qb rfl),⟨_,_,rfl,(Qb rfl),rfl⟩⟩⟩ (List.all_eq_true.1 rfl) rfl rfl)<|lc (Qo 15 (Qb rfl) rfl rfl (Fresh.of rfl) (nlr rfl)) ?_
      iterate 2 refine w_ ?_
      refine XQ<|AC.wk (s':=⟨[(0,ag [.dat (.sl 145 (.pr .str .int)) c.1, .dat (.sl 9 .str) c.2.1, .dat (.sl 179 (.pr .int (.pr .int (.pr .bool .int)))) c.2.2]),(1,lf (dS name)),(2,lf (dS signs)),(3,lP 0 0),(6,lP 1 0),(7,lf (.val (.slice none 0 0))),(8,lB false),(9,lB true),(10,lB true),(11,lP 15 0),(16,PV.tup [(false,[dB true]),(false,[dB true])]),(17,ag [.dat (.sl 145 (.pr .str .int)) c.1, .dat (.sl 9 .str) c.2.1, .dat (.sl 179 (.pr .int (.pr .int (.pr .bool .int)))) c.2.2]),(18,lf (dS signs)),(19,PV.tup [(false,[dB true]),(false,[dB true])]),(20,lB true),(21,lB true),(22,lB true),(23,lB (!true)),(24,lB false),(25,lB true),(26,lB (!true)),(27,lB (!true)),(28,lB false),(29,lf (dS name)),(30,lB true),(31,lB (!true)),(32,lB (!true)),(33,lB false),(34,lP 0 0),(35,lf (.dat (.sl 145 (.pr .str .int)) c.1)),(36,lf (dS name)),(37,lI (ZO (fun x:Q1=>decide (x.1=name)) c.1)),(38,lB false),(39,lB false),(40,lB false),(41,lP 0 0),(42,lf (.dat (.sl 145 (.pr .str .int)) c.1)),(43,lI (c.1.length:Int)),(44,lB false),(45,lB false),(47,ag [.dat (.sl 145 (.pr .str .int)) c.1, .dat (.sl 9 .str) c.2.1, .dat (.sl 179 (.pr .int (.pr .int (.pr .bool .int)))) c.2.2]),(48,lf (dS signs)),(49,lR 14),(50,ag [.dat (.sl 145 (.pr .str .int)) c.1, .dat (.sl 9 .str) c.2.1, .dat (.sl 179 (.pr .int (.pr .int (.pr .bool .int)))) c.2.2,dS signs, .val (.slice none 0 0), .val (.slice none 0 0), .val (.slice none 0 0), .val (.slice none 0 0), .ref 14]),(51,lP 15 0)],[(0,some (.box 59 [.dat (.sl 145 (.pr .str .int)) c.1, .dat (.sl 9 .str) c.2.1, .dat (.sl 179 (.pr .int (.pr .int (.pr .bool .int)))) c.2.2])),(1,some (.box 59 [.val (.slice none 0 0), .val (.slice none 0 0), .val (.slice none 0 0)])),(14,some (.mp true (.pr .int .bool) false .int ([]))),(15,some (.box 297 [.dat (.sl 145 (.pr .str .int)) c.1, .dat (.sl 9 .str) c.2.1, .dat (.sl 179 (.pr .int (.pr .int (.pr .bool .int)))) c.2.2,dS signs, .val (.slice none 0 0), .val (.slice none 0 0), .val (.slice none 0 0), .val (.slice none 0 0), .ref 14]))]⟩) (Wk.of [(0,0),(1,1),(14,14),(15,15)] rfl ⟨rfl,rfl,rfl,rfl,rfl,rfl,rfl,rfl,rfl,rfl,rfl,rfl,rfl,rfl,rfl,rfl,rfl,rfl,rfl,rfl,rfl,rfl,rfl,rfl,rfl,rfl,rfl,rfl,rfl,rfl,rfl,rfl,rfl,rfl,rfl,rfl,rfl,rfl,rfl,rfl,rfl,rfl,rfl,rfl,rfl,trivial⟩ ⟨rfl,rfl,rfl,rfl,trivial⟩ rfl rfl) ?_
      iterate 4 refine w_ ?_
      refine lc (Y3 16 (Xj c.1 (by omega)) Qiw ⟨_,_,rfl,(Qb rfl),rfl⟩ rfl (Fresh.of rfl) (nlr rfl)) ?_
      refine w_ ?_
      refine lc (QH QjF ⟨_,_,rfl,(Qb rfl),⟨_,_,rfl,(Evl.ev (QB rfl)),rfl⟩⟩ (List.all_eq_true.1 rfl) rfl rfl)<|lc (Ql 17 (e:=(.pr .str .int)) YD YA W7 rfl ⟨_,_,rfl,(Qb rfl),rfl⟩ (List.all_eq_true.1 rfl) ⟨_,_,_,_,rfl,⟨[dS name],[dI 3],_,_,_,_,rfl,rfl,⟨rfl,rfl⟩,⟨rfl,rfl⟩,rfl⟩,⟨rfl,rfl⟩,rfl⟩ (by decide) rfl rfl (Fresh.of rfl) (nlr rfl))<|lc (QY 18 (Qa rfl) rfl (Qa rfl) rfl rfl YD Qbz (by first | omega | (simp only[List.length_append,List.length_map,List.length_take,List.length_cons,List.length_nil]; omega) | (simp only[List.length_append,List.length_drop,List.length_take,List.length_cons,List.length_nil]; omega)) rfl (Fresh.of rfl) (nlr rfl)) ?_
      iterate 3 refine w_ ?_
      refine lc (Qh (Qa rfl) rfl (Qb rfl) rfl Qc3 rfl) ?_
      refine w_ ?_
      refine AC.wk (Q5 19 (p:=15) (off:=7) 300 (.pr .int .bool) rfl rfl (Fresh.of rfl) (nlr rfl))<|AC.wk (Q5 21 (p:=15) (off:=5) 9 .str rfl rfl (Fresh.of rfl) (nlr rfl))<|AC.wk (Q5 23 (p:=15) (off:=6) 179 (.pr .int (.pr .int (.pr .bool .int))) rfl rfl (Fresh.of rfl) (nlr rfl)) ?_
      refine Hz (fun s_=>∃(ps:List (Int×Bool)) (cs:List ByteArray) (as_:List (Int×Int×Bool×Int)),((ps,cs,as_)=WW c signs)∧s_=⟨[(6,lP 1 0),(7,lf (.val (.slice none 0 0))),(8,lB false),(11,lP 15 0)],[(1,some (.box 59 [.val (.slice none 0 0), .val (.slice none 0 0), .val (.slice none 0 0)])),(14,some (.mp true (.pr .int .bool) false .int (Yx ps))),(15,some (.box 297 [.dat (.sl 145 (.pr .str .int)) c.1, .dat (.sl 9 .str) c.2.1, .dat (.sl 179 (.pr .int (.pr .int (.pr .bool .int)))) c.2.2,dS signs, .ref 18, .ref 22, .ref 24, .ref 20, .ref 14])),(18,some (.arr 145 (.pr .str .int) (c.1++([(name,3)])))),(20,some (.arr 300 (.pr .int .bool) ps)),(22,some (.arr 9 .str cs)),(24,some (.arr 179 (.pr .int (.pr .int (.pr .bool .int))) as_))]⟩) ?_ fun J10=> ?_
      ·rintro s_ ⟨ps,cs,as_,hS,rfl⟩
       iterate 5 refine w_ ?_
       refine Qx (fun m_ s_=>∃(k:Nat) (ps:List (Int×Bool)) (cs:List ByteArray) (as_:List (Int×Int×Bool×Int)),k≤601∧m_=601 - k∧(YC c signs=Qe6 c signs (601 - k) k (ps,cs,as_))∧(InsI c (ps,cs,as_))∧(as_.length≤4001*k)∧s_=⟨[(6,lP 1 0),(7,lf (.val (.slice none 0 0))),(8,lB false),(11,lP 15 0),(12,lI (k:Int))],[(1,some (.box 59 [.val (.slice none 0 0), .val (.slice none 0 0), .val (.slice none 0 0)])),(14,some (.mp true (.pr .int .bool) false .int (Yx ps))),(15,some (.box 297 [.dat (.sl 145 (.pr .str .int)) c.1, .dat (.sl 9 .str) c.2.1, .dat (.sl 179 (.pr .int (.pr .int (.pr .bool .int)))) c.2.2,dS signs, .ref 18, .ref 26, .ref 27, .ref 25, .ref 14])),(18,some (.arr 145 (.pr .str .int) (c.1++([(name,3)])))),(25,some (.arr 300 (.pr .int .bool) ps)),(26,some (.arr 9 .str cs)),(27,some (.arr 179 (.pr .int (.pr .int (.pr .bool .int))) as_))]⟩) ⟨0,ps,cs,as_,Nat.zero_le _,rfl,(by rw[hS]; rfl),(by rw[hS]; exact Qdx hn3.1),(by have:=congrArg (fun st:Ins=>st.2.2) hS; simp only[WW] at this; rw[this]; simp),rfl⟩ ?_ ?_
       · exact Wk.of [(1,1),(14,14),(15,15),(18,18),(25,20),(26,22),(27,24)] rfl ⟨rfl,rfl,rfl,rfl,rfl,trivial⟩ ⟨rfl,rfl,rfl,rfl,rfl,rfl,rfl,trivial⟩ rfl rfl
       rintro m_ s_ ⟨k,ps,cs,as_,hk11,hm12,hA,hI,hL,rfl⟩
       have hfe:ps.length≤600:=hI.few hn3.2
       have hle:=hI.len
       have hle1:cs.length=ps.length:=hle
       iterate 10 refine w_ ?_
       cases hb13:(decide ((k:Int) < (ps.length:Int)))
       ·have hb13':=of_decide_eq_false hb13
        refine w_ ?_
        refine QC ?_
        refine (?_:AC _ _ _ _ _)
        iterate 6 refine w_ ?_
        refine lc (Zj (ZM (c.1++([(name,3)]),cs,as_)) Um ⟨_,_,rfl,(Wl (Qb rfl) ⟨_,_,rfl, .inr ⟨_,_,_,_,rfl,rfl,rfl⟩,⟨_,_,rfl, .inr ⟨_,_,_,_,rfl,rfl,rfl⟩,⟨_,_,rfl, .inr ⟨_,_,_,_,rfl,rfl,rfl⟩,rfl⟩⟩⟩),rfl⟩ rfl rfl rfl) ?_
        iterate 2 refine w_ ?_
        cases hb14:(decide (SgOk (c.1++([(name,3)]),cs,as_)))
        ·have hb14':=of_decide_eq_false hb14
         iterate 2 refine w_ ?_
         refine lc (QH XR rfl (List.all_eq_true.1 rfl) rfl rfl)<|lc (Qh (Qa rfl) rfl (Qb rfl) rfl QU rfl) ?_
         iterate 3 refine w_ ?_
         refine AC.wk (Q5 28 (p:=1) (off:=0) 145 (.pr .str .int) rfl rfl (Fresh.of rfl) (nlr rfl))<|AC.wk (Q5 29 (p:=1) (off:=1) 9 .str rfl rfl (Fresh.of rfl) (nlr rfl))<|AC.wk (Q5 30 (p:=1) (off:=2) 179 (.pr .int (.pr .int (.pr .bool .int))) rfl rfl (Fresh.of rfl) (nlr rfl))<|AC.wk (Wk.nilS 31 7 3 .int rfl (Fresh.of rfl) (nlr rfl))<|Qd ?_
         subst hO
         have e15:(false:Bool)=((Yp c name signs).2):=by
          (rw[KI (hA.trans (YG (by show ps.length≤k; omega))) (by assumption)]; done)
         exact Q0 _ _ [(0,28),(1,29),(2,30),(3,31)] (ZJ rfl (Zv rfl rfl QU rfl) (Qc rfl) (Qc rfl)) ((congrArg (fun z_=>PV.tup [(true,[.ref 28, .ref 29, .ref 30]),(false,[.ref 31]),(false,[dB z_])]) e15)) ⟨(QA (by (rw[KI (hA.trans (YG (by show ps.length≤k; omega))) (by assumption)]; rfl))),(QA (by (rw[KI (hA.trans (YG (by show ps.length≤k; omega))) (by assumption)]; rfl))),(QA (by (rw[KI (hA.trans (YG (by show ps.length≤k; omega))) (by assumption)]; rfl))),(QA (by (rw[KI (hA.trans (YG (by show ps.length≤k; omega))) (by assumption)]; rfl))),trivial⟩ rfl rfl
        ·have hb14':=of_decide_eq_true hb14
         iterate 3 refine w_ ?_
         refine lc (Ql 32 (e:= .int) QL Qz Xg rfl rfl (List.all_eq_true.1 rfl) ⟨rfl,rfl⟩ (by decide) rfl rfl (Fresh.of rfl) (nlr rfl)) ?_
         iterate 12 refine w_ ?_
         refine Qx (fun m_ s_=>∃(i:Nat),i≤ps.length∧m_=ps.length - i∧s_=⟨[(6,lP 1 0),(7,lf (.val (.slice none 0 0))),(8,lB false),(11,lP 15 0),(13,lR 33),(97,lR 25),(98,lI (ps.length:Int)),(99,lI (i:Int))],[(1,some (.box 59 [.val (.slice none 0 0), .val (.slice none 0 0), .val (.slice none 0 0)])),(14,some (.mp true (.pr .int .bool) false .int (Yx ps))),(15,some (.box 297 [.dat (.sl 145 (.pr .str .int)) c.1, .dat (.sl 9 .str) c.2.1, .dat (.sl 179 (.pr .int (.pr .int (.pr .bool .int)))) c.2.2,dS signs, .ref 18, .ref 26, .ref 27, .ref 25, .ref 14])),(18,some (.arr 145 (.pr .str .int) (c.1++([(name,3)])))),(25,some (.arr 300 (.pr .int .bool) ps)),(26,some (.arr 9 .str cs)),(27,some (.arr 179 (.pr .int (.pr .int (.pr .bool .int))) as_)),(33,some (.arr 3 .int ((ps.take i).map (fun p=>p.1))))]⟩) ⟨0,Nat.zero_le _,rfl,rfl⟩ ?_ ?_
         · exact Wk.of [(1,1),(14,14),(15,15),(18,18),(25,25),(26,26),(27,27),(33,32)] rfl ⟨rfl,rfl,rfl,rfl,rfl,rfl,rfl,rfl,trivial⟩ ⟨rfl,rfl,rfl,rfl,rfl,rfl,rfl,(QA (by first | rfl | simp)),trivial⟩ rfl rfl
         rintro m_ s_ ⟨i,hk16,hm17,rfl⟩
         have htl:(ps.take i).length≤ps.length:=by simp only[List.length_take]; omega
         have hml:((ps.take i).map (fun p=>p.1)).length=(ps.take i).length:=List.length_map ..
         iterate 4 refine w_ ?_
         cases hb18:(decide ((i:Int) < (ps.length:Int)))
         ·have hb18':=of_decide_eq_false hb18
          refine w_ ?_
          refine QC ?_
          refine (?_:AC _ _ _ _ _)
          iterate 6 refine w_ ?_
          refine lc (Qh (Qa rfl) rfl (Qb rfl) rfl QU rfl) ?_
          iterate 3 refine w_ ?_
          refine Qd ?_
          subst hO
          have e19:(true:Bool)=((Yp c name signs).2):=by
           (rw[KE (XH (by assumption) (by assumption) (by assumption) (by first | assumption | omega)) (hA.trans (YG (by show ps.length≤k; omega))) (by assumption)]; done)
          exact Q0 _ _ [(0,18),(1,26),(2,27),(3,33)] (ZJ rfl (Zv rfl rfl QU rfl) (Qc rfl) (Qc rfl)) ((congrArg (fun z_=>PV.tup [(true,[.ref 18, .ref 26, .ref 27]),(false,[.ref 33]),(false,[dB z_])]) e19)) ⟨(QA (by (rw[KE (XH (by assumption) (by assumption) (by assumption) (by first | assumption | omega)) (hA.trans (YG (by show ps.length≤k; omega))) (by assumption)]; rfl))),(QA (by (rw[KE (XH (by assumption) (by assumption) (by assumption) (by first | assumption | omega)) (hA.trans (YG (by show ps.length≤k; omega))) (by assumption)]; rfl))),(QA (by (rw[KE (XH (by assumption) (by assumption) (by assumption) (by first | assumption | omega)) (hA.trans (YG (by show ps.length≤k; omega))) (by assumption)]; rfl))),(QA (by (rw[KE (XH (by assumption) (by assumption) (by assumption) (by first | assumption | omega)) (hA.trans (YG (by show ps.length≤k; omega))) (by assumption),Zd (by omega)]; done))),trivial⟩ rfl rfl
         ·have hb18':=of_decide_eq_true hb18
          iterate 5 refine w_ ?_
          refine lc (Qq (e:=(.pr .int .bool)) (Qa rfl) rfl (Qa rfl) Qbx We rfl (by omega) (by first | omega | (simp only[List.length_set]; omega))) ?_
          obtain ⟨x20,hx21⟩:∃z,ps[i]? =some z:=⟨_,List.getElem?_eq_getElem (by omega)⟩
          refine lc (VU (e:=(.pr .int .bool)) (Qa rfl) rfl hx21 rfl We rfl rfl)<|lc (Qt 34 (.pr .int .bool) Qbo rfl rfl (Fresh.of rfl) (nlr rfl))<|lc (Qh (Qa rfl) rfl (Qb rfl) rfl We rfl) ?_
          iterate 5 refine w_ ?_
          refine AL.fact (Qu (x:= .tmp 105) (Qa rfl)) fun hi22=>lc (Ql 35 (e:= .int) QL Qz Xg rfl ⟨_,_,rfl,(Qb rfl),rfl⟩ (List.all_eq_true.1 rfl) ⟨_,_,_,_,rfl,⟨rfl,rfl⟩,⟨rfl,rfl⟩,rfl⟩ (by decide) rfl rfl (Fresh.of rfl) (nlr rfl))<|lc (QY 36 (Qa rfl) rfl (Qa rfl) rfl rfl QL WP (by first | omega | (simp only[List.length_append,List.length_map,List.length_take,List.length_cons,List.length_nil]; omega) | (simp only[List.length_append,List.length_drop,List.length_take,List.length_cons,List.length_nil]; omega)) rfl (Fresh.of rfl) (nlr rfl)) ?_
          refine w_ ?_
          refine Qj ?_
          refine (?_:AC _ _ _ _ _)
          iterate 3 refine w_ ?_
          refine Qj<|QR ⟨i+1,by omega,rfl,rfl⟩ (by omega) ?_
          exact Wk.of [(1,1),(14,14),(15,15),(18,18),(25,25),(26,26),(27,27),(33,36)] rfl ⟨rfl,rfl,rfl,rfl,rfl,rfl,rfl,rfl,trivial⟩ ⟨rfl,rfl,rfl,rfl,rfl,rfl,rfl,(QA (QgL hx21)),trivial⟩ rfl rfl
       ·have hb13':=of_decide_eq_true hb13
        iterate 7 refine w_ ?_
        refine lc (QN 37 [(0,15),(1,18),(2,14),(3,26),(4,27),(5,25)] (Us c signs (c.1++([(name,3)])) cs as_ ps (k:Int) (by omega) hs hI.rng (by omega)) QhA ⟨_,_,rfl,(Qb rfl),⟨_,_,rfl,(Qb rfl),rfl⟩⟩ ⟨rfl,rfl,rfl,rfl,rfl,rfl,trivial⟩ rfl ⟨trivial,trivial,(Fresh.of rfl),(Fresh.of rfl),(Fresh.of rfl),trivial,trivial,(Fresh.of rfl),(Fresh.of rfl),(Fresh.of rfl),trivial,trivial⟩ (nlr rfl))<|Qj ?_
        refine (?_:AC _ _ _ _ _)
        iterate 4 refine w_ ?_
        refine Qj<|QR ⟨k+1,((W9 c signs (ps,cs,as_) (k:Int)).1),((W9 c signs (ps,cs,as_) (k:Int)).2.1),((W9 c signs (ps,cs,as_) (k:Int)).2.2),by omega,rfl,(by rw[hA]; exact Qj8 (by show k < ps.length; omega) (by omega)),(HQ hs hI).1,(by have h_:(W9 c signs (ps,cs,as_) (k:Int)).2.2.length≤as_.length+4001:=(HQ (k:=(k:Int)) hs hI).2; omega),rfl⟩ (by omega) ?_
        exact Wk.of [(1,1),(14,14),(15,15),(18,18),(25,42),(26,40),(27,41)] rfl ⟨rfl,rfl,rfl,rfl,rfl,trivial⟩ ⟨rfl,rfl,rfl,(QA (by first | rfl | simp)),rfl,rfl,rfl,trivial⟩ rfl rfl
      ·iterate 3 refine w_ ?_
       obtain ⟨c23,hc24⟩:∃z,signs[(0:Int).toNat]? =some z:=⟨_,getElem?_pos _ _ (by omega)⟩
       refine lc (QF (Qa rfl) (QB rfl) rfl Zb (by omega) hc24)<|lc (QE (Qa rfl) (QV 49 rfl) rfl) ?_
       refine w_ ?_
       cases hb25:(decide (c23=49))
       ·have hb25':=of_decide_eq_false hb25
        refine w_ ?_
        refine lgy rfl rfl (QF (Qa rfl) (QB rfl) rfl Zb (by omega) hc24)<|lgy rfl rfl (QE (Qa rfl) (QV 45 rfl) rfl) ?_
        refine w_ ?_
        refine lc (QH WD ⟨_,_,rfl,(Evl.ev (QB rfl)),⟨_,_,rfl,(Qb rfl),rfl⟩⟩ (List.all_eq_true.1 rfl) rfl rfl) ?_
        refine lc (QN 43 [(0,15),(1,18),(2,23),(3,14),(4,21),(5,19)] (YT c signs (c.1++([(name,3)])) ([]) ([]) ([]) (0,decide (c23=45)) (by first | omega | (refine ⟨?_, ?_⟩ <;> (try dsimp only) <;> omega)) hc (by simp)) JR ⟨_,_,rfl,(Qb rfl),⟨_,_,rfl,(Qb rfl),rfl⟩⟩ ⟨rfl,rfl,rfl,rfl,rfl,rfl,trivial⟩ rfl ⟨trivial,trivial,(Fresh.of rfl),trivial,(Fresh.of rfl),trivial,trivial,(Fresh.of rfl),trivial,(Fresh.of rfl),trivial,trivial⟩ (nlr rfl)) ?_
        refine w_ ?_
        refine VB (J10 _ ⟨(psP ([]) (0,decide (c23=45))),(cdP c ([]) ([]) (0,decide (c23=45))),([]),(by first | (unfold WW KP; rw[QI (p:=0) (by assumption)]; simp[*]; done)),rfl⟩) ?_
        exact Wk.of [(1,1),(14,14),(15,15),(18,18),(20,48),(22,47),(24,23)] rfl ⟨rfl,rfl,rfl,rfl,trivial⟩ ⟨rfl,rfl,rfl,(QA (by first | rfl | simp)),rfl,rfl,rfl,trivial⟩ rfl rfl
       ·have hb25':=of_decide_eq_true hb25
        iterate 4 refine w_ ?_
        refine lc (QH WD ⟨_,_,rfl,(Evl.ev (QB rfl)),⟨_,_,rfl,(Qb rfl),rfl⟩⟩ (List.all_eq_true.1 rfl) rfl rfl) ?_
        refine lc (QN 49 [(0,15),(1,18),(2,23),(3,14),(4,21),(5,19)] (YT c signs (c.1++([(name,3)])) ([]) ([]) ([]) (0,true) (by first | omega | (refine ⟨?_, ?_⟩ <;> (try dsimp only) <;> omega)) hc (by simp)) JR ⟨_,_,rfl,(Qb rfl),⟨_,_,rfl,(Qb rfl),rfl⟩⟩ ⟨rfl,rfl,rfl,rfl,rfl,rfl,trivial⟩ rfl ⟨trivial,trivial,(Fresh.of rfl),trivial,(Fresh.of rfl),trivial,trivial,(Fresh.of rfl),trivial,(Fresh.of rfl),trivial,trivial⟩ (nlr rfl)) ?_
        refine w_ ?_
        refine VB (J10 _ ⟨(psP ([]) (0,true)),(cdP c ([]) ([]) (0,true)),([]),(by first | (unfold WW KP; rw[QI (p:=0) (by assumption)]; simp[*]; done)),rfl⟩) ?_
        exact Wk.of [(1,1),(14,14),(15,15),(18,18),(20,54),(22,53),(24,23)] rfl ⟨rfl,rfl,rfl,rfl,trivial⟩ ⟨rfl,rfl,rfl,(QA (by first | rfl | simp)),rfl,rfl,rfl,trivial⟩ rfl rfl
     ·have hb9':=of_decide_eq_true hb9
      iterate 2 refine w_ ?_
      refine lc (QH XR rfl (List.all_eq_true.1 rfl) rfl rfl)<|lc (Qh (Qa rfl) rfl (Qb rfl) rfl QU rfl) ?_
      iterate 3 refine w_ ?_
      refine AC.wk (Q5 55 (p:=1) (off:=0) 145 (.pr .str .int) rfl rfl (Fresh.of rfl) (nlr rfl))<|AC.wk (Q5 56 (p:=1) (off:=1) 9 .str rfl rfl (Fresh.of rfl) (nlr rfl))<|AC.wk (Q5 57 (p:=1) (off:=2) 179 (.pr .int (.pr .int (.pr .bool .int))) rfl rfl (Fresh.of rfl) (nlr rfl))<|AC.wk (Wk.nilS 58 7 3 .int rfl (Fresh.of rfl) (nlr rfl))<|Qd ?_
      subst hO
      have e26:(false:Bool)=((Yp c name signs).2):=by
       (rw[ZT (KW (by assumption))]; done)
      exact Q0 _ _ [(0,55),(1,56),(2,57),(3,58)] (ZJ rfl (Zv rfl rfl QU rfl) (Qc rfl) (Qc rfl)) ((congrArg (fun z_=>PV.tup [(true,[.ref 55, .ref 56, .ref 57]),(false,[.ref 58]),(false,[dB z_])]) e26)) ⟨(QA (by (rw[ZT (KW (by assumption))]; rfl))),(QA (by (rw[ZT (KW (by assumption))]; rfl))),(QA (by (rw[ZT (KW (by assumption))]; rfl))),(QA (by (rw[ZT (KW (by assumption))]; rfl))),trivial⟩ rfl rfl
    ·have hb7':=of_decide_eq_true hb7
     iterate 8 refine w_ ?_
     refine lc (QH XR rfl (List.all_eq_true.1 rfl) rfl rfl)<|lc (Qh (Qa rfl) rfl (Qb rfl) rfl QU rfl) ?_
     iterate 3 refine w_ ?_
     refine AC.wk (Q5 59 (p:=1) (off:=0) 145 (.pr .str .int) rfl rfl (Fresh.of rfl) (nlr rfl))<|AC.wk (Q5 60 (p:=1) (off:=1) 9 .str rfl rfl (Fresh.of rfl) (nlr rfl))<|AC.wk (Q5 61 (p:=1) (off:=2) 179 (.pr .int (.pr .int (.pr .bool .int))) rfl rfl (Fresh.of rfl) (nlr rfl))<|AC.wk (Wk.nilS 62 7 3 .int rfl (Fresh.of rfl) (nlr rfl))<|Qd ?_
     subst hO
     have e27:(false:Bool)=((Yp c name signs).2):=by
      (rw[ZT (WA (by assumption))]; done)
     exact Q0 _ _ [(0,59),(1,60),(2,61),(3,62)] (ZJ rfl (Zv rfl rfl QU rfl) (Qc rfl) (Qc rfl)) ((congrArg (fun z_=>PV.tup [(true,[.ref 59, .ref 60, .ref 61]),(false,[.ref 62]),(false,[dB z_])]) e27)) ⟨(QA (by (rw[ZT (WA (by assumption))]; rfl))),(QA (by (rw[ZT (WA (by assumption))]; rfl))),(QA (by (rw[ZT (WA (by assumption))]; rfl))),(QA (by (rw[ZT (WA (by assumption))]; rfl))),trivial⟩ rfl rfl
theorem KQ (c:(List (ByteArray×Int))×List ByteArray×(List (Int×Int×Bool×Int)))(name:ByteArray)(signs:ByteArray)[∀c,Decidable (SgOk c)][∀s,Decidable (ZL s)](hnm:name.size≤10000000):FC Tryz.prog 137 [(true,[.dat (.sl 145 (.pr .str .int)) c.1, .dat (.sl 9 .str) c.2.1, .dat (.sl 179 (.pr .int (.pr .int (.pr .bool .int)))) c.2.2]),(false,[dS name]),(false,[dS signs])] [] 0 (Is (PV.tup [(true,[.ref 0, .ref 1, .ref 2]),(false,[dB ((Yp c name signs).2)])]) [(0,some (.arr 145 (.pr .str .int) (((Yp c name signs).1.1).1))),(1,some (.arr 9 .str (((Yp c name signs).1.1).2.1))),(2,some (.arr 179 (.pr .int (.pr .int (.pr .bool .int))) (((Yp c name signs).1.1).2.2)))]):=by
 refine QM Tryz.func137 rfl rfl Tryz.ntmps137 fun O_ hO w0_ N0_ X_ h0_ f0_=> ?_
 refine w_ ?_
 refine lc (Qo 0 (Qb rfl) rfl rfl (Fresh.of rfl) (nlr rfl))<|lc (Qt 1 (.pr (.sl 145 (.pr .str .int)) (.pr (.sl 9 .str) (.sl 179 (.pr .int (.pr .int (.pr .bool .int)))))) Xd rfl rfl (Fresh.of rfl) (nlr rfl)) ?_
 iterate 6 refine w_ ?_
 refine lc (Zu 2 (Qav c name signs hnm) Qhe ⟨_,_,rfl,(Qb rfl),⟨_,_,rfl,(Qb rfl),⟨_,_,rfl,(Qb rfl),rfl⟩⟩⟩ rfl rfl ⟨Fresh.of rfl,Fresh.of rfl,Fresh.of rfl,Fresh.of rfl,trivial⟩ (nlr rfl)) ?_
 iterate 4 refine w_ ?_
 refine lc (Qt 6 (.pr (.sl 145 (.pr .str .int)) (.pr (.sl 9 .str) (.sl 179 (.pr .int (.pr .int (.pr .bool .int)))))) Xd rfl rfl (Fresh.of rfl) (nlr rfl))<|lc (Qh (Qa rfl) rfl (Qb rfl) rfl QU rfl) ?_
 iterate 6 refine w_ ?_
 refine lc (Qh (Qa rfl) rfl (Qb rfl) rfl QU rfl) ?_
 iterate 2 refine w_ ?_
 refine Qd ?_
 subst hO
 exact Q0 _ _ [(0,2),(1,3),(2,4)] (Zk rfl (Zv rfl rfl QU rfl) (Qc rfl)) (rfl) ⟨rfl,rfl,rfl,trivial⟩ rfl rfl
theorem QaS (c:(List (ByteArray×Int))×List ByteArray×(List (Int×Int×Bool×Int)))(name:ByteArray)(signs:ByteArray)(hs:SignsOk c signs)(hnm:name.size≤10000000):FC Tryz.prog 202 [(true,[.dat (.sl 145 (.pr .str .int)) c.1, .dat (.sl 9 .str) c.2.1, .dat (.sl 179 (.pr .int (.pr .int (.pr .bool .int)))) c.2.2]),(false,[dS name]),(false,[dS signs])] [] 0 (Is (PV.tup [(true,[.ref 0, .ref 1, .ref 2]),(false,[.ref 3])]) [(0,some (.arr 145 (.pr .str .int) ((KU c name (YC c signs)).1))),(1,some (.arr 9 .str ((KU c name (YC c signs)).2.1))),(2,some (.arr 179 (.pr .int (.pr .int (.pr .bool .int))) ((KU c name (YC c signs)).2.2))),(3,some (.arr 3 .int ((YC c signs).1.map (fun p=>p.1))))]):=by
 have hsz:=hs.2.1
 have hn3:=hs.2.2.some_
 have hfw:=hs.2.2.few
 have hsl:=Hw hs.2.2.sigs
 have hc:∀x∈c.2.1,x.size≤1000:=fun x hx=>by have:=(hs.2.2.codes x hx).2; omega
 refine QM Tryz.func202 rfl rfl Tryz.ntmps202 fun O_ hO w0_ N0_ X_ h0_ f0_=> ?_
 refine w_ ?_
 refine lc (Qo 0 (Qb rfl) rfl rfl (Fresh.of rfl) (nlr rfl))<|lc (Qt 1 (.pr (.sl 145 (.pr .str .int)) (.pr (.sl 9 .str) (.sl 179 (.pr .int (.pr .int (.pr .bool .int)))))) Xd rfl rfl (Fresh.of rfl) (nlr rfl)) ?_
 iterate 5 refine w_ ?_
 refine lc (QH QnJ ⟨_,_,rfl,(Qb rfl),⟨_,_,rfl,(Qb rfl),rfl⟩⟩ (List.all_eq_true.1 rfl) rfl rfl)<|lc (Qo 2 (Qb rfl) rfl rfl (Fresh.of rfl) (nlr rfl)) ?_
 iterate 2 refine w_ ?_
 refine XQ<|AC.wk (s':=⟨[(0,ag [.dat (.sl 145 (.pr .str .int)) c.1, .dat (.sl 9 .str) c.2.1, .dat (.sl 179 (.pr .int (.pr .int (.pr .bool .int)))) c.2.2]),(1,lf (dS name)),(2,lf (dS signs)),(3,lP 0 0),(6,lP 1 0),(7,lf (.val (.slice none 0 0))),(8,lP 2 0),(14,ag [.dat (.sl 145 (.pr .str .int)) c.1, .dat (.sl 9 .str) c.2.1, .dat (.sl 179 (.pr .int (.pr .int (.pr .bool .int)))) c.2.2]),(15,lf (dS signs)),(16,ag [.dat (.sl 145 (.pr .str .int)) c.1, .dat (.sl 9 .str) c.2.1, .dat (.sl 179 (.pr .int (.pr .int (.pr .bool .int)))) c.2.2,dS signs, .val (.slice none 0 0), .val (.slice none 0 0), .val (.slice none 0 0), .val (.slice none 0 0)]),(17,lP 2 0)],[(0,some (.box 59 [.dat (.sl 145 (.pr .str .int)) c.1, .dat (.sl 9 .str) c.2.1, .dat (.sl 179 (.pr .int (.pr .int (.pr .bool .int)))) c.2.2])),(1,some (.box 59 [.val (.slice none 0 0), .val (.slice none 0 0), .val (.slice none 0 0)])),(2,some (.box 288 [.dat (.sl 145 (.pr .str .int)) c.1, .dat (.sl 9 .str) c.2.1, .dat (.sl 179 (.pr .int (.pr .int (.pr .bool .int)))) c.2.2,dS signs, .val (.slice none 0 0), .val (.slice none 0 0), .val (.slice none 0 0), .val (.slice none 0 0)]))]⟩) (Wk.of [(0,0),(1,1),(2,2)] rfl ⟨rfl,rfl,rfl,rfl,rfl,rfl,rfl,rfl,rfl,rfl,rfl,trivial⟩ ⟨rfl,rfl,rfl,trivial⟩ rfl rfl) ?_
 iterate 2 refine w_ ?_
 refine lc (Ql 3 (e:=(.pr .str .int)) YD YA W7 rfl rfl (List.all_eq_true.1 rfl) ⟨rfl,rfl⟩ (by decide) rfl rfl (Fresh.of rfl) (nlr rfl)) ?_
 iterate 2 refine w_ ?_
 refine lc (YY 4 (Qa rfl) rfl (Evl.rep (Qa rfl)) rfl YD Qbz (by first | omega | (simp only[List.length_append,List.length_map,List.length_take,List.length_cons,List.length_nil]; omega) | (simp only[List.length_append,List.length_drop,List.length_take,List.length_cons,List.length_nil]; omega)) rfl (Fresh.of rfl) (nlr rfl)) ?_
 refine w_ ?_
 refine lc (QH QjF ⟨_,_,rfl,(Qb rfl),⟨_,_,rfl,(Evl.ev (QB rfl)),rfl⟩⟩ (List.all_eq_true.1 rfl) rfl rfl)<|lc (Ql 5 (e:=(.pr .str .int)) YD YA W7 rfl ⟨_,_,rfl,(Qb rfl),rfl⟩ (List.all_eq_true.1 rfl) ⟨_,_,_,_,rfl,⟨[dS name],[dI 3],_,_,_,_,rfl,rfl,⟨rfl,rfl⟩,⟨rfl,rfl⟩,rfl⟩,⟨rfl,rfl⟩,rfl⟩ (by decide) rfl rfl (Fresh.of rfl) (nlr rfl))<|lc (QY 6 (Qa rfl) rfl (Qa rfl) rfl rfl YD Qbz (by first | omega | (simp only[List.length_append,List.length_map,List.length_take,List.length_cons,List.length_nil]; omega) | (simp only[List.length_append,List.length_drop,List.length_take,List.length_cons,List.length_nil]; omega)) rfl (Fresh.of rfl) (nlr rfl)) ?_
 iterate 3 refine w_ ?_
 refine lc (Qh (Qa rfl) rfl (Qb rfl) rfl Qc3 rfl) ?_
 iterate 4 refine w_ ?_
 refine AC.wk (Q5 7 (p:=2) (off:=4) 3 .int rfl rfl (Fresh.of rfl) (nlr rfl))<|AC.wk (Q5 9 (p:=2) (off:=6) 9 .str rfl rfl (Fresh.of rfl) (nlr rfl))<|AC.wk (Q5 11 (p:=2) (off:=7) 179 (.pr .int (.pr .int (.pr .bool .int))) rfl rfl (Fresh.of rfl) (nlr rfl)) ?_
 refine QcC (fun s_=>∃(cs:List ByteArray) (as_:List (Int×Int×Bool×Int)) (ps:List PSt),((ps,cs,as_)=WW c signs)∧s_=⟨[(6,lP 1 0),(7,lf (.val (.slice none 0 0))),(8,lP 2 0)],[(1,some (.box 59 [.val (.slice none 0 0), .val (.slice none 0 0), .val (.slice none 0 0)])),(2,some (.box 288 [.dat (.sl 145 (.pr .str .int)) c.1, .dat (.sl 9 .str) c.2.1, .dat (.sl 179 (.pr .int (.pr .int (.pr .bool .int)))) c.2.2,dS signs, .ref 8, .ref 6, .ref 10, .ref 12])),(6,some (.arr 145 (.pr .str .int) ((([])++c.1)++([(name,3)])))),(8,some (.arr 3 .int (ps.map Z2))),(10,some (.arr 9 .str cs)),(12,some (.arr 179 (.pr .int (.pr .int (.pr .bool .int))) as_))]⟩) ?_ fun J1=> ?_
 ·rintro s_ ⟨cs,as_,ps,hS,rfl⟩
  iterate 5 refine w_ ?_
  refine Qx (fun m_ s_=>∃(k:Nat) (cs:List ByteArray) (as_:List (Int×Int×Bool×Int)) (ps:List PSt),k≤601∧m_=601 - k∧(YC c signs=Qe6 c signs (601 - k) k (ps,cs,as_))∧(InsI c (ps,cs,as_))∧(as_.length≤4001*k)∧s_=⟨[(6,lP 1 0),(7,lf (.val (.slice none 0 0))),(8,lP 2 0),(10,lI (k:Int))],[(1,some (.box 59 [.val (.slice none 0 0), .val (.slice none 0 0), .val (.slice none 0 0)])),(2,some (.box 288 [.dat (.sl 145 (.pr .str .int)) c.1, .dat (.sl 9 .str) c.2.1, .dat (.sl 179 (.pr .int (.pr .int (.pr .bool .int)))) c.2.2,dS signs, .ref 13, .ref 6, .ref 14, .ref 15])),(6,some (.arr 145 (.pr .str .int) ((([])++c.1)++([(name,3)])))),(13,some (.arr 3 .int (ps.map Z2))),(14,some (.arr 9 .str cs)),(15,some (.arr 179 (.pr .int (.pr .int (.pr .bool .int))) as_))]⟩) ⟨0,cs,as_,ps,Nat.zero_le _,rfl,(by rw[hS]; rfl),(by rw[hS]; exact Qdx hn3.1),(by have:=congrArg (fun st:Ins=>st.2.2) hS; simp only[WW] at this; rw[this]; simp),rfl⟩ ?_ ?_
  · exact Wk.of [(1,1),(2,2),(6,6),(13,8),(14,10),(15,12)] rfl ⟨rfl,rfl,rfl,rfl,trivial⟩ ⟨rfl,rfl,rfl,rfl,rfl,rfl,trivial⟩ rfl rfl
  rintro m_ s_ ⟨k,cs,as_,ps,hk2,hm3,hA,hI,hL,rfl⟩
  have hfe:ps.length≤600:=hI.few hn3.2
  have hle:=hI.len
  have hle1:cs.length=ps.length:=hle
  have hkl:(ps.map Z2).length=ps.length:=List.length_map ..
  iterate 10 refine w_ ?_
  cases hb4:(decide ((k:Int) < ((ps.map Z2).length:Int)))
  ·have hb4':=of_decide_eq_false hb4
   refine w_ ?_
   refine QC ?_
   refine (?_:AC _ _ _ _ _)
   iterate 13 refine w_ ?_
   refine AC.wk (Wk.nilS 16 11 3 .int rfl (Fresh.of rfl) (nlr rfl)) ?_
   refine Qx (fun m_ s_=>∃(i:Nat),i≤ps.length∧m_=ps.length - i∧s_=⟨[(6,lP 1 0),(7,lf (.val (.slice none 0 0))),(8,lP 2 0),(11,lR 17),(56,lR 13),(57,lI ((ps.map Z2).length:Int)),(58,lI (i:Int))],[(1,some (.box 59 [.val (.slice none 0 0), .val (.slice none 0 0), .val (.slice none 0 0)])),(2,some (.box 288 [.dat (.sl 145 (.pr .str .int)) c.1, .dat (.sl 9 .str) c.2.1, .dat (.sl 179 (.pr .int (.pr .int (.pr .bool .int)))) c.2.2,dS signs, .ref 13, .ref 6, .ref 14, .ref 15])),(6,some (.arr 145 (.pr .str .int) ((([])++c.1)++([(name,3)])))),(13,some (.arr 3 .int (ps.map Z2))),(14,some (.arr 9 .str cs)),(15,some (.arr 179 (.pr .int (.pr .int (.pr .bool .int))) as_)),(17,some (.arr 3 .int ((ps.take i).map (fun p=>p.1))))]⟩) ⟨0,Nat.zero_le _,rfl,rfl⟩ ?_ ?_
   · exact Wk.of [(1,1),(2,2),(6,6),(13,13),(14,14),(15,15),(17,16)] rfl ⟨rfl,rfl,rfl,rfl,rfl,rfl,rfl,trivial⟩ ⟨rfl,rfl,rfl,rfl,rfl,rfl,(QA (by first | rfl | simp)),trivial⟩ rfl rfl
   rintro m_ s_ ⟨i,hk5,hm6,rfl⟩
   have htl:(ps.take i).length≤ps.length:=by simp only[List.length_take]; omega
   have hml:((ps.take i).map (fun p=>p.1)).length=(ps.take i).length:=List.length_map ..
   iterate 4 refine w_ ?_
   cases hb7:(decide ((i:Int) < ((ps.map Z2).length:Int)))
   ·have hb7':=of_decide_eq_false hb7
    refine w_ ?_
    refine QC ?_
    refine (?_:AC _ _ _ _ _)
    iterate 6 refine w_ ?_
    refine lc (Qh (Qa rfl) rfl (Qb rfl) rfl QU rfl) ?_
    iterate 2 refine w_ ?_
    refine Qd ?_
    subst hO
    exact Q0 _ _ [(0,6),(1,14),(2,15),(3,17)] (Zk rfl (Zv rfl rfl QU rfl) (Qc rfl)) (rfl) ⟨(QA (by (rw[hA.trans (YG (by show ps.length≤k; omega))]; rfl))),(QA (by (rw[hA.trans (YG (by show ps.length≤k; omega))]; rfl))),(QA (by (rw[hA.trans (YG (by show ps.length≤k; omega))]; rfl))),(QA (by (rw[hA.trans (YG (by show ps.length≤k; omega)),Zd (by omega)]; done))),trivial⟩ rfl rfl
   ·have hb7':=of_decide_eq_true hb7
    iterate 5 refine w_ ?_
    refine lc (Qq (e:= .int) (Qa rfl) rfl (Qa rfl) QL Qz rfl (by omega) (by first | omega | (simp only[List.length_set]; omega))) ?_
    obtain ⟨x8,hx9⟩:∃z,(ps.map Z2)[i]? =some z:=⟨_,List.getElem?_eq_getElem (by omega)⟩
    have hz0x8:0≤x8:=by obtain ⟨p_,h1_,h2_⟩:=Qdc hx9; have:=hI.rng _ (List.mem_of_getElem? h1_); have h3_:0≤p_.1:=this.1; have:=UO p_.2; rw[h2_]; unfold Z2; omega
    refine lc (Q4 (e:= .int) (Qa rfl) rfl hx9 rfl Qz rfl rfl)<|AL.fact (Qu (x:= .tmp 61) (Qa rfl)) fun hi10=> ?_
    iterate 5 refine w_ ?_
    refine lc (Qcp (Qa rfl) (QB rfl) rfl (by omega) (by omega))<|lc (Ql 18 (e:= .int) QL Qz Xg rfl ⟨_,_,rfl,(Qb rfl),rfl⟩ (List.all_eq_true.1 rfl) ⟨_,_,_,_,rfl,⟨rfl,rfl⟩,⟨rfl,rfl⟩,rfl⟩ (by decide) rfl rfl (Fresh.of rfl) (nlr rfl))<|lc (QY 19 (Qa rfl) rfl (Qa rfl) rfl rfl QL WP (by first | omega | (simp only[List.length_append,List.length_map,List.length_take,List.length_cons,List.length_nil]; omega) | (simp only[List.length_append,List.length_drop,List.length_take,List.length_cons,List.length_nil]; omega)) rfl (Fresh.of rfl) (nlr rfl)) ?_
    refine w_ ?_
    refine Qj ?_
    refine (?_:AC _ _ _ _ _)
    iterate 3 refine w_ ?_
    refine Qj<|QR ⟨i+1,by omega,rfl,rfl⟩ (by omega) ?_
    exact Wk.of [(1,1),(2,2),(6,6),(13,13),(14,14),(15,15),(17,19)] rfl ⟨rfl,rfl,rfl,rfl,rfl,rfl,rfl,trivial⟩ ⟨rfl,rfl,rfl,rfl,rfl,rfl,(QA (QnA hx9)),trivial⟩ rfl rfl
  ·have hb4':=of_decide_eq_true hb4
   iterate 7 refine w_ ?_
   refine lc (QN 20 [(0,2),(1,6),(2,13),(3,14),(4,15)] (Hq c signs ps ((([])++c.1)++([(name,3)])) cs as_ (k:Int) (by omega) hs hI.rng (by omega)) Qhb ⟨_,_,rfl,(Qb rfl),⟨_,_,rfl,(Qb rfl),rfl⟩⟩ ⟨rfl,rfl,rfl,rfl,rfl,trivial⟩ rfl ⟨trivial,(Fresh.of rfl),trivial,(Fresh.of rfl),(Fresh.of rfl),(Fresh.of rfl),trivial,(Fresh.of rfl),(Fresh.of rfl),trivial⟩ (nlr rfl))<|Qj ?_
   refine (?_:AC _ _ _ _ _)
   iterate 4 refine w_ ?_
   refine Qj<|QR ⟨k+1,((W9 c signs (ps,cs,as_) (k:Int)).2.1),((W9 c signs (ps,cs,as_) (k:Int)).2.2),((W9 c signs (ps,cs,as_) (k:Int)).1),by omega,rfl,(by rw[hA]; exact Qj8 (by show k < ps.length; omega) (by omega)),(HQ hs hI).1,(by have h_:(W9 c signs (ps,cs,as_) (k:Int)).2.2.length≤as_.length+4001:=(HQ (k:=(k:Int)) hs hI).2; omega),rfl⟩ (by omega) ?_
   exact Wk.of [(1,1),(2,2),(6,6),(13,22),(14,23),(15,24)] rfl ⟨rfl,rfl,rfl,rfl,trivial⟩ ⟨rfl,rfl,(QA (by first | rfl | simp)),rfl,rfl,rfl,trivial⟩ rfl rfl
 ·iterate 3 refine w_ ?_
  obtain ⟨c11,hc12⟩:∃z,signs[(0:Int).toNat]? =some z:=⟨_,getElem?_pos _ _ (by omega)⟩
  refine lc (QF (Qa rfl) (QB rfl) rfl Zb (by omega) hc12)<|lc (QE (Qa rfl) (QV 49 rfl) rfl) ?_
  refine w_ ?_
  cases hb13:(decide (c11=49))
  ·have hb13':=of_decide_eq_false hb13
   refine w_ ?_
   refine lgy rfl rfl (QF (Qa rfl) (QB rfl) rfl Zb (by omega) hc12)<|lgy rfl rfl (QE (Qa rfl) (QV 45 rfl) rfl) ?_
   iterate 2 refine w_ ?_
   cases hb14:(decide (c11=45))
   ·have hb14':=of_decide_eq_false hb14
    iterate 5 refine w_ ?_
    refine lc (QN 25 [(0,2),(1,6),(2,11),(3,7),(4,9)] (ZY c signs ([]) ((([])++c.1)++([(name,3)])) ([]) ([]) 0 0 (by omega) (by omega) hc (by simp) (by omega)) XT ⟨_,_,rfl,(Qb rfl),⟨_,_,rfl,(Evl.ev (QB rfl)),⟨_,_,rfl,(Qb rfl),rfl⟩⟩⟩ ⟨rfl,rfl,rfl,rfl,rfl,trivial⟩ rfl ⟨trivial,(Fresh.of rfl),trivial,(Fresh.of rfl),trivial,(Fresh.of rfl),trivial,(Fresh.of rfl),trivial,trivial⟩ (nlr rfl)) ?_
    refine w_ ?_
    refine VB (J1 _ ⟨(cdP c ([]) ([]) (0,decide (0=1))),([]),(psP ([]) (0,decide (0=1))),(by first | (unfold WW KP; rw[QI (p:=0) (by assumption)]; simp[*]; done)),rfl⟩) ?_
    exact Wk.of [(1,1),(2,2),(6,6),(8,28),(10,29),(12,11)] rfl ⟨rfl,rfl,rfl,trivial⟩ ⟨rfl,rfl,(QA (by first | rfl | simp)),rfl,rfl,rfl,trivial⟩ rfl rfl
   ·have hb14':=of_decide_eq_true hb14
    iterate 7 refine w_ ?_
    refine lc (QN 30 [(0,2),(1,6),(2,11),(3,7),(4,9)] (ZY c signs ([]) ((([])++c.1)++([(name,3)])) ([]) ([]) 0 1 (by omega) (by omega) hc (by simp) (by omega)) XT ⟨_,_,rfl,(Qb rfl),⟨_,_,rfl,(Evl.ev (QB rfl)),⟨_,_,rfl,(Qb rfl),rfl⟩⟩⟩ ⟨rfl,rfl,rfl,rfl,rfl,trivial⟩ rfl ⟨trivial,(Fresh.of rfl),trivial,(Fresh.of rfl),trivial,(Fresh.of rfl),trivial,(Fresh.of rfl),trivial,trivial⟩ (nlr rfl)) ?_
    refine w_ ?_
    refine VB (J1 _ ⟨(cdP c ([]) ([]) (0,decide (1=1))),([]),(psP ([]) (0,decide (1=1))),(by first | (unfold WW KP; rw[QI (p:=0) (by assumption)]; simp[*]; done)),rfl⟩) ?_
    exact Wk.of [(1,1),(2,2),(6,6),(8,33),(10,34),(12,11)] rfl ⟨rfl,rfl,rfl,trivial⟩ ⟨rfl,rfl,(QA (by first | rfl | simp)),rfl,rfl,rfl,trivial⟩ rfl rfl
  ·have hb13':=of_decide_eq_true hb13
   iterate 12 refine w_ ?_
   refine lc (QN 35 [(0,2),(1,6),(2,11),(3,7),(4,9)] (ZY c signs ([]) ((([])++c.1)++([(name,3)])) ([]) ([]) 0 1 (by omega) (by omega) hc (by simp) (by omega)) XT ⟨_,_,rfl,(Qb rfl),⟨_,_,rfl,(Evl.ev (QB rfl)),⟨_,_,rfl,(Qb rfl),rfl⟩⟩⟩ ⟨rfl,rfl,rfl,rfl,rfl,trivial⟩ rfl ⟨trivial,(Fresh.of rfl),trivial,(Fresh.of rfl),trivial,(Fresh.of rfl),trivial,(Fresh.of rfl),trivial,trivial⟩ (nlr rfl)) ?_
   refine w_ ?_
   refine VB (J1 _ ⟨(cdP c ([]) ([]) (0,decide (1=1))),([]),(psP ([]) (0,decide (1=1))),(by first | (unfold WW KP; rw[QI (p:=0) (by assumption)]; simp[*]; done)),rfl⟩) ?_
   exact Wk.of [(1,1),(2,2),(6,6),(8,38),(10,39),(12,11)] rfl ⟨rfl,rfl,rfl,trivial⟩ ⟨rfl,rfl,(QA (by first | rfl | simp)),rfl,rfl,rfl,trivial⟩ rfl rfl
theorem JY (c:(List (ByteArray×Int))×List ByteArray×(List (Int×Int×Bool×Int)))(name:ByteArray)(signs:ByteArray)[∀c,Decidable (SgOk c)][∀s,Decidable (ZL s)](hnm:name.size≤10000000):FC Tryz.prog 125 [(true,[.dat (.sl 145 (.pr .str .int)) c.1, .dat (.sl 9 .str) c.2.1, .dat (.sl 179 (.pr .int (.pr .int (.pr .bool .int)))) c.2.2]),(false,[dS name]),(false,[dS signs])] [] 0 (Is (PV.tup [(true,[.ref 0, .ref 1, .ref 2]),(false,[.ref 3]),(false,[dB ((ZW c name signs).2)])]) [(0,some (.arr 145 (.pr .str .int) (((ZW c name signs).1.1).1))),(1,some (.arr 9 .str (((ZW c name signs).1.1).2.1))),(2,some (.arr 179 (.pr .int (.pr .int (.pr .bool .int))) (((ZW c name signs).1.1).2.2))),(3,some (.arr 3 .int ((ZW c name signs).1.2)))]):=by
 refine QM Tryz.func125 rfl rfl Tryz.ntmps125 fun O_ hO w0_ N0_ X_ h0_ f0_=> ?_
 refine w_ ?_
 refine lc (Qo 0 (Qb rfl) rfl rfl (Fresh.of rfl) (nlr rfl))<|lc (Qt 1 (.pr (.sl 145 (.pr .str .int)) (.pr (.sl 9 .str) (.sl 179 (.pr .int (.pr .int (.pr .bool .int)))))) Xd rfl rfl (Fresh.of rfl) (nlr rfl)) ?_
 iterate 7 refine w_ ?_
 refine lc (Qf (Qau c signs) QhF ⟨_,_,rfl,(Qb rfl),⟨_,_,rfl,(Qb rfl),rfl⟩⟩ rfl rfl) ?_
 iterate 2 refine w_ ?_
 cases hb1:(okP c signs)
 ·iterate 20 refine w_ ?_
  refine lc (QH XR rfl (List.all_eq_true.1 rfl) rfl rfl)<|lc (Qh (Qa rfl) rfl (Qb rfl) rfl QU rfl) ?_
  iterate 3 refine w_ ?_
  refine AC.wk (Q5 2 (p:=1) (off:=0) 145 (.pr .str .int) rfl rfl (Fresh.of rfl) (nlr rfl))<|AC.wk (Q5 3 (p:=1) (off:=1) 9 .str rfl rfl (Fresh.of rfl) (nlr rfl))<|AC.wk (Q5 4 (p:=1) (off:=2) 179 (.pr .int (.pr .int (.pr .bool .int))) rfl rfl (Fresh.of rfl) (nlr rfl))<|AC.wk (Wk.nilS 5 7 3 .int rfl (Fresh.of rfl) (nlr rfl))<|Qd ?_
  subst hO
  have e2:(false:Bool)=((ZW c name signs).2):=by
   (rw[Z1 (WB (by assumption))]; done)
  exact Q0 _ _ [(0,2),(1,3),(2,4),(3,5)] (ZJ rfl (Zv rfl rfl QU rfl) (Qc rfl) (Qc rfl)) ((congrArg (fun z_=>PV.tup [(true,[.ref 2, .ref 3, .ref 4]),(false,[.ref 5]),(false,[dB z_])]) e2)) ⟨(QA (by (rw[Z1 (WB (by assumption))]; rfl))),(QA (by (rw[Z1 (WB (by assumption))]; rfl))),(QA (by (rw[Z1 (WB (by assumption))]; rfl))),(QA (by (rw[Z1 (WB (by assumption))]; rfl))),trivial⟩ rfl rfl
 ·iterate 2 refine w_ ?_
  refine AL.fact (Qy (x:= .tmp 17) (Qa rfl)) fun hl3=> ?_
  iterate 4 refine w_ ?_
  cases hb4:(decide (8≤(c.1.length:Int)))
  ·have hb4':=of_decide_eq_false hb4
   refine w_ ?_
   refine lgy rfl rfl (Qf (QbW name) QhV ⟨_,_,rfl,(Qb rfl),rfl⟩ rfl rfl) ?_
   iterate 3 refine w_ ?_
   cases hb5:(decide (ZL name))
   ·have hb5':=of_decide_eq_false hb5
    iterate 9 refine w_ ?_
    refine lc (QH XR rfl (List.all_eq_true.1 rfl) rfl rfl)<|lc (Qh (Qa rfl) rfl (Qb rfl) rfl QU rfl) ?_
    iterate 3 refine w_ ?_
    refine AC.wk (Q5 6 (p:=1) (off:=0) 145 (.pr .str .int) rfl rfl (Fresh.of rfl) (nlr rfl))<|AC.wk (Q5 7 (p:=1) (off:=1) 9 .str rfl rfl (Fresh.of rfl) (nlr rfl))<|AC.wk (Q5 8 (p:=1) (off:=2) 179 (.pr .int (.pr .int (.pr .bool .int))) rfl rfl (Fresh.of rfl) (nlr rfl))<|AC.wk (Wk.nilS 9 7 3 .int rfl (Fresh.of rfl) (nlr rfl))<|Qd ?_
    subst hO
    have e6:(false:Bool)=((ZW c name signs).2):=by
     (rw[Z1 (WE (by assumption))]; done)
    exact Q0 _ _ [(0,6),(1,7),(2,8),(3,9)] (ZJ rfl (Zv rfl rfl QU rfl) (Qc rfl) (Qc rfl)) ((congrArg (fun z_=>PV.tup [(true,[.ref 6, .ref 7, .ref 8]),(false,[.ref 9]),(false,[dB z_])]) e6)) ⟨(QA (by (rw[Z1 (WE (by assumption))]; rfl))),(QA (by (rw[Z1 (WE (by assumption))]; rfl))),(QA (by (rw[Z1 (WE (by assumption))]; rfl))),(QA (by (rw[Z1 (WE (by assumption))]; rfl))),trivial⟩ rfl rfl
   ·have hb5':=of_decide_eq_true hb5
    iterate 3 refine w_ ?_
    refine lgy rfl rfl (Qf (Uh c.1 name) QcZ ⟨_,_,rfl,(Qb rfl),⟨_,_,rfl,(Qb rfl),rfl⟩⟩ rfl rfl) ?_
    iterate 3 refine w_ ?_
    cases hb7:(decide (0≤(ZO (fun x:Q1=>decide (x.1=name)) c.1)))
    ·have hb7':=of_decide_eq_false hb7
     iterate 2 refine w_ ?_
     refine XQ ?_
     have hsp:SignsOk c signs∧Xo c signs=true:=QeO.1 (by assumption)
     iterate 4 refine w_ ?_
     refine lc (Zu 10 (QaS c name signs hsp.1 hnm) Qio ⟨_,_,rfl,(Qb rfl),⟨_,_,rfl,(Qb rfl),⟨_,_,rfl,(Qb rfl),rfl⟩⟩⟩ rfl rfl ⟨Fresh.of rfl,Fresh.of rfl,Fresh.of rfl,Fresh.of rfl,trivial⟩ (nlr rfl)) ?_
     iterate 3 refine w_ ?_
     refine lc (Qt 14 (.pr (.sl 145 (.pr .str .int)) (.pr (.sl 9 .str) (.sl 179 (.pr .int (.pr .int (.pr .bool .int)))))) Xd rfl rfl (Fresh.of rfl) (nlr rfl))<|lc (Qh (Qa rfl) rfl (Qb rfl) rfl QU rfl) ?_
     iterate 2 refine w_ ?_
     refine dw [io 41 (ag [.ref 10, .ref 11, .ref 12]),io 42 (lR 13),io 43 (ag [.ref 10, .ref 11, .ref 12]),io 44 (lB (decide (SgOk (KU c name (YC c signs))))),⟨none,lf (.val undef),[(1,some (.box 59 [.ref 10, .ref 11, .ref 12]))]⟩,io 7 (lR 13),io 8 (lB (decide (SgOk (KU c name (YC c signs)))))] [0,0,0,4,13,31,63] mixed rfl (by kernel_rfl) ⟨dxa QU rfl rfl rfl rfl,dxm rfl rfl,dxa QU rfl rfl rfl rfl,fun _ h_=>ac (Zj (Yw (KU c name (YC c signs))) Wv ⟨_,_,rfl,(Wl (h_.w rfl) ⟨_,_,rfl, .inr ⟨_,_,_,_,rfl,(h_.n 10 rfl),rfl⟩,⟨_,_,rfl, .inr ⟨_,_,_,_,rfl,(h_.n 11 rfl),rfl⟩,⟨_,_,rfl, .inr ⟨_,_,_,_,rfl,(h_.n 12 rfl),rfl⟩,rfl⟩⟩⟩),rfl⟩ rfl rfl rfl) rfl,fun _ h_=>ac (Qh (h_.v rfl) (h_.en 1 rfl) (h_.w rfl) (by simp only[Yq,JP,List.all_cons,List.all_nil]; rw[(h_.en 10 rfl),(h_.en 11 rfl),(h_.en 12 rfl)]; rfl) QU rfl) rfl,dxt rfl rfl,dxt rfl rfl,⟨⟩⟩<|Qd ?_
     subst hO
     have e8:(decide (SgOk (KU c name (YC c signs))):Bool)=((ZW c name signs).2):=by
      (rw[Uw (XH (by assumption) (by assumption) (by assumption) (by omega))]; done)
     exact Q0 _ _ [(0,10),(1,11),(2,12),(3,13)] (ZJ rfl (Zv rfl rfl QU rfl) (Qc rfl) (Qc rfl)) ((congrArg (fun z_=>PV.tup [(true,[.ref 10, .ref 11, .ref 12]),(false,[.ref 13]),(false,[dB z_])]) e8)) ⟨(QA (by (rw[Uw (XH (by assumption) (by assumption) (by assumption) (by omega))]; done))),(QA (by (rw[Uw (XH (by assumption) (by assumption) (by assumption) (by omega))]; done))),(QA (by (rw[Uw (XH (by assumption) (by assumption) (by assumption) (by omega))]; done))),(QA (by (rw[Uw (XH (by assumption) (by assumption) (by assumption) (by omega))]; done))),trivial⟩ rfl rfl
    ·have hb7':=of_decide_eq_true hb7
     iterate 2 refine w_ ?_
     refine lc (QH XR rfl (List.all_eq_true.1 rfl) rfl rfl)<|lc (Qh (Qa rfl) rfl (Qb rfl) rfl QU rfl) ?_
     iterate 3 refine w_ ?_
     refine AC.wk (Q5 15 (p:=1) (off:=0) 145 (.pr .str .int) rfl rfl (Fresh.of rfl) (nlr rfl))<|AC.wk (Q5 16 (p:=1) (off:=1) 9 .str rfl rfl (Fresh.of rfl) (nlr rfl))<|AC.wk (Q5 17 (p:=1) (off:=2) 179 (.pr .int (.pr .int (.pr .bool .int))) rfl rfl (Fresh.of rfl) (nlr rfl))<|AC.wk (Wk.nilS 18 7 3 .int rfl (Fresh.of rfl) (nlr rfl))<|Qd ?_
     subst hO
     have e9:(false:Bool)=((ZW c name signs).2):=by
      (rw[Z1 (WA (by assumption))]; done)
     exact Q0 _ _ [(0,15),(1,16),(2,17),(3,18)] (ZJ rfl (Zv rfl rfl QU rfl) (Qc rfl) (Qc rfl)) ((congrArg (fun z_=>PV.tup [(true,[.ref 15, .ref 16, .ref 17]),(false,[.ref 18]),(false,[dB z_])]) e9)) ⟨(QA (by (rw[Z1 (WA (by assumption))]; rfl))),(QA (by (rw[Z1 (WA (by assumption))]; rfl))),(QA (by (rw[Z1 (WA (by assumption))]; rfl))),(QA (by (rw[Z1 (WA (by assumption))]; rfl))),trivial⟩ rfl rfl
  ·have hb4':=of_decide_eq_true hb4
   iterate 14 refine w_ ?_
   refine lc (QH XR rfl (List.all_eq_true.1 rfl) rfl rfl)<|lc (Qh (Qa rfl) rfl (Qb rfl) rfl QU rfl) ?_
   iterate 3 refine w_ ?_
   refine AC.wk (Q5 19 (p:=1) (off:=0) 145 (.pr .str .int) rfl rfl (Fresh.of rfl) (nlr rfl))<|AC.wk (Q5 20 (p:=1) (off:=1) 9 .str rfl rfl (Fresh.of rfl) (nlr rfl))<|AC.wk (Q5 21 (p:=1) (off:=2) 179 (.pr .int (.pr .int (.pr .bool .int))) rfl rfl (Fresh.of rfl) (nlr rfl))<|AC.wk (Wk.nilS 22 7 3 .int rfl (Fresh.of rfl) (nlr rfl))<|Qd ?_
   subst hO
   have e10:(false:Bool)=((ZW c name signs).2):=by
    (rw[Z1 (J4 (by assumption) (by assumption))]; done)
   exact Q0 _ _ [(0,19),(1,20),(2,21),(3,22)] (ZJ rfl (Zv rfl rfl QU rfl) (Qc rfl) (Qc rfl)) ((congrArg (fun z_=>PV.tup [(true,[.ref 19, .ref 20, .ref 21]),(false,[.ref 22]),(false,[dB z_])]) e10)) ⟨(QA (by (rw[Z1 (J4 (by assumption) (by assumption))]; rfl))),(QA (by (rw[Z1 (J4 (by assumption) (by assumption))]; rfl))),(QA (by (rw[Z1 (J4 (by assumption) (by assumption))]; rfl))),(QA (by (rw[Z1 (J4 (by assumption) (by assumption))]; rfl))),trivial⟩ rfl rfl
end Go.Proofs.YtnakmhfjafecpaaGreat
