/- Walks over abstract states: the graph with one signal more, both sides. -/
import Derived.Test.YtnakmhfjafecpaaGreatVg
set_option linter.unusedSimpArgs false
set_option linter.unusedVariables false
set_option linter.unusedSectionVars false
namespace Go.Proofs.YtnakmhfjafecpaaGreat
open Go.RowKit
set_option maxRecDepth 100000
set_option maxHeartbeats 4000000
def Kv (s:ByteArray):Bool:=decide (bAt s 0=49)||decide (bAt s 0=45)
def W6 (c:DSg)(s:ByteArray):Ins:=(psP [] (0,Kv s),cdP c [] [] (0,Kv s),[])
def Qfw (c:DSg)(s:ByteArray):Nat→Nat→Ins→Ins
  | 0,_,st=>st
  | f+1,k,st=>if k < st.1.length then Qfw c s f (k+1) (Vi c s st (k:Int)) else st
def YJ (c:DSg)(s:ByteArray):Ins:=Qfw c s 601 0 (W6 c s)
def KI (c:DSg)(name:ByteArray)(st:Ins):DSg:=(c.1++[(name,3)],st.2.1,st.2.2)
structure InsI (c:DSg) (st:Ins):Prop where
  rng:∀p∈st.1,0≤p.1∧p.1 < (c.2.1.length:Int)
  nd:st.1.Nodup
  len:st.2.1.length=st.1.length
section
variable {c:DSg}{s name:ByteArray}{st:Ins}{ps:List PSt}{cs:List ByteArray}{as_:List DAr}{p:PSt}{k:Int}{l:Xj}{i j n:Nat}{b:Bool}{z:Int}
theorem Qj5 {q:PSt}(h:q∈psP ps p):q∈ps∨q=p:=by
  unfold psP at h
  split at h
  · exact .inl h
  · rcases List.mem_append.1 h with h | h
    · exact .inl h
    · exact .inr (List.mem_singleton.1 h)
theorem Qm8 (h:ps.Nodup):(psP ps p).Nodup:=by
  unfold psP
  split
  · exact h
  · rename_i hp
    rw[List.nodup_append]
    refine ⟨h,by simp, ?_⟩
    intro a ha b hb e
    rw[List.mem_singleton] at hb
    subst hb
    subst e
    exact hp ha
theorem QgC (h:InsI c st)(hp:0≤p.1∧p.1 < (c.2.1.length:Int)):InsI c (UZ c st k l p):=by
  refine ⟨fun q hq=> ?_,Qm8 h.nd, ?_⟩
  · rcases Qj5 (show q ∈ psP st.1 p from hq) with h1 | h1
    · exact h.rng q h1
    · rw[h1]; exact hp
  · have := h.len
    show (cdP c st.1 st.2.1 p).length=(psP st.1 p).length
    unfold cdP psP
    split <;> simp[this]
theorem Qkd:(UZ c st k l p).2.2.length=st.2.2.length+1:=by simp[UZ]
theorem QkJ {a:DAr}{q:PSt}(h:InsI c st)(ha:0≤a.2.2.2∧a.2.2.2 < (c.2.1.length:Int)):InsI c (Ku c s k q st a)∧(Ku c s k q st a).2.2.length≤st.2.2.length+1:=by
  unfold Ku
  split
  · exact ⟨h,by omega⟩
  · exact ⟨QgC h ha,by rw[Qkd]; omega⟩
theorem Qgx {q:PSt}:∀(l:List DAr) (st:Ins),InsI c st→(∀a∈l,0≤a.2.2.2∧a.2.2.2 < (c.2.1.length:Int))→InsI c (l.foldl (Ku c s k q) st)∧(l.foldl (Ku c s k q) st).2.2.length≤st.2.2.length+l.length
  | [],st,h,_=>⟨h,by simp⟩
  | a :: l,st,h,ha=>by
    obtain ⟨h1,h2⟩:=QkJ (s:=s) (k:=k) (q:=q) h (ha a (List.mem_cons_self ..))
    obtain ⟨h3,h4⟩:=Qgx l _ h1 fun a h=>ha a (List.mem_cons_of_mem _ h)
    rw[List.foldl_cons]
    exact ⟨h3,by rw[List.length_cons]; omega⟩
theorem Hk (hs:SignsOk c s)(h:InsI c st):InsI c (Vi c s st k)∧(Vi c s st k).2.2.length≤st.2.2.length+4001:=by
  unfold Vi
  cases hx:st.1[k.toNat]? with
  | none=>exact ⟨h,by simp⟩
  | some p=>
    have hp:=h.rng p (List.mem_of_getElem? hx)
    have h1:InsI c (Qbm c s st k p)∧(Qbm c s st k p).2.2.length≤st.2.2.length+1:=by
      unfold Qbm
      split
      · exact ⟨QgC h hp,by rw[Qkd]; omega⟩
      · exact ⟨h,by omega⟩
    obtain ⟨h2,h3⟩:=Qgx (s:=s) (k:=k) (q:=p) (Yl c.2.2 p.1) _ h1.1 fun a ha=>by
      have:=hs.at_ (QcM.1 ha).1
      rw[hs.2.1] at this
      exact this.2
    refine ⟨h2, ?_⟩
    have h4:=Ht (l:=c.2.2) (q:=p.1)
    have h5:=hs.2.2.few
    simp only
    omega
theorem QfG:∀(n:Nat) (l:List Nat),l.Nodup→(∀x∈l,x < n)→l.length≤n
  | 0,[],_,_=>Nat.le_refl _
  | 0,x :: l,_,h=>absurd (h x (List.mem_cons_self ..)) (Nat.not_lt_zero x)
  | n+1,l,hd,h=>by
    have h1:=QfG n (l.erase n) (hd.erase n) fun x hx=>by
      have h2:=h x (List.mem_of_mem_erase hx)
      have h3:x≠n:=fun e=>by subst e; exact (List.Nodup.not_mem_erase hd) hx
      omega
    have h2:=List.length_erase (a:=n) (l:=l)
    split at h2 <;> omega
theorem InsI.few (h:InsI c st)(hn:c.2.1.length≤300):st.1.length≤600:=by
  have h1:=QfG 600 (st.1.map fun p=>(Z3 p).toNat) ?_ ?_
  · simpa using h1
  · rw [List.Nodup, List.pairwise_map]
    refine List.Pairwise.imp_of_mem ?_ h.nd
    intro a b ha hb hne e
    apply hne
    have h2:=h.rng a ha
    have h3:=h.rng b hb
    have h4:=U6 a.2
    have h5:=U6 b.2
    unfold Z3 at e
    have h6:a.1=b.1∧vB a.2=vB b.2:=by omega
    refine Prod.ext h6.1 ?_
    rw[← QbY a.2,h6.2,QbY]
  · intro x hx
    obtain ⟨p,hp,rfl⟩:=List.mem_map.1 hx
    have h2:=h.rng p hp
    have h4:=U6 p.2
    unfold Z3
    omega
theorem Qej (hn:1≤c.2.1.length):InsI c (W6 c s):=by
  refine ⟨fun q hq=> ?_,Qm8 List.nodup_nil, ?_⟩
  · rcases Qj5 (show q ∈ psP [] (0, Kv s) from hq) with h1 | h1
    · cases h1
    · rw[h1]; show (0:Int)≤0∧(0:Int) < _; omega
  · simp[W6,psP,cdP]
theorem Qj6 (hk:j < st.1.length)(hf:i=n+1):Qfw c s i j st=Qfw c s n (j+1) (Vi c s st (j:Int)):=by
  subst hf; rw[Qfw,if_pos hk]
theorem YM (hk:st.1.length≤j):Qfw c s i j st=st:=by
  cases i with
  | zero=>rfl
  | succ i=>rw[Qfw,if_neg (by omega)]
theorem Qgv (hx:ps[i]? =some p):(ps.take i).map (fun p=>p.1)++[p.1]=(ps.take (i+1)).map fun p=>p.1:=by rw[Za hx]; simp
theorem QnD (hx:(ps.map Z3)[i]? =some z):(ps.take i).map (fun p=>p.1)++[z / 2]=(ps.take (i+1)).map fun p=>p.1:=by
  obtain ⟨p,h1,h2⟩:=Qdd hx
  rw[h2,QfS,Qgv h1]
end
abbrev Qfc (name:ByteArray):Q4→Bool:=fun x=>decide (x.1=name)
section
variable [∀c,Decidable (SgOk c)][∀s,Decidable (ZZ s)]{c:DSg}{s name:ByteArray}{st:Ins}
def UM (c:DSg)(name s:ByteArray):Bool:=okP c s&&decide (ZZ name)&& !(c.1.any (Qfc name))&& !decide (c.1.length=8)
def Qhm:DSg×List Int:=(W9,[])
def Yx (c:DSg)(name s:ByteArray):(DSg×List Int)×Bool:=
  if UM c name s=true∧SgOk (KI c name (YJ c s)) then ((KI c name (YJ c s),(YJ c s).1.map fun p=>p.1),true) else (Qhm,false)
def ZX (c:DSg)(name s:ByteArray):(DSg×List Int)×Bool:=
  if UM c name s=true then ((KI c name (YJ c s),(YJ c s).1.map fun p=>p.1),decide (SgOk (KI c name (YJ c s)))) else (Qhm,false)
theorem H6 (h:¬SignsOk c s):UM c name s=false:=by unfold UM; rw[← QiQ h]; rfl
theorem WM (h:okP c s=false):UM c name s=false:=by unfold UM; rw[h]; rfl
theorem WO (h:¬ZZ name):UM c name s=false:=by unfold UM; rw[decide_eq_false h]; simp
theorem WN (h:0≤ZJ (Qfc name) c.1):UM c name s=false:=by unfold UM; rw[← Ua,decide_eq_true h]; simp
theorem Ja (h:(c.1.length:Int)=8):UM c name s=false:=by unfold UM; rw[decide_eq_true (show c.1.length=8 by omega)]; simp
theorem HD (h2:okP c s=true)(h:(8:Int)≤(c.1.length:Int)):UM c name s=false:=by
  have:=(Qe4.1 h2).1.2.2.sigs.2.2
  exact Ja (by omega)
theorem XO (h1:okP c s=true)(h2:ZZ name)(h3:¬0≤ZJ (Qfc name) c.1)(h4:¬(c.1.length:Int)=8):UM c name s=true:=by
  unfold UM; rw[h1,decide_eq_true h2,← Ua,decide_eq_false h3,decide_eq_false (show¬c.1.length=8 by omega)]; rfl
theorem ZT (h:UM c name s=false):Yx c name s=(Qhm,false):=if_neg fun h2=>by rw[h] at h2; cases h2.1
theorem KR (h:YJ c s=st)(h2:¬SgOk (KI c name st)):Yx c name s=(Qhm,false):=if_neg fun h3=>h2 (by rw[h] at h3; exact h3.2)
theorem KM (h1:UM c name s=true)(h:YJ c s=st)(h2:SgOk (KI c name st)):Yx c name s=((KI c name st,st.1.map fun p=>p.1),true):=by
  unfold Yx; rw[h,if_pos ⟨h1,h2⟩]
theorem Z4 (h:UM c name s=false):ZX c name s=(Qhm,false):=if_neg (by rw[h]; decide)
theorem Ud (h1:UM c name s=true):ZX c name s=((KI c name (YJ c s),(YJ c s).1.map fun p=>p.1),decide (SgOk (KI c name (YJ c s)))):=if_pos h1
theorem Qpl (h:(ZX c name s).2=true):Yx c name s=ZX c name s:=by
  unfold ZX at h ⊢
  unfold Yx
  split at h
  · rename_i h1
    have h2:SgOk (KI c name (YJ c s)):=of_decide_eq_true h
    rw[if_pos ⟨h1,h2⟩,if_pos h1,decide_eq_true h2]
  · cases h
theorem Qo2 (h:(ZX c name s).2=false):Yx c name s=(Qhm,false):=by
  unfold ZX at h
  unfold Yx
  split at h
  · exact if_neg fun h2=>(of_decide_eq_false h) h2.2
  · rename_i h1; exact if_neg fun h2=>h1 h2.1
end
theorem Qa1 (c:(List (ByteArray×Int))×List ByteArray×(List (Int×Int×Bool×Int)))(name:ByteArray)(signs:ByteArray)[∀c,Decidable (SgOk c)][∀s,Decidable (ZZ s)](hnm:name.size≤10000000):FC Tryz.prog 213 [(true,[.dat (.sl 145 (.pr .str .int)) c.1, .dat (.sl 9 .str) c.2.1, .dat (.sl 179 (.pr .int (.pr .int (.pr .bool .int)))) c.2.2]),(false,[dS name]),(false,[dS signs])] [] 0 (Is (PV.tup [(true,[.ref 0, .ref 1, .ref 2]),(false,[.ref 3]),(false,[dB ((Yx c name signs).2)])]) [(0,some (.arr 145 (.pr .str .int) (((Yx c name signs).1.1).1))),(1,some (.arr 9 .str (((Yx c name signs).1.1).2.1))),(2,some (.arr 179 (.pr .int (.pr .int (.pr .bool .int))) (((Yx c name signs).1.1).2.2))),(3,some (.arr 3 .int ((Yx c name signs).1.2)))]):=by
 refine QQ Tryz.func213 rfl rfl Tryz.ntmps213 fun O_ hO w0_ N0_ X_ h0_ f0_=> ?_
 refine w_ ?_
 refine lc (Qr 0 (Qb rfl) rfl rfl (Fresh.of rfl) (nlr rfl))<|lc (Qw 1 (.pr (.sl 145 (.pr .str .int)) (.pr (.sl 9 .str) (.sl 179 (.pr .int (.pr .int (.pr .bool .int)))))) YB rfl rfl (Fresh.of rfl) (nlr rfl)) ?_
 iterate 7 refine w_ ?_
 refine lc (Qh (V7 c signs) QhA ⟨_,_,rfl,(Qb rfl),⟨_,_,rfl,(Qb rfl),rfl⟩⟩ rfl rfl) ?_
 iterate 10 refine w_ ?_
 cases hb1:(decide (SignsOk c signs))
 ·have hb1':=of_decide_eq_false hb1
  iterate 24 refine w_ ?_
  refine lc (QC Yw rfl (List.all_eq_true.1 rfl) rfl rfl)<|lc (Qf (Qa rfl) rfl (Qb rfl) rfl QK rfl) ?_
  iterate 3 refine w_ ?_
  refine AC.wk (QR 2 (p:=1) (off:=0) 145 (.pr .str .int) rfl rfl (Fresh.of rfl) (nlr rfl))<|AC.wk (QR 3 (p:=1) (off:=1) 9 .str rfl rfl (Fresh.of rfl) (nlr rfl))<|AC.wk (QR 4 (p:=1) (off:=2) 179 (.pr .int (.pr .int (.pr .bool .int))) rfl rfl (Fresh.of rfl) (nlr rfl))<|AC.wk (Wk.nilS 5 7 3 .int rfl (Fresh.of rfl) (nlr rfl))<|Qe ?_
  subst hO
  have e2:(false:Bool)=((Yx c name signs).2):=by
   (rw[ZT (H6 (by assumption))]; done)
  exact Q2 _ _ [(0,2),(1,3),(2,4),(3,5)] (Zj rfl (Zk rfl rfl QK rfl) (Qc rfl) (Qc rfl)) ((congrArg (fun z_=>PV.tup [(true,[.ref 2, .ref 3, .ref 4]),(false,[.ref 5]),(false,[dB z_])]) e2)) ⟨(Qv (by (rw[ZT (H6 (by assumption))]; rfl))),(Qv (by (rw[ZT (H6 (by assumption))]; rfl))),(Qv (by (rw[ZT (H6 (by assumption))]; rfl))),(Qv (by (rw[ZT (H6 (by assumption))]; rfl))),trivial⟩ rfl rfl
 ·have hb1':=of_decide_eq_true hb1
  iterate 4 refine w_ ?_
  cases hb3:(okP c signs)
  ·iterate 20 refine w_ ?_
   refine lc (QC Yw rfl (List.all_eq_true.1 rfl) rfl rfl)<|lc (Qf (Qa rfl) rfl (Qb rfl) rfl QK rfl) ?_
   iterate 3 refine w_ ?_
   refine AC.wk (QR 6 (p:=1) (off:=0) 145 (.pr .str .int) rfl rfl (Fresh.of rfl) (nlr rfl))<|AC.wk (QR 7 (p:=1) (off:=1) 9 .str rfl rfl (Fresh.of rfl) (nlr rfl))<|AC.wk (QR 8 (p:=1) (off:=2) 179 (.pr .int (.pr .int (.pr .bool .int))) rfl rfl (Fresh.of rfl) (nlr rfl))<|AC.wk (Wk.nilS 9 7 3 .int rfl (Fresh.of rfl) (nlr rfl))<|Qe ?_
   subst hO
   have e4:(false:Bool)=((Yx c name signs).2):=by
    (rw[ZT (WM (by assumption))]; done)
   exact Q2 _ _ [(0,6),(1,7),(2,8),(3,9)] (Zj rfl (Zk rfl rfl QK rfl) (Qc rfl) (Qc rfl)) ((congrArg (fun z_=>PV.tup [(true,[.ref 6, .ref 7, .ref 8]),(false,[.ref 9]),(false,[dB z_])]) e4)) ⟨(Qv (by (rw[ZT (WM (by assumption))]; rfl))),(Qv (by (rw[ZT (WM (by assumption))]; rfl))),(Qv (by (rw[ZT (WM (by assumption))]; rfl))),(Qv (by (rw[ZT (WM (by assumption))]; rfl))),trivial⟩ rfl rfl
  ·refine w_ ?_
   refine lgy rfl rfl (Qh (QcX name) Qij ⟨_,_,rfl,(Qb rfl),rfl⟩ rfl rfl) ?_
   iterate 3 refine w_ ?_
   cases hb5:(decide (ZZ name))
   ·have hb5':=of_decide_eq_false hb5
    iterate 15 refine w_ ?_
    refine lc (QC Yw rfl (List.all_eq_true.1 rfl) rfl rfl)<|lc (Qf (Qa rfl) rfl (Qb rfl) rfl QK rfl) ?_
    iterate 3 refine w_ ?_
    refine AC.wk (QR 10 (p:=1) (off:=0) 145 (.pr .str .int) rfl rfl (Fresh.of rfl) (nlr rfl))<|AC.wk (QR 11 (p:=1) (off:=1) 9 .str rfl rfl (Fresh.of rfl) (nlr rfl))<|AC.wk (QR 12 (p:=1) (off:=2) 179 (.pr .int (.pr .int (.pr .bool .int))) rfl rfl (Fresh.of rfl) (nlr rfl))<|AC.wk (Wk.nilS 13 7 3 .int rfl (Fresh.of rfl) (nlr rfl))<|Qe ?_
    subst hO
    have e6:(false:Bool)=((Yx c name signs).2):=by
     (rw[ZT (WO (by assumption))]; done)
    exact Q2 _ _ [(0,10),(1,11),(2,12),(3,13)] (Zj rfl (Zk rfl rfl QK rfl) (Qc rfl) (Qc rfl)) ((congrArg (fun z_=>PV.tup [(true,[.ref 10, .ref 11, .ref 12]),(false,[.ref 13]),(false,[dB z_])]) e6)) ⟨(Qv (by (rw[ZT (WO (by assumption))]; rfl))),(Qv (by (rw[ZT (WO (by assumption))]; rfl))),(Qv (by (rw[ZT (WO (by assumption))]; rfl))),(Qv (by (rw[ZT (WO (by assumption))]; rfl))),trivial⟩ rfl rfl
   ·have hb5':=of_decide_eq_true hb5
    iterate 3 refine w_ ?_
    refine lgy rfl rfl (Qh (Uq c.1 name) Qda ⟨_,_,rfl,(Qb rfl),⟨_,_,rfl,(Qb rfl),rfl⟩⟩ rfl rfl) ?_
    iterate 3 refine w_ ?_
    cases hb7:(decide (0≤(ZJ (fun x:Q4=>decide (x.1=name)) c.1)))
    ·have hb7':=of_decide_eq_false hb7
     iterate 2 refine w_ ?_
     refine AL.fact (QB (x:= .tmp 42) (Qa rfl)) fun hl8=> ?_
     iterate 4 refine w_ ?_
     cases hb9:(decide ((c.1.length:Int)=8))
     ·have hb9':=of_decide_eq_false hb9
      iterate 2 refine w_ ?_
      refine Wz ?_
      have hsp:SignsOk c signs∧Xx c signs=true:=Qe4.1 (by assumption)
      have hs:=hsp.1
      have hsz:=hs.2.1
      have hn3:=hs.2.2.some_
      have hfw:=hs.2.2.few
      have hsl:=Hh hs.2.2.sigs
      have hc:∀x∈c.2.1,x.size≤1000:=fun x hx=>by have:=(hs.2.2.codes x hx).2; omega
      iterate 3 refine w_ ?_
      refine lc (Qfz (kt:=300) (et:=3) (kb:=true) (k:=(.pr .int .bool)) (vb:=false) (v:= .int) 14 rfl (Fresh.of rfl) (nlr rfl))<|lc (Qgy (Qnr (offs:=[(0,3),(3,1),(4,3),(7,1),(8,1)]) (zs:=[.slice none 0 0, .slice none 0 0, .slice none 0 0, .string ByteArray.empty, .slice none 0 0, .slice none 0 0, .slice none 0 0, .slice none 0 0, .map none]) Tryz.underlying297 (by kernel_rfl) (by kernel_rfl)) ⟨_,_,rfl,(Qb rfl),⟨_,_,rfl,(Qb rfl),⟨_,_,rfl,(Qb rfl),rfl⟩⟩⟩ (List.all_eq_true.1 rfl) rfl rfl)<|lc (Qr 15 (Qb rfl) rfl rfl (Fresh.of rfl) (nlr rfl)) ?_
      iterate 2 refine w_ ?_
      refine Wz<|AC.wk (s':=⟨[(0,ag [.dat (.sl 145 (.pr .str .int)) c.1, .dat (.sl 9 .str) c.2.1, .dat (.sl 179 (.pr .int (.pr .int (.pr .bool .int)))) c.2.2]),(1,lf (dS name)),(2,lf (dS signs)),(3,lP 0 0),(6,lP 1 0),(7,lf (.val (.slice none 0 0))),(8,lB false),(9,lB true),(10,lB true),(11,lP 15 0),(16,PV.tup [(false,[dB true]),(false,[dB true])]),(17,ag [.dat (.sl 145 (.pr .str .int)) c.1, .dat (.sl 9 .str) c.2.1, .dat (.sl 179 (.pr .int (.pr .int (.pr .bool .int)))) c.2.2]),(18,lf (dS signs)),(19,PV.tup [(false,[dB true]),(false,[dB true])]),(20,lB true),(21,lB true),(22,lB true),(23,lB (!true)),(24,lB false),(25,lB true),(26,lB (!true)),(27,lB (!true)),(28,lB false),(29,lf (dS name)),(30,lB true),(31,lB (!true)),(32,lB (!true)),(33,lB false),(34,lP 0 0),(35,lf (.dat (.sl 145 (.pr .str .int)) c.1)),(36,lf (dS name)),(37,lI (ZJ (fun x:Q4=>decide (x.1=name)) c.1)),(38,lB false),(39,lB false),(40,lB false),(41,lP 0 0),(42,lf (.dat (.sl 145 (.pr .str .int)) c.1)),(43,lI (c.1.length:Int)),(44,lB false),(45,lB false),(47,ag [.dat (.sl 145 (.pr .str .int)) c.1, .dat (.sl 9 .str) c.2.1, .dat (.sl 179 (.pr .int (.pr .int (.pr .bool .int)))) c.2.2]),(48,lf (dS signs)),(49,lR 14),(50,ag [.dat (.sl 145 (.pr .str .int)) c.1, .dat (.sl 9 .str) c.2.1, .dat (.sl 179 (.pr .int (.pr .int (.pr .bool .int)))) c.2.2,dS signs, .val (.slice none 0 0), .val (.slice none 0 0), .val (.slice none 0 0), .val (.slice none 0 0), .ref 14]),(51,lP 15 0)],[(0,some (.box 59 [.dat (.sl 145 (.pr .str .int)) c.1, .dat (.sl 9 .str) c.2.1, .dat (.sl 179 (.pr .int (.pr .int (.pr .bool .int)))) c.2.2])),(1,some (.box 59 [.val (.slice none 0 0), .val (.slice none 0 0), .val (.slice none 0 0)])),(14,some (.mp true (.pr .int .bool) false .int ([]))),(15,some (.box 297 [.dat (.sl 145 (.pr .str .int)) c.1, .dat (.sl 9 .str) c.2.1, .dat (.sl 179 (.pr .int (.pr .int (.pr .bool .int)))) c.2.2,dS signs, .val (.slice none 0 0), .val (.slice none 0 0), .val (.slice none 0 0), .val (.slice none 0 0), .ref 14]))]⟩) (Wk.of [(0,0),(1,1),(14,14),(15,15)] rfl ⟨rfl,rfl,rfl,rfl,rfl,rfl,rfl,rfl,rfl,rfl,rfl,rfl,rfl,rfl,rfl,rfl,rfl,rfl,rfl,rfl,rfl,rfl,rfl,rfl,rfl,rfl,rfl,rfl,rfl,rfl,rfl,rfl,rfl,rfl,rfl,rfl,rfl,rfl,rfl,rfl,rfl,rfl,rfl,rfl,rfl,trivial⟩ ⟨rfl,rfl,rfl,rfl,trivial⟩ rfl rfl) ?_
      iterate 4 refine w_ ?_
      refine lc (Y7 16 (Xn c.1 (by omega)) QhW ⟨_,_,rfl,(Qb rfl),rfl⟩ rfl (Fresh.of rfl) (nlr rfl)) ?_
      refine w_ ?_
      refine lc (QC Qj9 ⟨_,_,rfl,(Qb rfl),⟨_,_,rfl,(Evl.ev (QE rfl)),rfl⟩⟩ (List.all_eq_true.1 rfl) rfl rfl)<|lc (Qk 17 (e:=(.pr .str .int)) Yh Yj Wq rfl ⟨_,_,rfl,(Qb rfl),rfl⟩ (List.all_eq_true.1 rfl) ⟨_,_,_,_,rfl,⟨[dS name],[dI 3],_,_,_,_,rfl,rfl,⟨rfl,rfl⟩,⟨rfl,rfl⟩,rfl⟩,⟨rfl,rfl⟩,rfl⟩ (by decide) rfl rfl (Fresh.of rfl) (nlr rfl))<|lc (Q0 18 (Qa rfl) rfl (Qa rfl) rfl rfl Yh K8 (by first | omega | (simp only[List.length_append,List.length_map,List.length_take,List.length_cons,List.length_nil]; omega) | (simp only[List.length_append,List.length_drop,List.length_take,List.length_cons,List.length_nil]; omega)) rfl (Fresh.of rfl) (nlr rfl)) ?_
      iterate 3 refine w_ ?_
      refine lc (Qf (Qa rfl) rfl (Qb rfl) rfl JQ rfl) ?_
      refine w_ ?_
      refine AC.wk (QR 19 (p:=15) (off:=7) 300 (.pr .int .bool) rfl rfl (Fresh.of rfl) (nlr rfl))<|AC.wk (QR 21 (p:=15) (off:=5) 9 .str rfl rfl (Fresh.of rfl) (nlr rfl))<|AC.wk (QR 23 (p:=15) (off:=6) 179 (.pr .int (.pr .int (.pr .bool .int))) rfl rfl (Fresh.of rfl) (nlr rfl)) ?_
      refine Hy (fun s_=>∃(ps:List (Int×Bool)) (cs:List ByteArray) (as_:List (Int×Int×Bool×Int)),((ps,cs,as_)=W6 c signs)∧s_=⟨[(6,lP 1 0),(7,lf (.val (.slice none 0 0))),(8,lB false),(11,lP 15 0)],[(1,some (.box 59 [.val (.slice none 0 0), .val (.slice none 0 0), .val (.slice none 0 0)])),(14,some (.mp true (.pr .int .bool) false .int (YH ps))),(15,some (.box 297 [.dat (.sl 145 (.pr .str .int)) c.1, .dat (.sl 9 .str) c.2.1, .dat (.sl 179 (.pr .int (.pr .int (.pr .bool .int)))) c.2.2,dS signs, .ref 18, .ref 22, .ref 24, .ref 20, .ref 14])),(18,some (.arr 145 (.pr .str .int) (c.1++([(name,3)])))),(20,some (.arr 300 (.pr .int .bool) ps)),(22,some (.arr 9 .str cs)),(24,some (.arr 179 (.pr .int (.pr .int (.pr .bool .int))) as_))]⟩) ?_ fun J10=> ?_
      ·rintro s_ ⟨ps,cs,as_,hS,rfl⟩
       iterate 5 refine w_ ?_
       refine Qy (fun m_ s_=>∃(k:Nat) (ps:List (Int×Bool)) (cs:List ByteArray) (as_:List (Int×Int×Bool×Int)),k≤601∧m_=601 - k∧(YJ c signs=Qfw c signs (601 - k) k (ps,cs,as_))∧(InsI c (ps,cs,as_))∧(as_.length≤4001*k)∧s_=⟨[(6,lP 1 0),(7,lf (.val (.slice none 0 0))),(8,lB false),(11,lP 15 0),(12,lI (k:Int))],[(1,some (.box 59 [.val (.slice none 0 0), .val (.slice none 0 0), .val (.slice none 0 0)])),(14,some (.mp true (.pr .int .bool) false .int (YH ps))),(15,some (.box 297 [.dat (.sl 145 (.pr .str .int)) c.1, .dat (.sl 9 .str) c.2.1, .dat (.sl 179 (.pr .int (.pr .int (.pr .bool .int)))) c.2.2,dS signs, .ref 18, .ref 26, .ref 27, .ref 25, .ref 14])),(18,some (.arr 145 (.pr .str .int) (c.1++([(name,3)])))),(25,some (.arr 300 (.pr .int .bool) ps)),(26,some (.arr 9 .str cs)),(27,some (.arr 179 (.pr .int (.pr .int (.pr .bool .int))) as_))]⟩) ⟨0,ps,cs,as_,Nat.zero_le _,rfl,(by rw[hS]; rfl),(by rw[hS]; exact Qej hn3.1),(by have:=congrArg (fun st:Ins=>st.2.2) hS; simp only[W6] at this; rw[this]; simp),rfl⟩ ?_ ?_
       · exact Wk.of [(1,1),(14,14),(15,15),(18,18),(25,20),(26,22),(27,24)] rfl ⟨rfl,rfl,rfl,rfl,rfl,trivial⟩ ⟨rfl,rfl,rfl,rfl,rfl,rfl,rfl,trivial⟩ rfl rfl
       rintro m_ s_ ⟨k,ps,cs,as_,hk11,hm12,hA,hI,hL,rfl⟩
       have hfe:ps.length≤600:=hI.few hn3.2
       have hle:=hI.len
       have hle1:cs.length=ps.length:=hle
       iterate 10 refine w_ ?_
       cases hb13:(decide ((k:Int) < (ps.length:Int)))
       ·have hb13':=of_decide_eq_false hb13
        refine w_ ?_
        refine QA ?_
        refine (?_:AC _ _ _ _ _)
        iterate 6 refine w_ ?_
        refine lc (Zl (YI (c.1++([(name,3)]),cs,as_)) Qao ⟨_,_,rfl,(YL (Qb rfl) ⟨_,_,rfl, .inr ⟨_,_,_,_,rfl,rfl,rfl⟩,⟨_,_,rfl, .inr ⟨_,_,_,_,rfl,rfl,rfl⟩,⟨_,_,rfl, .inr ⟨_,_,_,_,rfl,rfl,rfl⟩,rfl⟩⟩⟩),rfl⟩ rfl rfl rfl) ?_
        iterate 2 refine w_ ?_
        cases hb14:(decide (SgOk (c.1++([(name,3)]),cs,as_)))
        ·have hb14':=of_decide_eq_false hb14
         iterate 2 refine w_ ?_
         refine lc (QC Yw rfl (List.all_eq_true.1 rfl) rfl rfl)<|lc (Qf (Qa rfl) rfl (Qb rfl) rfl QK rfl) ?_
         iterate 3 refine w_ ?_
         refine AC.wk (QR 28 (p:=1) (off:=0) 145 (.pr .str .int) rfl rfl (Fresh.of rfl) (nlr rfl))<|AC.wk (QR 29 (p:=1) (off:=1) 9 .str rfl rfl (Fresh.of rfl) (nlr rfl))<|AC.wk (QR 30 (p:=1) (off:=2) 179 (.pr .int (.pr .int (.pr .bool .int))) rfl rfl (Fresh.of rfl) (nlr rfl))<|AC.wk (Wk.nilS 31 7 3 .int rfl (Fresh.of rfl) (nlr rfl))<|Qe ?_
         subst hO
         have e15:(false:Bool)=((Yx c name signs).2):=by
          (rw[KR (hA.trans (YM (by show ps.length≤k; omega))) (by assumption)]; done)
         exact Q2 _ _ [(0,28),(1,29),(2,30),(3,31)] (Zj rfl (Zk rfl rfl QK rfl) (Qc rfl) (Qc rfl)) ((congrArg (fun z_=>PV.tup [(true,[.ref 28, .ref 29, .ref 30]),(false,[.ref 31]),(false,[dB z_])]) e15)) ⟨(Qv (by (rw[KR (hA.trans (YM (by show ps.length≤k; omega))) (by assumption)]; rfl))),(Qv (by (rw[KR (hA.trans (YM (by show ps.length≤k; omega))) (by assumption)]; rfl))),(Qv (by (rw[KR (hA.trans (YM (by show ps.length≤k; omega))) (by assumption)]; rfl))),(Qv (by (rw[KR (hA.trans (YM (by show ps.length≤k; omega))) (by assumption)]; rfl))),trivial⟩ rfl rfl
        ·have hb14':=of_decide_eq_true hb14
         iterate 3 refine w_ ?_
         refine lc (Qk 32 (e:= .int) QO QD Xl rfl rfl (List.all_eq_true.1 rfl) ⟨rfl,rfl⟩ (by decide) rfl rfl (Fresh.of rfl) (nlr rfl)) ?_
         iterate 12 refine w_ ?_
         refine Qy (fun m_ s_=>∃(i:Nat),i≤ps.length∧m_=ps.length - i∧s_=⟨[(6,lP 1 0),(7,lf (.val (.slice none 0 0))),(8,lB false),(11,lP 15 0),(13,lR 33),(97,lR 25),(98,lI (ps.length:Int)),(99,lI (i:Int))],[(1,some (.box 59 [.val (.slice none 0 0), .val (.slice none 0 0), .val (.slice none 0 0)])),(14,some (.mp true (.pr .int .bool) false .int (YH ps))),(15,some (.box 297 [.dat (.sl 145 (.pr .str .int)) c.1, .dat (.sl 9 .str) c.2.1, .dat (.sl 179 (.pr .int (.pr .int (.pr .bool .int)))) c.2.2,dS signs, .ref 18, .ref 26, .ref 27, .ref 25, .ref 14])),(18,some (.arr 145 (.pr .str .int) (c.1++([(name,3)])))),(25,some (.arr 300 (.pr .int .bool) ps)),(26,some (.arr 9 .str cs)),(27,some (.arr 179 (.pr .int (.pr .int (.pr .bool .int))) as_)),(33,some (.arr 3 .int ((ps.take i).map (fun p=>p.1))))]⟩) ⟨0,Nat.zero_le _,rfl,rfl⟩ ?_ ?_
         · exact Wk.of [(1,1),(14,14),(15,15),(18,18),(25,25),(26,26),(27,27),(33,32)] rfl ⟨rfl,rfl,rfl,rfl,rfl,rfl,rfl,rfl,trivial⟩ ⟨rfl,rfl,rfl,rfl,rfl,rfl,rfl,(Qv (by first | rfl | simp)),trivial⟩ rfl rfl
         rintro m_ s_ ⟨i,hk16,hm17,rfl⟩
         have htl:(ps.take i).length≤ps.length:=by simp only[List.length_take]; omega
         have hml:((ps.take i).map (fun p=>p.1)).length=(ps.take i).length:=List.length_map ..
         iterate 4 refine w_ ?_
         cases hb18:(decide ((i:Int) < (ps.length:Int)))
         ·have hb18':=of_decide_eq_false hb18
          refine w_ ?_
          refine QA ?_
          refine (?_:AC _ _ _ _ _)
          iterate 6 refine w_ ?_
          refine lc (Qf (Qa rfl) rfl (Qb rfl) rfl QK rfl) ?_
          iterate 3 refine w_ ?_
          refine Qe ?_
          subst hO
          have e19:(true:Bool)=((Yx c name signs).2):=by
           (rw[KM (XO (by assumption) (by assumption) (by assumption) (by first | assumption | omega)) (hA.trans (YM (by show ps.length≤k; omega))) (by assumption)]; done)
          exact Q2 _ _ [(0,18),(1,26),(2,27),(3,33)] (Zj rfl (Zk rfl rfl QK rfl) (Qc rfl) (Qc rfl)) ((congrArg (fun z_=>PV.tup [(true,[.ref 18, .ref 26, .ref 27]),(false,[.ref 33]),(false,[dB z_])]) e19)) ⟨(Qv (by (rw[KM (XO (by assumption) (by assumption) (by assumption) (by first | assumption | omega)) (hA.trans (YM (by show ps.length≤k; omega))) (by assumption)]; rfl))),(Qv (by (rw[KM (XO (by assumption) (by assumption) (by assumption) (by first | assumption | omega)) (hA.trans (YM (by show ps.length≤k; omega))) (by assumption)]; rfl))),(Qv (by (rw[KM (XO (by assumption) (by assumption) (by assumption) (by first | assumption | omega)) (hA.trans (YM (by show ps.length≤k; omega))) (by assumption)]; rfl))),(Qv (by (rw[KM (XO (by assumption) (by assumption) (by assumption) (by first | assumption | omega)) (hA.trans (YM (by show ps.length≤k; omega))) (by assumption),Zh (by omega)]; done))),trivial⟩ rfl rfl
         ·have hb18':=of_decide_eq_true hb18
          iterate 5 refine w_ ?_
          refine lc (Qq (e:=(.pr .int .bool)) (Qa rfl) rfl (Qa rfl) QbH Wh rfl (by omega) (by first | omega | (simp only[List.length_set]; omega))) ?_
          obtain ⟨x20,hx21⟩:∃z,ps[i]? =some z:=⟨_,List.getElem?_eq_getElem (by omega)⟩
          refine lc (W2 (e:=(.pr .int .bool)) (Qa rfl) rfl hx21 rfl Wh rfl rfl)<|lc (Qw 34 (.pr .int .bool) Qbx rfl rfl (Fresh.of rfl) (nlr rfl))<|lc (Qf (Qa rfl) rfl (Qb rfl) rfl Wh rfl) ?_
          iterate 5 refine w_ ?_
          refine AL.fact (Qs (x:= .tmp 105) (Qa rfl)) fun hi22=>lc (Qk 35 (e:= .int) QO QD Xl rfl ⟨_,_,rfl,(Qb rfl),rfl⟩ (List.all_eq_true.1 rfl) ⟨_,_,_,_,rfl,⟨rfl,rfl⟩,⟨rfl,rfl⟩,rfl⟩ (by decide) rfl rfl (Fresh.of rfl) (nlr rfl))<|lc (Q0 36 (Qa rfl) rfl (Qa rfl) rfl rfl QO WX (by first | omega | (simp only[List.length_append,List.length_map,List.length_take,List.length_cons,List.length_nil]; omega) | (simp only[List.length_append,List.length_drop,List.length_take,List.length_cons,List.length_nil]; omega)) rfl (Fresh.of rfl) (nlr rfl)) ?_
          refine w_ ?_
          refine Qj ?_
          refine (?_:AC _ _ _ _ _)
          iterate 3 refine w_ ?_
          refine Qj<|QS ⟨i+1,by omega,rfl,rfl⟩ (by omega) ?_
          exact Wk.of [(1,1),(14,14),(15,15),(18,18),(25,25),(26,26),(27,27),(33,36)] rfl ⟨rfl,rfl,rfl,rfl,rfl,rfl,rfl,rfl,trivial⟩ ⟨rfl,rfl,rfl,rfl,rfl,rfl,rfl,(Qv (Qgv hx21)),trivial⟩ rfl rfl
       ·have hb13':=of_decide_eq_true hb13
        iterate 7 refine w_ ?_
        refine lc (QP 37 [(0,15),(1,18),(2,14),(3,26),(4,27),(5,25)] (Uc c signs (c.1++([(name,3)])) cs as_ ps (k:Int) (by omega) hs hI.rng (by omega)) Qiy ⟨_,_,rfl,(Qb rfl),⟨_,_,rfl,(Qb rfl),rfl⟩⟩ ⟨rfl,rfl,rfl,rfl,rfl,rfl,trivial⟩ rfl ⟨trivial,trivial,(Fresh.of rfl),(Fresh.of rfl),(Fresh.of rfl),trivial,trivial,(Fresh.of rfl),(Fresh.of rfl),(Fresh.of rfl),trivial,trivial⟩ (nlr rfl))<|Qj ?_
        refine (?_:AC _ _ _ _ _)
        iterate 4 refine w_ ?_
        refine Qj<|QS ⟨k+1,((Vi c signs (ps,cs,as_) (k:Int)).1),((Vi c signs (ps,cs,as_) (k:Int)).2.1),((Vi c signs (ps,cs,as_) (k:Int)).2.2),by omega,rfl,(by rw[hA]; exact Qj6 (by show k < ps.length; omega) (by omega)),(Hk hs hI).1,(by have h_:(Vi c signs (ps,cs,as_) (k:Int)).2.2.length≤as_.length+4001:=(Hk (k:=(k:Int)) hs hI).2; omega),rfl⟩ (by omega) ?_
        exact Wk.of [(1,1),(14,14),(15,15),(18,18),(25,42),(26,40),(27,41)] rfl ⟨rfl,rfl,rfl,rfl,rfl,trivial⟩ ⟨rfl,rfl,rfl,(Qv (by first | rfl | simp)),rfl,rfl,rfl,trivial⟩ rfl rfl
      ·iterate 3 refine w_ ?_
       obtain ⟨c23,hc24⟩:∃z,signs[(0:Int).toNat]? =some z:=⟨_,getElem?_pos _ _ (by omega)⟩
       refine lc (QH (Qa rfl) (QE rfl) rfl Zd (by omega) hc24)<|lc (QG (Qa rfl) (QW 49 rfl) rfl) ?_
       refine w_ ?_
       cases hb25:(decide (c23=49))
       ·have hb25':=of_decide_eq_false hb25
        refine w_ ?_
        refine lgy rfl rfl (QH (Qa rfl) (QE rfl) rfl Zd (by omega) hc24)<|lgy rfl rfl (QG (Qa rfl) (QW 45 rfl) rfl) ?_
        refine w_ ?_
        refine lc (QC WK ⟨_,_,rfl,(Evl.ev (QE rfl)),⟨_,_,rfl,(Qb rfl),rfl⟩⟩ (List.all_eq_true.1 rfl) rfl rfl) ?_
        refine lc (QP 43 [(0,15),(1,18),(2,23),(3,14),(4,21),(5,19)] (YX c signs (c.1++([(name,3)])) ([]) ([]) ([]) (0,decide (c23=45)) (by first | omega | (refine ⟨?_, ?_⟩ <;> (try dsimp only) <;> omega)) hc (by simp)) J3 ⟨_,_,rfl,(Qb rfl),⟨_,_,rfl,(Qb rfl),rfl⟩⟩ ⟨rfl,rfl,rfl,rfl,rfl,rfl,trivial⟩ rfl ⟨trivial,trivial,(Fresh.of rfl),trivial,(Fresh.of rfl),trivial,trivial,(Fresh.of rfl),trivial,(Fresh.of rfl),trivial,trivial⟩ (nlr rfl)) ?_
        refine w_ ?_
        refine VI (J10 _ ⟨(psP ([]) (0,decide (c23=45))),(cdP c ([]) ([]) (0,decide (c23=45))),([]),(by first | (unfold W6 Kv; rw[QL (p:=0) (by assumption)]; simp[*]; done)),rfl⟩) ?_
        exact Wk.of [(1,1),(14,14),(15,15),(18,18),(20,48),(22,47),(24,23)] rfl ⟨rfl,rfl,rfl,rfl,trivial⟩ ⟨rfl,rfl,rfl,(Qv (by first | rfl | simp)),rfl,rfl,rfl,trivial⟩ rfl rfl
       ·have hb25':=of_decide_eq_true hb25
        iterate 4 refine w_ ?_
        refine lc (QC WK ⟨_,_,rfl,(Evl.ev (QE rfl)),⟨_,_,rfl,(Qb rfl),rfl⟩⟩ (List.all_eq_true.1 rfl) rfl rfl) ?_
        refine lc (QP 49 [(0,15),(1,18),(2,23),(3,14),(4,21),(5,19)] (YX c signs (c.1++([(name,3)])) ([]) ([]) ([]) (0,true) (by first | omega | (refine ⟨?_, ?_⟩ <;> (try dsimp only) <;> omega)) hc (by simp)) J3 ⟨_,_,rfl,(Qb rfl),⟨_,_,rfl,(Qb rfl),rfl⟩⟩ ⟨rfl,rfl,rfl,rfl,rfl,rfl,trivial⟩ rfl ⟨trivial,trivial,(Fresh.of rfl),trivial,(Fresh.of rfl),trivial,trivial,(Fresh.of rfl),trivial,(Fresh.of rfl),trivial,trivial⟩ (nlr rfl)) ?_
        refine w_ ?_
        refine VI (J10 _ ⟨(psP ([]) (0,true)),(cdP c ([]) ([]) (0,true)),([]),(by first | (unfold W6 Kv; rw[QL (p:=0) (by assumption)]; simp[*]; done)),rfl⟩) ?_
        exact Wk.of [(1,1),(14,14),(15,15),(18,18),(20,54),(22,53),(24,23)] rfl ⟨rfl,rfl,rfl,rfl,trivial⟩ ⟨rfl,rfl,rfl,(Qv (by first | rfl | simp)),rfl,rfl,rfl,trivial⟩ rfl rfl
     ·have hb9':=of_decide_eq_true hb9
      iterate 2 refine w_ ?_
      refine lc (QC Yw rfl (List.all_eq_true.1 rfl) rfl rfl)<|lc (Qf (Qa rfl) rfl (Qb rfl) rfl QK rfl) ?_
      iterate 3 refine w_ ?_
      refine AC.wk (QR 55 (p:=1) (off:=0) 145 (.pr .str .int) rfl rfl (Fresh.of rfl) (nlr rfl))<|AC.wk (QR 56 (p:=1) (off:=1) 9 .str rfl rfl (Fresh.of rfl) (nlr rfl))<|AC.wk (QR 57 (p:=1) (off:=2) 179 (.pr .int (.pr .int (.pr .bool .int))) rfl rfl (Fresh.of rfl) (nlr rfl))<|AC.wk (Wk.nilS 58 7 3 .int rfl (Fresh.of rfl) (nlr rfl))<|Qe ?_
      subst hO
      have e26:(false:Bool)=((Yx c name signs).2):=by
       (rw[ZT (Ja (by assumption))]; done)
      exact Q2 _ _ [(0,55),(1,56),(2,57),(3,58)] (Zj rfl (Zk rfl rfl QK rfl) (Qc rfl) (Qc rfl)) ((congrArg (fun z_=>PV.tup [(true,[.ref 55, .ref 56, .ref 57]),(false,[.ref 58]),(false,[dB z_])]) e26)) ⟨(Qv (by (rw[ZT (Ja (by assumption))]; rfl))),(Qv (by (rw[ZT (Ja (by assumption))]; rfl))),(Qv (by (rw[ZT (Ja (by assumption))]; rfl))),(Qv (by (rw[ZT (Ja (by assumption))]; rfl))),trivial⟩ rfl rfl
    ·have hb7':=of_decide_eq_true hb7
     iterate 8 refine w_ ?_
     refine lc (QC Yw rfl (List.all_eq_true.1 rfl) rfl rfl)<|lc (Qf (Qa rfl) rfl (Qb rfl) rfl QK rfl) ?_
     iterate 3 refine w_ ?_
     refine AC.wk (QR 59 (p:=1) (off:=0) 145 (.pr .str .int) rfl rfl (Fresh.of rfl) (nlr rfl))<|AC.wk (QR 60 (p:=1) (off:=1) 9 .str rfl rfl (Fresh.of rfl) (nlr rfl))<|AC.wk (QR 61 (p:=1) (off:=2) 179 (.pr .int (.pr .int (.pr .bool .int))) rfl rfl (Fresh.of rfl) (nlr rfl))<|AC.wk (Wk.nilS 62 7 3 .int rfl (Fresh.of rfl) (nlr rfl))<|Qe ?_
     subst hO
     have e27:(false:Bool)=((Yx c name signs).2):=by
      (rw[ZT (WN (by assumption))]; done)
     exact Q2 _ _ [(0,59),(1,60),(2,61),(3,62)] (Zj rfl (Zk rfl rfl QK rfl) (Qc rfl) (Qc rfl)) ((congrArg (fun z_=>PV.tup [(true,[.ref 59, .ref 60, .ref 61]),(false,[.ref 62]),(false,[dB z_])]) e27)) ⟨(Qv (by (rw[ZT (WN (by assumption))]; rfl))),(Qv (by (rw[ZT (WN (by assumption))]; rfl))),(Qv (by (rw[ZT (WN (by assumption))]; rfl))),(Qv (by (rw[ZT (WN (by assumption))]; rfl))),trivial⟩ rfl rfl
theorem Kx (c:(List (ByteArray×Int))×List ByteArray×(List (Int×Int×Bool×Int)))(name:ByteArray)(signs:ByteArray)[∀c,Decidable (SgOk c)][∀s,Decidable (ZZ s)](hnm:name.size≤10000000):FC Tryz.prog 137 [(true,[.dat (.sl 145 (.pr .str .int)) c.1, .dat (.sl 9 .str) c.2.1, .dat (.sl 179 (.pr .int (.pr .int (.pr .bool .int)))) c.2.2]),(false,[dS name]),(false,[dS signs])] [] 0 (Is (PV.tup [(true,[.ref 0, .ref 1, .ref 2]),(false,[dB ((Yx c name signs).2)])]) [(0,some (.arr 145 (.pr .str .int) (((Yx c name signs).1.1).1))),(1,some (.arr 9 .str (((Yx c name signs).1.1).2.1))),(2,some (.arr 179 (.pr .int (.pr .int (.pr .bool .int))) (((Yx c name signs).1.1).2.2)))]):=by
 refine QQ Tryz.func137 rfl rfl Tryz.ntmps137 fun O_ hO w0_ N0_ X_ h0_ f0_=> ?_
 refine w_ ?_
 refine lc (Qr 0 (Qb rfl) rfl rfl (Fresh.of rfl) (nlr rfl))<|lc (Qw 1 (.pr (.sl 145 (.pr .str .int)) (.pr (.sl 9 .str) (.sl 179 (.pr .int (.pr .int (.pr .bool .int)))))) YB rfl rfl (Fresh.of rfl) (nlr rfl)) ?_
 iterate 6 refine w_ ?_
 refine lc (Ya 2 (Qa1 c name signs hnm) Qit ⟨_,_,rfl,(Qb rfl),⟨_,_,rfl,(Qb rfl),⟨_,_,rfl,(Qb rfl),rfl⟩⟩⟩ rfl rfl ⟨Fresh.of rfl,Fresh.of rfl,Fresh.of rfl,Fresh.of rfl,trivial⟩ (nlr rfl)) ?_
 iterate 4 refine w_ ?_
 refine lc (Qw 6 (.pr (.sl 145 (.pr .str .int)) (.pr (.sl 9 .str) (.sl 179 (.pr .int (.pr .int (.pr .bool .int)))))) YB rfl rfl (Fresh.of rfl) (nlr rfl))<|lc (Qf (Qa rfl) rfl (Qb rfl) rfl QK rfl) ?_
 iterate 6 refine w_ ?_
 refine lc (Qf (Qa rfl) rfl (Qb rfl) rfl QK rfl) ?_
 iterate 2 refine w_ ?_
 refine Qe ?_
 subst hO
 exact Q2 _ _ [(0,2),(1,3),(2,4)] (Z8 rfl (Zk rfl rfl QK rfl) (Qc rfl)) (rfl) ⟨rfl,rfl,rfl,trivial⟩ rfl rfl
theorem Qaw (c:(List (ByteArray×Int))×List ByteArray×(List (Int×Int×Bool×Int)))(name:ByteArray)(signs:ByteArray)(hs:SignsOk c signs)(hnm:name.size≤10000000):FC Tryz.prog 202 [(true,[.dat (.sl 145 (.pr .str .int)) c.1, .dat (.sl 9 .str) c.2.1, .dat (.sl 179 (.pr .int (.pr .int (.pr .bool .int)))) c.2.2]),(false,[dS name]),(false,[dS signs])] [] 0 (Is (PV.tup [(true,[.ref 0, .ref 1, .ref 2]),(false,[.ref 3])]) [(0,some (.arr 145 (.pr .str .int) ((KI c name (YJ c signs)).1))),(1,some (.arr 9 .str ((KI c name (YJ c signs)).2.1))),(2,some (.arr 179 (.pr .int (.pr .int (.pr .bool .int))) ((KI c name (YJ c signs)).2.2))),(3,some (.arr 3 .int ((YJ c signs).1.map (fun p=>p.1))))]):=by
 have hsz:=hs.2.1
 have hn3:=hs.2.2.some_
 have hfw:=hs.2.2.few
 have hsl:=Hh hs.2.2.sigs
 have hc:∀x∈c.2.1,x.size≤1000:=fun x hx=>by have:=(hs.2.2.codes x hx).2; omega
 refine QQ Tryz.func202 rfl rfl Tryz.ntmps202 fun O_ hO w0_ N0_ X_ h0_ f0_=> ?_
 refine w_ ?_
 refine lc (Qr 0 (Qb rfl) rfl rfl (Fresh.of rfl) (nlr rfl))<|lc (Qw 1 (.pr (.sl 145 (.pr .str .int)) (.pr (.sl 9 .str) (.sl 179 (.pr .int (.pr .int (.pr .bool .int)))))) YB rfl rfl (Fresh.of rfl) (nlr rfl)) ?_
 iterate 5 refine w_ ?_
 refine lc (QC Qnu ⟨_,_,rfl,(Qb rfl),⟨_,_,rfl,(Qb rfl),rfl⟩⟩ (List.all_eq_true.1 rfl) rfl rfl)<|lc (Qr 2 (Qb rfl) rfl rfl (Fresh.of rfl) (nlr rfl)) ?_
 iterate 2 refine w_ ?_
 refine Wz<|AC.wk (s':=⟨[(0,ag [.dat (.sl 145 (.pr .str .int)) c.1, .dat (.sl 9 .str) c.2.1, .dat (.sl 179 (.pr .int (.pr .int (.pr .bool .int)))) c.2.2]),(1,lf (dS name)),(2,lf (dS signs)),(3,lP 0 0),(6,lP 1 0),(7,lf (.val (.slice none 0 0))),(8,lP 2 0),(14,ag [.dat (.sl 145 (.pr .str .int)) c.1, .dat (.sl 9 .str) c.2.1, .dat (.sl 179 (.pr .int (.pr .int (.pr .bool .int)))) c.2.2]),(15,lf (dS signs)),(16,ag [.dat (.sl 145 (.pr .str .int)) c.1, .dat (.sl 9 .str) c.2.1, .dat (.sl 179 (.pr .int (.pr .int (.pr .bool .int)))) c.2.2,dS signs, .val (.slice none 0 0), .val (.slice none 0 0), .val (.slice none 0 0), .val (.slice none 0 0)]),(17,lP 2 0)],[(0,some (.box 59 [.dat (.sl 145 (.pr .str .int)) c.1, .dat (.sl 9 .str) c.2.1, .dat (.sl 179 (.pr .int (.pr .int (.pr .bool .int)))) c.2.2])),(1,some (.box 59 [.val (.slice none 0 0), .val (.slice none 0 0), .val (.slice none 0 0)])),(2,some (.box 288 [.dat (.sl 145 (.pr .str .int)) c.1, .dat (.sl 9 .str) c.2.1, .dat (.sl 179 (.pr .int (.pr .int (.pr .bool .int)))) c.2.2,dS signs, .val (.slice none 0 0), .val (.slice none 0 0), .val (.slice none 0 0), .val (.slice none 0 0)]))]⟩) (Wk.of [(0,0),(1,1),(2,2)] rfl ⟨rfl,rfl,rfl,rfl,rfl,rfl,rfl,rfl,rfl,rfl,rfl,trivial⟩ ⟨rfl,rfl,rfl,trivial⟩ rfl rfl) ?_
 iterate 2 refine w_ ?_
 refine lc (Qk 3 (e:=(.pr .str .int)) Yh Yj Wq rfl rfl (List.all_eq_true.1 rfl) ⟨rfl,rfl⟩ (by decide) rfl rfl (Fresh.of rfl) (nlr rfl)) ?_
 iterate 2 refine w_ ?_
 refine lc (ZI 4 (Qa rfl) rfl (Evl.rep (Qa rfl)) rfl Yh K8 (by first | omega | (simp only[List.length_append,List.length_map,List.length_take,List.length_cons,List.length_nil]; omega) | (simp only[List.length_append,List.length_drop,List.length_take,List.length_cons,List.length_nil]; omega)) rfl (Fresh.of rfl) (nlr rfl)) ?_
 refine w_ ?_
 refine lc (QC Qj9 ⟨_,_,rfl,(Qb rfl),⟨_,_,rfl,(Evl.ev (QE rfl)),rfl⟩⟩ (List.all_eq_true.1 rfl) rfl rfl)<|lc (Qk 5 (e:=(.pr .str .int)) Yh Yj Wq rfl ⟨_,_,rfl,(Qb rfl),rfl⟩ (List.all_eq_true.1 rfl) ⟨_,_,_,_,rfl,⟨[dS name],[dI 3],_,_,_,_,rfl,rfl,⟨rfl,rfl⟩,⟨rfl,rfl⟩,rfl⟩,⟨rfl,rfl⟩,rfl⟩ (by decide) rfl rfl (Fresh.of rfl) (nlr rfl))<|lc (Q0 6 (Qa rfl) rfl (Qa rfl) rfl rfl Yh K8 (by first | omega | (simp only[List.length_append,List.length_map,List.length_take,List.length_cons,List.length_nil]; omega) | (simp only[List.length_append,List.length_drop,List.length_take,List.length_cons,List.length_nil]; omega)) rfl (Fresh.of rfl) (nlr rfl)) ?_
 iterate 3 refine w_ ?_
 refine lc (Qf (Qa rfl) rfl (Qb rfl) rfl JQ rfl) ?_
 iterate 4 refine w_ ?_
 refine AC.wk (QR 7 (p:=2) (off:=4) 3 .int rfl rfl (Fresh.of rfl) (nlr rfl))<|AC.wk (QR 9 (p:=2) (off:=6) 9 .str rfl rfl (Fresh.of rfl) (nlr rfl))<|AC.wk (QR 11 (p:=2) (off:=7) 179 (.pr .int (.pr .int (.pr .bool .int))) rfl rfl (Fresh.of rfl) (nlr rfl)) ?_
 refine QcA (fun s_=>∃(cs:List ByteArray) (as_:List (Int×Int×Bool×Int)) (ps:List PSt),((ps,cs,as_)=W6 c signs)∧s_=⟨[(6,lP 1 0),(7,lf (.val (.slice none 0 0))),(8,lP 2 0)],[(1,some (.box 59 [.val (.slice none 0 0), .val (.slice none 0 0), .val (.slice none 0 0)])),(2,some (.box 288 [.dat (.sl 145 (.pr .str .int)) c.1, .dat (.sl 9 .str) c.2.1, .dat (.sl 179 (.pr .int (.pr .int (.pr .bool .int)))) c.2.2,dS signs, .ref 8, .ref 6, .ref 10, .ref 12])),(6,some (.arr 145 (.pr .str .int) ((([])++c.1)++([(name,3)])))),(8,some (.arr 3 .int (ps.map Z3))),(10,some (.arr 9 .str cs)),(12,some (.arr 179 (.pr .int (.pr .int (.pr .bool .int))) as_))]⟩) ?_ fun J1=> ?_
 ·rintro s_ ⟨cs,as_,ps,hS,rfl⟩
  iterate 5 refine w_ ?_
  refine Qy (fun m_ s_=>∃(k:Nat) (cs:List ByteArray) (as_:List (Int×Int×Bool×Int)) (ps:List PSt),k≤601∧m_=601 - k∧(YJ c signs=Qfw c signs (601 - k) k (ps,cs,as_))∧(InsI c (ps,cs,as_))∧(as_.length≤4001*k)∧s_=⟨[(6,lP 1 0),(7,lf (.val (.slice none 0 0))),(8,lP 2 0),(10,lI (k:Int))],[(1,some (.box 59 [.val (.slice none 0 0), .val (.slice none 0 0), .val (.slice none 0 0)])),(2,some (.box 288 [.dat (.sl 145 (.pr .str .int)) c.1, .dat (.sl 9 .str) c.2.1, .dat (.sl 179 (.pr .int (.pr .int (.pr .bool .int)))) c.2.2,dS signs, .ref 13, .ref 6, .ref 14, .ref 15])),(6,some (.arr 145 (.pr .str .int) ((([])++c.1)++([(name,3)])))),(13,some (.arr 3 .int (ps.map Z3))),(14,some (.arr 9 .str cs)),(15,some (.arr 179 (.pr .int (.pr .int (.pr .bool .int))) as_))]⟩) ⟨0,cs,as_,ps,Nat.zero_le _,rfl,(by rw[hS]; rfl),(by rw[hS]; exact Qej hn3.1),(by have:=congrArg (fun st:Ins=>st.2.2) hS; simp only[W6] at this; rw[this]; simp),rfl⟩ ?_ ?_
  · exact Wk.of [(1,1),(2,2),(6,6),(13,8),(14,10),(15,12)] rfl ⟨rfl,rfl,rfl,rfl,trivial⟩ ⟨rfl,rfl,rfl,rfl,rfl,rfl,trivial⟩ rfl rfl
  rintro m_ s_ ⟨k,cs,as_,ps,hk2,hm3,hA,hI,hL,rfl⟩
  have hfe:ps.length≤600:=hI.few hn3.2
  have hle:=hI.len
  have hle1:cs.length=ps.length:=hle
  have hkl:(ps.map Z3).length=ps.length:=List.length_map ..
  iterate 10 refine w_ ?_
  cases hb4:(decide ((k:Int) < ((ps.map Z3).length:Int)))
  ·have hb4':=of_decide_eq_false hb4
   refine w_ ?_
   refine QA ?_
   refine (?_:AC _ _ _ _ _)
   iterate 13 refine w_ ?_
   refine AC.wk (Wk.nilS 16 11 3 .int rfl (Fresh.of rfl) (nlr rfl)) ?_
   refine Qy (fun m_ s_=>∃(i:Nat),i≤ps.length∧m_=ps.length - i∧s_=⟨[(6,lP 1 0),(7,lf (.val (.slice none 0 0))),(8,lP 2 0),(11,lR 17),(56,lR 13),(57,lI ((ps.map Z3).length:Int)),(58,lI (i:Int))],[(1,some (.box 59 [.val (.slice none 0 0), .val (.slice none 0 0), .val (.slice none 0 0)])),(2,some (.box 288 [.dat (.sl 145 (.pr .str .int)) c.1, .dat (.sl 9 .str) c.2.1, .dat (.sl 179 (.pr .int (.pr .int (.pr .bool .int)))) c.2.2,dS signs, .ref 13, .ref 6, .ref 14, .ref 15])),(6,some (.arr 145 (.pr .str .int) ((([])++c.1)++([(name,3)])))),(13,some (.arr 3 .int (ps.map Z3))),(14,some (.arr 9 .str cs)),(15,some (.arr 179 (.pr .int (.pr .int (.pr .bool .int))) as_)),(17,some (.arr 3 .int ((ps.take i).map (fun p=>p.1))))]⟩) ⟨0,Nat.zero_le _,rfl,rfl⟩ ?_ ?_
   · exact Wk.of [(1,1),(2,2),(6,6),(13,13),(14,14),(15,15),(17,16)] rfl ⟨rfl,rfl,rfl,rfl,rfl,rfl,rfl,trivial⟩ ⟨rfl,rfl,rfl,rfl,rfl,rfl,(Qv (by first | rfl | simp)),trivial⟩ rfl rfl
   rintro m_ s_ ⟨i,hk5,hm6,rfl⟩
   have htl:(ps.take i).length≤ps.length:=by simp only[List.length_take]; omega
   have hml:((ps.take i).map (fun p=>p.1)).length=(ps.take i).length:=List.length_map ..
   iterate 4 refine w_ ?_
   cases hb7:(decide ((i:Int) < ((ps.map Z3).length:Int)))
   ·have hb7':=of_decide_eq_false hb7
    refine w_ ?_
    refine QA ?_
    refine (?_:AC _ _ _ _ _)
    iterate 6 refine w_ ?_
    refine lc (Qf (Qa rfl) rfl (Qb rfl) rfl QK rfl) ?_
    iterate 2 refine w_ ?_
    refine Qe ?_
    subst hO
    exact Q2 _ _ [(0,6),(1,14),(2,15),(3,17)] (Z8 rfl (Zk rfl rfl QK rfl) (Qc rfl)) (rfl) ⟨(Qv (by (rw[hA.trans (YM (by show ps.length≤k; omega))]; rfl))),(Qv (by (rw[hA.trans (YM (by show ps.length≤k; omega))]; rfl))),(Qv (by (rw[hA.trans (YM (by show ps.length≤k; omega))]; rfl))),(Qv (by (rw[hA.trans (YM (by show ps.length≤k; omega)),Zh (by omega)]; done))),trivial⟩ rfl rfl
   ·have hb7':=of_decide_eq_true hb7
    iterate 5 refine w_ ?_
    refine lc (Qq (e:= .int) (Qa rfl) rfl (Qa rfl) QO QD rfl (by omega) (by first | omega | (simp only[List.length_set]; omega))) ?_
    obtain ⟨x8,hx9⟩:∃z,(ps.map Z3)[i]? =some z:=⟨_,List.getElem?_eq_getElem (by omega)⟩
    have hz0x8:0≤x8:=by obtain ⟨p_,h1_,h2_⟩:=Qdd hx9; have:=hI.rng _ (List.mem_of_getElem? h1_); have h3_:0≤p_.1:=this.1; have:=U6 p_.2; rw[h2_]; unfold Z3; omega
    refine lc (Q7 (e:= .int) (Qa rfl) rfl hx9 rfl QD rfl rfl)<|AL.fact (Qs (x:= .tmp 61) (Qa rfl)) fun hi10=> ?_
    iterate 5 refine w_ ?_
    refine lc (QbZ (Qa rfl) (QE rfl) rfl (by omega) (by omega))<|lc (Qk 18 (e:= .int) QO QD Xl rfl ⟨_,_,rfl,(Qb rfl),rfl⟩ (List.all_eq_true.1 rfl) ⟨_,_,_,_,rfl,⟨rfl,rfl⟩,⟨rfl,rfl⟩,rfl⟩ (by decide) rfl rfl (Fresh.of rfl) (nlr rfl))<|lc (Q0 19 (Qa rfl) rfl (Qa rfl) rfl rfl QO WX (by first | omega | (simp only[List.length_append,List.length_map,List.length_take,List.length_cons,List.length_nil]; omega) | (simp only[List.length_append,List.length_drop,List.length_take,List.length_cons,List.length_nil]; omega)) rfl (Fresh.of rfl) (nlr rfl)) ?_
    refine w_ ?_
    refine Qj ?_
    refine (?_:AC _ _ _ _ _)
    iterate 3 refine w_ ?_
    refine Qj<|QS ⟨i+1,by omega,rfl,rfl⟩ (by omega) ?_
    exact Wk.of [(1,1),(2,2),(6,6),(13,13),(14,14),(15,15),(17,19)] rfl ⟨rfl,rfl,rfl,rfl,rfl,rfl,rfl,trivial⟩ ⟨rfl,rfl,rfl,rfl,rfl,rfl,(Qv (QnD hx9)),trivial⟩ rfl rfl
  ·have hb4':=of_decide_eq_true hb4
   iterate 7 refine w_ ?_
   refine lc (QP 20 [(0,2),(1,6),(2,13),(3,14),(4,15)] (H1 c signs ps ((([])++c.1)++([(name,3)])) cs as_ (k:Int) (by omega) hs hI.rng (by omega)) QiM ⟨_,_,rfl,(Qb rfl),⟨_,_,rfl,(Qb rfl),rfl⟩⟩ ⟨rfl,rfl,rfl,rfl,rfl,trivial⟩ rfl ⟨trivial,(Fresh.of rfl),trivial,(Fresh.of rfl),(Fresh.of rfl),(Fresh.of rfl),trivial,(Fresh.of rfl),(Fresh.of rfl),trivial⟩ (nlr rfl))<|Qj ?_
   refine (?_:AC _ _ _ _ _)
   iterate 4 refine w_ ?_
   refine Qj<|QS ⟨k+1,((Vi c signs (ps,cs,as_) (k:Int)).2.1),((Vi c signs (ps,cs,as_) (k:Int)).2.2),((Vi c signs (ps,cs,as_) (k:Int)).1),by omega,rfl,(by rw[hA]; exact Qj6 (by show k < ps.length; omega) (by omega)),(Hk hs hI).1,(by have h_:(Vi c signs (ps,cs,as_) (k:Int)).2.2.length≤as_.length+4001:=(Hk (k:=(k:Int)) hs hI).2; omega),rfl⟩ (by omega) ?_
   exact Wk.of [(1,1),(2,2),(6,6),(13,22),(14,23),(15,24)] rfl ⟨rfl,rfl,rfl,rfl,trivial⟩ ⟨rfl,rfl,(Qv (by first | rfl | simp)),rfl,rfl,rfl,trivial⟩ rfl rfl
 ·iterate 3 refine w_ ?_
  obtain ⟨c11,hc12⟩:∃z,signs[(0:Int).toNat]? =some z:=⟨_,getElem?_pos _ _ (by omega)⟩
  refine lc (QH (Qa rfl) (QE rfl) rfl Zd (by omega) hc12)<|lc (QG (Qa rfl) (QW 49 rfl) rfl) ?_
  refine w_ ?_
  cases hb13:(decide (c11=49))
  ·have hb13':=of_decide_eq_false hb13
   refine w_ ?_
   refine lgy rfl rfl (QH (Qa rfl) (QE rfl) rfl Zd (by omega) hc12)<|lgy rfl rfl (QG (Qa rfl) (QW 45 rfl) rfl) ?_
   iterate 2 refine w_ ?_
   cases hb14:(decide (c11=45))
   ·have hb14':=of_decide_eq_false hb14
    iterate 5 refine w_ ?_
    refine lc (QP 25 [(0,2),(1,6),(2,11),(3,7),(4,9)] (ZY c signs ([]) ((([])++c.1)++([(name,3)])) ([]) ([]) 0 0 (by omega) (by omega) hc (by simp) (by omega)) X4 ⟨_,_,rfl,(Qb rfl),⟨_,_,rfl,(Evl.ev (QE rfl)),⟨_,_,rfl,(Qb rfl),rfl⟩⟩⟩ ⟨rfl,rfl,rfl,rfl,rfl,trivial⟩ rfl ⟨trivial,(Fresh.of rfl),trivial,(Fresh.of rfl),trivial,(Fresh.of rfl),trivial,(Fresh.of rfl),trivial,trivial⟩ (nlr rfl)) ?_
    refine w_ ?_
    refine VI (J1 _ ⟨(cdP c ([]) ([]) (0,decide (0=1))),([]),(psP ([]) (0,decide (0=1))),(by first | (unfold W6 Kv; rw[QL (p:=0) (by assumption)]; simp[*]; done)),rfl⟩) ?_
    exact Wk.of [(1,1),(2,2),(6,6),(8,28),(10,29),(12,11)] rfl ⟨rfl,rfl,rfl,trivial⟩ ⟨rfl,rfl,(Qv (by first | rfl | simp)),rfl,rfl,rfl,trivial⟩ rfl rfl
   ·have hb14':=of_decide_eq_true hb14
    iterate 7 refine w_ ?_
    refine lc (QP 30 [(0,2),(1,6),(2,11),(3,7),(4,9)] (ZY c signs ([]) ((([])++c.1)++([(name,3)])) ([]) ([]) 0 1 (by omega) (by omega) hc (by simp) (by omega)) X4 ⟨_,_,rfl,(Qb rfl),⟨_,_,rfl,(Evl.ev (QE rfl)),⟨_,_,rfl,(Qb rfl),rfl⟩⟩⟩ ⟨rfl,rfl,rfl,rfl,rfl,trivial⟩ rfl ⟨trivial,(Fresh.of rfl),trivial,(Fresh.of rfl),trivial,(Fresh.of rfl),trivial,(Fresh.of rfl),trivial,trivial⟩ (nlr rfl)) ?_
    refine w_ ?_
    refine VI (J1 _ ⟨(cdP c ([]) ([]) (0,decide (1=1))),([]),(psP ([]) (0,decide (1=1))),(by first | (unfold W6 Kv; rw[QL (p:=0) (by assumption)]; simp[*]; done)),rfl⟩) ?_
    exact Wk.of [(1,1),(2,2),(6,6),(8,33),(10,34),(12,11)] rfl ⟨rfl,rfl,rfl,trivial⟩ ⟨rfl,rfl,(Qv (by first | rfl | simp)),rfl,rfl,rfl,trivial⟩ rfl rfl
  ·have hb13':=of_decide_eq_true hb13
   iterate 12 refine w_ ?_
   refine lc (QP 35 [(0,2),(1,6),(2,11),(3,7),(4,9)] (ZY c signs ([]) ((([])++c.1)++([(name,3)])) ([]) ([]) 0 1 (by omega) (by omega) hc (by simp) (by omega)) X4 ⟨_,_,rfl,(Qb rfl),⟨_,_,rfl,(Evl.ev (QE rfl)),⟨_,_,rfl,(Qb rfl),rfl⟩⟩⟩ ⟨rfl,rfl,rfl,rfl,rfl,trivial⟩ rfl ⟨trivial,(Fresh.of rfl),trivial,(Fresh.of rfl),trivial,(Fresh.of rfl),trivial,(Fresh.of rfl),trivial,trivial⟩ (nlr rfl)) ?_
   refine w_ ?_
   refine VI (J1 _ ⟨(cdP c ([]) ([]) (0,decide (1=1))),([]),(psP ([]) (0,decide (1=1))),(by first | (unfold W6 Kv; rw[QL (p:=0) (by assumption)]; simp[*]; done)),rfl⟩) ?_
   exact Wk.of [(1,1),(2,2),(6,6),(8,38),(10,39),(12,11)] rfl ⟨rfl,rfl,rfl,trivial⟩ ⟨rfl,rfl,(Qv (by first | rfl | simp)),rfl,rfl,rfl,trivial⟩ rfl rfl
theorem Ho (c:(List (ByteArray×Int))×List ByteArray×(List (Int×Int×Bool×Int)))(name:ByteArray)(signs:ByteArray)[∀c,Decidable (SgOk c)][∀s,Decidable (ZZ s)](hnm:name.size≤10000000):FC Tryz.prog 125 [(true,[.dat (.sl 145 (.pr .str .int)) c.1, .dat (.sl 9 .str) c.2.1, .dat (.sl 179 (.pr .int (.pr .int (.pr .bool .int)))) c.2.2]),(false,[dS name]),(false,[dS signs])] [] 0 (Is (PV.tup [(true,[.ref 0, .ref 1, .ref 2]),(false,[.ref 3]),(false,[dB ((ZX c name signs).2)])]) [(0,some (.arr 145 (.pr .str .int) (((ZX c name signs).1.1).1))),(1,some (.arr 9 .str (((ZX c name signs).1.1).2.1))),(2,some (.arr 179 (.pr .int (.pr .int (.pr .bool .int))) (((ZX c name signs).1.1).2.2))),(3,some (.arr 3 .int ((ZX c name signs).1.2)))]):=by
 refine QQ Tryz.func125 rfl rfl Tryz.ntmps125 fun O_ hO w0_ N0_ X_ h0_ f0_=> ?_
 refine w_ ?_
 refine lc (Qr 0 (Qb rfl) rfl rfl (Fresh.of rfl) (nlr rfl))<|lc (Qw 1 (.pr (.sl 145 (.pr .str .int)) (.pr (.sl 9 .str) (.sl 179 (.pr .int (.pr .int (.pr .bool .int)))))) YB rfl rfl (Fresh.of rfl) (nlr rfl)) ?_
 iterate 7 refine w_ ?_
 refine lc (Qh (Qae c signs) Qib ⟨_,_,rfl,(Qb rfl),⟨_,_,rfl,(Qb rfl),rfl⟩⟩ rfl rfl) ?_
 iterate 2 refine w_ ?_
 cases hb1:(okP c signs)
 ·iterate 20 refine w_ ?_
  refine lc (QC Yw rfl (List.all_eq_true.1 rfl) rfl rfl)<|lc (Qf (Qa rfl) rfl (Qb rfl) rfl QK rfl) ?_
  iterate 3 refine w_ ?_
  refine AC.wk (QR 2 (p:=1) (off:=0) 145 (.pr .str .int) rfl rfl (Fresh.of rfl) (nlr rfl))<|AC.wk (QR 3 (p:=1) (off:=1) 9 .str rfl rfl (Fresh.of rfl) (nlr rfl))<|AC.wk (QR 4 (p:=1) (off:=2) 179 (.pr .int (.pr .int (.pr .bool .int))) rfl rfl (Fresh.of rfl) (nlr rfl))<|AC.wk (Wk.nilS 5 7 3 .int rfl (Fresh.of rfl) (nlr rfl))<|Qe ?_
  subst hO
  have e2:(false:Bool)=((ZX c name signs).2):=by
   (rw[Z4 (WM (by assumption))]; done)
  exact Q2 _ _ [(0,2),(1,3),(2,4),(3,5)] (Zj rfl (Zk rfl rfl QK rfl) (Qc rfl) (Qc rfl)) ((congrArg (fun z_=>PV.tup [(true,[.ref 2, .ref 3, .ref 4]),(false,[.ref 5]),(false,[dB z_])]) e2)) ⟨(Qv (by (rw[Z4 (WM (by assumption))]; rfl))),(Qv (by (rw[Z4 (WM (by assumption))]; rfl))),(Qv (by (rw[Z4 (WM (by assumption))]; rfl))),(Qv (by (rw[Z4 (WM (by assumption))]; rfl))),trivial⟩ rfl rfl
 ·iterate 2 refine w_ ?_
  refine AL.fact (QB (x:= .tmp 17) (Qa rfl)) fun hl3=> ?_
  iterate 4 refine w_ ?_
  cases hb4:(decide (8≤(c.1.length:Int)))
  ·have hb4':=of_decide_eq_false hb4
   refine w_ ?_
   refine lgy rfl rfl (Qh (Qc3 name) QhR ⟨_,_,rfl,(Qb rfl),rfl⟩ rfl rfl) ?_
   iterate 3 refine w_ ?_
   cases hb5:(decide (ZZ name))
   ·have hb5':=of_decide_eq_false hb5
    iterate 9 refine w_ ?_
    refine lc (QC Yw rfl (List.all_eq_true.1 rfl) rfl rfl)<|lc (Qf (Qa rfl) rfl (Qb rfl) rfl QK rfl) ?_
    iterate 3 refine w_ ?_
    refine AC.wk (QR 6 (p:=1) (off:=0) 145 (.pr .str .int) rfl rfl (Fresh.of rfl) (nlr rfl))<|AC.wk (QR 7 (p:=1) (off:=1) 9 .str rfl rfl (Fresh.of rfl) (nlr rfl))<|AC.wk (QR 8 (p:=1) (off:=2) 179 (.pr .int (.pr .int (.pr .bool .int))) rfl rfl (Fresh.of rfl) (nlr rfl))<|AC.wk (Wk.nilS 9 7 3 .int rfl (Fresh.of rfl) (nlr rfl))<|Qe ?_
    subst hO
    have e6:(false:Bool)=((ZX c name signs).2):=by
     (rw[Z4 (WO (by assumption))]; done)
    exact Q2 _ _ [(0,6),(1,7),(2,8),(3,9)] (Zj rfl (Zk rfl rfl QK rfl) (Qc rfl) (Qc rfl)) ((congrArg (fun z_=>PV.tup [(true,[.ref 6, .ref 7, .ref 8]),(false,[.ref 9]),(false,[dB z_])]) e6)) ⟨(Qv (by (rw[Z4 (WO (by assumption))]; rfl))),(Qv (by (rw[Z4 (WO (by assumption))]; rfl))),(Qv (by (rw[Z4 (WO (by assumption))]; rfl))),(Qv (by (rw[Z4 (WO (by assumption))]; rfl))),trivial⟩ rfl rfl
   ·have hb5':=of_decide_eq_true hb5
    iterate 3 refine w_ ?_
    refine lgy rfl rfl (Qh (Ur c.1 name) Qdc ⟨_,_,rfl,(Qb rfl),⟨_,_,rfl,(Qb rfl),rfl⟩⟩ rfl rfl) ?_
    iterate 3 refine w_ ?_
    cases hb7:(decide (0≤(ZJ (fun x:Q4=>decide (x.1=name)) c.1)))
    ·have hb7':=of_decide_eq_false hb7
     iterate 2 refine w_ ?_
     refine Wz ?_
     have hsp:SignsOk c signs∧Xx c signs=true:=Qe4.1 (by assumption)
     iterate 4 refine w_ ?_
     refine lc (Ya 10 (Qaw c name signs hsp.1 hnm) Qh0 ⟨_,_,rfl,(Qb rfl),⟨_,_,rfl,(Qb rfl),⟨_,_,rfl,(Qb rfl),rfl⟩⟩⟩ rfl rfl ⟨Fresh.of rfl,Fresh.of rfl,Fresh.of rfl,Fresh.of rfl,trivial⟩ (nlr rfl)) ?_
     iterate 3 refine w_ ?_
     refine lc (Qw 14 (.pr (.sl 145 (.pr .str .int)) (.pr (.sl 9 .str) (.sl 179 (.pr .int (.pr .int (.pr .bool .int)))))) YB rfl rfl (Fresh.of rfl) (nlr rfl))<|lc (Qf (Qa rfl) rfl (Qb rfl) rfl QK rfl) ?_
     iterate 2 refine w_ ?_
     refine dw [io 41 (ag [.ref 10, .ref 11, .ref 12]),io 42 (lR 13),io 43 (ag [.ref 10, .ref 11, .ref 12]),io 44 (lB (decide (SgOk (KI c name (YJ c signs))))),⟨none,lf (.val undef),[(1,some (.box 59 [.ref 10, .ref 11, .ref 12]))]⟩,io 7 (lR 13),io 8 (lB (decide (SgOk (KI c name (YJ c signs)))))] [0,0,0,4,13,31,63] mixed rfl (by kernel_rfl) ⟨dxa QK rfl rfl rfl rfl,dxm rfl rfl,dxa QK rfl rfl rfl rfl,fun _ h_=>ac (Zl (Y2 (KI c name (YJ c signs))) Vs ⟨_,_,rfl,(YL (h_.w rfl) ⟨_,_,rfl, .inr ⟨_,_,_,_,rfl,(h_.n 10 rfl),rfl⟩,⟨_,_,rfl, .inr ⟨_,_,_,_,rfl,(h_.n 11 rfl),rfl⟩,⟨_,_,rfl, .inr ⟨_,_,_,_,rfl,(h_.n 12 rfl),rfl⟩,rfl⟩⟩⟩),rfl⟩ rfl rfl rfl) rfl,fun _ h_=>ac (Qf (h_.v rfl) (h_.en 1 rfl) (h_.w rfl) (by simp only[Yf,Up,List.all_cons,List.all_nil]; rw[(h_.en 10 rfl),(h_.en 11 rfl),(h_.en 12 rfl)]; rfl) QK rfl) rfl,dxt rfl rfl,dxt rfl rfl,⟨⟩⟩<|Qe ?_
     subst hO
     have e8:(decide (SgOk (KI c name (YJ c signs))):Bool)=((ZX c name signs).2):=by
      (rw[Ud (XO (by assumption) (by assumption) (by assumption) (by omega))]; done)
     exact Q2 _ _ [(0,10),(1,11),(2,12),(3,13)] (Zj rfl (Zk rfl rfl QK rfl) (Qc rfl) (Qc rfl)) ((congrArg (fun z_=>PV.tup [(true,[.ref 10, .ref 11, .ref 12]),(false,[.ref 13]),(false,[dB z_])]) e8)) ⟨(Qv (by (rw[Ud (XO (by assumption) (by assumption) (by assumption) (by omega))]; done))),(Qv (by (rw[Ud (XO (by assumption) (by assumption) (by assumption) (by omega))]; done))),(Qv (by (rw[Ud (XO (by assumption) (by assumption) (by assumption) (by omega))]; done))),(Qv (by (rw[Ud (XO (by assumption) (by assumption) (by assumption) (by omega))]; done))),trivial⟩ rfl rfl
    ·have hb7':=of_decide_eq_true hb7
     iterate 2 refine w_ ?_
     refine lc (QC Yw rfl (List.all_eq_true.1 rfl) rfl rfl)<|lc (Qf (Qa rfl) rfl (Qb rfl) rfl QK rfl) ?_
     iterate 3 refine w_ ?_
     refine AC.wk (QR 15 (p:=1) (off:=0) 145 (.pr .str .int) rfl rfl (Fresh.of rfl) (nlr rfl))<|AC.wk (QR 16 (p:=1) (off:=1) 9 .str rfl rfl (Fresh.of rfl) (nlr rfl))<|AC.wk (QR 17 (p:=1) (off:=2) 179 (.pr .int (.pr .int (.pr .bool .int))) rfl rfl (Fresh.of rfl) (nlr rfl))<|AC.wk (Wk.nilS 18 7 3 .int rfl (Fresh.of rfl) (nlr rfl))<|Qe ?_
     subst hO
     have e9:(false:Bool)=((ZX c name signs).2):=by
      (rw[Z4 (WN (by assumption))]; done)
     exact Q2 _ _ [(0,15),(1,16),(2,17),(3,18)] (Zj rfl (Zk rfl rfl QK rfl) (Qc rfl) (Qc rfl)) ((congrArg (fun z_=>PV.tup [(true,[.ref 15, .ref 16, .ref 17]),(false,[.ref 18]),(false,[dB z_])]) e9)) ⟨(Qv (by (rw[Z4 (WN (by assumption))]; rfl))),(Qv (by (rw[Z4 (WN (by assumption))]; rfl))),(Qv (by (rw[Z4 (WN (by assumption))]; rfl))),(Qv (by (rw[Z4 (WN (by assumption))]; rfl))),trivial⟩ rfl rfl
  ·have hb4':=of_decide_eq_true hb4
   iterate 14 refine w_ ?_
   refine lc (QC Yw rfl (List.all_eq_true.1 rfl) rfl rfl)<|lc (Qf (Qa rfl) rfl (Qb rfl) rfl QK rfl) ?_
   iterate 3 refine w_ ?_
   refine AC.wk (QR 19 (p:=1) (off:=0) 145 (.pr .str .int) rfl rfl (Fresh.of rfl) (nlr rfl))<|AC.wk (QR 20 (p:=1) (off:=1) 9 .str rfl rfl (Fresh.of rfl) (nlr rfl))<|AC.wk (QR 21 (p:=1) (off:=2) 179 (.pr .int (.pr .int (.pr .bool .int))) rfl rfl (Fresh.of rfl) (nlr rfl))<|AC.wk (Wk.nilS 22 7 3 .int rfl (Fresh.of rfl) (nlr rfl))<|Qe ?_
   subst hO
   have e10:(false:Bool)=((ZX c name signs).2):=by
    (rw[Z4 (HD (by assumption) (by assumption))]; done)
   exact Q2 _ _ [(0,19),(1,20),(2,21),(3,22)] (Zj rfl (Zk rfl rfl QK rfl) (Qc rfl) (Qc rfl)) ((congrArg (fun z_=>PV.tup [(true,[.ref 19, .ref 20, .ref 21]),(false,[.ref 22]),(false,[dB z_])]) e10)) ⟨(Qv (by (rw[Z4 (HD (by assumption) (by assumption))]; rfl))),(Qv (by (rw[Z4 (HD (by assumption) (by assumption))]; rfl))),(Qv (by (rw[Z4 (HD (by assumption) (by assumption))]; rfl))),(Qv (by (rw[Z4 (HD (by assumption) (by assumption))]; rfl))),trivial⟩ rfl rfl
end Go.Proofs.YtnakmhfjafecpaaGreat
