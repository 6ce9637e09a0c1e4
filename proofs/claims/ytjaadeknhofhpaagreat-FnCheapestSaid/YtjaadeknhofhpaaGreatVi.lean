/- Walks over abstract states: the graph with one signal more, both sides. -/
import Derived.Test.YtjaadeknhofhpaaGreatVg
import Derived.Test.YtjaadeknhofhpaaGreatWk
import Derived.Test.YtjaadeknhofhpaaGreatAk
import Derived.Test.YtjaadeknhofhpaaGreatStr
import Derived.Test.YtjaadeknhofhpaaGreatProg
import Derived.KernelRfl
set_option linter.unusedSimpArgs false
set_option linter.unusedVariables false
set_option linter.unusedSectionVars false
namespace Go.Proofs.YtjaadeknhofhpaaGreat
open Go.RowKit
set_option maxRecDepth 100000
set_option maxHeartbeats 4000000
def Jc (s:ByteArray):Bool:=decide (bAt s 0=49)||decide (bAt s 0=45)
def Vk (c:DSg)(s:ByteArray):Ins:=(psP [] (0,Jc s),cdP c [] [] (0,Jc s),[])
def QgJ (c:DSg)(s:ByteArray):Nat→Nat→Ins→Ins
  | 0,_,st=>st
  | f+1,k,st=>if k < st.1.length then QgJ c s f (k+1) (Vw c s st (k:Int)) else st
def YA (c:DSg)(s:ByteArray):Ins:=QgJ c s 601 0 (Vk c s)
def Hf (c:DSg)(name:ByteArray)(st:Ins):DSg:=(c.1++[(name,3)],st.2.1,st.2.2)
structure InsI (c:DSg) (st:Ins):Prop where
  rng:∀p∈st.1,0≤p.1∧p.1 < (c.2.1.length:Int)
  nd:st.1.Nodup
  len:st.2.1.length=st.1.length
section
variable {c:DSg}{s name:ByteArray}{st:Ins}{ps:List PSt}{cs:List ByteArray}{as_:List DAr}{p:PSt}{k:Int}{l:Zy}{i j n:Nat}{b:Bool}{z:Int}
theorem QmQ {q:PSt}(h:q∈psP ps p):q∈ps∨q=p:=by
  unfold psP at h
  split at h
  · exact .inl h
  · rcases aL.1 h with h | h
    · exact .inl h
    · exact .inr (aK.1 h)
theorem QqW (h:ps.Nodup):(psP ps p).Nodup:=by
  unfold psP
  split
  · exact h
  · rename_i hp
    rw[bl]
    refine ⟨h,by simp, ?_⟩
    intro a ha b hb e
    rw[aK] at hb
    subst hb
    subst e
    exact hp ha
theorem Qip (h:InsI c st)(hp:0≤p.1∧p.1 < (c.2.1.length:Int)):InsI c (Kq c st k l p):=by
  refine ⟨fun q hq=> ?_,QqW h.nd, ?_⟩
  · rcases QmQ (show q ∈ psP st.1 p from hq) with h1 | h1
    · exact h.rng q h1
    · rw[h1]; exact hp
  · have := h.len
    show (cdP c st.1 st.2.1 p).length=(psP st.1 p).length
    unfold cdP psP
    split <;> simp[this]
theorem Qm3:(Kq c st k l p).2.2.length=st.2.2.length+1:=by simp[Kq]
theorem Qn4 {a:DAr}{q:PSt}(h:InsI c st)(ha:0≤a.2.2.2∧a.2.2.2 < (c.2.1.length:Int)):InsI c (K9 c s k q st a)∧(K9 c s k q st a).2.2.length≤st.2.2.length+1:=by
  unfold K9
  split
  · exact ⟨h,by omega⟩
  · exact ⟨Qip h ha,by rw[Qm3]; omega⟩
theorem Qin {q:PSt}:∀(l:List DAr) (st:Ins),InsI c st→(∀a∈l,0≤a.2.2.2∧a.2.2.2 < (c.2.1.length:Int))→InsI c (l.foldl (K9 c s k q) st)∧(l.foldl (K9 c s k q) st).2.2.length≤st.2.2.length+l.length
  | [],st,h,_=>⟨h,by simp⟩
  | a :: l,st,h,ha=>by
    obtain ⟨h1,h2⟩:=Qn4 (s:=s) (k:=k) (q:=q) h (ha a (aA ..))
    obtain ⟨h3,h4⟩:=Qin l _ h1 fun a h=>ha a (ax _ h)
    rw[aS]
    exact ⟨h3,by rw[ao]; omega⟩
theorem QaU (hs:SignsOk c s)(h:InsI c st):InsI c (Vw c s st k)∧(Vw c s st k).2.2.length≤st.2.2.length+4001:=by
  unfold Vw
  cases hx:st.1[k.toNat]? with
  | none=>exact ⟨h,by simp⟩
  | some p=>
    have hp:=h.rng p (a8 hx)
    have h1:InsI c (QcH c s st k p)∧(QcH c s st k p).2.2.length≤st.2.2.length+1:=by
      unfold QcH
      split
      · exact ⟨Qip h hp,by rw[Qm3]; omega⟩
      · exact ⟨h,by omega⟩
    obtain ⟨h2,h3⟩:=Qin (s:=s) (k:=k) (q:=p) (Z7 c.2.2 p.1) _ h1.1 fun a ha=>by
      have:=hs.at_ (Qd6.1 ha).1
      rw[hs.2.1] at this
      exact this.2
    refine ⟨h2, ?_⟩
    have h4:=Qa6 (l:=c.2.2) (q:=p.1)
    have h5:=hs.2.2.few
    simp only
    omega
theorem QiA:∀(n:Nat) (l:List Nat),l.Nodup→(∀x∈l,x < n)→l.length≤n
  | 0,[],_,_=>aO _
  | 0,x :: l,_,h=>absurd (h x (aA ..)) (b7 x)
  | n+1,l,hd,h=>by
    have h1:=QiA n (l.erase n) (hd.erase n) fun x hx=>by
      have h2:=h x (List.mem_of_mem_erase hx)
      have h3:x≠n:=fun e=>by subst e; exact (List.Nodup.not_mem_erase hd) hx
      omega
    have h2:=List.length_erase (a:=n) (l:=l)
    split at h2 <;> omega
theorem InsI.few (h:InsI c st)(hn:c.2.1.length≤300):st.1.length≤600:=by
  have h1:=QiA 600 (st.1.map fun p=>(ZM p).toNat) ?_ ?_
  · simpa using h1
  · rw [List.Nodup, List.pairwise_map]
    refine List.Pairwise.imp_of_mem ?_ h.nd
    intro a b ha hb hne e
    apply hne
    have h2:=h.rng a ha
    have h3:=h.rng b hb
    have h4:=Kr a.2
    have h5:=Kr b.2
    unfold ZM at e
    have h6:a.1=b.1∧vB a.2=vB b.2:=by omega
    refine Prod.ext h6.1 ?_
    rw[← QdE a.2,h6.2,QdE]
  · intro x hx
    obtain ⟨p,hp,rfl⟩:=bQ.1 hx
    have h2:=h.rng p hp
    have h4:=Kr p.2
    unfold ZM
    omega
theorem Qf2 (hn:1≤c.2.1.length):InsI c (Vk c s):=by
  refine ⟨fun q hq=> ?_,QqW bE, ?_⟩
  · rcases QmQ (show q ∈ psP [] (0, Jc s) from hq) with h1 | h1
    · cases h1
    · rw[h1]; show (0:Int)≤0∧(0:Int) < _; omega
  · simp[Vk,psP,cdP]
theorem QmA (hk:j < st.1.length)(hf:i=n+1):QgJ c s i j st=QgJ c s n (j+1) (Vw c s st (j:Int)):=by
  subst hf; rw[QgJ,if_pos hk]
theorem Yu (hk:st.1.length≤j):QgJ c s i j st=st:=by
  cases i with
  | zero=>rfl
  | succ i=>rw[QgJ,if_neg (by omega)]
theorem QiQ (hx:ps[i]? =some p):(ps.take i).map (fun p=>p.1)++[p.1]=(ps.take (i+1)).map fun p=>p.1:=by rw[QO hx]; simp
theorem Qr0 (hx:(ps.map ZM)[i]? =some z):(ps.take i).map (fun p=>p.1)++[z / 2]=(ps.take (i+1)).map fun p=>p.1:=by
  obtain ⟨p,h1,h2⟩:=QeK hx
  rw[h2,Qib,QiQ h1]
end
abbrev Qhe (name:ByteArray):QJ→Bool:=fun x=>decide (x.1=name)
section
variable [∀c,Decidable (SgOk c)][∀s,Decidable (Zq s)]{c:DSg}{s name:ByteArray}{st:Ins}
def Kd (c:DSg)(name s:ByteArray):Bool:=okP c s&&decide (Zq name)&& !(c.1.any (Qhe name))&& !decide (c.1.length=8)
def Qkr:DSg×List Int:=(WS,[])
def Yt (c:DSg)(name s:ByteArray):(DSg×List Int)×Bool:=
  if Kd c name s=true∧SgOk (Hf c name (YA c s)) then ((Hf c name (YA c s),(YA c s).1.map fun p=>p.1),true) else (Qkr,false)
def ZV (c:DSg)(name s:ByteArray):(DSg×List Int)×Bool:=
  if Kd c name s=true then ((Hf c name (YA c s),(YA c s).1.map fun p=>p.1),decide (SgOk (Hf c name (YA c s)))) else (Qkr,false)
theorem QaN (h:¬SignsOk c s):Kd c name s=false:=by unfold Kd; rw[← Qjx h]; rfl
theorem W2 (h:okP c s=false):Kd c name s=false:=by unfold Kd; rw[h]; rfl
theorem W4 (h:¬Zq name):Kd c name s=false:=by unfold Kd; rw[az h]; simp
theorem WW (h:0≤Ze (Qhe name) c.1):Kd c name s=false:=by unfold Kd; rw[← VN,aI h]; simp
theorem J4 (h:(c.1.length:Int)=8):Kd c name s=false:=by unfold Kd; rw[aI (show c.1.length=8 by omega)]; simp
theorem Qar (h2:okP c s=true)(h:(8:Int)≤(c.1.length:Int)):Kd c name s=false:=by
  have:=(QgS.1 h2).1.2.2.sigs.2.2
  exact J4 (by omega)
theorem XO (h1:okP c s=true)(h2:Zq name)(h3:¬0≤Ze (Qhe name) c.1)(h4:¬(c.1.length:Int)=8):Kd c name s=true:=by
  unfold Kd; rw[h1,aI h2,← VN,az h3,az (show¬c.1.length=8 by omega)]; rfl
theorem ZG (h:Kd c name s=false):Yt c name s=(Qkr,false):=if_neg fun h2=>by rw[h] at h2; cases h2.1
theorem Jn (h:YA c s=st)(h2:¬SgOk (Hf c name st)):Yt c name s=(Qkr,false):=if_neg fun h3=>h2 (by rw[h] at h3; exact h3.2)
theorem Je (h1:Kd c name s=true)(h:YA c s=st)(h2:SgOk (Hf c name st)):Yt c name s=((Hf c name st,st.1.map fun p=>p.1),true):=by
  unfold Yt; rw[h,if_pos ⟨h1,h2⟩]
theorem ZL (h:Kd c name s=false):ZV c name s=(Qkr,false):=if_neg (by rw[h]; decide)
theorem UG (h1:Kd c name s=true):ZV c name s=((Hf c name (YA c s),(YA c s).1.map fun p=>p.1),decide (SgOk (Hf c name (YA c s)))):=if_pos h1
theorem Qta (h:(ZV c name s).2=true):Yt c name s=ZV c name s:=by
  unfold ZV at h ⊢
  unfold Yt
  split at h
  · rename_i h1
    have h2:SgOk (Hf c name (YA c s)):=a7 h
    rw[if_pos ⟨h1,h2⟩,if_pos h1,aI h2]
  · cases h
theorem Qtl (h:(ZV c name s).2=false):Yt c name s=(Qkr,false):=by
  unfold ZV at h
  unfold Yt
  split at h
  · exact if_neg fun h2=>(a6 h) h2.2
  · rename_i h1; exact if_neg fun h2=>h1 h2.1
end
theorem QbO (c:(List (ByteArray×Int))×List ByteArray×(List (Int×Int×Bool×Int)))(name:ByteArray)(signs:ByteArray)[∀c,Decidable (SgOk c)][∀s,Decidable (Zq s)](hnm:name.size≤10000000):FC Tryz.prog 136 [(true,[.dat Qo c.1, .dat Qr c.2.1, .dat QD c.2.2]),(false,[dS name]),(false,[dS signs])] [] 0 (Is (PV.tup [(true,[.ref 0, .ref 1, .ref 2]),(false,[.ref 3]),(false,[dB ((Yt c name signs).2)])]) [(0,some (.arr 90 QK (((Yt c name signs).1.1).1))),(1,some (.arr 9 .str (((Yt c name signs).1.1).2.1))),(2,some (.arr 106 QA (((Yt c name signs).1.1).2.2))),(3,some (.arr 3 .int ((Yt c name signs).1.2)))]):=by
 refine Qy Tryz.func136 rfl rfl Tryz.ntmps136 fun O_ hO w0_ N0_ X_ h0_ f0_=> ?_
 refine w_ ?_
 refine xbx 0 ?_
 refine lc (xal 1 Wu ZS) ?_
 iterate 7 refine w_ ?_
 refine lc (dK (Ut c signs) Qoj) ?_
 iterate 10 refine w_ ?_
 cases hb1:(decide (SignsOk c signs))
 have hb1':=a6 hb1
 iterate 24 refine w_ ?_
 refine lc (Qi Y4 rfl (ah.1 rfl) rfl rfl) ?_
 iterate 4 refine w_ ?_
 refine AC.wk (Qv 2 (p:=1) (off:=0) 90 QK rfl rfl (Fresh.of rfl) (nlr rfl))<|AC.wk (Qv 3 (p:=1) (off:=1) 9 .str rfl rfl (Fresh.of rfl) (nlr rfl))<|AC.wk (Qv 4 (p:=1) (off:=2) 106 QA rfl rfl (Fresh.of rfl) (nlr rfl))<|AC.wk (Wk.nilS 5 7 3 .int rfl (Fresh.of rfl) (nlr rfl))<|Zf ?_
 subst hO
 have e2:(false:Bool)=((Yt c name signs).2):=by
  (rw[ZG (QaN ‹_›)]; done)
 exact QF _ _ [(0,2),(1,3),(2,4),(3,5)] (Zu rfl (Qz rfl rfl Q3 rfl) (Qb rfl) (Qb rfl)) (by rw[← e2] <;> rfl) ⟨(Qh (by (rw[ZG (QaN ‹_›)]; rfl))),(Qh (by (rw[ZG (QaN ‹_›)]; rfl))),(Qh (by (rw[ZG (QaN ‹_›)]; rfl))),(Qh (by (rw[ZG (QaN ‹_›)]; rfl))),trivial⟩ rfl rfl
 have hb1':=a7 hb1
 iterate 4 refine w_ ?_
 cases hb3:(okP c signs)
 iterate 20 refine w_ ?_
 refine lc (Qi Y4 rfl (ah.1 rfl) rfl rfl) ?_
 iterate 4 refine w_ ?_
 refine AC.wk (Qv 6 (p:=1) (off:=0) 90 QK rfl rfl (Fresh.of rfl) (nlr rfl))<|AC.wk (Qv 7 (p:=1) (off:=1) 9 .str rfl rfl (Fresh.of rfl) (nlr rfl))<|AC.wk (Qv 8 (p:=1) (off:=2) 106 QA rfl rfl (Fresh.of rfl) (nlr rfl))<|AC.wk (Wk.nilS 9 7 3 .int rfl (Fresh.of rfl) (nlr rfl))<|Zf ?_
 subst hO
 have e4:(false:Bool)=((Yt c name signs).2):=by
  (rw[ZG (W2 ‹_›)]; done)
 exact QF _ _ [(0,6),(1,7),(2,8),(3,9)] (Zu rfl (Qz rfl rfl Q3 rfl) (Qb rfl) (Qb rfl)) (by rw[← e4] <;> rfl) ⟨(Qh (by (rw[ZG (W2 ‹_›)]; rfl))),(Qh (by (rw[ZG (W2 ‹_›)]; rfl))),(Qh (by (rw[ZG (W2 ‹_›)]; rfl))),(Qh (by (rw[ZG (W2 ‹_›)]; rfl))),trivial⟩ rfl rfl
 refine w_ ?_
 refine lgy rfl rfl (dK (QeU name) Qlk) ?_
 iterate 3 refine w_ ?_
 cases hb5:(decide (Zq name))
 have hb5':=a6 hb5
 iterate 15 refine w_ ?_
 refine lc (Qi Y4 rfl (ah.1 rfl) rfl rfl) ?_
 iterate 4 refine w_ ?_
 refine AC.wk (Qv 10 (p:=1) (off:=0) 90 QK rfl rfl (Fresh.of rfl) (nlr rfl))<|AC.wk (Qv 11 (p:=1) (off:=1) 9 .str rfl rfl (Fresh.of rfl) (nlr rfl))<|AC.wk (Qv 12 (p:=1) (off:=2) 106 QA rfl rfl (Fresh.of rfl) (nlr rfl))<|AC.wk (Wk.nilS 13 7 3 .int rfl (Fresh.of rfl) (nlr rfl))<|Zf ?_
 subst hO
 have e6:(false:Bool)=((Yt c name signs).2):=by
  (rw[ZG (W4 ‹_›)]; done)
 exact QF _ _ [(0,10),(1,11),(2,12),(3,13)] (Zu rfl (Qz rfl rfl Q3 rfl) (Qb rfl) (Qb rfl)) (by rw[← e6] <;> rfl) ⟨(Qh (by (rw[ZG (W4 ‹_›)]; rfl))),(Qh (by (rw[ZG (W4 ‹_›)]; rfl))),(Qh (by (rw[ZG (W4 ‹_›)]; rfl))),(Qh (by (rw[ZG (W4 ‹_›)]; rfl))),trivial⟩ rfl rfl
 have hb5':=a7 hb5
 iterate 3 refine w_ ?_
 refine lgy rfl rfl (dK (UW c.1 name) Qdt) ?_
 iterate 3 refine w_ ?_
 cases hb7:(decide (0≤(Ze (fun x:QJ=>decide (x.1=name)) c.1)))
 have hb7':=a6 hb7
 iterate 2 refine w_ ?_
 refine AL.fact (Qp (x:= .tmp 42) (Qa rfl)) fun hl8=> ?_
 iterate 4 refine w_ ?_
 cases hb9:(decide ((c.1.length:Int)=8))
 have hb9':=a6 hb9
 iterate 2 refine w_ ?_
 refine Yd ?_
 have hsp:SignsOk c signs∧Xv c signs=true:=QgS.1 ‹_›
 have hs:=hsp.1
 have hsz:=hs.2.1
 have hn3:=hs.2.2.some_
 have hfw:=hs.2.2.few
 have hsl:=UF hs.2.2.sigs
 have hc:∀x∈c.2.1,x.size≤1000:=fun x hx=>by have:=(hs.2.2.codes x hx).2; omega
 iterate 3 refine w_ ?_
 refine lc (Qg9 (kt:=268) (et:=3) (kb:=true) (k:=Qw) (vb:=false) (v:= .int) 14 rfl (Fresh.of rfl) (nlr rfl))<|lc (Qh0 (Qsc (offs:=[(0,3),(3,1),(4,3),(7,1),(8,1)]) (zs:=[.slice none 0 0, .slice none 0 0, .slice none 0 0, .string ByteArray.empty, .slice none 0 0, .slice none 0 0, .slice none 0 0, .slice none 0 0, .map none]) Tryz.underlying265 (by kernel_rfl) (by kernel_rfl)) ⟨_,_,rfl,(Qf rfl),⟨_,_,rfl,(Qf rfl),⟨_,_,rfl,(Qf rfl),rfl⟩⟩⟩ (ah.1 rfl) rfl rfl) ?_
 refine xbx 15 ?_
 iterate 2 refine w_ ?_
 refine Yd<|AC.wk (s':=⟨[(0,ag [.dat Qo c.1, .dat Qr c.2.1, .dat QD c.2.2]),(1,lf (dS name)),(2,lf (dS signs)),(3,lP 0 0),(6,lP 1 0),(7,lf (.val (.slice none 0 0))),(8,lB false),(9,lB true),(10,lB true),(11,lP 15 0),(16,PV.tup [(false,[dB true]),(false,[dB true])]),(17,ag [.dat Qo c.1, .dat Qr c.2.1, .dat QD c.2.2]),(18,lf (dS signs)),(19,PV.tup [(false,[dB true]),(false,[dB true])]),(20,lB true),(21,lB true),(22,lB true),(23,lB (!true)),(24,lB false),(25,lB true),(26,lB (!true)),(27,lB (!true)),(28,lB false),(29,lf (dS name)),(30,lB true),(31,lB (!true)),(32,lB (!true)),(33,lB false),(34,lP 0 0),(35,lf (.dat Qo c.1)),(36,lf (dS name)),(37,lI (Ze (fun x:QJ=>decide (x.1=name)) c.1)),(38,lB false),(39,lB false),(40,lB false),(41,lP 0 0),(42,lf (.dat Qo c.1)),(43,lI (c.1.length:Int)),(44,lB false),(45,lB false),(47,ag [.dat Qo c.1, .dat Qr c.2.1, .dat QD c.2.2]),(48,lf (dS signs)),(49,lR 14),(50,ag [.dat Qo c.1, .dat Qr c.2.1, .dat QD c.2.2,dS signs, .val (.slice none 0 0), .val (.slice none 0 0), .val (.slice none 0 0), .val (.slice none 0 0), .ref 14]),(51,lP 15 0)],[(0,some (.box 52 [.dat Qo c.1, .dat Qr c.2.1, .dat QD c.2.2])),(1,some (.box 52 [.val (.slice none 0 0), .val (.slice none 0 0), .val (.slice none 0 0)])),(14,some (.mp true Qw false .int ([]))),(15,some (.box 265 [.dat Qo c.1, .dat Qr c.2.1, .dat QD c.2.2,dS signs, .val (.slice none 0 0), .val (.slice none 0 0), .val (.slice none 0 0), .val (.slice none 0 0), .ref 14]))]⟩) (Wk.of [] rfl ⟨rfl,rfl,rfl,rfl,rfl,rfl,rfl,rfl,rfl,rfl,rfl,rfl,rfl,rfl,rfl,rfl,rfl,rfl,rfl,rfl,rfl,rfl,rfl,rfl,rfl,rfl,rfl,rfl,rfl,rfl,rfl,rfl,rfl,rfl,rfl,rfl,rfl,rfl,rfl,rfl,rfl,rfl,rfl,rfl,rfl,trivial⟩ ⟨rfl,rfl,rfl,rfl,trivial⟩ rfl rfl) ?_
 iterate 4 refine w_ ?_
 refine lc (dO 16 (Xl c.1 (by omega)) QkF) ?_
 refine w_ ?_
 refine lc (Qi Qlg ⟨_,_,rfl,(Qf rfl),⟨_,_,rfl,(Evl.ev (Qu rfl)),rfl⟩⟩ (ah.1 rfl) rfl rfl) ?_
 refine lc (dBs 17 (e:=QK) Vp (hab:=by exact ⟨_,_,_,_,rfl,⟨[dS name],[dI 3],_,_,_,_,rfl,rfl,⟨rfl,rfl⟩,⟨rfl,rfl⟩,rfl⟩,⟨rfl,rfl⟩,rfl⟩)) ?_
 refine lc (dA 18 Jg) ?_
 iterate 5 refine w_ ?_
 refine AC.wk (Qv 19 (p:=15) (off:=7) 268 Qw rfl rfl (Fresh.of rfl) (nlr rfl))<|AC.wk (Qv 21 (p:=15) (off:=5) 9 .str rfl rfl (Fresh.of rfl) (nlr rfl))<|AC.wk (Qv 23 (p:=15) (off:=6) 106 QA rfl rfl (Fresh.of rfl) (nlr rfl)) ?_
 refine VW (fun s_=>∃(ps:List (Int×Bool)) (cs:List ByteArray) (as_:List (Int×Int×Bool×Int)),((ps,cs,as_)=Vk c signs)∧s_=⟨[(6,lP 1 0),(7,lf (.val (.slice none 0 0))),(8,lB false),(11,lP 15 0)],[(1,some (.box 52 [.val (.slice none 0 0), .val (.slice none 0 0), .val (.slice none 0 0)])),(14,some (.mp true Qw false .int (YJ ps))),(15,some (.box 265 [.dat Qo c.1, .dat Qr c.2.1, .dat QD c.2.2,dS signs, .ref 18, .ref 22, .ref 24, .ref 20, .ref 14])),(18,some (.arr 90 QK (c.1++([(name,3)])))),(20,some (.arr 268 Qw ps)),(22,some (.arr 9 .str cs)),(24,some (.arr 106 QA as_))]⟩) ?_ fun J10=> ?_
 rintro s_ ⟨ps,cs,as_,hS,rfl⟩
 iterate 5 refine w_ ?_
 refine Qm (fun m_ s_=>∃(k:Nat) (ps:List (Int×Bool)) (cs:List ByteArray) (as_:List (Int×Int×Bool×Int)),k≤601∧m_=601 - k∧(YA c signs=QgJ c signs (601 - k) k (ps,cs,as_))∧(InsI c (ps,cs,as_))∧(as_.length≤4001*k)∧s_=⟨[(6,lP 1 0),(7,lf (.val (.slice none 0 0))),(8,lB false),(11,lP 15 0),(12,lI (k:Int))],[(1,some (.box 52 [.val (.slice none 0 0), .val (.slice none 0 0), .val (.slice none 0 0)])),(14,some (.mp true Qw false .int (YJ ps))),(15,some (.box 265 [.dat Qo c.1, .dat Qr c.2.1, .dat QD c.2.2,dS signs, .ref 18, .ref 26, .ref 27, .ref 25, .ref 14])),(18,some (.arr 90 QK (c.1++([(name,3)])))),(25,some (.arr 268 Qw ps)),(26,some (.arr 9 .str cs)),(27,some (.arr 106 QA as_))]⟩) ⟨0,ps,cs,as_,ap _,rfl,(by rw[hS]; rfl),(by rw[hS]; exact Qf2 hn3.1),(by have:=congrArg (fun st:Ins=>st.2.2) hS; simp only[Vk] at this; rw[this]; simp),rfl⟩ ?_ ?_
 exact wo [(25,20),(26,22),(27,24)]
 rintro m_ s_ ⟨k,ps,cs,as_,hk11,hm12,hA,hI,hL,rfl⟩
 have hfe:ps.length≤600:=hI.few hn3.2
 have hle:=hI.len
 have hle1:cs.length=ps.length:=hle
 iterate 10 refine w_ ?_
 cases hb13:(decide ((k:Int) < (ps.length:Int)))
 have hb13':=a6 hb13
 iterate 9 refine w_ ?_
 refine lc (XA (ZB (c.1++([(name,3)]),cs,as_)) U3 ⟨_,_,rfl,(K6 (Qf rfl) ⟨_,_,rfl, .inr ⟨_,_,_,_,rfl,rfl,rfl⟩,⟨_,_,rfl, .inr ⟨_,_,_,_,rfl,rfl,rfl⟩,⟨_,_,rfl, .inr ⟨_,_,_,_,rfl,rfl,rfl⟩,rfl⟩⟩⟩),rfl⟩ rfl rfl rfl) ?_
 iterate 2 refine w_ ?_
 cases hb14:(decide (SgOk (c.1++([(name,3)]),cs,as_)))
 have hb14':=a6 hb14
 iterate 2 refine w_ ?_
 refine lc (Qi Y4 rfl (ah.1 rfl) rfl rfl) ?_
 iterate 4 refine w_ ?_
 refine AC.wk (Qv 28 (p:=1) (off:=0) 90 QK rfl rfl (Fresh.of rfl) (nlr rfl))<|AC.wk (Qv 29 (p:=1) (off:=1) 9 .str rfl rfl (Fresh.of rfl) (nlr rfl))<|AC.wk (Qv 30 (p:=1) (off:=2) 106 QA rfl rfl (Fresh.of rfl) (nlr rfl))<|AC.wk (Wk.nilS 31 7 3 .int rfl (Fresh.of rfl) (nlr rfl))<|Zf ?_
 subst hO
 have e15:(false:Bool)=((Yt c name signs).2):=by
  (rw[Jn (hA.trans (Yu (by show ps.length≤k; omega))) ‹_›]; done)
 exact QF _ _ [(0,28),(1,29),(2,30),(3,31)] (Zu rfl (Qz rfl rfl Q3 rfl) (Qb rfl) (Qb rfl)) (by rw[← e15] <;> rfl) ⟨(Qh (by (rw[Jn (hA.trans (Yu (by show ps.length≤k; omega))) ‹_›]; rfl))),(Qh (by (rw[Jn (hA.trans (Yu (by show ps.length≤k; omega))) ‹_›]; rfl))),(Qh (by (rw[Jn (hA.trans (Yu (by show ps.length≤k; omega))) ‹_›]; rfl))),(Qh (by (rw[Jn (hA.trans (Yu (by show ps.length≤k; omega))) ‹_›]; rfl))),trivial⟩ rfl rfl
 have hb14':=a7 hb14
 iterate 3 refine w_ ?_
 refine lc (dBs 32 (e:= .int) YD) ?_
 iterate 12 refine w_ ?_
 refine Qm (fun m_ s_=>∃(i:Nat),i≤ps.length∧m_=ps.length - i∧s_=⟨[(6,lP 1 0),(7,lf (.val (.slice none 0 0))),(8,lB false),(11,lP 15 0),(13,lR 33),(97,lR 25),(98,lI (ps.length:Int)),(99,lI (i:Int))],[(1,some (.box 52 [.val (.slice none 0 0), .val (.slice none 0 0), .val (.slice none 0 0)])),(14,some (.mp true Qw false .int (YJ ps))),(15,some (.box 265 [.dat Qo c.1, .dat Qr c.2.1, .dat QD c.2.2,dS signs, .ref 18, .ref 26, .ref 27, .ref 25, .ref 14])),(18,some (.arr 90 QK (c.1++([(name,3)])))),(25,some (.arr 268 Qw ps)),(26,some (.arr 9 .str cs)),(27,some (.arr 106 QA as_)),(33,some (.arr 3 .int ((ps.take i).map (fun p=>p.1))))]⟩) ⟨0,ap _,rfl,rfl⟩ ?_ ?_
 exact wp [(33,32)] ⟨rfl,rfl,rfl,rfl,rfl,rfl,rfl,(Qh (by first | rfl | simp)),trivial⟩
 rintro m_ s_ ⟨i,hk16,hm17,rfl⟩
 have htl:(ps.take i).length≤ps.length:=by simp only[ak]; omega
 have hml:((ps.take i).map (fun p=>p.1)).length=(ps.take i).length:=aF ..
 iterate 4 refine w_ ?_
 cases hb18:(decide ((i:Int) < (ps.length:Int)))
 have hb18':=a6 hb18
 iterate 14 refine w_ ?_
 subst hO
 have e19:(true:Bool)=((Yt c name signs).2):=by
  (rw[Je (XO ‹_› ‹_› ‹_› (by first | assumption | omega)) (hA.trans (Yu (by show ps.length≤k; omega))) ‹_›]; done)
 exact QF _ _ [(0,18),(1,26),(2,27),(3,33)] (Zu rfl (Qz rfl rfl Q3 rfl) (Qb rfl) (Qb rfl)) (by rw[← e19] <;> rfl) ⟨(Qh (by (rw[Je (XO ‹_› ‹_› ‹_› (by first | assumption | omega)) (hA.trans (Yu (by show ps.length≤k; omega))) ‹_›]; rfl))),(Qh (by (rw[Je (XO ‹_› ‹_› ‹_› (by first | assumption | omega)) (hA.trans (Yu (by show ps.length≤k; omega))) ‹_›]; rfl))),(Qh (by (rw[Je (XO ‹_› ‹_› ‹_› (by first | assumption | omega)) (hA.trans (Yu (by show ps.length≤k; omega))) ‹_›]; rfl))),(Qh (by (rw[Je (XO ‹_› ‹_› ‹_› (by first | assumption | omega)) (hA.trans (Yu (by show ps.length≤k; omega))) ‹_›,QN (by omega)]; done))),trivial⟩ rfl rfl
 have hb18':=a7 hb18
 iterate 6 refine w_ ?_
 obtain ⟨x20,hx21⟩:=gx ps i
 refine w_ ?_
 refine lc (xal 34 Qw Qc3) ?_
 iterate 6 refine w_ ?_
 refine AL.fact (Ql (x:= .tmp 105) (Qa rfl)) fun hi22=> ?_
 refine lc (dBs 35 (e:= .int) YD) ?_
 refine lc (dA 36 XR) ?_
 refine w_ ?_
 refine Qc ?_
 iterate 4 refine w_ ?_
 refine Qc<|QE ⟨i+1,by omega,rfl,rfl⟩ (by omega) ?_
 exact wp [(33,36)] ⟨rfl,rfl,rfl,rfl,rfl,rfl,rfl,(Qh (QiQ hx21)),trivial⟩
 have hb13':=a7 hb13
 iterate 7 refine w_ ?_
 refine lc (dP 37 [(0,15),(1,18),(2,14),(3,26),(4,27),(5,25)] (UT c signs (c.1++([(name,3)])) cs as_ ps (k:Int) (by omega) hs hI.rng (by omega)) QkO) ?_
 refine Qc ?_
 iterate 5 refine w_ ?_
 refine Qc<|QE ⟨k+1,((Vw c signs (ps,cs,as_) (k:Int)).1),((Vw c signs (ps,cs,as_) (k:Int)).2.1),((Vw c signs (ps,cs,as_) (k:Int)).2.2),by omega,rfl,(by rw[hA]; exact QmA (by show k < ps.length; omega) (by omega)),(QaU hs hI).1,(by have h_:(Vw c signs (ps,cs,as_) (k:Int)).2.2.length≤as_.length+4001:=(QaU (k:=(k:Int)) hs hI).2; omega),rfl⟩ (by omega) ?_
 exact wp [(25,42),(26,40),(27,41)] ⟨rfl,rfl,rfl,(Qh (by first | rfl | simp)),rfl,rfl,rfl,trivial⟩
 iterate 3 refine w_ ?_
 obtain ⟨c23,hc24⟩:=gs signs ((0:Int).toNat)
 refine w_ ?_
 refine lc (Qt (Qa rfl) (QB 49 rfl) rfl) ?_
 refine w_ ?_
 cases hb25:(decide (c23=49))
 have hb25':=a6 hb25
 iterate 2 refine w_ ?_
 refine lgy rfl rfl (Qt (Qa rfl) (QB 45 rfl) rfl) ?_
 refine w_ ?_
 refine lc (Qi W5 ⟨_,_,rfl,(Evl.ev (Qu rfl)),⟨_,_,rfl,(Qf rfl),rfl⟩⟩ (ah.1 rfl) rfl rfl) ?_
 refine lc (dP 43 [(0,15),(1,18),(2,23),(3,14),(4,21),(5,19)] (YL c signs (c.1++([(name,3)])) ([]) ([]) ([]) (0,decide (c23=45)) (by first | omega | (refine ⟨?_, ?_⟩ <;> (try dsimp only) <;> omega)) hc (by simp)) Qad) ?_
 refine w_ ?_
 refine XP (J10 _ ⟨(psP ([]) (0,decide (c23=45))),(cdP c ([]) ([]) (0,decide (c23=45))),([]),(by first | (unfold Vk Jc; rw[QC (p:=0) ‹_›]; simp[*]; done)),rfl⟩) ?_
 exact wp [(20,48),(22,47),(24,23)] ⟨rfl,rfl,rfl,(Qh (by first | rfl | simp)),rfl,rfl,rfl,trivial⟩
 have hb25':=a7 hb25
 iterate 4 refine w_ ?_
 refine lc (Qi W5 ⟨_,_,rfl,(Evl.ev (Qu rfl)),⟨_,_,rfl,(Qf rfl),rfl⟩⟩ (ah.1 rfl) rfl rfl) ?_
 refine lc (dP 49 [(0,15),(1,18),(2,23),(3,14),(4,21),(5,19)] (YL c signs (c.1++([(name,3)])) ([]) ([]) ([]) (0,true) (by first | omega | (refine ⟨?_, ?_⟩ <;> (try dsimp only) <;> omega)) hc (by simp)) Qad) ?_
 refine w_ ?_
 refine XP (J10 _ ⟨(psP ([]) (0,true)),(cdP c ([]) ([]) (0,true)),([]),(by first | (unfold Vk Jc; rw[QC (p:=0) ‹_›]; simp[*]; done)),rfl⟩) ?_
 exact wp [(20,54),(22,53),(24,23)] ⟨rfl,rfl,rfl,(Qh (by first | rfl | simp)),rfl,rfl,rfl,trivial⟩
 have hb9':=a7 hb9
 iterate 2 refine w_ ?_
 refine lc (Qi Y4 rfl (ah.1 rfl) rfl rfl) ?_
 iterate 4 refine w_ ?_
 refine AC.wk (Qv 55 (p:=1) (off:=0) 90 QK rfl rfl (Fresh.of rfl) (nlr rfl))<|AC.wk (Qv 56 (p:=1) (off:=1) 9 .str rfl rfl (Fresh.of rfl) (nlr rfl))<|AC.wk (Qv 57 (p:=1) (off:=2) 106 QA rfl rfl (Fresh.of rfl) (nlr rfl))<|AC.wk (Wk.nilS 58 7 3 .int rfl (Fresh.of rfl) (nlr rfl))<|Zf ?_
 subst hO
 have e26:(false:Bool)=((Yt c name signs).2):=by
  (rw[ZG (J4 ‹_›)]; done)
 exact QF _ _ [(0,55),(1,56),(2,57),(3,58)] (Zu rfl (Qz rfl rfl Q3 rfl) (Qb rfl) (Qb rfl)) (by rw[← e26] <;> rfl) ⟨(Qh (by (rw[ZG (J4 ‹_›)]; rfl))),(Qh (by (rw[ZG (J4 ‹_›)]; rfl))),(Qh (by (rw[ZG (J4 ‹_›)]; rfl))),(Qh (by (rw[ZG (J4 ‹_›)]; rfl))),trivial⟩ rfl rfl
 have hb7':=a7 hb7
 iterate 8 refine w_ ?_
 refine lc (Qi Y4 rfl (ah.1 rfl) rfl rfl) ?_
 iterate 4 refine w_ ?_
 refine AC.wk (Qv 59 (p:=1) (off:=0) 90 QK rfl rfl (Fresh.of rfl) (nlr rfl))<|AC.wk (Qv 60 (p:=1) (off:=1) 9 .str rfl rfl (Fresh.of rfl) (nlr rfl))<|AC.wk (Qv 61 (p:=1) (off:=2) 106 QA rfl rfl (Fresh.of rfl) (nlr rfl))<|AC.wk (Wk.nilS 62 7 3 .int rfl (Fresh.of rfl) (nlr rfl))<|Zf ?_
 subst hO
 have e27:(false:Bool)=((Yt c name signs).2):=by
  (rw[ZG (WW ‹_›)]; done)
 exact QF _ _ [(0,59),(1,60),(2,61),(3,62)] (Zu rfl (Qz rfl rfl Q3 rfl) (Qb rfl) (Qb rfl)) (by rw[← e27] <;> rfl) ⟨(Qh (by (rw[ZG (WW ‹_›)]; rfl))),(Qh (by (rw[ZG (WW ‹_›)]; rfl))),(Qh (by (rw[ZG (WW ‹_›)]; rfl))),(Qh (by (rw[ZG (WW ‹_›)]; rfl))),trivial⟩ rfl rfl
theorem Jx (c:(List (ByteArray×Int))×List ByteArray×(List (Int×Int×Bool×Int)))(name:ByteArray)(signs:ByteArray)[∀c,Decidable (SgOk c)][∀s,Decidable (Zq s)](hnm:name.size≤10000000):FC Tryz.prog 48 [(true,[.dat Qo c.1, .dat Qr c.2.1, .dat QD c.2.2]),(false,[dS name]),(false,[dS signs])] [] 0 (Is (PV.tup [(true,[.ref 0, .ref 1, .ref 2]),(false,[dB ((Yt c name signs).2)])]) [(0,some (.arr 90 QK (((Yt c name signs).1.1).1))),(1,some (.arr 9 .str (((Yt c name signs).1.1).2.1))),(2,some (.arr 106 QA (((Yt c name signs).1.1).2.2)))]):=by
 refine Qy Tryz.func48 rfl rfl Tryz.ntmps48 fun O_ hO w0_ N0_ X_ h0_ f0_=> ?_
 refine w_ ?_
 refine xbx 0 ?_
 refine lc (xal 1 Wu ZS) ?_
 iterate 6 refine w_ ?_
 refine lc (dG 2 (QbO c name signs hnm) QjU) ?_
 iterate 4 refine w_ ?_
 refine lc (xal 6 Wu ZS) ?_
 iterate 11 refine w_ ?_
 subst hO
 exact QF _ _ [(0,2),(1,3),(2,4)] (QM rfl (Qz rfl rfl Q3 rfl) (Qb rfl)) (rfl) ⟨rfl,rfl,rfl,trivial⟩ rfl rfl
theorem QbQ (c:(List (ByteArray×Int))×List ByteArray×(List (Int×Int×Bool×Int)))(name:ByteArray)(signs:ByteArray)(hs:SignsOk c signs)(hnm:name.size≤10000000):FC Tryz.prog 246 [(true,[.dat Qo c.1, .dat Qr c.2.1, .dat QD c.2.2]),(false,[dS name]),(false,[dS signs])] [] 0 (Is (PV.tup [(true,[.ref 0, .ref 1, .ref 2]),(false,[.ref 3])]) [(0,some (.arr 90 QK ((Hf c name (YA c signs)).1))),(1,some (.arr 9 .str ((Hf c name (YA c signs)).2.1))),(2,some (.arr 106 QA ((Hf c name (YA c signs)).2.2))),(3,some (.arr 3 .int ((YA c signs).1.map (fun p=>p.1))))]):=by
 have hsz:=hs.2.1
 have hn3:=hs.2.2.some_
 have hfw:=hs.2.2.few
 have hsl:=UF hs.2.2.sigs
 have hc:∀x∈c.2.1,x.size≤1000:=fun x hx=>by have:=(hs.2.2.codes x hx).2; omega
 refine Qy Tryz.func246 rfl rfl Tryz.ntmps246 fun O_ hO w0_ N0_ X_ h0_ f0_=> ?_
 refine w_ ?_
 refine xbx 0 ?_
 refine lc (xal 1 Wu ZS) ?_
 iterate 5 refine w_ ?_
 refine lc (Qi Qrl ⟨_,_,rfl,(Qf rfl),⟨_,_,rfl,(Qf rfl),rfl⟩⟩ (ah.1 rfl) rfl rfl) ?_
 refine xbx 2 ?_
 iterate 2 refine w_ ?_
 refine Yd<|AC.wk (s':=⟨[(0,ag [.dat Qo c.1, .dat Qr c.2.1, .dat QD c.2.2]),(1,lf (dS name)),(2,lf (dS signs)),(3,lP 0 0),(6,lP 1 0),(7,lf (.val (.slice none 0 0))),(8,lP 2 0),(14,ag [.dat Qo c.1, .dat Qr c.2.1, .dat QD c.2.2]),(15,lf (dS signs)),(16,ag [.dat Qo c.1, .dat Qr c.2.1, .dat QD c.2.2,dS signs, .val (.slice none 0 0), .val (.slice none 0 0), .val (.slice none 0 0), .val (.slice none 0 0)]),(17,lP 2 0)],[(0,some (.box 52 [.dat Qo c.1, .dat Qr c.2.1, .dat QD c.2.2])),(1,some (.box 52 [.val (.slice none 0 0), .val (.slice none 0 0), .val (.slice none 0 0)])),(2,some (.box 337 [.dat Qo c.1, .dat Qr c.2.1, .dat QD c.2.2,dS signs, .val (.slice none 0 0), .val (.slice none 0 0), .val (.slice none 0 0), .val (.slice none 0 0)]))]⟩) (Wk.of [] rfl ⟨rfl,rfl,rfl,rfl,rfl,rfl,rfl,rfl,rfl,rfl,rfl,trivial⟩ ⟨rfl,rfl,rfl,trivial⟩ rfl rfl) ?_
 iterate 2 refine w_ ?_
 refine lc (dBs 3 (e:=QK) Vp) ?_
 iterate 2 refine w_ ?_
 refine lc (ZH 4 (Qa rfl) rfl (Evl.rep (Qa rfl)) rfl QbU Jg (by first | omega | (simp only[aa,aF,ak,ao,aD]; omega) | (simp only[aa,bn,ak,ao,aD]; omega)) rfl (Fresh.of rfl) (nlr rfl)) ?_
 refine w_ ?_
 refine lc (Qi Qlg ⟨_,_,rfl,(Qf rfl),⟨_,_,rfl,(Evl.ev (Qu rfl)),rfl⟩⟩ (ah.1 rfl) rfl rfl) ?_
 refine lc (dBs 5 (e:=QK) Vp (hab:=by exact ⟨_,_,_,_,rfl,⟨[dS name],[dI 3],_,_,_,_,rfl,rfl,⟨rfl,rfl⟩,⟨rfl,rfl⟩,rfl⟩,⟨rfl,rfl⟩,rfl⟩)) ?_
 refine lc (dA 6 Jg) ?_
 iterate 8 refine w_ ?_
 refine AC.wk (Qv 7 (p:=2) (off:=4) 3 .int rfl rfl (Fresh.of rfl) (nlr rfl))<|AC.wk (Qv 9 (p:=2) (off:=6) 9 .str rfl rfl (Fresh.of rfl) (nlr rfl))<|AC.wk (Qv 11 (p:=2) (off:=7) 106 QA rfl rfl (Fresh.of rfl) (nlr rfl)) ?_
 refine QdX (fun s_=>∃(cs:List ByteArray) (as_:List (Int×Int×Bool×Int)) (ps:List PSt),((ps,cs,as_)=Vk c signs)∧s_=⟨[(6,lP 1 0),(7,lf (.val (.slice none 0 0))),(8,lP 2 0)],[(1,some (.box 52 [.val (.slice none 0 0), .val (.slice none 0 0), .val (.slice none 0 0)])),(2,some (.box 337 [.dat Qo c.1, .dat Qr c.2.1, .dat QD c.2.2,dS signs, .ref 8, .ref 6, .ref 10, .ref 12])),(6,some (.arr 90 QK ((([])++c.1)++([(name,3)])))),(8,some (.arr 3 .int (ps.map ZM))),(10,some (.arr 9 .str cs)),(12,some (.arr 106 QA as_))]⟩) ?_ fun J1=> ?_
 rintro s_ ⟨cs,as_,ps,hS,rfl⟩
 iterate 5 refine w_ ?_
 refine Qm (fun m_ s_=>∃(k:Nat) (cs:List ByteArray) (as_:List (Int×Int×Bool×Int)) (ps:List PSt),k≤601∧m_=601 - k∧(YA c signs=QgJ c signs (601 - k) k (ps,cs,as_))∧(InsI c (ps,cs,as_))∧(as_.length≤4001*k)∧s_=⟨[(6,lP 1 0),(7,lf (.val (.slice none 0 0))),(8,lP 2 0),(10,lI (k:Int))],[(1,some (.box 52 [.val (.slice none 0 0), .val (.slice none 0 0), .val (.slice none 0 0)])),(2,some (.box 337 [.dat Qo c.1, .dat Qr c.2.1, .dat QD c.2.2,dS signs, .ref 13, .ref 6, .ref 14, .ref 15])),(6,some (.arr 90 QK ((([])++c.1)++([(name,3)])))),(13,some (.arr 3 .int (ps.map ZM))),(14,some (.arr 9 .str cs)),(15,some (.arr 106 QA as_))]⟩) ⟨0,cs,as_,ps,ap _,rfl,(by rw[hS]; rfl),(by rw[hS]; exact Qf2 hn3.1),(by have:=congrArg (fun st:Ins=>st.2.2) hS; simp only[Vk] at this; rw[this]; simp),rfl⟩ ?_ ?_
 exact wo [(13,8),(14,10),(15,12)]
 rintro m_ s_ ⟨k,cs,as_,ps,hk2,hm3,hA,hI,hL,rfl⟩
 have hfe:ps.length≤600:=hI.few hn3.2
 have hle:=hI.len
 have hle1:cs.length=ps.length:=hle
 have hkl:(ps.map ZM).length=ps.length:=aF ..
 iterate 10 refine w_ ?_
 cases hb4:(decide ((k:Int) < ((ps.map ZM).length:Int)))
 have hb4':=a6 hb4
 iterate 16 refine w_ ?_
 refine AC.wk (Wk.nilS 16 11 3 .int rfl (Fresh.of rfl) (nlr rfl)) ?_
 refine Qm (fun m_ s_=>∃(i:Nat),i≤ps.length∧m_=ps.length - i∧s_=⟨[(6,lP 1 0),(7,lf (.val (.slice none 0 0))),(8,lP 2 0),(11,lR 17),(56,lR 13),(57,lI ((ps.map ZM).length:Int)),(58,lI (i:Int))],[(1,some (.box 52 [.val (.slice none 0 0), .val (.slice none 0 0), .val (.slice none 0 0)])),(2,some (.box 337 [.dat Qo c.1, .dat Qr c.2.1, .dat QD c.2.2,dS signs, .ref 13, .ref 6, .ref 14, .ref 15])),(6,some (.arr 90 QK ((([])++c.1)++([(name,3)])))),(13,some (.arr 3 .int (ps.map ZM))),(14,some (.arr 9 .str cs)),(15,some (.arr 106 QA as_)),(17,some (.arr 3 .int ((ps.take i).map (fun p=>p.1))))]⟩) ⟨0,ap _,rfl,rfl⟩ ?_ ?_
 exact wp [(17,16)] ⟨rfl,rfl,rfl,rfl,rfl,rfl,(Qh (by first | rfl | simp)),trivial⟩
 rintro m_ s_ ⟨i,hk5,hm6,rfl⟩
 have htl:(ps.take i).length≤ps.length:=by simp only[ak]; omega
 have hml:((ps.take i).map (fun p=>p.1)).length=(ps.take i).length:=aF ..
 iterate 4 refine w_ ?_
 cases hb7:(decide ((i:Int) < ((ps.map ZM).length:Int)))
 have hb7':=a6 hb7
 iterate 13 refine w_ ?_
 subst hO
 exact QF _ _ [(0,6),(1,14),(2,15),(3,17)] (QM rfl (Qz rfl rfl Q3 rfl) (Qb rfl)) (rfl) ⟨(Qh (by (rw[hA.trans (Yu (by show ps.length≤k; omega))]; rfl))),(Qh (by (rw[hA.trans (Yu (by show ps.length≤k; omega))]; rfl))),(Qh (by (rw[hA.trans (Yu (by show ps.length≤k; omega))]; rfl))),(Qh (by (rw[hA.trans (Yu (by show ps.length≤k; omega)),QN (by omega)]; done))),trivial⟩ rfl rfl
 have hb7':=a7 hb7
 iterate 6 refine w_ ?_
 obtain ⟨x8,hx9⟩:=gx (ps.map ZM) i
 have hz0x8:0≤x8:=by obtain ⟨p_,h1_,h2_⟩:=QeK hx9; have:=hI.rng _ (a8 h1_); have h3_:0≤p_.1:=this.1; have:=Kr p_.2; rw[h2_]; unfold ZM; omega
 refine w_ ?_
 refine AL.fact (Ql (x:= .tmp 61) (Qa rfl)) fun hi10=> ?_
 iterate 5 refine w_ ?_
 refine lc (QeB (Qa rfl) (Qu rfl) rfl (by omega) (by omega)) ?_
 refine lc (dBs 18 (e:= .int) YD) ?_
 refine lc (dA 19 XR) ?_
 refine w_ ?_
 refine Qc ?_
 iterate 4 refine w_ ?_
 refine Qc<|QE ⟨i+1,by omega,rfl,rfl⟩ (by omega) ?_
 exact wp [(17,19)] ⟨rfl,rfl,rfl,rfl,rfl,rfl,(Qh (Qr0 hx9)),trivial⟩
 have hb4':=a7 hb4
 iterate 7 refine w_ ?_
 refine lc (dP 20 [(0,2),(1,6),(2,13),(3,14),(4,15)] (Qa7 c signs ps ((([])++c.1)++([(name,3)])) cs as_ (k:Int) (by omega) hs hI.rng (by omega)) Qkv) ?_
 refine Qc ?_
 iterate 5 refine w_ ?_
 refine Qc<|QE ⟨k+1,((Vw c signs (ps,cs,as_) (k:Int)).2.1),((Vw c signs (ps,cs,as_) (k:Int)).2.2),((Vw c signs (ps,cs,as_) (k:Int)).1),by omega,rfl,(by rw[hA]; exact QmA (by show k < ps.length; omega) (by omega)),(QaU hs hI).1,(by have h_:(Vw c signs (ps,cs,as_) (k:Int)).2.2.length≤as_.length+4001:=(QaU (k:=(k:Int)) hs hI).2; omega),rfl⟩ (by omega) ?_
 exact wp [(13,22),(14,23),(15,24)] ⟨rfl,rfl,(Qh (by first | rfl | simp)),rfl,rfl,rfl,trivial⟩
 iterate 3 refine w_ ?_
 obtain ⟨c11,hc12⟩:=gs signs ((0:Int).toNat)
 refine w_ ?_
 refine lc (Qt (Qa rfl) (QB 49 rfl) rfl) ?_
 refine w_ ?_
 cases hb13:(decide (c11=49))
 have hb13':=a6 hb13
 iterate 2 refine w_ ?_
 refine lgy rfl rfl (Qt (Qa rfl) (QB 45 rfl) rfl) ?_
 iterate 2 refine w_ ?_
 cases hb14:(decide (c11=45))
 have hb14':=a6 hb14
 iterate 5 refine w_ ?_
 refine lc (dP 25 [(0,2),(1,6),(2,11),(3,7),(4,9)] (ZK c signs ([]) ((([])++c.1)++([(name,3)])) ([]) ([]) 0 0 (by omega) (by omega) hc (by simp) (by omega)) X6) ?_
 refine w_ ?_
 refine XP (J1 _ ⟨(cdP c ([]) ([]) (0,decide (0=1))),([]),(psP ([]) (0,decide (0=1))),(by first | (unfold Vk Jc; rw[QC (p:=0) ‹_›]; simp[*]; done)),rfl⟩) ?_
 exact wp [(8,28),(10,29),(12,11)] ⟨rfl,rfl,(Qh (by first | rfl | simp)),rfl,rfl,rfl,trivial⟩
 have hb14':=a7 hb14
 iterate 7 refine w_ ?_
 refine lc (dP 30 [(0,2),(1,6),(2,11),(3,7),(4,9)] (ZK c signs ([]) ((([])++c.1)++([(name,3)])) ([]) ([]) 0 1 (by omega) (by omega) hc (by simp) (by omega)) X6) ?_
 refine w_ ?_
 refine XP (J1 _ ⟨(cdP c ([]) ([]) (0,decide (1=1))),([]),(psP ([]) (0,decide (1=1))),(by first | (unfold Vk Jc; rw[QC (p:=0) ‹_›]; simp[*]; done)),rfl⟩) ?_
 exact wp [(8,33),(10,34),(12,11)] ⟨rfl,rfl,(Qh (by first | rfl | simp)),rfl,rfl,rfl,trivial⟩
 have hb13':=a7 hb13
 iterate 12 refine w_ ?_
 refine lc (dP 35 [(0,2),(1,6),(2,11),(3,7),(4,9)] (ZK c signs ([]) ((([])++c.1)++([(name,3)])) ([]) ([]) 0 1 (by omega) (by omega) hc (by simp) (by omega)) X6) ?_
 refine w_ ?_
 refine XP (J1 _ ⟨(cdP c ([]) ([]) (0,decide (1=1))),([]),(psP ([]) (0,decide (1=1))),(by first | (unfold Vk Jc; rw[QC (p:=0) ‹_›]; simp[*]; done)),rfl⟩) ?_
 exact wp [(8,38),(10,39),(12,11)] ⟨rfl,rfl,(Qh (by first | rfl | simp)),rfl,rfl,rfl,trivial⟩
theorem QaA (c:(List (ByteArray×Int))×List ByteArray×(List (Int×Int×Bool×Int)))(name:ByteArray)(signs:ByteArray)[∀c,Decidable (SgOk c)][∀s,Decidable (Zq s)](hnm:name.size≤10000000):FC Tryz.prog 137 [(true,[.dat Qo c.1, .dat Qr c.2.1, .dat QD c.2.2]),(false,[dS name]),(false,[dS signs])] [] 0 (Is (PV.tup [(true,[.ref 0, .ref 1, .ref 2]),(false,[.ref 3]),(false,[dB ((ZV c name signs).2)])]) [(0,some (.arr 90 QK (((ZV c name signs).1.1).1))),(1,some (.arr 9 .str (((ZV c name signs).1.1).2.1))),(2,some (.arr 106 QA (((ZV c name signs).1.1).2.2))),(3,some (.arr 3 .int ((ZV c name signs).1.2)))]):=by
 refine Qy Tryz.func137 rfl rfl Tryz.ntmps137 fun O_ hO w0_ N0_ X_ h0_ f0_=> ?_
 refine w_ ?_
 refine xbx 0 ?_
 refine lc (xal 1 Wu ZS) ?_
 iterate 7 refine w_ ?_
 refine lc (dK (Qb7 c signs) QkG) ?_
 iterate 2 refine w_ ?_
 cases hb1:(okP c signs)
 iterate 20 refine w_ ?_
 refine lc (Qi Y4 rfl (ah.1 rfl) rfl rfl) ?_
 iterate 4 refine w_ ?_
 refine AC.wk (Qv 2 (p:=1) (off:=0) 90 QK rfl rfl (Fresh.of rfl) (nlr rfl))<|AC.wk (Qv 3 (p:=1) (off:=1) 9 .str rfl rfl (Fresh.of rfl) (nlr rfl))<|AC.wk (Qv 4 (p:=1) (off:=2) 106 QA rfl rfl (Fresh.of rfl) (nlr rfl))<|AC.wk (Wk.nilS 5 7 3 .int rfl (Fresh.of rfl) (nlr rfl))<|Zf ?_
 subst hO
 have e2:(false:Bool)=((ZV c name signs).2):=by
  (rw[ZL (W2 ‹_›)]; done)
 exact QF _ _ [(0,2),(1,3),(2,4),(3,5)] (Zu rfl (Qz rfl rfl Q3 rfl) (Qb rfl) (Qb rfl)) (by rw[← e2] <;> rfl) ⟨(Qh (by (rw[ZL (W2 ‹_›)]; rfl))),(Qh (by (rw[ZL (W2 ‹_›)]; rfl))),(Qh (by (rw[ZL (W2 ‹_›)]; rfl))),(Qh (by (rw[ZL (W2 ‹_›)]; rfl))),trivial⟩ rfl rfl
 iterate 2 refine w_ ?_
 refine AL.fact (Qp (x:= .tmp 17) (Qa rfl)) fun hl3=> ?_
 iterate 4 refine w_ ?_
 cases hb4:(decide (8≤(c.1.length:Int)))
 have hb4':=a6 hb4
 refine w_ ?_
 refine lgy rfl rfl (dK (QdB name) Qjm) ?_
 iterate 3 refine w_ ?_
 cases hb5:(decide (Zq name))
 have hb5':=a6 hb5
 iterate 9 refine w_ ?_
 refine lc (Qi Y4 rfl (ah.1 rfl) rfl rfl) ?_
 iterate 4 refine w_ ?_
 refine AC.wk (Qv 6 (p:=1) (off:=0) 90 QK rfl rfl (Fresh.of rfl) (nlr rfl))<|AC.wk (Qv 7 (p:=1) (off:=1) 9 .str rfl rfl (Fresh.of rfl) (nlr rfl))<|AC.wk (Qv 8 (p:=1) (off:=2) 106 QA rfl rfl (Fresh.of rfl) (nlr rfl))<|AC.wk (Wk.nilS 9 7 3 .int rfl (Fresh.of rfl) (nlr rfl))<|Zf ?_
 subst hO
 have e6:(false:Bool)=((ZV c name signs).2):=by
  (rw[ZL (W4 ‹_›)]; done)
 exact QF _ _ [(0,6),(1,7),(2,8),(3,9)] (Zu rfl (Qz rfl rfl Q3 rfl) (Qb rfl) (Qb rfl)) (by rw[← e6] <;> rfl) ⟨(Qh (by (rw[ZL (W4 ‹_›)]; rfl))),(Qh (by (rw[ZL (W4 ‹_›)]; rfl))),(Qh (by (rw[ZL (W4 ‹_›)]; rfl))),(Qh (by (rw[ZL (W4 ‹_›)]; rfl))),trivial⟩ rfl rfl
 have hb5':=a7 hb5
 iterate 3 refine w_ ?_
 refine lgy rfl rfl (dK (WV c.1 name) H6) ?_
 iterate 3 refine w_ ?_
 cases hb7:(decide (0≤(Ze (fun x:QJ=>decide (x.1=name)) c.1)))
 have hb7':=a6 hb7
 iterate 2 refine w_ ?_
 refine Yd ?_
 have hsp:SignsOk c signs∧Xv c signs=true:=QgS.1 ‹_›
 iterate 4 refine w_ ?_
 refine lc (dG 10 (QbQ c name signs hsp.1 hnm) QjC) ?_
 iterate 3 refine w_ ?_
 refine lc (xal 14 Wu ZS) ?_
 iterate 3 refine w_ ?_
 apply dW [io 41 _,io 42 _,io 43 _,io 44 (lB (decide (SgOk (Hf c name (YA c signs))))),⟨none,lf (.val undef),[(1,some (.box 52 [.ref 10, .ref 11, .ref 12]))]⟩,io 7 _,io 8 _] [0,1,3,3,2,0,0]
 iterate 3 refine z_ ?_
 refine zz (fun _ h_=>ac (XA (Yn (Hf c name (YA c signs))) WR ⟨_,_,rfl,(K6 (h_.w rfl) ⟨_,_,rfl, .inr ⟨_,_,_,_,rfl,(h_.n 10 rfl),rfl⟩,⟨_,_,rfl, .inr ⟨_,_,_,_,rfl,(h_.n 11 rfl),rfl⟩,⟨_,_,rfl, .inr ⟨_,_,_,_,rfl,(h_.n 12 rfl),rfl⟩,rfl⟩⟩⟩),rfl⟩ rfl rfl rfl) rfl)<|zz (fun _ h_=>ac (QZ (h_.v rfl) (h_.en 1 rfl) (h_.w rfl) (by show Q6 _ [.ref 10, .ref 11, .ref 12]=true; simp only[Q6,Wx,aW,bc]; rw[(h_.en 10 rfl),(h_.en 11 rfl),(h_.en 12 rfl)]; rfl) Q3 rfl) rfl) ?_
 iterate 2 refine z_ ?_
 exact zN
 refine w_ ?_
 subst hO
 have e8:(decide (SgOk (Hf c name (YA c signs))):Bool)=((ZV c name signs).2):=by
  (rw[UG (XO ‹_› ‹_› ‹_› (by omega))]; done)
 exact QF _ _ [(0,10),(1,11),(2,12),(3,13)] (Zu rfl (Qz rfl rfl Q3 rfl) (Qb rfl) (Qb rfl)) (by rw[e8] <;> rfl) ⟨(Qh (by (rw[UG (XO ‹_› ‹_› ‹_› (by omega))]; done))),(Qh (by (rw[UG (XO ‹_› ‹_› ‹_› (by omega))]; done))),(Qh (by (rw[UG (XO ‹_› ‹_› ‹_› (by omega))]; done))),(Qh (by (rw[UG (XO ‹_› ‹_› ‹_› (by omega))]; done))),trivial⟩ rfl rfl
 have hb7':=a7 hb7
 iterate 2 refine w_ ?_
 refine lc (Qi Y4 rfl (ah.1 rfl) rfl rfl) ?_
 iterate 4 refine w_ ?_
 refine AC.wk (Qv 15 (p:=1) (off:=0) 90 QK rfl rfl (Fresh.of rfl) (nlr rfl))<|AC.wk (Qv 16 (p:=1) (off:=1) 9 .str rfl rfl (Fresh.of rfl) (nlr rfl))<|AC.wk (Qv 17 (p:=1) (off:=2) 106 QA rfl rfl (Fresh.of rfl) (nlr rfl))<|AC.wk (Wk.nilS 18 7 3 .int rfl (Fresh.of rfl) (nlr rfl))<|Zf ?_
 subst hO
 have e9:(false:Bool)=((ZV c name signs).2):=by
  (rw[ZL (WW ‹_›)]; done)
 exact QF _ _ [(0,15),(1,16),(2,17),(3,18)] (Zu rfl (Qz rfl rfl Q3 rfl) (Qb rfl) (Qb rfl)) (by rw[← e9] <;> rfl) ⟨(Qh (by (rw[ZL (WW ‹_›)]; rfl))),(Qh (by (rw[ZL (WW ‹_›)]; rfl))),(Qh (by (rw[ZL (WW ‹_›)]; rfl))),(Qh (by (rw[ZL (WW ‹_›)]; rfl))),trivial⟩ rfl rfl
 have hb4':=a7 hb4
 iterate 14 refine w_ ?_
 refine lc (Qi Y4 rfl (ah.1 rfl) rfl rfl) ?_
 iterate 4 refine w_ ?_
 refine AC.wk (Qv 19 (p:=1) (off:=0) 90 QK rfl rfl (Fresh.of rfl) (nlr rfl))<|AC.wk (Qv 20 (p:=1) (off:=1) 9 .str rfl rfl (Fresh.of rfl) (nlr rfl))<|AC.wk (Qv 21 (p:=1) (off:=2) 106 QA rfl rfl (Fresh.of rfl) (nlr rfl))<|AC.wk (Wk.nilS 22 7 3 .int rfl (Fresh.of rfl) (nlr rfl))<|Zf ?_
 subst hO
 have e10:(false:Bool)=((ZV c name signs).2):=by
  (rw[ZL (Qar ‹_› ‹_›)]; done)
 exact QF _ _ [(0,19),(1,20),(2,21),(3,22)] (Zu rfl (Qz rfl rfl Q3 rfl) (Qb rfl) (Qb rfl)) (by rw[← e10] <;> rfl) ⟨(Qh (by (rw[ZL (Qar ‹_› ‹_›)]; rfl))),(Qh (by (rw[ZL (Qar ‹_› ‹_›)]; rfl))),(Qh (by (rw[ZL (Qar ‹_› ‹_›)]; rfl))),(Qh (by (rw[ZL (Qar ‹_› ‹_›)]; rfl))),trivial⟩ rfl rfl
end Go.Proofs.YtjaadeknhofhpaaGreat
namespace Go.Proofs.YtjaadeknhofhpaaGreat
open Go.RowKit
set_option maxRecDepth 100000
set_option maxHeartbeats 4000000
@[reducible] def Qqr:(ByteArray)→Int→(ByteArray)×Int:=fun _ k=>(Qsx (k),k+1)
@[reducible] def QsI:(QsS)→Int→(QsS)×Int:=fun _ k=>((k,k+1,decide ((k+1+1) % 3=0),k+1+1+1),k+1+1+1+1)
def mSG (c:DSg)(k:Int):DSg×Int:=(((QP fS c.1 k).1,(QP Qqr c.2.1 (QP fS c.1 k).2).1,(QP QsI c.2.2 (QP Qqr c.2.1 (QP fS c.1 k).2).2).1),(QP QsI c.2.2 (QP Qqr c.2.1 (QP fS c.1 k).2).2).2)
section
variable [∀c,Decidable (SgOk c)][∀s,Decidable (Zq s)]
end
end Go.Proofs.YtjaadeknhofhpaaGreat
