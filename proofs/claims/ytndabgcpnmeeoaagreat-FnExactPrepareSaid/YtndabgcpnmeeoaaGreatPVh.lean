/- Walks over abstract states: the graph with one signal more, both sides. -/
import Derived.Test.YtndabgcpnmeeoaaGreatPVg
set_option linter.unusedSimpArgs false
set_option linter.unusedVariables false
set_option linter.unusedSectionVars false
namespace Go.Proofs.YtndabgcpnmeeoaaGreat
open Go.RowKit
set_option maxRecDepth 100000
set_option maxHeartbeats 4000000
def HK (s:ByteArray):Bool:=decide (bAt s 0=49)||decide (bAt s 0=45)
def VI (c:DSg)(s:ByteArray):Ins:=(psP [] (0,HK s),cdP c [] [] (0,HK s),[])
def Qjy (c:DSg)(s:ByteArray):Nat→Nat→Ins→Ins
 | 0,_,st=>st
 | f+1,k,st=>if k < st.1.length then Qjy c s f (k+1) (VU c s st (k:Int)) else st
def YJ (c:DSg)(s:ByteArray):Ins:=Qjy c s 601 0 (VI c s)
def Qax (c:DSg)(name:ByteArray)(st:Ins):DSg:=(c.1++[(name,3)],st.2.1,st.2.2)
structure InsI (c:DSg) (st:Ins):Prop where
  rng:∀p∈st.1,0≤p.1∧p.1 < (c.2.1.length:Int)
  nd:st.1.Nodup
  len:st.2.1.length=st.1.length
section
variable {c:DSg}{s name:ByteArray}{st:Ins}{ps:List PSt}{cs:List ByteArray}{as_:List DAr}{p:PSt}{k:Int}{l:Zl}{i j n:Nat}{b:Bool}{z:Int}
theorem QpA {q:PSt}(h:q∈psP ps p):q∈ps∨q=p:=by
 unfold psP at h
 split at h
 ·exact .inl h
 ·rcases aP.1 h with h | h
  ·exact .inl h
  ·exact .inr (aS.1 h)
theorem Qs7 (h:ps.Nodup):(psP ps p).Nodup:=by
 unfold psP
 split
 ·exact h
 ·rename_i g
  rw[bu]
  refine ⟨h,by simp, ?_⟩
  intro a f b d e
  rw[aS] at d
  subst d
  subst e
  exact g f
theorem Qkh (h:InsI c st)(d:0≤p.1∧p.1 < (c.2.1.length:Int)):InsI c (K8 c st k l p):=by
 refine ⟨fun q e=> ?_,Qs7 h.nd, ?_⟩
 ·rcases QpA (show q∈psP st.1 p from e) with a | a
  ·exact h.rng q a
  ·rw[a]; exact d
 ·have:=h.len
  show (cdP c st.1 st.2.1 p).length=(psP st.1 p).length
  unfold cdP psP
  split <;> simp[this]
theorem Qoz:(K8 c st k l p).2.2.length=st.2.2.length+1:=by simp[K8]
theorem Qq6 {a:DAr}{q:PSt}(h:InsI c st)(d:0≤a.2.2.2∧a.2.2.2 < (c.2.1.length:Int)):InsI c (HL c s k q st a)∧(HL c s k q st a).2.2.length≤st.2.2.length+1:=by
 unfold HL
 split
 ·exact ⟨h,by omega⟩
 ·exact ⟨Qkh h d,by rw[Qoz]; omega⟩
theorem QkM {q:PSt}:∀(l:List DAr) (st:Ins),InsI c st→(∀a∈l,0≤a.2.2.2∧a.2.2.2 < (c.2.1.length:Int))→InsI c (l.foldl (HL c s k q) st)∧(l.foldl (HL c s k q) st).2.2.length≤st.2.2.length+l.length
 | [],st,h,_=>⟨h,by simp⟩
 | a :: l,st,h,ha=>by
  obtain ⟨d,f⟩:=Qq6 (s:=s) (k:=k) (q:=q) h (ha a (az ..))
  obtain ⟨e,g⟩:=QkM l _ d fun a h=>ha a (ay _ h)
  rw[aW]
  exact ⟨e,by rw[au]; omega⟩
theorem QbX (d:SignsOk c s)(h:InsI c st):InsI c (VU c s st k)∧(VU c s st k).2.2.length≤st.2.2.length+4001:=by
 unfold VU
 cases o:st.1[k.toNat]? with
 | none=>exact ⟨h,by simp⟩
 | some p=>
  have m:=h.rng p (ah o)
  have e:InsI c (Qeo c s st k p)∧(Qeo c s st k p).2.2.length≤st.2.2.length+1:=by
   unfold Qeo
   split
   ·exact ⟨Qkh h m,by rw[Qoz]; omega⟩
   ·exact ⟨h,by omega⟩
  obtain ⟨f,r⟩:=QkM (s:=s) (k:=k) (q:=p) (Z9 c.2.2 p.1) _ e.1 fun a g=>by
   have:=d.at_ (Qgl.1 g).1
   rw[d.2.1] at this
   exact this.2
  refine ⟨f, ?_⟩
  have t:=Qcf (l:=c.2.2) (q:=p.1)
  have u:=d.2.2.few
  simp only
  omega
theorem Qk8:∀(n:Nat) (l:List Nat),l.Nodup→(∀x∈l,x < n)→l.length≤n
 | 0,[],_,_=>aJ _
 | 0,x :: l,_,h=>absurd (h x (az ..)) (bg x)
 | n+1,l,hd,h=>by
  have g:=Qk8 n (l.erase n) (hd.erase n) fun x f=>by
   have d:=h x (List.mem_of_mem_erase f)
   have m:x≠n:=fun e=>by subst e; exact (List.Nodup.not_mem_erase hd) f
   omega
  have d:=List.length_erase (a:=n) (l:=l)
  split at d <;> omega
theorem InsI.few (h:InsI c st)(y:c.2.1.length≤300):st.1.length≤600:=by
 have g:=Qk8 600 (st.1.map fun p=>(ZD p).toNat) ?_ ?_
 ·simpa using g
 ·rw[List.Nodup,List.pairwise_map]
  refine List.Pairwise.imp_of_mem ?_ h.nd
  intro a b q r d e
  apply d
  have m:=h.rng a q
  have v:=h.rng b r
  have o:=JK a.2
  have w:=JK b.2
  unfold ZD at e
  have f:a.1=b.1∧vB a.2=vB b.2:=by omega
  refine Prod.ext f.1 ?_
  rw[← QgZ a.2,f.2,QgZ]
 ·intro x u
  obtain ⟨p,t,rfl⟩:=bF.1 u
  have m:=h.rng p t
  have o:=JK p.2
  unfold ZD
  omega
theorem Qis (e:1≤c.2.1.length):InsI c (VI c s):=by
 refine ⟨fun q d=> ?_,Qs7 bL, ?_⟩
 ·rcases QpA (show q∈psP [] (0,HK s) from d) with a | a
  ·cases a
  ·rw[a]; show (0:Int)≤0∧(0:Int) < _; omega
 ·simp[VI,psP,cdP]
theorem QpH (d:j < st.1.length)(a:i=n+1):Qjy c s i j st=Qjy c s n (j+1) (VU c s st (j:Int)):=by
 subst a; rw[Qjy,if_pos d]
theorem YF (a:st.1.length≤j):Qjy c s i j st=st:=by
 cases i with
 | zero=>rfl
 | succ i=>rw[Qjy,if_neg (by omega)]
theorem QkP (a:ps[i]? =some p):(ps.take i).map (fun p=>p.1)++[p.1]=(ps.take (i+1)).map fun p=>p.1:=by rw[QO a]; simp
theorem QuC (e:(ps.map ZD)[i]? =some z):(ps.take i).map (fun p=>p.1)++[z / 2]=(ps.take (i+1)).map fun p=>p.1:=by
 obtain ⟨p,a,d⟩:=Qgt e
 rw[d,QkX,QkP a]
end
abbrev Qja (name:ByteArray):QM→Bool:=fun x=>decide (x.1=name)
section
variable [∀c,Decidable (SgOk c)][∀s,Decidable (Zo s)]{c:DSg}{s name:ByteArray}{st:Ins}
def Jw (c:DSg)(name s:ByteArray):Bool:=okP c s&&decide (Zo name)&& !(c.1.any (Qja name))&& !decide (c.1.length=8)
def QnR:DSg×List Int:=(YL,[])
def YE (c:DSg)(name s:ByteArray):(DSg×List Int)×Bool:=
 if Jw c name s=true∧SgOk (Qax c name (YJ c s)) then ((Qax c name (YJ c s),(YJ c s).1.map fun p=>p.1),true) else (QnR,false)
def ZQ (c:DSg)(name s:ByteArray):(DSg×List Int)×Bool:=
 if Jw c name s=true then ((Qax c name (YJ c s),(YJ c s).1.map fun p=>p.1),decide (SgOk (Qax c name (YJ c s)))) else (QnR,false)
theorem Qch (h:¬SignsOk c s):Jw c name s=false:=by unfold Jw; rw[← Qoa h]; rfl
theorem Vc (h:okP c s=false):Jw c name s=false:=by unfold Jw; rw[h]; rfl
theorem Vd (h:¬Zo name):Jw c name s=false:=by unfold Jw; rw[aB h]; simp
theorem Ve (h:0≤Zq (Qja name) c.1):Jw c name s=false:=by unfold Jw; rw[← Vq,aL h]; simp
theorem Qaa (h:(c.1.length:Int)=8):Jw c name s=false:=by unfold Jw; rw[aL (show c.1.length=8 by omega)]; simp
theorem Qci (a:okP c s=true)(h:(8:Int)≤(c.1.length:Int)):Jw c name s=false:=by
 have:=(Qjr.1 a).1.2.2.sigs.2.2
 exact Qaa (by omega)
theorem XR (a:okP c s=true)(d:Zo name)(e:¬0≤Zq (Qja name) c.1)(f:¬(c.1.length:Int)=8):Jw c name s=true:=by
 unfold Jw; rw[a,aL d,← Vq,aB e,aB (show¬c.1.length=8 by omega)]; rfl
theorem Zw (h:Jw c name s=false):YE c name s=(QnR,false):=if_neg fun a=>by rw[h] at a; cases a.1
theorem Hz (h:YJ c s=st)(d:¬SgOk (Qax c name st)):YE c name s=(QnR,false):=if_neg fun a=>d (by rw[h] at a; exact a.2)
theorem HA (a:Jw c name s=true)(h:YJ c s=st)(d:SgOk (Qax c name st)):YE c name s=((Qax c name st,st.1.map fun p=>p.1),true):=by
 unfold YE; rw[h,if_pos ⟨a,d⟩]
theorem ZC (h:Jw c name s=false):ZQ c name s=(QnR,false):=if_neg (by rw[h]; decide)
theorem KN (a:Jw c name s=true):ZQ c name s=((Qax c name (YJ c s),(YJ c s).1.map fun p=>p.1),decide (SgOk (Qax c name (YJ c s)))):=if_pos a
theorem Qv2 (h:(ZQ c name s).2=true):YE c name s=ZQ c name s:=by
 unfold ZQ at h ⊢
 unfold YE
 split at h
 ·rename_i a
  have d:SgOk (Qax c name (YJ c s)):=ab h
  rw[if_pos ⟨a,d⟩,if_pos a,aL d]
 ·cases h
theorem Qv1 (h:(ZQ c name s).2=false):YE c name s=(QnR,false):=by
 unfold ZQ at h
 unfold YE
 split at h
 ·exact if_neg fun a=>(aa h) a.2
 ·rename_i d; exact if_neg fun a=>d a.1
end
theorem Qc6 (c:Zi)(name:ByteArray)(a:ByteArray)[∀c,Decidable (SgOk c)][∀s,Decidable (Zo s)](a6:name.size≤10000000):FC Tryz.prog 578 [(true,[.dat Ql c.1, .dat Qo c.2.1, .dat Qw c.2.2]),(false,[dS name]),(false,[dS a])] [] 0 (Is (PV.tup [(true,[.ref 0, .ref 1, .ref 2]),(false,[.ref 3]),(false,[dB ((YE c name a).2)])]) [ar 0 77 QE (((YE c name a).1.1).1),ar 1 9 .str (((YE c name a).1.1).2.1),ar 2 154 QD (((YE c name a).1.1).2.2),ar 3 3 .int ((YE c name a).1.2)]):=by
 refine Qv Tryz.func578 rfl rfl Tryz.ntmps578 fun O_ r b0 Y X_ a1 a0=> ?_
 refine w_ ?_
 refine xbx 0 ?_
 refine lc (xal 1 XU Zr) ?_
 refine w7 ?_
 refine lc (dK (U9 c a) QnB) ?_
 refine w10 ?_
 cases C:(decide (SignsOk c a))
 have D:=aa C
 refine w16 ?_
 refine w8 ?_
 refine lc (Qi Q8 rfl (ak.1 rfl) rfl rfl) ?_
 refine w4 ?_
 refine AC.wk (Qp 2 (p:=1) (off:=0) 77 QE rfl rfl (Fresh.of rfl) (nlr rfl))<|AC.wk (Qp 3 (p:=1) (off:=1) 9 .str rfl rfl (Fresh.of rfl) (nlr rfl))<|AC.wk (Qp 4 (p:=1) (off:=2) 154 QD rfl rfl (Fresh.of rfl) (nlr rfl))<|AC.wk (Wk.nilS 5 7 3 .int rfl (Fresh.of rfl) (nlr rfl))<|Qd ?_
 have Z:(false:Bool)=((YE c name a).2):=by
  (rw[Zw (Qch ‹_›)]; done)
 exact fi_ [(0,2),(1,3),(2,4),(3,5)] r ⟨(Qe (by (rw[Zw (Qch ‹_›)]; rfl))),(Qe (by (rw[Zw (Qch ‹_›)]; rfl))),(Qe (by (rw[Zw (Qch ‹_›)]; rfl))),(Qe (by (rw[Zw (Qch ‹_›)]; rfl))),trivial⟩ (h0:=by rw[← Z] <;> rfl)
 have D:=ab C
 refine w4 ?_
 cases a2:(okP c a)
 refine w16 ?_
 refine w4 ?_
 refine lc (Qi Q8 rfl (ak.1 rfl) rfl rfl) ?_
 refine w4 ?_
 refine AC.wk (Qp 6 (p:=1) (off:=0) 77 QE rfl rfl (Fresh.of rfl) (nlr rfl))<|AC.wk (Qp 7 (p:=1) (off:=1) 9 .str rfl rfl (Fresh.of rfl) (nlr rfl))<|AC.wk (Qp 8 (p:=1) (off:=2) 154 QD rfl rfl (Fresh.of rfl) (nlr rfl))<|AC.wk (Wk.nilS 9 7 3 .int rfl (Fresh.of rfl) (nlr rfl))<|Qd ?_
 have e4:(false:Bool)=((YE c name a).2):=by
  (rw[Zw (Vc ‹_›)]; done)
 exact fi_ [(0,6),(1,7),(2,8),(3,9)] r ⟨(Qe (by (rw[Zw (Vc ‹_›)]; rfl))),(Qe (by (rw[Zw (Vc ‹_›)]; rfl))),(Qe (by (rw[Zw (Vc ‹_›)]; rfl))),(Qe (by (rw[Zw (Vc ‹_›)]; rfl))),trivial⟩ (h0:=by rw[← e4] <;> rfl)
 refine w_ ?_
 refine lgy rfl rfl (dK (Qf5 name) QmH) ?_
 refine w3 ?_
 cases E:(decide (Zo name))
 have F:=aa E
 refine w15 ?_
 refine lc (Qi Q8 rfl (ak.1 rfl) rfl rfl) ?_
 refine w4 ?_
 refine AC.wk (Qp 10 (p:=1) (off:=0) 77 QE rfl rfl (Fresh.of rfl) (nlr rfl))<|AC.wk (Qp 11 (p:=1) (off:=1) 9 .str rfl rfl (Fresh.of rfl) (nlr rfl))<|AC.wk (Qp 12 (p:=1) (off:=2) 154 QD rfl rfl (Fresh.of rfl) (nlr rfl))<|AC.wk (Wk.nilS 13 7 3 .int rfl (Fresh.of rfl) (nlr rfl))<|Qd ?_
 have e6:(false:Bool)=((YE c name a).2):=by
  (rw[Zw (Vd ‹_›)]; done)
 exact fi_ [(0,10),(1,11),(2,12),(3,13)] r ⟨(Qe (by (rw[Zw (Vd ‹_›)]; rfl))),(Qe (by (rw[Zw (Vd ‹_›)]; rfl))),(Qe (by (rw[Zw (Vd ‹_›)]; rfl))),(Qe (by (rw[Zw (Vd ‹_›)]; rfl))),trivial⟩ (h0:=by rw[← e6] <;> rfl)
 have F:=ab E
 refine w3 ?_
 refine lgy rfl rfl (dK (KA c.1 name) QfZ) ?_
 refine w3 ?_
 cases G:(decide (0≤(Zq (fun x:QM=>decide (x.1=name)) c.1)))
 have H:=aa G
 refine w2 ?_
 refine alL 42 fun _=> ?_
 refine w4 ?_
 refine cd_ (fun _ _=> ?_) fun _ _=> ?_
 refine w_ ?_
 refine XM ?_
 have R:SignsOk c a∧WP c a=true:=Qjr.1 ‹_›
 have q:=R.1
 have a8:=q.2.1
 have I:=q.2.2.some_
 have a4:=q.2.2.few
 have a7:=UA q.2.2.sigs
 have S:∀x∈c.2.1,x.size≤1000:=fun x hx=>by have:=(q.2.2.codes x hx).2; omega
 refine w3 ?_
 refine lc (QbC (kt:=555) (et:=3) (kb:=true) (k:=QF) (vb:=false) (v:= .int) 14 rfl (Fresh.of rfl) (nlr rfl))<|lc (QjY (Qt9 (offs:=[(0,3),(3,1),(4,3),(7,1),(8,1)]) (zs:=[.slice none 0 0, .slice none 0 0, .slice none 0 0, .string ByteArray.empty, .slice none 0 0, .slice none 0 0, .slice none 0 0, .slice none 0 0, .map none]) Tryz.underlying552 (by kernel_rfl) (by kernel_rfl)) ⟨_,_,rfl,(Qk rfl),⟨_,_,rfl,(Qk rfl),⟨_,_,rfl,(Qk rfl),rfl⟩⟩⟩ (ak.1 rfl) rfl rfl) ?_
 refine xbx 15 ?_
 refine w2 ?_
 refine XM<|AC.wk (s':=⟨[(0,ag [.dat Ql c.1, .dat Qo c.2.1, .dat Qw c.2.2]),(1,lf (dS name)),(2,lf (dS a)),(3,lP 0 0),(6,lP 1 0),(7,lf (.val (.slice none 0 0))),(8,lB false),(9,lB true),(10,lB true),(11,lP 15 0),(16,PV.tup [(false,[dB true]),(false,[dB true])]),(17,ag [.dat Ql c.1, .dat Qo c.2.1, .dat Qw c.2.2]),(18,lf (dS a)),(19,PV.tup [(false,[dB true]),(false,[dB true])]),(20,lB true),(21,lB true),(22,lB true),(23,lB (!true)),(24,lB false),(25,lB true),(26,lB (!true)),(27,lB (!true)),(28,lB false),(29,lf (dS name)),(30,lB true),(31,lB (!true)),(32,lB (!true)),(33,lB false),(34,lP 0 0),(35,lf (.dat Ql c.1)),(36,lf (dS name)),(37,lI (Zq (fun x:QM=>decide (x.1=name)) c.1)),(38,lB false),(39,lB false),(40,lB false),(41,lP 0 0),(42,lf (.dat Ql c.1)),(43,lI (c.1.length:Int)),(47,ag [.dat Ql c.1, .dat Qo c.2.1, .dat Qw c.2.2]),(48,lf (dS a)),(49,lR 14),(50,ag [.dat Ql c.1, .dat Qo c.2.1, .dat Qw c.2.2,dS a, .val (.slice none 0 0), .val (.slice none 0 0), .val (.slice none 0 0), .val (.slice none 0 0), .ref 14]),(51,lP 15 0)],[bx 0 28 [.dat Ql c.1, .dat Qo c.2.1, .dat Qw c.2.2],bx 1 28 [.val (.slice none 0 0), .val (.slice none 0 0), .val (.slice none 0 0)],(14,some (.mp true QF false .int ([]))),bx 15 552 [.dat Ql c.1, .dat Qo c.2.1, .dat Qw c.2.2,dS a, .val (.slice none 0 0), .val (.slice none 0 0), .val (.slice none 0 0), .val (.slice none 0 0), .ref 14]]⟩) (Wk.of [] rfl ⟨rfl,rfl,rfl,rfl,rfl,rfl,rfl,rfl,rfl,rfl,rfl,rfl,rfl,rfl,rfl,rfl,rfl,rfl,rfl,rfl,rfl,rfl,rfl,rfl,rfl,rfl,rfl,rfl,rfl,rfl,rfl,rfl,rfl,rfl,rfl,rfl,rfl,rfl,rfl,rfl,rfl,rfl,rfl,trivial⟩ ⟨rfl,rfl,rfl,rfl,trivial⟩ rfl rfl) ?_
 refine w4 ?_
 refine lc (dO 16 (ZY c.1 (by omega)) QfE) ?_
 refine w_ ?_
 refine lc (Qi QrX ⟨_,_,rfl,(Qk rfl),⟨_,_,rfl,(Evl.ev (Qy rfl)),rfl⟩⟩ (ak.1 rfl) rfl rfl) ?_
 refine lc (dBs 17 (e:=QE) VL (hab:=by exact ⟨_,_,_,_,rfl,⟨[dS name],[dI 3],_,_,_,_,rfl,rfl,⟨rfl,rfl⟩,⟨rfl,rfl⟩,rfl⟩,⟨rfl,rfl⟩,rfl⟩)) ?_
 refine lc (dA 18 QaU) ?_
 refine w5 ?_
 refine AC.wk (Qp 19 (p:=15) (off:=7) 555 QF rfl rfl (Fresh.of rfl) (nlr rfl))<|AC.wk (Qp 21 (p:=15) (off:=5) 9 .str rfl rfl (Fresh.of rfl) (nlr rfl))<|AC.wk (Qp 23 (p:=15) (off:=6) 154 QD rfl rfl (Fresh.of rfl) (nlr rfl)) ?_
 refine Qbz (fun K=>∃(ps:List (Int×Bool)) (cs:List ByteArray) (as_:List (Int×Int×Bool×Int)),((ps,cs,as_)=VI c a)∧K=⟨[(6,lP 1 0),(7,lf (.val (.slice none 0 0))),(8,lB false),(11,lP 15 0)],[bx 1 28 [.val (.slice none 0 0), .val (.slice none 0 0), .val (.slice none 0 0)],(14,some (.mp true QF false .int (YV ps))),bx 15 552 [.dat Ql c.1, .dat Qo c.2.1, .dat Qw c.2.2,dS a, .ref 18, .ref 22, .ref 24, .ref 20, .ref 14],ar 18 77 QE (c.1++([(name,3)])),ar 20 555 QF ps,ar 22 9 .str cs,ar 24 154 QD as_]⟩) ?_ fun A=> ?_
 rintro K ⟨ps,cs,as_,P,rfl⟩
 refine w5 ?_
 refine QP (fun X K=>∃(k:Nat) (ps:List (Int×Bool)) (cs:List ByteArray) (as_:List (Int×Int×Bool×Int)),k≤601∧X=601 - k∧(YJ c a=Qjy c a (601 - k) k (ps,cs,as_))∧(InsI c (ps,cs,as_))∧(as_.length≤4001*k)∧K=⟨[(6,lP 1 0),(7,lf (.val (.slice none 0 0))),(8,lB false),(11,lP 15 0),(12,lI (k:Int))],[bx 1 28 [.val (.slice none 0 0), .val (.slice none 0 0), .val (.slice none 0 0)],(14,some (.mp true QF false .int (YV ps))),bx 15 552 [.dat Ql c.1, .dat Qo c.2.1, .dat Qw c.2.2,dS a, .ref 18, .ref 26, .ref 27, .ref 25, .ref 14],ar 18 77 QE (c.1++([(name,3)])),ar 25 555 QF ps,ar 26 9 .str cs,ar 27 154 QD as_]⟩) ⟨0,ps,cs,as_,aG _,rfl,(by rw[P]; rfl),(by rw[P]; exact Qis I.1),(by have:=congrArg (fun st:Ins=>st.2.2) P; simp only[VI] at this; rw[this]; simp),rfl⟩ ?_ ?_
 exact wo [(25,20),(26,22),(27,24)]
 rintro X K ⟨k,ps,cs,as_,U,W,d,B,hL,rfl⟩
 have a3:ps.length≤600:=B.few I.2
 have Q:=B.len
 have V:cs.length=ps.length:=Q
 refine w10 ?_
 cases g:(decide ((k:Int) < (ps.length:Int)))
 have t:=aa g
 refine w9 ?_
 refine lc (Ze (ZR (c.1++([(name,3)]),cs,as_)) Jg ⟨_,_,rfl,(ZJ (Qk rfl) ⟨_,_,rfl, .inr ⟨_,_,_,_,rfl,rfl,rfl⟩,⟨_,_,rfl, .inr ⟨_,_,_,_,rfl,rfl,rfl⟩,⟨_,_,rfl, .inr ⟨_,_,_,_,rfl,rfl,rfl⟩,rfl⟩⟩⟩),rfl⟩ rfl rfl rfl) ?_
 refine w2 ?_
 cases h:(decide (SgOk (c.1++([(name,3)]),cs,as_)))
 have u:=aa h
 refine w2 ?_
 refine lc (Qi Q8 rfl (ak.1 rfl) rfl rfl) ?_
 refine w4 ?_
 refine AC.wk (Qp 28 (p:=1) (off:=0) 77 QE rfl rfl (Fresh.of rfl) (nlr rfl))<|AC.wk (Qp 29 (p:=1) (off:=1) 9 .str rfl rfl (Fresh.of rfl) (nlr rfl))<|AC.wk (Qp 30 (p:=1) (off:=2) 154 QD rfl rfl (Fresh.of rfl) (nlr rfl))<|AC.wk (Wk.nilS 31 7 3 .int rfl (Fresh.of rfl) (nlr rfl))<|Qd ?_
 have L:(false:Bool)=((YE c name a).2):=by
  (rw[Hz (d.trans (YF (by show ps.length≤k; omega))) ‹_›]; done)
 exact fi_ [(0,28),(1,29),(2,30),(3,31)] r ⟨(Qe (by (rw[Hz (d.trans (YF (by show ps.length≤k; omega))) ‹_›]; rfl))),(Qe (by (rw[Hz (d.trans (YF (by show ps.length≤k; omega))) ‹_›]; rfl))),(Qe (by (rw[Hz (d.trans (YF (by show ps.length≤k; omega))) ‹_›]; rfl))),(Qe (by (rw[Hz (d.trans (YF (by show ps.length≤k; omega))) ‹_›]; rfl))),trivial⟩ (h0:=by rw[← L] <;> rfl)
 have u:=ab h
 refine w3 ?_
 refine lc (dBs 32 (e:= .int) Yk) ?_
 refine w12 ?_
 refine lp0 ps.length (fun i=>⟨[(6,lP 1 0),(7,lf (.val (.slice none 0 0))),(8,lB false),(11,lP 15 0),(13,lR 33),(97,lR 25),(98,lI (ps.length:Int)),(99,lI (i:Int))],[bx 1 28 [.val (.slice none 0 0), .val (.slice none 0 0), .val (.slice none 0 0)],(14,some (.mp true QF false .int (YV ps))),bx 15 552 [.dat Ql c.1, .dat Qo c.2.1, .dat Qw c.2.2,dS a, .ref 18, .ref 26, .ref 27, .ref 25, .ref 14],ar 18 77 QE (c.1++([(name,3)])),ar 25 555 QF ps,ar 26 9 .str cs,ar 27 154 QD as_,ar 33 3 .int ((ps.take i).map (fun p=>p.1))]⟩) ?_ fun i _=> ?_
 exact wp [(33,32)] ⟨rfl,rfl,rfl,rfl,rfl,rfl,rfl,(Qe (by first | rfl | simp)),trivial⟩
 have a9:(ps.take i).length≤ps.length:=by simp only[ao]; omega
 have a5:((ps.take i).map (fun p=>p.1)).length=(ps.take i).length:=aF ..
 refine w4 ?_
 cases m:(decide ((i:Int) < (ps.length:Int)))
 have w:=aa m
 refine w14 ?_
 have M:(true:Bool)=((YE c name a).2):=by
  (rw[HA (XR ‹_› ‹_› ‹_› (by first | assumption | omega)) (d.trans (YF (by show ps.length≤k; omega))) ‹_›]; done)
 exact fi_ [(0,18),(1,26),(2,27),(3,33)] r ⟨(Qe (by (rw[HA (XR ‹_› ‹_› ‹_› (by first | assumption | omega)) (d.trans (YF (by show ps.length≤k; omega))) ‹_›]; rfl))),(Qe (by (rw[HA (XR ‹_› ‹_› ‹_› (by first | assumption | omega)) (d.trans (YF (by show ps.length≤k; omega))) ‹_›]; rfl))),(Qe (by (rw[HA (XR ‹_› ‹_› ‹_› (by first | assumption | omega)) (d.trans (YF (by show ps.length≤k; omega))) ‹_›]; rfl))),(Qe (by (rw[HA (XR ‹_› ‹_› ‹_› (by first | assumption | omega)) (d.trans (YF (by show ps.length≤k; omega))) ‹_›,QT (by omega)]; done))),trivial⟩ (h0:=by rw[← M] <;> rfl)
 have w:=ab m
 refine w6 ?_
 obtain ⟨b1,J⟩:=gx ps i
 refine w_ ?_
 refine lc (xal 34 QF QeV) ?_
 refine w6 ?_
 refine alI 105 fun _=> ?_
 refine lc (dBs 35 (e:= .int) Yk) ?_
 refine lc (dA 36 XP) ?_
 refine w_ ?_
 refine Qb ?_
 refine w4 ?_
 refine Qb ?_
 refine l0_ ?_
 exact wp [(33,36)] ⟨rfl,rfl,rfl,rfl,rfl,rfl,rfl,(Qe (QkP J)),trivial⟩
 have t:=ab g
 refine w7 ?_
 refine lc (dP 37 [(0,15),(1,18),(2,14),(3,26),(4,27),(5,25)] (Kx c a (c.1++([(name,3)])) cs as_ ps (k:Int) (by omega) q B.rng (by omega)) QnC) ?_
 refine Qb ?_
 refine w5 ?_
 refine Qb<|QW ⟨k+1,((VU c a (ps,cs,as_) (k:Int)).1),((VU c a (ps,cs,as_) (k:Int)).2.1),((VU c a (ps,cs,as_) (k:Int)).2.2),by omega,rfl,(by rw[d]; exact QpH (by show k < ps.length; omega) (by omega)),(QbX q B).1,(by have h_:(VU c a (ps,cs,as_) (k:Int)).2.2.length≤as_.length+4001:=(QbX (k:=(k:Int)) q B).2; omega),rfl⟩ (by omega) ?_
 exact wp [(25,42),(26,40),(27,41)] ⟨rfl,rfl,rfl,(Qe (by first | rfl | simp)),rfl,rfl,rfl,trivial⟩
 refine w3 ?_
 obtain ⟨f,T⟩:=gs a ((0:Int).toNat)
 refine w_ ?_
 refine lc (Qu (Qa rfl) (QC 49 rfl) rfl) ?_
 refine w_ ?_
 cases o:(decide (f=49))
 have y:=aa o
 refine w2 ?_
 refine lgy rfl rfl (Qu (Qa rfl) (QC 45 rfl) rfl) ?_
 refine w_ ?_
 refine lc (Qi Va ⟨_,_,rfl,(Evl.ev (Qy rfl)),⟨_,_,rfl,(Qk rfl),rfl⟩⟩ (ak.1 rfl) rfl rfl) ?_
 refine lc (dP 43 [(0,15),(1,18),(2,23),(3,14),(4,21),(5,19)] (YQ c a (c.1++([(name,3)])) ([]) ([]) ([]) (0,decide (f=45)) (by first | omega | (refine ⟨?_, ?_⟩ <;> (try dsimp only) <;> omega)) S (by simp)) Qa6) ?_
 refine w_ ?_
 refine UE (A _ ⟨(psP ([]) (0,decide (f=45))),(cdP c ([]) ([]) (0,decide (f=45))),([]),(by first | (unfold VI HK; rw[QB (p:=0) ‹_›]; simp[*]; done)),rfl⟩) ?_
 exact wp [(20,48),(22,47),(24,23)] ⟨rfl,rfl,rfl,(Qe (by first | rfl | simp)),rfl,rfl,rfl,trivial⟩
 have y:=ab o
 refine w4 ?_
 refine lc (Qi Va ⟨_,_,rfl,(Evl.ev (Qy rfl)),⟨_,_,rfl,(Qk rfl),rfl⟩⟩ (ak.1 rfl) rfl rfl) ?_
 refine lc (dP 49 [(0,15),(1,18),(2,23),(3,14),(4,21),(5,19)] (YQ c a (c.1++([(name,3)])) ([]) ([]) ([]) (0,true) (by first | omega | (refine ⟨?_, ?_⟩ <;> (try dsimp only) <;> omega)) S (by simp)) Qa6) ?_
 refine w_ ?_
 refine UE (A _ ⟨(psP ([]) (0,true)),(cdP c ([]) ([]) (0,true)),([]),(by first | (unfold VI HK; rw[QB (p:=0) ‹_›]; simp[*]; done)),rfl⟩) ?_
 exact wp [(20,54),(22,53),(24,23)] ⟨rfl,rfl,rfl,(Qe (by first | rfl | simp)),rfl,rfl,rfl,trivial⟩
 refine w_ ?_
 refine lc (Qi Q8 rfl (ak.1 rfl) rfl rfl) ?_
 refine w4 ?_
 refine AC.wk (Qp 55 (p:=1) (off:=0) 77 QE rfl rfl (Fresh.of rfl) (nlr rfl))<|AC.wk (Qp 56 (p:=1) (off:=1) 9 .str rfl rfl (Fresh.of rfl) (nlr rfl))<|AC.wk (Qp 57 (p:=1) (off:=2) 154 QD rfl rfl (Fresh.of rfl) (nlr rfl))<|AC.wk (Wk.nilS 58 7 3 .int rfl (Fresh.of rfl) (nlr rfl))<|Qd ?_
 have N:(false:Bool)=((YE c name a).2):=by
  (rw[Zw (Qaa ‹_›)]; done)
 exact fi_ [(0,55),(1,56),(2,57),(3,58)] r ⟨(Qe (by (rw[Zw (Qaa ‹_›)]; rfl))),(Qe (by (rw[Zw (Qaa ‹_›)]; rfl))),(Qe (by (rw[Zw (Qaa ‹_›)]; rfl))),(Qe (by (rw[Zw (Qaa ‹_›)]; rfl))),trivial⟩ (h0:=by rw[← N] <;> rfl)
 have H:=ab G
 refine w8 ?_
 refine lc (Qi Q8 rfl (ak.1 rfl) rfl rfl) ?_
 refine w4 ?_
 refine AC.wk (Qp 59 (p:=1) (off:=0) 77 QE rfl rfl (Fresh.of rfl) (nlr rfl))<|AC.wk (Qp 60 (p:=1) (off:=1) 9 .str rfl rfl (Fresh.of rfl) (nlr rfl))<|AC.wk (Qp 61 (p:=1) (off:=2) 154 QD rfl rfl (Fresh.of rfl) (nlr rfl))<|AC.wk (Wk.nilS 62 7 3 .int rfl (Fresh.of rfl) (nlr rfl))<|Qd ?_
 have O:(false:Bool)=((YE c name a).2):=by
  (rw[Zw (Ve ‹_›)]; done)
 exact fi_ [(0,59),(1,60),(2,61),(3,62)] r ⟨(Qe (by (rw[Zw (Ve ‹_›)]; rfl))),(Qe (by (rw[Zw (Ve ‹_›)]; rfl))),(Qe (by (rw[Zw (Ve ‹_›)]; rfl))),(Qe (by (rw[Zw (Ve ‹_›)]; rfl))),trivial⟩ (h0:=by rw[← O] <;> rfl)
theorem Hr (c:Zi)(name:ByteArray)(a:ByteArray)[∀c,Decidable (SgOk c)][∀s,Decidable (Zo s)](d:name.size≤10000000):FC Tryz.prog 557 [(true,[.dat Ql c.1, .dat Qo c.2.1, .dat Qw c.2.2]),(false,[dS name]),(false,[dS a])] [] 0 (Is (PV.tup [(true,[.ref 0, .ref 1, .ref 2]),(false,[dB ((YE c name a).2)])]) [ar 0 77 QE (((YE c name a).1.1).1),ar 1 9 .str (((YE c name a).1.1).2.1),ar 2 154 QD (((YE c name a).1.1).2.2)]):=by
 refine Qv Tryz.func557 rfl rfl Tryz.ntmps557 fun o h m e q g f=> ?_
 refine w_ ?_
 refine xbx 0 ?_
 refine lc (xal 1 XU Zr) ?_
 refine w6 ?_
 refine lc (dG 2 (Qc6 c name a d) Qnw) ?_
 refine w4 ?_
 refine lc (xal 6 XU Zr) ?_
 refine w11 ?_
 exact fi_ [(0,2),(1,3),(2,4)] h ⟨rfl,rfl,rfl,trivial⟩
theorem Qde (c:Zi)(name:ByteArray)(a:ByteArray)(f:SignsOk c a)(W:name.size≤10000000):FC Tryz.prog 500 [(true,[.dat Ql c.1, .dat Qo c.2.1, .dat Qw c.2.2]),(false,[dS name]),(false,[dS a])] [] 0 (Is (PV.tup [(true,[.ref 0, .ref 1, .ref 2]),(false,[.ref 3])]) [ar 0 77 QE ((Qax c name (YJ c a)).1),ar 1 9 .str ((Qax c name (YJ c a)).2.1),ar 2 154 QD ((Qax c name (YJ c a)).2.2),ar 3 3 .int ((YJ c a).1.map (fun p=>p.1))]):=by
 have Y:=f.2.1
 have u:=f.2.2.some_
 have R:=f.2.2.few
 have X:=UA f.2.2.sigs
 have E:∀x∈c.2.1,x.size≤1000:=fun x hx=>by have:=(f.2.2.codes x hx).2; omega
 refine Qv Tryz.func500 rfl rfl Tryz.ntmps500 fun O_ P a0 L X_ N M=> ?_
 refine w_ ?_
 refine xbx 0 ?_
 refine lc (xal 1 XU Zr) ?_
 refine w5 ?_
 refine lc (Qi Quc ⟨_,_,rfl,(Qk rfl),⟨_,_,rfl,(Qk rfl),rfl⟩⟩ (ak.1 rfl) rfl rfl) ?_
 refine xbx 2 ?_
 refine w2 ?_
 refine XM<|AC.wk (s':=⟨[(0,ag [.dat Ql c.1, .dat Qo c.2.1, .dat Qw c.2.2]),(1,lf (dS name)),(2,lf (dS a)),(3,lP 0 0),(6,lP 1 0),(7,lf (.val (.slice none 0 0))),(8,lP 2 0),(14,ag [.dat Ql c.1, .dat Qo c.2.1, .dat Qw c.2.2]),(15,lf (dS a)),(16,ag [.dat Ql c.1, .dat Qo c.2.1, .dat Qw c.2.2,dS a, .val (.slice none 0 0), .val (.slice none 0 0), .val (.slice none 0 0), .val (.slice none 0 0)]),(17,lP 2 0)],[bx 0 28 [.dat Ql c.1, .dat Qo c.2.1, .dat Qw c.2.2],bx 1 28 [.val (.slice none 0 0), .val (.slice none 0 0), .val (.slice none 0 0)],bx 2 530 [.dat Ql c.1, .dat Qo c.2.1, .dat Qw c.2.2,dS a, .val (.slice none 0 0), .val (.slice none 0 0), .val (.slice none 0 0), .val (.slice none 0 0)]]⟩) (Wk.of [] rfl ⟨rfl,rfl,rfl,rfl,rfl,rfl,rfl,rfl,rfl,rfl,rfl,trivial⟩ ⟨rfl,rfl,rfl,trivial⟩ rfl rfl) ?_
 refine w2 ?_
 refine lc (dBs 3 (e:=QE) VL) ?_
 refine w2 ?_
 refine lc (Zj 4 (Qa rfl) rfl (Evl.rep (Qa rfl)) rfl QdE QaU (by first | omega | (simp only[aj,aF,ao,au,aH]; omega) | (simp only[aj,bh,ao,au,aH]; omega)) rfl (Fresh.of rfl) (nlr rfl)) ?_
 refine w_ ?_
 refine lc (Qi QrX ⟨_,_,rfl,(Qk rfl),⟨_,_,rfl,(Evl.ev (Qy rfl)),rfl⟩⟩ (ak.1 rfl) rfl rfl) ?_
 refine lc (dBs 5 (e:=QE) VL (hab:=by exact ⟨_,_,_,_,rfl,⟨[dS name],[dI 3],_,_,_,_,rfl,rfl,⟨rfl,rfl⟩,⟨rfl,rfl⟩,rfl⟩,⟨rfl,rfl⟩,rfl⟩)) ?_
 refine lc (dA 6 QaU) ?_
 refine w8 ?_
 refine AC.wk (Qp 7 (p:=2) (off:=4) 3 .int rfl rfl (Fresh.of rfl) (nlr rfl))<|AC.wk (Qp 9 (p:=2) (off:=6) 9 .str rfl rfl (Fresh.of rfl) (nlr rfl))<|AC.wk (Qp 11 (p:=2) (off:=7) 154 QD rfl rfl (Fresh.of rfl) (nlr rfl)) ?_
 refine QeX (fun w=>∃(cs:List ByteArray) (as_:List (Int×Int×Bool×Int)) (ps:List PSt),((ps,cs,as_)=VI c a)∧w=⟨[(6,lP 1 0),(7,lf (.val (.slice none 0 0))),(8,lP 2 0)],[bx 1 28 [.val (.slice none 0 0), .val (.slice none 0 0), .val (.slice none 0 0)],bx 2 530 [.dat Ql c.1, .dat Qo c.2.1, .dat Qw c.2.2,dS a, .ref 8, .ref 6, .ref 10, .ref 12],ar 6 77 QE ((([])++c.1)++([(name,3)])),ar 8 3 .int (ps.map ZD),ar 10 9 .str cs,ar 12 154 QD as_]⟩) ?_ fun y=> ?_
 rintro w ⟨cs,as_,ps,D,rfl⟩
 refine w5 ?_
 refine QP (fun J w=>∃(k:Nat) (cs:List ByteArray) (as_:List (Int×Int×Bool×Int)) (ps:List PSt),k≤601∧J=601 - k∧(YJ c a=Qjy c a (601 - k) k (ps,cs,as_))∧(InsI c (ps,cs,as_))∧(as_.length≤4001*k)∧w=⟨[(6,lP 1 0),(7,lf (.val (.slice none 0 0))),(8,lP 2 0),(10,lI (k:Int))],[bx 1 28 [.val (.slice none 0 0), .val (.slice none 0 0), .val (.slice none 0 0)],bx 2 530 [.dat Ql c.1, .dat Qo c.2.1, .dat Qw c.2.2,dS a, .ref 13, .ref 6, .ref 14, .ref 15],ar 6 77 QE ((([])++c.1)++([(name,3)])),ar 13 3 .int (ps.map ZD),ar 14 9 .str cs,ar 15 154 QD as_]⟩) ⟨0,cs,as_,ps,aG _,rfl,(by rw[D]; rfl),(by rw[D]; exact Qis u.1),(by have:=congrArg (fun st:Ins=>st.2.2) D; simp only[VI] at this; rw[this]; simp),rfl⟩ ?_ ?_
 exact wo [(13,8),(14,10),(15,12)]
 rintro J w ⟨k,cs,as_,ps,S,U,m,h,hL,rfl⟩
 have Q:ps.length≤600:=h.few u.2
 have F:=h.len
 have I:cs.length=ps.length:=F
 have T:(ps.map ZD).length=ps.length:=aF ..
 refine w10 ?_
 cases o:(decide ((k:Int) < ((ps.map ZD).length:Int)))
 have q:=aa o
 refine w16 ?_
 refine AC.wk (Wk.nilS 16 11 3 .int rfl (Fresh.of rfl) (nlr rfl)) ?_
 refine lp0 ps.length (fun i=>⟨[(6,lP 1 0),(7,lf (.val (.slice none 0 0))),(8,lP 2 0),(11,lR 17),(56,lR 13),(57,lI ((ps.map ZD).length:Int)),(58,lI (i:Int))],[bx 1 28 [.val (.slice none 0 0), .val (.slice none 0 0), .val (.slice none 0 0)],bx 2 530 [.dat Ql c.1, .dat Qo c.2.1, .dat Qw c.2.2,dS a, .ref 13, .ref 6, .ref 14, .ref 15],ar 6 77 QE ((([])++c.1)++([(name,3)])),ar 13 3 .int (ps.map ZD),ar 14 9 .str cs,ar 15 154 QD as_,ar 17 3 .int ((ps.take i).map (fun p=>p.1))]⟩) ?_ fun i _=> ?_
 exact wp [(17,16)] ⟨rfl,rfl,rfl,rfl,rfl,rfl,(Qe (by first | rfl | simp)),trivial⟩
 have Z:(ps.take i).length≤ps.length:=by simp only[ao]; omega
 have V:((ps.take i).map (fun p=>p.1)).length=(ps.take i).length:=aF ..
 refine w4 ?_
 cases r:(decide ((i:Int) < ((ps.map ZD).length:Int)))
 have t:=aa r
 refine w13 ?_
 exact fi_ [(0,6),(1,14),(2,15),(3,17)] P ⟨(Qe (by (rw[m.trans (YF (by show ps.length≤k; omega))]; rfl))),(Qe (by (rw[m.trans (YF (by show ps.length≤k; omega))]; rfl))),(Qe (by (rw[m.trans (YF (by show ps.length≤k; omega))]; rfl))),(Qe (by (rw[m.trans (YF (by show ps.length≤k; omega)),QT (by omega)]; done))),trivial⟩
 have t:=ab r
 refine w6 ?_
 obtain ⟨x7,v⟩:=gx (ps.map ZD) i
 have G:0≤x7:=by obtain ⟨K,B,C⟩:=Qgt v; have:=h.rng _ (ah B); have O:0≤K.1:=this.1; have:=JK K.2; rw[C]; unfold ZD; omega
 refine w_ ?_
 refine alI 61 fun _=> ?_
 refine w5 ?_
 refine lc (Qe6 (Qa rfl) (Qy rfl) rfl (by omega) (by omega)) ?_
 refine lc (dBs 18 (e:= .int) Yk) ?_
 refine lc (dA 19 XP) ?_
 refine w_ ?_
 refine Qb ?_
 refine w4 ?_
 refine Qb ?_
 refine l0_ ?_
 exact wp [(17,19)] ⟨rfl,rfl,rfl,rfl,rfl,rfl,(Qe (QuC v)),trivial⟩
 have q:=ab o
 refine w7 ?_
 refine lc (dP 20 [(0,2),(1,6),(2,13),(3,14),(4,15)] (Qb6 c a ps ((([])++c.1)++([(name,3)])) cs as_ (k:Int) (by omega) f h.rng (by omega)) Qnm) ?_
 refine Qb ?_
 refine w5 ?_
 refine Qb<|QW ⟨k+1,((VU c a (ps,cs,as_) (k:Int)).2.1),((VU c a (ps,cs,as_) (k:Int)).2.2),((VU c a (ps,cs,as_) (k:Int)).1),by omega,rfl,(by rw[m]; exact QpH (by show k < ps.length; omega) (by omega)),(QbX f h).1,(by have h_:(VU c a (ps,cs,as_) (k:Int)).2.2.length≤as_.length+4001:=(QbX (k:=(k:Int)) f h).2; omega),rfl⟩ (by omega) ?_
 exact wp [(13,22),(14,23),(15,24)] ⟨rfl,rfl,(Qe (by first | rfl | simp)),rfl,rfl,rfl,trivial⟩
 refine w3 ?_
 obtain ⟨A,H⟩:=gs a ((0:Int).toNat)
 refine w_ ?_
 refine lc (Qu (Qa rfl) (QC 49 rfl) rfl) ?_
 refine w_ ?_
 cases d:(decide (A=49))
 have g:=aa d
 refine w2 ?_
 refine lgy rfl rfl (Qu (Qa rfl) (QC 45 rfl) rfl) ?_
 refine w2 ?_
 refine cd_ (fun _ _=> ?_) fun _ _=> ?_
 refine w4 ?_
 refine lc (dP 25 [(0,2),(1,6),(2,11),(3,7),(4,9)] (Zx c a ([]) ((([])++c.1)++([(name,3)])) ([]) ([]) 0 0 (by omega) (by omega) E (by simp) (by omega)) X5) ?_
 refine w_ ?_
 refine UE (y _ ⟨(cdP c ([]) ([]) (0,decide (0=1))),([]),(psP ([]) (0,decide (0=1))),(by first | (unfold VI HK; rw[QB (p:=0) ‹_›]; simp[*]; done)),rfl⟩) ?_
 exact wp [(8,28),(10,29),(12,11)] ⟨rfl,rfl,(Qe (by first | rfl | simp)),rfl,rfl,rfl,trivial⟩
 refine w6 ?_
 refine lc (dP 30 [(0,2),(1,6),(2,11),(3,7),(4,9)] (Zx c a ([]) ((([])++c.1)++([(name,3)])) ([]) ([]) 0 1 (by omega) (by omega) E (by simp) (by omega)) X5) ?_
 refine w_ ?_
 refine UE (y _ ⟨(cdP c ([]) ([]) (0,decide (1=1))),([]),(psP ([]) (0,decide (1=1))),(by first | (unfold VI HK; rw[QB (p:=0) ‹_›]; simp[*]; done)),rfl⟩) ?_
 exact wp [(8,33),(10,34),(12,11)] ⟨rfl,rfl,(Qe (by first | rfl | simp)),rfl,rfl,rfl,trivial⟩
 have g:=ab d
 refine w12 ?_
 refine lc (dP 35 [(0,2),(1,6),(2,11),(3,7),(4,9)] (Zx c a ([]) ((([])++c.1)++([(name,3)])) ([]) ([]) 0 1 (by omega) (by omega) E (by simp) (by omega)) X5) ?_
 refine w_ ?_
 refine UE (y _ ⟨(cdP c ([]) ([]) (0,decide (1=1))),([]),(psP ([]) (0,decide (1=1))),(by first | (unfold VI HK; rw[QB (p:=0) ‹_›]; simp[*]; done)),rfl⟩) ?_
 exact wp [(8,38),(10,39),(12,11)] ⟨rfl,rfl,(Qe (by first | rfl | simp)),rfl,rfl,rfl,trivial⟩
theorem Qb7 (c:Zi)(name:ByteArray)(a:ByteArray)[∀c,Decidable (SgOk c)][∀s,Decidable (Zo s)](q:name.size≤10000000):FC Tryz.prog 405 [(true,[.dat Ql c.1, .dat Qo c.2.1, .dat Qw c.2.2]),(false,[dS name]),(false,[dS a])] [] 0 (Is (PV.tup [(true,[.ref 0, .ref 1, .ref 2]),(false,[.ref 3]),(false,[dB ((ZQ c name a).2)])]) [ar 0 77 QE (((ZQ c name a).1.1).1),ar 1 9 .str (((ZQ c name a).1.1).2.1),ar 2 154 QD (((ZQ c name a).1.1).2.2),ar 3 3 .int ((ZQ c name a).1.2)]):=by
 refine Qv Tryz.func405 rfl rfl Tryz.ntmps405 fun F e E t G C B=> ?_
 refine w_ ?_
 refine xbx 0 ?_
 refine lc (xal 1 XU Zr) ?_
 refine w7 ?_
 refine lc (dK (Qdd c a) Qne) ?_
 refine w2 ?_
 cases D:(okP c a)
 refine w16 ?_
 refine w4 ?_
 refine lc (Qi Q8 rfl (ak.1 rfl) rfl rfl) ?_
 refine w4 ?_
 refine AC.wk (Qp 2 (p:=1) (off:=0) 77 QE rfl rfl (Fresh.of rfl) (nlr rfl))<|AC.wk (Qp 3 (p:=1) (off:=1) 9 .str rfl rfl (Fresh.of rfl) (nlr rfl))<|AC.wk (Qp 4 (p:=1) (off:=2) 154 QD rfl rfl (Fresh.of rfl) (nlr rfl))<|AC.wk (Wk.nilS 5 7 3 .int rfl (Fresh.of rfl) (nlr rfl))<|Qd ?_
 have u:(false:Bool)=((ZQ c name a).2):=by
  (rw[ZC (Vc ‹_›)]; done)
 exact fi_ [(0,2),(1,3),(2,4),(3,5)] e ⟨(Qe (by (rw[ZC (Vc ‹_›)]; rfl))),(Qe (by (rw[ZC (Vc ‹_›)]; rfl))),(Qe (by (rw[ZC (Vc ‹_›)]; rfl))),(Qe (by (rw[ZC (Vc ‹_›)]; rfl))),trivial⟩ (h0:=by rw[← u] <;> rfl)
 refine w2 ?_
 refine alL 17 fun _=> ?_
 refine w4 ?_
 cases f:(decide (8≤(c.1.length:Int)))
 have g:=aa f
 refine w_ ?_
 refine lgy rfl rfl (dK (Qf9 name) QmN) ?_
 refine w3 ?_
 cases h:(decide (Zo name))
 have m:=aa h
 refine w9 ?_
 refine lc (Qi Q8 rfl (ak.1 rfl) rfl rfl) ?_
 refine w4 ?_
 refine AC.wk (Qp 6 (p:=1) (off:=0) 77 QE rfl rfl (Fresh.of rfl) (nlr rfl))<|AC.wk (Qp 7 (p:=1) (off:=1) 9 .str rfl rfl (Fresh.of rfl) (nlr rfl))<|AC.wk (Qp 8 (p:=1) (off:=2) 154 QD rfl rfl (Fresh.of rfl) (nlr rfl))<|AC.wk (Wk.nilS 9 7 3 .int rfl (Fresh.of rfl) (nlr rfl))<|Qd ?_
 have x:(false:Bool)=((ZQ c name a).2):=by
  (rw[ZC (Vd ‹_›)]; done)
 exact fi_ [(0,6),(1,7),(2,8),(3,9)] e ⟨(Qe (by (rw[ZC (Vd ‹_›)]; rfl))),(Qe (by (rw[ZC (Vd ‹_›)]; rfl))),(Qe (by (rw[ZC (Vd ‹_›)]; rfl))),(Qe (by (rw[ZC (Vd ‹_›)]; rfl))),trivial⟩ (h0:=by rw[← x] <;> rfl)
 have m:=ab h
 refine w3 ?_
 refine lgy rfl rfl (dK (KH c.1 name) QfU) ?_
 refine w3 ?_
 refine cd_ (fun _ _=> ?_) fun _ _=> ?_
 refine w_ ?_
 refine XM ?_
 have r:SignsOk c a∧WP c a=true:=Qjr.1 ‹_›
 refine w4 ?_
 refine lc (dG 10 (Qde c name a r.1 q) Qnf) ?_
 refine w3 ?_
 refine lc (xal 14 XU Zr) ?_
 refine w3 ?_
 apply dW (i3 41 _ _ _ (io 44 (lB (decide (SgOk (Qax c name (YJ c a))))) :: ⟨none,lf (.val undef),[bx 1 28 [.ref 10, .ref 11, .ref 12]]⟩ :: i2 7 _ _ [])) [0,1,3,3,2,0,0]
 refine z3 ?_
 refine zz (fun _ d=>ac (Ze (YR (Qax c name (YJ c a))) V4 ⟨_,_,rfl,(ZJ (d.w rfl) ⟨_,_,rfl, .inr ⟨_,_,_,_,rfl,(d.n 10 rfl),rfl⟩,⟨_,_,rfl, .inr ⟨_,_,_,_,rfl,(d.n 11 rfl),rfl⟩,⟨_,_,rfl, .inr ⟨_,_,_,_,rfl,(d.n 12 rfl),rfl⟩,rfl⟩⟩⟩),rfl⟩ rfl rfl rfl) rfl)<|zz (fun _ d=>ac (Q0 (d.v rfl) (d.en 1 rfl) (d.w rfl) (by show Q4 _ [.ref 10, .ref 11, .ref 12]=true; simp only[Q4,Vu,ba,bA]; rw[(d.en 10 rfl),(d.en 11 rfl),(d.en 12 rfl)]; rfl) Kl rfl) rfl) ?_
 exact y2
 refine w_ ?_
 have y:(decide (SgOk (Qax c name (YJ c a))):Bool)=((ZQ c name a).2):=by
  (rw[KN (XR ‹_› ‹_› ‹_› (by omega))]; done)
 exact fi_ [(0,10),(1,11),(2,12),(3,13)] e ⟨(Qe (by (rw[KN (XR ‹_› ‹_› ‹_› (by omega))]; done))),(Qe (by (rw[KN (XR ‹_› ‹_› ‹_› (by omega))]; done))),(Qe (by (rw[KN (XR ‹_› ‹_› ‹_› (by omega))]; done))),(Qe (by (rw[KN (XR ‹_› ‹_› ‹_› (by omega))]; done))),trivial⟩ (h0:=by rw[y] <;> rfl)
 refine w_ ?_
 refine lc (Qi Q8 rfl (ak.1 rfl) rfl rfl) ?_
 refine w4 ?_
 refine AC.wk (Qp 15 (p:=1) (off:=0) 77 QE rfl rfl (Fresh.of rfl) (nlr rfl))<|AC.wk (Qp 16 (p:=1) (off:=1) 9 .str rfl rfl (Fresh.of rfl) (nlr rfl))<|AC.wk (Qp 17 (p:=1) (off:=2) 154 QD rfl rfl (Fresh.of rfl) (nlr rfl))<|AC.wk (Wk.nilS 18 7 3 .int rfl (Fresh.of rfl) (nlr rfl))<|Qd ?_
 have A:(false:Bool)=((ZQ c name a).2):=by
  (rw[ZC (Ve ‹_›)]; done)
 exact fi_ [(0,15),(1,16),(2,17),(3,18)] e ⟨(Qe (by (rw[ZC (Ve ‹_›)]; rfl))),(Qe (by (rw[ZC (Ve ‹_›)]; rfl))),(Qe (by (rw[ZC (Ve ‹_›)]; rfl))),(Qe (by (rw[ZC (Ve ‹_›)]; rfl))),trivial⟩ (h0:=by rw[← A] <;> rfl)
 have g:=ab f
 refine w14 ?_
 refine lc (Qi Q8 rfl (ak.1 rfl) rfl rfl) ?_
 refine w4 ?_
 refine AC.wk (Qp 19 (p:=1) (off:=0) 77 QE rfl rfl (Fresh.of rfl) (nlr rfl))<|AC.wk (Qp 20 (p:=1) (off:=1) 9 .str rfl rfl (Fresh.of rfl) (nlr rfl))<|AC.wk (Qp 21 (p:=1) (off:=2) 154 QD rfl rfl (Fresh.of rfl) (nlr rfl))<|AC.wk (Wk.nilS 22 7 3 .int rfl (Fresh.of rfl) (nlr rfl))<|Qd ?_
 have o:(false:Bool)=((ZQ c name a).2):=by
  (rw[ZC (Qci ‹_› ‹_›)]; done)
 exact fi_ [(0,19),(1,20),(2,21),(3,22)] e ⟨(Qe (by (rw[ZC (Qci ‹_› ‹_›)]; rfl))),(Qe (by (rw[ZC (Qci ‹_› ‹_›)]; rfl))),(Qe (by (rw[ZC (Qci ‹_› ‹_›)]; rfl))),(Qe (by (rw[ZC (Qci ‹_› ‹_›)]; rfl))),trivial⟩ (h0:=by rw[← o] <;> rfl)
end Go.Proofs.YtndabgcpnmeeoaaGreat
