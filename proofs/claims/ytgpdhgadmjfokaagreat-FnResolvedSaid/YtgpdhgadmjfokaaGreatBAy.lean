/- Walks over abstract states: the graph with one signal more, both sides. -/
import Derived.Test.YtgpdhgadmjfokaaGreatBVg
import Derived.Test.YtgpdhgadmjfokaaGreatBWk
import Derived.Test.YtgpdhgadmjfokaaGreatBAk
import Derived.Test.YtgpdhgadmjfokaaGreatBStr
import Derived.Test.YtgpdhgadmjfokaaGreatProg
import Derived.KernelRfl
import Derived.Test.YtgpdhgadmjfokaaGreatBAv
set_option linter.unusedSimpArgs false
set_option linter.unusedVariables false
set_option linter.unusedSectionVars false
namespace Go.Proofs.YtgpdhgadmjfokaaGreat
open Go.RowKit
set_option maxRecDepth 100000
set_option maxHeartbeats 4000000
def VY (s:ByteArray):Bool:=decide (bAt s 0=49)||decide (bAt s 0=45)
def WV (c:DSg)(s:ByteArray):Ins:=(psP [] (0,VY s),cdP c [] [] (0,VY s),[])
def Qd9 (c:DSg)(s:ByteArray):Nat→Nat→Ins→Ins
 | 0,_,st=>st
 | f+1,k,st=>if k < st.1.length then Qd9 c s f (k+1) (WN c s st (k:Int)) else st
def QR (c:DSg)(s:ByteArray):Ins:=Qd9 c s 601 0 (WV c s)
def Xs (c:DSg)(name:ByteArray)(st:Ins):DSg:=(c.1++[(name,3)],st.2.1,st.2.2)
structure InsI (c:DSg) (st:Ins):Prop where
  rng:∀p∈st.1,0≤p.1∧p.1 < (c.2.1.length:Int)
  nd:st.1.Nodup
  len:st.2.1.length=st.1.length
section
variable {c:DSg}{s name:ByteArray}{st:Ins}{ps:List PSt}{cs:List ByteArray}{as_:List DAr}{p:PSt}{k:Int}{l:Zb}{i j n:Nat}{b:Bool}{z:Int}
theorem QoM {q:PSt}(h:q∈psP ps p):q∈ps∨q=p:=by
 unfold psP at h
 split at h
 ·exact .inl h
 ·rcases aE.1 h with h | h
  ·exact .inl h
  ·exact .inr (aB.1 h)
theorem QiA (h:ps.Nodup):(psP ps p).Nodup:=by
 unfold psP
 split
 ·exact h
 ·rename_i g
  rw[aV]
  refine ⟨h,by simp, ?_⟩
  intro a f b d e
  rw[aB] at d
  subst d
  subst e
  exact g f
theorem Qkp (h:InsI c st)(d:0≤p.1∧p.1 < (c.2.1.length:Int)):InsI c (Kt c st k l p):=by
 refine ⟨fun q e=> ?_,QiA h.nd, ?_⟩
 ·rcases QoM (show q∈psP st.1 p from e) with a | a
  ·exact h.rng q a
  ·rw[a]; exact d
 ·have:=h.len
  show (cdP c st.1 st.2.1 p).length=(psP st.1 p).length
  unfold cdP psP
  split <;> simp[this]
theorem Qoi:(Kt c st k l p).2.2.length=st.2.2.length+1:=by simp[Kt]
theorem Qpp {a:DAr}{q:PSt}(h:InsI c st)(d:0≤a.2.2.2∧a.2.2.2 < (c.2.1.length:Int)):InsI c (Jf c s k q st a)∧(Jf c s k q st a).2.2.length≤st.2.2.length+1:=by
 unfold Jf
 split
 ·exact ⟨h,by omega⟩
 ·exact ⟨Qkp h d,by rw[Qoi]; omega⟩
theorem Qjv {q:PSt}:∀(l:List DAr) (st:Ins),InsI c st→(∀a∈l,0≤a.2.2.2∧a.2.2.2 < (c.2.1.length:Int))→InsI c (l.foldl (Jf c s k q) st)∧(l.foldl (Jf c s k q) st).2.2.length≤st.2.2.length+l.length
 | [],st,h,_=>⟨h,by simp⟩
 | a :: l,st,h,ha=>by
  obtain ⟨d,f⟩:=Qpp (s:=s) (k:=k) (q:=q) h (ha a (ax ..))
  obtain ⟨e,g⟩:=Qjv l _ d fun a h=>ha a (aw _ h)
  rw[aT]
  exact ⟨e,by rw[aj]; omega⟩
theorem Jx (d:SignsOk c s)(h:InsI c st):InsI c (WN c s st k)∧(WN c s st k).2.2.length≤st.2.2.length+4001:=by
 unfold WN
 cases o:st.1[k.toNat]? with
 | none=>exact ⟨h,by simp⟩
 | some p=>
  have m:=h.rng p (ah o)
  have e:InsI c (Qc2 c s st k p)∧(Qc2 c s st k p).2.2.length≤st.2.2.length+1:=by
   unfold Qc2
   split
   ·exact ⟨Qkp h m,by rw[Qoi]; omega⟩
   ·exact ⟨h,by omega⟩
  obtain ⟨f,r⟩:=Qjv (s:=s) (k:=k) (q:=p) (Yf c.2.2 p.1) _ e.1 fun a g=>by
   have:=d.at_ (Jq.1 g).1
   rw[d.2.1] at this
   exact this.2
  refine ⟨f, ?_⟩
  have t:=Qa7 (l:=c.2.2) (q:=p.1)
  have u:=d.2.2.few
  simp only
  omega
theorem Qks:∀(n:Nat) (l:List Nat),l.Nodup→(∀x∈l,x < n)→l.length≤n
 | 0,[],_,_=>aO _
 | 0,x :: l,_,h=>absurd (h x (ax ..)) (bi x)
 | n+1,l,hd,h=>by
  have g:=Qks n (l.erase n) (hd.erase n) fun x f=>by
   have d:=h x (List.mem_of_mem_erase f)
   have m:x≠n:=fun e=>by subst e; exact (List.Nodup.not_mem_erase hd) f
   omega
  have d:=List.length_erase (a:=n) (l:=l)
  split at d <;> omega
theorem InsI.few (h:InsI c st)(y:c.2.1.length≤300):st.1.length≤600:=by
 have g:=Qks 600 (st.1.map fun p=>(ZI p).toNat) ?_ ?_
 ·simpa using g
 ·rw[List.Nodup,cK]
  refine List.Pairwise.imp_of_mem ?_ h.nd
  intro a b q r d e
  apply d
  have m:=h.rng a q
  have v:=h.rng b r
  have o:=KJ a.2
  have w:=KJ b.2
  unfold ZI at e
  have f:a.1=b.1∧vB a.2=vB b.2:=by omega
  refine dH f.1 ?_
  rw[← QeL a.2,f.2,QeL]
 ·intro x u
  obtain ⟨p,t,rfl⟩:=aR.1 u
  have m:=h.rng p t
  have o:=KJ p.2
  unfold ZI
  omega
theorem Qb8 (e:1≤c.2.1.length):InsI c (WV c s):=by
 refine ⟨fun q d=> ?_,QiA bI, ?_⟩
 ·rcases QoM (show q∈psP [] (0,VY s) from d) with a | a
  ·cases a
  ·rw[a]; show (0:Int)≤0∧(0:Int) < _; omega
 ·simp[WV,psP,cdP]
theorem Qh1 (d:j < st.1.length)(a:i=n+1):Qd9 c s i j st=Qd9 c s n (j+1) (WN c s st (j:Int)):=by
 subst a; rw[Qd9,if_pos d]
theorem Yt (a:st.1.length≤j):Qd9 c s i j st=st:=by
 cases i with
 | zero=>rfl
 | succ i=>rw[Qd9,if_neg (by omega)]
theorem QiJ (a:ps[i]? =some p):(ps.take i).map (fun p=>p.1)++[p.1]=(ps.take (i+1)).map fun p=>p.1:=by rw[QG a]; simp
theorem Qt2 (e:(ps.map ZI)[i]? =some z):(ps.take i).map (fun p=>p.1)++[z / 2]=(ps.take (i+1)).map fun p=>p.1:=by
 obtain ⟨p,a,d⟩:=QeN e
 rw[d,Qjz,QiJ a]
end
abbrev Qia (name:ByteArray):QD→Bool:=fun x=>decide (x.1=name)
section
variable [∀c,Decidable (SgOk c)][∀s,Decidable (Zx s)]{c:DSg}{s name:ByteArray}{st:Ins}
def Ko (c:DSg)(name s:ByteArray):Bool:=okP c s&&decide (Zx name)&& !(c.1.any (Qia name))&& !decide (c.1.length=8)
def Qli:DSg×List Int:=(X4,[])
def Yz (c:DSg)(name s:ByteArray):(DSg×List Int)×Bool:=
 if Ko c name s=true∧SgOk (Xs c name (QR c s)) then ((Xs c name (QR c s),(QR c s).1.map fun p=>p.1),true) else (Qli,false)
def Z2 (c:DSg)(name s:ByteArray):(DSg×List Int)×Bool:=
 if Ko c name s=true then ((Xs c name (QR c s),(QR c s).1.map fun p=>p.1),decide (SgOk (Xs c name (QR c s)))) else (Qli,false)
theorem Qbc (h:¬SignsOk c s):Ko c name s=false:=by unfold Ko; rw[← QkK h]; rfl
theorem W2 (h:okP c s=false):Ko c name s=false:=by unfold Ko; rw[h]; rfl
theorem W9 (h:¬Zx name):Ko c name s=false:=by unfold Ko; rw[aH h]; simp
theorem W4 (h:0≤Zl (Qia name) c.1):Ko c name s=false:=by unfold Ko; rw[← VQ,aQ h]; simp
theorem Ht (h:(c.1.length:Int)=8):Ko c name s=false:=by unfold Ko; rw[aQ (show c.1.length=8 by omega)]; simp
theorem Qbx (a:okP c s=true)(h:(8:Int)≤(c.1.length:Int)):Ko c name s=false:=by
 have:=(QdF.1 a).1.2.2.sigs.2.2
 exact Ht (by omega)
theorem XO (a:okP c s=true)(d:Zx name)(e:¬0≤Zl (Qia name) c.1)(f:¬(c.1.length:Int)=8):Ko c name s=true:=by
 unfold Ko; rw[a,aQ d,← VQ,aH e,aH (show¬c.1.length=8 by omega)]; rfl
theorem ZE (h:Ko c name s=false):Yz c name s=(Qli,false):=if_neg fun a=>by rw[h] at a; cases a.1
theorem JM (h:QR c s=st)(d:¬SgOk (Xs c name st)):Yz c name s=(Qli,false):=if_neg fun a=>d (by rw[h] at a; exact a.2)
theorem JX (a:Ko c name s=true)(h:QR c s=st)(d:SgOk (Xs c name st)):Yz c name s=((Xs c name st,st.1.map fun p=>p.1),true):=by
 unfold Yz; rw[h,if_pos ⟨a,d⟩]
theorem ZK (h:Ko c name s=false):Z2 c name s=(Qli,false):=if_neg (by rw[h]; decide)
theorem Kf (a:Ko c name s=true):Z2 c name s=((Xs c name (QR c s),(QR c s).1.map fun p=>p.1),decide (SgOk (Xs c name (QR c s)))):=if_pos a
theorem QxE (h:(Z2 c name s).2=true):Yz c name s=Z2 c name s:=by
 unfold Z2 at h ⊢
 unfold Yz
 split at h
 ·rename_i a
  have d:SgOk (Xs c name (QR c s)):=ab h
  rw[if_pos ⟨a,d⟩,if_pos a,aQ d]
 ·cases h
theorem Qwq (h:(Z2 c name s).2=false):Yz c name s=(Qli,false):=by
 unfold Z2 at h
 unfold Yz
 split at h
 ·exact if_neg fun a=>(aa h) a.2
 ·rename_i d; exact if_neg fun a=>d a.1
end
theorem Qcl (c:ZB)(name:ByteArray)(a:ByteArray)[∀c,Decidable (SgOk c)][∀s,Decidable (Zx s)](a6:name.size≤10000000):FC Tryz.prog 89 [(true,[.dat Ql c.1, .dat Qm c.2.1, .dat Qu c.2.2]),(false,[dS name]),(false,[dS a])] [] 0 (Is (PV.tup [(true,[.ref 0, .ref 1, .ref 2]),(false,[.ref 3]),(false,[dB ((Yz c name a).2)])]) [ar 0 44 Qz (((Yz c name a).1.1).1),ar 1 9 .str (((Yz c name a).1.1).2.1),ar 2 46 Qs (((Yz c name a).1.1).2.2),ar 3 3 .int ((Yz c name a).1.2)]):=by
 refine Qt Tryz.func89 rfl rfl Tryz.ntmps89 fun O_ r b0 Y X_ a1 a0=> ?_
 refine w_ ?_
 refine xbx 0 ?_
 refine lc (xal 1 X2 ZC) ?_
 refine w7 ?_
 refine lc (dK (UK c a) QoX) ?_
 refine w10 ?_
 cases C:(decide (SignsOk c a))
 have D:=aa C
 refine w16 ?_
 refine w8 ?_
 refine lc (Qg ZU rfl (au.1 rfl) rfl rfl) ?_
 refine w4 ?_
 refine AC.wk (Qn 2 (p:=1) (off:=0) 44 Qz rfl rfl (Fresh.of rfl) (nlr rfl))<|AC.wk (Qn 3 (p:=1) (off:=1) 9 .str rfl rfl (Fresh.of rfl) (nlr rfl))<|AC.wk (Qn 4 (p:=1) (off:=2) 46 Qs rfl rfl (Fresh.of rfl) (nlr rfl))<|AC.wk (Wk.nilS 5 7 3 .int rfl (Fresh.of rfl) (nlr rfl))<|Qd ?_
 have Z:(false:Bool)=((Yz c name a).2):=by
  (rw[ZE (Qbc ‹_›)]; done)
 exact fi_ [(0,2),(1,3),(2,4),(3,5)] r ⟨(Qe (by (rw[ZE (Qbc ‹_›)]; rfl))),(Qe (by (rw[ZE (Qbc ‹_›)]; rfl))),(Qe (by (rw[ZE (Qbc ‹_›)]; rfl))),(Qe (by (rw[ZE (Qbc ‹_›)]; rfl))),trivial⟩ (h0:=by rw[← Z] <;> rfl)
 have D:=ab C
 refine w4 ?_
 cases a2:(okP c a)
 refine w16 ?_
 refine w4 ?_
 refine lc (Qg ZU rfl (au.1 rfl) rfl rfl) ?_
 refine w4 ?_
 refine AC.wk (Qn 6 (p:=1) (off:=0) 44 Qz rfl rfl (Fresh.of rfl) (nlr rfl))<|AC.wk (Qn 7 (p:=1) (off:=1) 9 .str rfl rfl (Fresh.of rfl) (nlr rfl))<|AC.wk (Qn 8 (p:=1) (off:=2) 46 Qs rfl rfl (Fresh.of rfl) (nlr rfl))<|AC.wk (Wk.nilS 9 7 3 .int rfl (Fresh.of rfl) (nlr rfl))<|Qd ?_
 have e4:(false:Bool)=((Yz c name a).2):=by
  (rw[ZE (W2 ‹_›)]; done)
 exact fi_ [(0,6),(1,7),(2,8),(3,9)] r ⟨(Qe (by (rw[ZE (W2 ‹_›)]; rfl))),(Qe (by (rw[ZE (W2 ‹_›)]; rfl))),(Qe (by (rw[ZE (W2 ‹_›)]; rfl))),(Qe (by (rw[ZE (W2 ‹_›)]; rfl))),trivial⟩ (h0:=by rw[← e4] <;> rfl)
 refine w_ ?_
 refine lgy rfl rfl (dK (Qd5 name) Qk1) ?_
 refine w3 ?_
 cases E:(decide (Zx name))
 have F:=aa E
 refine w15 ?_
 refine lc (Qg ZU rfl (au.1 rfl) rfl rfl) ?_
 refine w4 ?_
 refine AC.wk (Qn 10 (p:=1) (off:=0) 44 Qz rfl rfl (Fresh.of rfl) (nlr rfl))<|AC.wk (Qn 11 (p:=1) (off:=1) 9 .str rfl rfl (Fresh.of rfl) (nlr rfl))<|AC.wk (Qn 12 (p:=1) (off:=2) 46 Qs rfl rfl (Fresh.of rfl) (nlr rfl))<|AC.wk (Wk.nilS 13 7 3 .int rfl (Fresh.of rfl) (nlr rfl))<|Qd ?_
 have e6:(false:Bool)=((Yz c name a).2):=by
  (rw[ZE (W9 ‹_›)]; done)
 exact fi_ [(0,10),(1,11),(2,12),(3,13)] r ⟨(Qe (by (rw[ZE (W9 ‹_›)]; rfl))),(Qe (by (rw[ZE (W9 ‹_›)]; rfl))),(Qe (by (rw[ZE (W9 ‹_›)]; rfl))),(Qe (by (rw[ZE (W9 ‹_›)]; rfl))),trivial⟩ (h0:=by rw[← e6] <;> rfl)
 have F:=ab E
 refine w3 ?_
 refine lgy rfl rfl (dK (Ke c.1 name) QeO) ?_
 refine w3 ?_
 cases G:(decide (0≤(Zl (fun x:QD=>decide (x.1=name)) c.1)))
 have H:=aa G
 refine w2 ?_
 refine alL 42 fun _=> ?_
 refine w4 ?_
 refine cd_ (fun _ _=> ?_) fun _ _=> ?_
 refine w_ ?_
 refine Yo ?_
 have R:SignsOk c a∧Xg c a=true:=QdF.1 ‹_›
 have q:=R.1
 have a8:=q.2.1
 have I:=q.2.2.some_
 have a4:=q.2.2.few
 have a7:=Kc q.2.2.sigs
 have S:∀x∈c.2.1,x.size≤1000:=fun x hx=>by have:=(q.2.2.codes x hx).2; omega
 refine w3 ?_
 refine lc (KX (kt:=207) (et:=3) (kb:=true) (k:=Qy) (vb:=false) (v:= .int) 14 rfl (Fresh.of rfl) (nlr rfl))<|lc (Qji (QtR (offs:=[(0,3),(3,1),(4,3),(7,1),(8,1)]) (zs:=[.slice none 0 0, .slice none 0 0, .slice none 0 0, .string ByteArray.empty, .slice none 0 0, .slice none 0 0, .slice none 0 0, .slice none 0 0, .map none]) Tryz.underlying203 (by kernel_rfl) (by kernel_rfl)) ⟨_,_,rfl,(Qo rfl),⟨_,_,rfl,(Qo rfl),⟨_,_,rfl,(Qo rfl),rfl⟩⟩⟩ (au.1 rfl) rfl rfl) ?_
 refine xbx 15 ?_
 refine w2 ?_
 refine Yo<|AC.wk (s':=⟨[(0,ag [.dat Ql c.1, .dat Qm c.2.1, .dat Qu c.2.2]),(1,lf (dS name)),(2,lf (dS a)),(3,lP 0 0),(6,lP 1 0),(7,lf (.val (.slice none 0 0))),(8,lB false),(9,lB true),(10,lB true),(11,lP 15 0),(16,PV.tup [(false,[dB true]),(false,[dB true])]),(17,ag [.dat Ql c.1, .dat Qm c.2.1, .dat Qu c.2.2]),(18,lf (dS a)),(19,PV.tup [(false,[dB true]),(false,[dB true])]),(20,lB true),(21,lB true),(22,lB true),(23,lB (!true)),(24,lB false),(25,lB true),(26,lB (!true)),(27,lB (!true)),(28,lB false),(29,lf (dS name)),(30,lB true),(31,lB (!true)),(32,lB (!true)),(33,lB false),(34,lP 0 0),(35,lf (.dat Ql c.1)),(36,lf (dS name)),(37,lI (Zl (fun x:QD=>decide (x.1=name)) c.1)),(38,lB false),(39,lB false),(40,lB false),(41,lP 0 0),(42,lf (.dat Ql c.1)),(43,lI (c.1.length:Int)),(47,ag [.dat Ql c.1, .dat Qm c.2.1, .dat Qu c.2.2]),(48,lf (dS a)),(49,lR 14),(50,ag [.dat Ql c.1, .dat Qm c.2.1, .dat Qu c.2.2,dS a, .val (.slice none 0 0), .val (.slice none 0 0), .val (.slice none 0 0), .val (.slice none 0 0), .ref 14]),(51,lP 15 0)],[bx 0 27 [.dat Ql c.1, .dat Qm c.2.1, .dat Qu c.2.2],bx 1 27 [.val (.slice none 0 0), .val (.slice none 0 0), .val (.slice none 0 0)],(14,some (.mp true Qy false .int ([]))),bx 15 203 [.dat Ql c.1, .dat Qm c.2.1, .dat Qu c.2.2,dS a, .val (.slice none 0 0), .val (.slice none 0 0), .val (.slice none 0 0), .val (.slice none 0 0), .ref 14]]⟩) (Wk.of [] rfl ⟨rfl,rfl,rfl,rfl,rfl,rfl,rfl,rfl,rfl,rfl,rfl,rfl,rfl,rfl,rfl,rfl,rfl,rfl,rfl,rfl,rfl,rfl,rfl,rfl,rfl,rfl,rfl,rfl,rfl,rfl,rfl,rfl,rfl,rfl,rfl,rfl,rfl,rfl,rfl,rfl,rfl,rfl,rfl,trivial⟩ ⟨rfl,rfl,rfl,rfl,trivial⟩ rfl rfl) ?_
 refine w4 ?_
 refine lc (dO 16 (Xh c.1 (by omega)) Qlw) ?_
 refine w_ ?_
 refine lc (Qg Qlc ⟨_,_,rfl,(Qo rfl),⟨_,_,rfl,(Evl.ev (Qp rfl)),rfl⟩⟩ (au.1 rfl) rfl rfl) ?_
 refine lc (dBs 17 (e:=Qz) WA (hab:=by exact ⟨_,_,_,_,rfl,⟨[dS name],[dI 3],_,_,_,_,rfl,rfl,⟨rfl,rfl⟩,⟨rfl,rfl⟩,rfl⟩,⟨rfl,rfl⟩,rfl⟩)) ?_
 refine lc (dA 18 UG) ?_
 refine w5 ?_
 refine AC.wk (Qn 19 (p:=15) (off:=7) 207 Qy rfl rfl (Fresh.of rfl) (nlr rfl))<|AC.wk (Qn 21 (p:=15) (off:=5) 9 .str rfl rfl (Fresh.of rfl) (nlr rfl))<|AC.wk (Qn 23 (p:=15) (off:=6) 46 Qs rfl rfl (Fresh.of rfl) (nlr rfl)) ?_
 refine Ud (fun K=>∃(ps:List (Int×Bool)) (cs:List ByteArray) (as_:List (Int×Int×Bool×Int)),((ps,cs,as_)=WV c a)∧K=⟨[(6,lP 1 0),(7,lf (.val (.slice none 0 0))),(8,lB false),(11,lP 15 0)],[bx 1 27 [.val (.slice none 0 0), .val (.slice none 0 0), .val (.slice none 0 0)],(14,some (.mp true Qy false .int (YT ps))),bx 15 203 [.dat Ql c.1, .dat Qm c.2.1, .dat Qu c.2.2,dS a, .ref 18, .ref 22, .ref 24, .ref 20, .ref 14],ar 18 44 Qz (c.1++([(name,3)])),ar 20 207 Qy ps,ar 22 9 .str cs,ar 24 46 Qs as_]⟩) ?_ fun A=> ?_
 rintro K ⟨ps,cs,as_,P,rfl⟩
 refine w5 ?_
 refine QL (fun X K=>∃(k:Nat) (ps:List (Int×Bool)) (cs:List ByteArray) (as_:List (Int×Int×Bool×Int)),k≤601∧X=601 - k∧(QR c a=Qd9 c a (601 - k) k (ps,cs,as_))∧(InsI c (ps,cs,as_))∧(as_.length≤4001*k)∧K=⟨[(6,lP 1 0),(7,lf (.val (.slice none 0 0))),(8,lB false),(11,lP 15 0),(12,lI (k:Int))],[bx 1 27 [.val (.slice none 0 0), .val (.slice none 0 0), .val (.slice none 0 0)],(14,some (.mp true Qy false .int (YT ps))),bx 15 203 [.dat Ql c.1, .dat Qm c.2.1, .dat Qu c.2.2,dS a, .ref 18, .ref 26, .ref 27, .ref 25, .ref 14],ar 18 44 Qz (c.1++([(name,3)])),ar 25 207 Qy ps,ar 26 9 .str cs,ar 27 46 Qs as_]⟩) ⟨0,ps,cs,as_,aS _,rfl,(by rw[P]; rfl),(by rw[P]; exact Qb8 I.1),(by have:=congrArg (fun st:Ins=>st.2.2) P; simp only[WV] at this; rw[this]; simp),rfl⟩ ?_ ?_
 exact wo [(25,20),(26,22),(27,24)]
 rintro X K ⟨k,ps,cs,as_,U,W,d,B,hL,rfl⟩
 have a3:ps.length≤600:=B.few I.2
 have Q:=B.len
 have V:cs.length=ps.length:=Q
 refine w10 ?_
 cases g:(decide ((k:Int) < (ps.length:Int)))
 have t:=aa g
 refine w9 ?_
 refine lc (YF (Zw (c.1++([(name,3)]),cs,as_)) V4 ⟨_,_,rfl,(XI (Qo rfl) ⟨_,_,rfl, .inr ⟨_,_,_,_,rfl,rfl,rfl⟩,⟨_,_,rfl, .inr ⟨_,_,_,_,rfl,rfl,rfl⟩,⟨_,_,rfl, .inr ⟨_,_,_,_,rfl,rfl,rfl⟩,rfl⟩⟩⟩),rfl⟩ rfl rfl rfl) ?_
 refine w2 ?_
 cases h:(decide (SgOk (c.1++([(name,3)]),cs,as_)))
 have u:=aa h
 refine w2 ?_
 refine lc (Qg ZU rfl (au.1 rfl) rfl rfl) ?_
 refine w4 ?_
 refine AC.wk (Qn 28 (p:=1) (off:=0) 44 Qz rfl rfl (Fresh.of rfl) (nlr rfl))<|AC.wk (Qn 29 (p:=1) (off:=1) 9 .str rfl rfl (Fresh.of rfl) (nlr rfl))<|AC.wk (Qn 30 (p:=1) (off:=2) 46 Qs rfl rfl (Fresh.of rfl) (nlr rfl))<|AC.wk (Wk.nilS 31 7 3 .int rfl (Fresh.of rfl) (nlr rfl))<|Qd ?_
 have L:(false:Bool)=((Yz c name a).2):=by
  (rw[JM (d.trans (Yt (by show ps.length≤k; omega))) ‹_›]; done)
 exact fi_ [(0,28),(1,29),(2,30),(3,31)] r ⟨(Qe (by (rw[JM (d.trans (Yt (by show ps.length≤k; omega))) ‹_›]; rfl))),(Qe (by (rw[JM (d.trans (Yt (by show ps.length≤k; omega))) ‹_›]; rfl))),(Qe (by (rw[JM (d.trans (Yt (by show ps.length≤k; omega))) ‹_›]; rfl))),(Qe (by (rw[JM (d.trans (Yt (by show ps.length≤k; omega))) ‹_›]; rfl))),trivial⟩ (h0:=by rw[← L] <;> rfl)
 have u:=ab h
 refine w3 ?_
 refine lc (dBs 32 (e:= .int) Yj) ?_
 refine w12 ?_
 refine lp0 ps.length (fun i=>⟨[(6,lP 1 0),(7,lf (.val (.slice none 0 0))),(8,lB false),(11,lP 15 0),(13,lR 33),(97,lR 25),(98,lI (ps.length:Int)),(99,lI (i:Int))],[bx 1 27 [.val (.slice none 0 0), .val (.slice none 0 0), .val (.slice none 0 0)],(14,some (.mp true Qy false .int (YT ps))),bx 15 203 [.dat Ql c.1, .dat Qm c.2.1, .dat Qu c.2.2,dS a, .ref 18, .ref 26, .ref 27, .ref 25, .ref 14],ar 18 44 Qz (c.1++([(name,3)])),ar 25 207 Qy ps,ar 26 9 .str cs,ar 27 46 Qs as_,ar 33 3 .int ((ps.take i).map (fun p=>p.1))]⟩) ?_ fun i _=> ?_
 exact wp [(33,32)] ⟨rfl,rfl,rfl,rfl,rfl,rfl,rfl,(Qe (by first | rfl | simp)),trivial⟩
 have a9:(ps.take i).length≤ps.length:=by simp only[ap]; omega
 have a5:((ps.take i).map (fun p=>p.1)).length=(ps.take i).length:=aC ..
 refine w4 ?_
 cases m:(decide ((i:Int) < (ps.length:Int)))
 have w:=aa m
 refine w14 ?_
 have M:(true:Bool)=((Yz c name a).2):=by
  (rw[JX (XO ‹_› ‹_› ‹_› (by first | assumption | omega)) (d.trans (Yt (by show ps.length≤k; omega))) ‹_›]; done)
 exact fi_ [(0,18),(1,26),(2,27),(3,33)] r ⟨(Qe (by (rw[JX (XO ‹_› ‹_› ‹_› (by first | assumption | omega)) (d.trans (Yt (by show ps.length≤k; omega))) ‹_›]; rfl))),(Qe (by (rw[JX (XO ‹_› ‹_› ‹_› (by first | assumption | omega)) (d.trans (Yt (by show ps.length≤k; omega))) ‹_›]; rfl))),(Qe (by (rw[JX (XO ‹_› ‹_› ‹_› (by first | assumption | omega)) (d.trans (Yt (by show ps.length≤k; omega))) ‹_›]; rfl))),(Qe (by (rw[JX (XO ‹_› ‹_› ‹_› (by first | assumption | omega)) (d.trans (Yt (by show ps.length≤k; omega))) ‹_›,QH (by omega)]; done))),trivial⟩ (h0:=by rw[← M] <;> rfl)
 have w:=ab m
 refine w6 ?_
 obtain ⟨b1,J⟩:=gx ps i
 refine w_ ?_
 refine lc (xal 34 Qy QdR) ?_
 refine w6 ?_
 refine alI 105 fun _=> ?_
 refine lc (dBs 35 (e:= .int) Yj) ?_
 refine lc (dA 36 Y4) ?_
 refine w_ ?_
 refine Qb ?_
 refine w4 ?_
 refine Qb ?_
 refine l0_ ?_
 exact wp [(33,36)] ⟨rfl,rfl,rfl,rfl,rfl,rfl,rfl,(Qe (QiJ J)),trivial⟩
 have t:=ab g
 refine w7 ?_
 refine lc (dP 37 [(0,15),(1,18),(2,14),(3,26),(4,27),(5,25)] (Kq c a (c.1++([(name,3)])) cs as_ ps (k:Int) (by omega) q B.rng (by omega)) Qly) ?_
 refine Qb ?_
 refine w5 ?_
 refine Qb<|Q2 ⟨k+1,((WN c a (ps,cs,as_) (k:Int)).1),((WN c a (ps,cs,as_) (k:Int)).2.1),((WN c a (ps,cs,as_) (k:Int)).2.2),by omega,rfl,(by rw[d]; exact Qh1 (by show k < ps.length; omega) (by omega)),(Jx q B).1,(by have h_:(WN c a (ps,cs,as_) (k:Int)).2.2.length≤as_.length+4001:=(Jx (k:=(k:Int)) q B).2; omega),rfl⟩ (by omega) ?_
 exact wp [(25,42),(26,40),(27,41)] ⟨rfl,rfl,rfl,(Qe (by first | rfl | simp)),rfl,rfl,rfl,trivial⟩
 refine w3 ?_
 obtain ⟨f,T⟩:=gs a ((0:Int).toNat)
 refine w_ ?_
 refine lc (Qr (Qa rfl) (Qw 49 rfl) rfl) ?_
 refine w_ ?_
 cases o:(decide (f=49))
 have y:=aa o
 refine w2 ?_
 refine lgy rfl rfl (Qr (Qa rfl) (Qw 45 rfl) rfl) ?_
 refine w_ ?_
 refine lc (Qg W7 ⟨_,_,rfl,(Evl.ev (Qp rfl)),⟨_,_,rfl,(Qo rfl),rfl⟩⟩ (au.1 rfl) rfl rfl) ?_
 refine lc (dP 43 [(0,15),(1,18),(2,23),(3,14),(4,21),(5,19)] (YR c a (c.1++([(name,3)])) ([]) ([]) ([]) (0,decide (f=45)) (by first | omega | (refine ⟨?_, ?_⟩ <;> (try dsimp only) <;> omega)) S (by simp)) Qat) ?_
 refine w_ ?_
 refine XP (A _ ⟨(psP ([]) (0,decide (f=45))),(cdP c ([]) ([]) (0,decide (f=45))),([]),(by first | (unfold WV VY; rw[Qv (p:=0) ‹_›]; simp[*]; done)),rfl⟩) ?_
 exact wp [(20,48),(22,47),(24,23)] ⟨rfl,rfl,rfl,(Qe (by first | rfl | simp)),rfl,rfl,rfl,trivial⟩
 have y:=ab o
 refine w4 ?_
 refine lc (Qg W7 ⟨_,_,rfl,(Evl.ev (Qp rfl)),⟨_,_,rfl,(Qo rfl),rfl⟩⟩ (au.1 rfl) rfl rfl) ?_
 refine lc (dP 49 [(0,15),(1,18),(2,23),(3,14),(4,21),(5,19)] (YR c a (c.1++([(name,3)])) ([]) ([]) ([]) (0,true) (by first | omega | (refine ⟨?_, ?_⟩ <;> (try dsimp only) <;> omega)) S (by simp)) Qat) ?_
 refine w_ ?_
 refine XP (A _ ⟨(psP ([]) (0,true)),(cdP c ([]) ([]) (0,true)),([]),(by first | (unfold WV VY; rw[Qv (p:=0) ‹_›]; simp[*]; done)),rfl⟩) ?_
 exact wp [(20,54),(22,53),(24,23)] ⟨rfl,rfl,rfl,(Qe (by first | rfl | simp)),rfl,rfl,rfl,trivial⟩
 refine w_ ?_
 refine lc (Qg ZU rfl (au.1 rfl) rfl rfl) ?_
 refine w4 ?_
 refine AC.wk (Qn 55 (p:=1) (off:=0) 44 Qz rfl rfl (Fresh.of rfl) (nlr rfl))<|AC.wk (Qn 56 (p:=1) (off:=1) 9 .str rfl rfl (Fresh.of rfl) (nlr rfl))<|AC.wk (Qn 57 (p:=1) (off:=2) 46 Qs rfl rfl (Fresh.of rfl) (nlr rfl))<|AC.wk (Wk.nilS 58 7 3 .int rfl (Fresh.of rfl) (nlr rfl))<|Qd ?_
 have N:(false:Bool)=((Yz c name a).2):=by
  (rw[ZE (Ht ‹_›)]; done)
 exact fi_ [(0,55),(1,56),(2,57),(3,58)] r ⟨(Qe (by (rw[ZE (Ht ‹_›)]; rfl))),(Qe (by (rw[ZE (Ht ‹_›)]; rfl))),(Qe (by (rw[ZE (Ht ‹_›)]; rfl))),(Qe (by (rw[ZE (Ht ‹_›)]; rfl))),trivial⟩ (h0:=by rw[← N] <;> rfl)
 have H:=ab G
 refine w8 ?_
 refine lc (Qg ZU rfl (au.1 rfl) rfl rfl) ?_
 refine w4 ?_
 refine AC.wk (Qn 59 (p:=1) (off:=0) 44 Qz rfl rfl (Fresh.of rfl) (nlr rfl))<|AC.wk (Qn 60 (p:=1) (off:=1) 9 .str rfl rfl (Fresh.of rfl) (nlr rfl))<|AC.wk (Qn 61 (p:=1) (off:=2) 46 Qs rfl rfl (Fresh.of rfl) (nlr rfl))<|AC.wk (Wk.nilS 62 7 3 .int rfl (Fresh.of rfl) (nlr rfl))<|Qd ?_
 have O:(false:Bool)=((Yz c name a).2):=by
  (rw[ZE (W4 ‹_›)]; done)
 exact fi_ [(0,59),(1,60),(2,61),(3,62)] r ⟨(Qe (by (rw[ZE (W4 ‹_›)]; rfl))),(Qe (by (rw[ZE (W4 ‹_›)]; rfl))),(Qe (by (rw[ZE (W4 ‹_›)]; rfl))),(Qe (by (rw[ZE (W4 ‹_›)]; rfl))),trivial⟩ (h0:=by rw[← O] <;> rfl)
theorem JS (c:ZB)(name:ByteArray)(a:ByteArray)[∀c,Decidable (SgOk c)][∀s,Decidable (Zx s)](d:name.size≤10000000):FC Tryz.prog 10 [(true,[.dat Ql c.1, .dat Qm c.2.1, .dat Qu c.2.2]),(false,[dS name]),(false,[dS a])] [] 0 (Is (PV.tup [(true,[.ref 0, .ref 1, .ref 2]),(false,[dB ((Yz c name a).2)])]) [ar 0 44 Qz (((Yz c name a).1.1).1),ar 1 9 .str (((Yz c name a).1.1).2.1),ar 2 46 Qs (((Yz c name a).1.1).2.2)]):=by
 refine Qt Tryz.func10 rfl rfl Tryz.ntmps10 fun o h m e q g f=> ?_
 refine w_ ?_
 refine xbx 0 ?_
 refine lc (xal 1 X2 ZC) ?_
 refine w6 ?_
 refine lc (dG 2 (Qcl c name a d) Qpk) ?_
 refine w4 ?_
 refine lc (xal 6 X2 ZC) ?_
 refine w11 ?_
 exact fi_ [(0,2),(1,3),(2,4)] h ⟨rfl,rfl,rfl,trivial⟩
theorem Qb6 (c:ZB)(name:ByteArray)(a:ByteArray)(f:SignsOk c a)(W:name.size≤10000000):FC Tryz.prog 200 [(true,[.dat Ql c.1, .dat Qm c.2.1, .dat Qu c.2.2]),(false,[dS name]),(false,[dS a])] [] 0 (Is (PV.tup [(true,[.ref 0, .ref 1, .ref 2]),(false,[.ref 3])]) [ar 0 44 Qz ((Xs c name (QR c a)).1),ar 1 9 .str ((Xs c name (QR c a)).2.1),ar 2 46 Qs ((Xs c name (QR c a)).2.2),ar 3 3 .int ((QR c a).1.map (fun p=>p.1))]):=by
 have Y:=f.2.1
 have u:=f.2.2.some_
 have R:=f.2.2.few
 have X:=Kc f.2.2.sigs
 have E:∀x∈c.2.1,x.size≤1000:=fun x hx=>by have:=(f.2.2.codes x hx).2; omega
 refine Qt Tryz.func200 rfl rfl Tryz.ntmps200 fun O_ P a0 L X_ N M=> ?_
 refine w_ ?_
 refine xbx 0 ?_
 refine lc (xal 1 X2 ZC) ?_
 refine w5 ?_
 refine lc (Qg Quy ⟨_,_,rfl,(Qo rfl),⟨_,_,rfl,(Qo rfl),rfl⟩⟩ (au.1 rfl) rfl rfl) ?_
 refine xbx 2 ?_
 refine w2 ?_
 refine Yo<|AC.wk (s':=⟨[(0,ag [.dat Ql c.1, .dat Qm c.2.1, .dat Qu c.2.2]),(1,lf (dS name)),(2,lf (dS a)),(3,lP 0 0),(6,lP 1 0),(7,lf (.val (.slice none 0 0))),(8,lP 2 0),(14,ag [.dat Ql c.1, .dat Qm c.2.1, .dat Qu c.2.2]),(15,lf (dS a)),(16,ag [.dat Ql c.1, .dat Qm c.2.1, .dat Qu c.2.2,dS a, .val (.slice none 0 0), .val (.slice none 0 0), .val (.slice none 0 0), .val (.slice none 0 0)]),(17,lP 2 0)],[bx 0 27 [.dat Ql c.1, .dat Qm c.2.1, .dat Qu c.2.2],bx 1 27 [.val (.slice none 0 0), .val (.slice none 0 0), .val (.slice none 0 0)],bx 2 287 [.dat Ql c.1, .dat Qm c.2.1, .dat Qu c.2.2,dS a, .val (.slice none 0 0), .val (.slice none 0 0), .val (.slice none 0 0), .val (.slice none 0 0)]]⟩) (Wk.of [] rfl ⟨rfl,rfl,rfl,rfl,rfl,rfl,rfl,rfl,rfl,rfl,rfl,trivial⟩ ⟨rfl,rfl,rfl,trivial⟩ rfl rfl) ?_
 refine w2 ?_
 refine lc (dBs 3 (e:=Qz) WA) ?_
 refine w2 ?_
 refine lc (QU 4 (Qa rfl) rfl (Evl.rep (Qa rfl)) rfl JT UG (by first | omega | (simp only[ae,aC,ap,aj,aA]; omega) | (simp only[ae,bo,ap,aj,aA]; omega)) rfl (Fresh.of rfl) (nlr rfl)) ?_
 refine w_ ?_
 refine lc (Qg Qlc ⟨_,_,rfl,(Qo rfl),⟨_,_,rfl,(Evl.ev (Qp rfl)),rfl⟩⟩ (au.1 rfl) rfl rfl) ?_
 refine lc (dBs 5 (e:=Qz) WA (hab:=by exact ⟨_,_,_,_,rfl,⟨[dS name],[dI 3],_,_,_,_,rfl,rfl,⟨rfl,rfl⟩,⟨rfl,rfl⟩,rfl⟩,⟨rfl,rfl⟩,rfl⟩)) ?_
 refine lc (dA 6 UG) ?_
 refine w8 ?_
 refine AC.wk (Qn 7 (p:=2) (off:=4) 3 .int rfl rfl (Fresh.of rfl) (nlr rfl))<|AC.wk (Qn 9 (p:=2) (off:=6) 9 .str rfl rfl (Fresh.of rfl) (nlr rfl))<|AC.wk (Qn 11 (p:=2) (off:=7) 46 Qs rfl rfl (Fresh.of rfl) (nlr rfl)) ?_
 refine QfN (fun w=>∃(cs:List ByteArray) (as_:List (Int×Int×Bool×Int)) (ps:List PSt),((ps,cs,as_)=WV c a)∧w=⟨[(6,lP 1 0),(7,lf (.val (.slice none 0 0))),(8,lP 2 0)],[bx 1 27 [.val (.slice none 0 0), .val (.slice none 0 0), .val (.slice none 0 0)],bx 2 287 [.dat Ql c.1, .dat Qm c.2.1, .dat Qu c.2.2,dS a, .ref 8, .ref 6, .ref 10, .ref 12],ar 6 44 Qz ((([])++c.1)++([(name,3)])),ar 8 3 .int (ps.map ZI),ar 10 9 .str cs,ar 12 46 Qs as_]⟩) ?_ fun y=> ?_
 rintro w ⟨cs,as_,ps,D,rfl⟩
 refine w5 ?_
 refine QL (fun J w=>∃(k:Nat) (cs:List ByteArray) (as_:List (Int×Int×Bool×Int)) (ps:List PSt),k≤601∧J=601 - k∧(QR c a=Qd9 c a (601 - k) k (ps,cs,as_))∧(InsI c (ps,cs,as_))∧(as_.length≤4001*k)∧w=⟨[(6,lP 1 0),(7,lf (.val (.slice none 0 0))),(8,lP 2 0),(10,lI (k:Int))],[bx 1 27 [.val (.slice none 0 0), .val (.slice none 0 0), .val (.slice none 0 0)],bx 2 287 [.dat Ql c.1, .dat Qm c.2.1, .dat Qu c.2.2,dS a, .ref 13, .ref 6, .ref 14, .ref 15],ar 6 44 Qz ((([])++c.1)++([(name,3)])),ar 13 3 .int (ps.map ZI),ar 14 9 .str cs,ar 15 46 Qs as_]⟩) ⟨0,cs,as_,ps,aS _,rfl,(by rw[D]; rfl),(by rw[D]; exact Qb8 u.1),(by have:=congrArg (fun st:Ins=>st.2.2) D; simp only[WV] at this; rw[this]; simp),rfl⟩ ?_ ?_
 exact wo [(13,8),(14,10),(15,12)]
 rintro J w ⟨k,cs,as_,ps,S,U,m,h,hL,rfl⟩
 have Q:ps.length≤600:=h.few u.2
 have F:=h.len
 have I:cs.length=ps.length:=F
 have T:(ps.map ZI).length=ps.length:=aC ..
 refine w10 ?_
 cases o:(decide ((k:Int) < ((ps.map ZI).length:Int)))
 have q:=aa o
 refine w16 ?_
 refine AC.wk (Wk.nilS 16 11 3 .int rfl (Fresh.of rfl) (nlr rfl)) ?_
 refine lp0 ps.length (fun i=>⟨[(6,lP 1 0),(7,lf (.val (.slice none 0 0))),(8,lP 2 0),(11,lR 17),(56,lR 13),(57,lI ((ps.map ZI).length:Int)),(58,lI (i:Int))],[bx 1 27 [.val (.slice none 0 0), .val (.slice none 0 0), .val (.slice none 0 0)],bx 2 287 [.dat Ql c.1, .dat Qm c.2.1, .dat Qu c.2.2,dS a, .ref 13, .ref 6, .ref 14, .ref 15],ar 6 44 Qz ((([])++c.1)++([(name,3)])),ar 13 3 .int (ps.map ZI),ar 14 9 .str cs,ar 15 46 Qs as_,ar 17 3 .int ((ps.take i).map (fun p=>p.1))]⟩) ?_ fun i _=> ?_
 exact wp [(17,16)] ⟨rfl,rfl,rfl,rfl,rfl,rfl,(Qe (by first | rfl | simp)),trivial⟩
 have Z:(ps.take i).length≤ps.length:=by simp only[ap]; omega
 have V:((ps.take i).map (fun p=>p.1)).length=(ps.take i).length:=aC ..
 refine w4 ?_
 cases r:(decide ((i:Int) < ((ps.map ZI).length:Int)))
 have t:=aa r
 refine w13 ?_
 exact fi_ [(0,6),(1,14),(2,15),(3,17)] P ⟨(Qe (by (rw[m.trans (Yt (by show ps.length≤k; omega))]; rfl))),(Qe (by (rw[m.trans (Yt (by show ps.length≤k; omega))]; rfl))),(Qe (by (rw[m.trans (Yt (by show ps.length≤k; omega))]; rfl))),(Qe (by (rw[m.trans (Yt (by show ps.length≤k; omega)),QH (by omega)]; done))),trivial⟩
 have t:=ab r
 refine w6 ?_
 obtain ⟨x7,v⟩:=gx (ps.map ZI) i
 have G:0≤x7:=by obtain ⟨K,B,C⟩:=QeN v; have:=h.rng _ (ah B); have O:0≤K.1:=this.1; have:=KJ K.2; rw[C]; unfold ZI; omega
 refine w_ ?_
 refine alI 61 fun _=> ?_
 refine w5 ?_
 refine lc (Qkm (Qa rfl) (Qp rfl) rfl (by omega) (by omega)) ?_
 refine lc (dBs 18 (e:= .int) Yj) ?_
 refine lc (dA 19 Y4) ?_
 refine w_ ?_
 refine Qb ?_
 refine w4 ?_
 refine Qb ?_
 refine l0_ ?_
 exact wp [(17,19)] ⟨rfl,rfl,rfl,rfl,rfl,rfl,(Qe (Qt2 v)),trivial⟩
 have q:=ab o
 refine w7 ?_
 refine lc (dP 20 [(0,2),(1,6),(2,13),(3,14),(4,15)] (Qbi c a ps ((([])++c.1)++([(name,3)])) cs as_ (k:Int) (by omega) f h.rng (by omega)) Qml) ?_
 refine Qb ?_
 refine w5 ?_
 refine Qb<|Q2 ⟨k+1,((WN c a (ps,cs,as_) (k:Int)).2.1),((WN c a (ps,cs,as_) (k:Int)).2.2),((WN c a (ps,cs,as_) (k:Int)).1),by omega,rfl,(by rw[m]; exact Qh1 (by show k < ps.length; omega) (by omega)),(Jx f h).1,(by have h_:(WN c a (ps,cs,as_) (k:Int)).2.2.length≤as_.length+4001:=(Jx (k:=(k:Int)) f h).2; omega),rfl⟩ (by omega) ?_
 exact wp [(13,22),(14,23),(15,24)] ⟨rfl,rfl,(Qe (by first | rfl | simp)),rfl,rfl,rfl,trivial⟩
 refine w3 ?_
 obtain ⟨A,H⟩:=gs a ((0:Int).toNat)
 refine w_ ?_
 refine lc (Qr (Qa rfl) (Qw 49 rfl) rfl) ?_
 refine w_ ?_
 cases d:(decide (A=49))
 have g:=aa d
 refine w2 ?_
 refine lgy rfl rfl (Qr (Qa rfl) (Qw 45 rfl) rfl) ?_
 refine w2 ?_
 refine cd_ (fun _ _=> ?_) fun _ _=> ?_
 refine w4 ?_
 refine lc (dP 25 [(0,2),(1,6),(2,11),(3,7),(4,9)] (ZG c a ([]) ((([])++c.1)++([(name,3)])) ([]) ([]) 0 0 (by omega) (by omega) E (by simp) (by omega)) XZ) ?_
 refine w_ ?_
 refine XP (y _ ⟨(cdP c ([]) ([]) (0,decide (0=1))),([]),(psP ([]) (0,decide (0=1))),(by first | (unfold WV VY; rw[Qv (p:=0) ‹_›]; simp[*]; done)),rfl⟩) ?_
 exact wp [(8,28),(10,29),(12,11)] ⟨rfl,rfl,(Qe (by first | rfl | simp)),rfl,rfl,rfl,trivial⟩
 refine w6 ?_
 refine lc (dP 30 [(0,2),(1,6),(2,11),(3,7),(4,9)] (ZG c a ([]) ((([])++c.1)++([(name,3)])) ([]) ([]) 0 1 (by omega) (by omega) E (by simp) (by omega)) XZ) ?_
 refine w_ ?_
 refine XP (y _ ⟨(cdP c ([]) ([]) (0,decide (1=1))),([]),(psP ([]) (0,decide (1=1))),(by first | (unfold WV VY; rw[Qv (p:=0) ‹_›]; simp[*]; done)),rfl⟩) ?_
 exact wp [(8,33),(10,34),(12,11)] ⟨rfl,rfl,(Qe (by first | rfl | simp)),rfl,rfl,rfl,trivial⟩
 have g:=ab d
 refine w12 ?_
 refine lc (dP 35 [(0,2),(1,6),(2,11),(3,7),(4,9)] (ZG c a ([]) ((([])++c.1)++([(name,3)])) ([]) ([]) 0 1 (by omega) (by omega) E (by simp) (by omega)) XZ) ?_
 refine w_ ?_
 refine XP (y _ ⟨(cdP c ([]) ([]) (0,decide (1=1))),([]),(psP ([]) (0,decide (1=1))),(by first | (unfold WV VY; rw[Qv (p:=0) ‹_›]; simp[*]; done)),rfl⟩) ?_
 exact wp [(8,38),(10,39),(12,11)] ⟨rfl,rfl,(Qe (by first | rfl | simp)),rfl,rfl,rfl,trivial⟩
theorem QbH (c:ZB)(name:ByteArray)(a:ByteArray)[∀c,Decidable (SgOk c)][∀s,Decidable (Zx s)](q:name.size≤10000000):FC Tryz.prog 90 [(true,[.dat Ql c.1, .dat Qm c.2.1, .dat Qu c.2.2]),(false,[dS name]),(false,[dS a])] [] 0 (Is (PV.tup [(true,[.ref 0, .ref 1, .ref 2]),(false,[.ref 3]),(false,[dB ((Z2 c name a).2)])]) [ar 0 44 Qz (((Z2 c name a).1.1).1),ar 1 9 .str (((Z2 c name a).1.1).2.1),ar 2 46 Qs (((Z2 c name a).1.1).2.2),ar 3 3 .int ((Z2 c name a).1.2)]):=by
 refine Qt Tryz.func90 rfl rfl Tryz.ntmps90 fun F e E t G C B=> ?_
 refine w_ ?_
 refine xbx 0 ?_
 refine lc (xal 1 X2 ZC) ?_
 refine w7 ?_
 refine lc (dK (Qck c a) Qqv) ?_
 refine w2 ?_
 cases D:(okP c a)
 refine w16 ?_
 refine w4 ?_
 refine lc (Qg ZU rfl (au.1 rfl) rfl rfl) ?_
 refine w4 ?_
 refine AC.wk (Qn 2 (p:=1) (off:=0) 44 Qz rfl rfl (Fresh.of rfl) (nlr rfl))<|AC.wk (Qn 3 (p:=1) (off:=1) 9 .str rfl rfl (Fresh.of rfl) (nlr rfl))<|AC.wk (Qn 4 (p:=1) (off:=2) 46 Qs rfl rfl (Fresh.of rfl) (nlr rfl))<|AC.wk (Wk.nilS 5 7 3 .int rfl (Fresh.of rfl) (nlr rfl))<|Qd ?_
 have u:(false:Bool)=((Z2 c name a).2):=by
  (rw[ZK (W2 ‹_›)]; done)
 exact fi_ [(0,2),(1,3),(2,4),(3,5)] e ⟨(Qe (by (rw[ZK (W2 ‹_›)]; rfl))),(Qe (by (rw[ZK (W2 ‹_›)]; rfl))),(Qe (by (rw[ZK (W2 ‹_›)]; rfl))),(Qe (by (rw[ZK (W2 ‹_›)]; rfl))),trivial⟩ (h0:=by rw[← u] <;> rfl)
 refine w2 ?_
 refine alL 17 fun _=> ?_
 refine w4 ?_
 cases f:(decide (8≤(c.1.length:Int)))
 have g:=aa f
 refine w_ ?_
 refine lgy rfl rfl (dK (QeD name) QlD) ?_
 refine w3 ?_
 cases h:(decide (Zx name))
 have m:=aa h
 refine w9 ?_
 refine lc (Qg ZU rfl (au.1 rfl) rfl rfl) ?_
 refine w4 ?_
 refine AC.wk (Qn 6 (p:=1) (off:=0) 44 Qz rfl rfl (Fresh.of rfl) (nlr rfl))<|AC.wk (Qn 7 (p:=1) (off:=1) 9 .str rfl rfl (Fresh.of rfl) (nlr rfl))<|AC.wk (Qn 8 (p:=1) (off:=2) 46 Qs rfl rfl (Fresh.of rfl) (nlr rfl))<|AC.wk (Wk.nilS 9 7 3 .int rfl (Fresh.of rfl) (nlr rfl))<|Qd ?_
 have x:(false:Bool)=((Z2 c name a).2):=by
  (rw[ZK (W9 ‹_›)]; done)
 exact fi_ [(0,6),(1,7),(2,8),(3,9)] e ⟨(Qe (by (rw[ZK (W9 ‹_›)]; rfl))),(Qe (by (rw[ZK (W9 ‹_›)]; rfl))),(Qe (by (rw[ZK (W9 ‹_›)]; rfl))),(Qe (by (rw[ZK (W9 ‹_›)]; rfl))),trivial⟩ (h0:=by rw[← x] <;> rfl)
 have m:=ab h
 refine w3 ?_
 refine lgy rfl rfl (dK (WT c.1 name) Qaf) ?_
 refine w3 ?_
 refine cd_ (fun _ _=> ?_) fun _ _=> ?_
 refine w_ ?_
 refine Yo ?_
 have r:SignsOk c a∧Xg c a=true:=QdF.1 ‹_›
 refine w4 ?_
 refine lc (dG 10 (Qb6 c name a r.1 q) Qmc) ?_
 refine w3 ?_
 refine lc (xal 14 X2 ZC) ?_
 refine w3 ?_
 apply dW (i3 41 _ _ _ (io 44 (lB (decide (SgOk (Xs c name (QR c a))))) :: ⟨none,lf (.val undef),[bx 1 27 [.ref 10, .ref 11, .ref 12]]⟩ :: i2 7 _ _ [])) [0,1,3,3,2,0,0]
 refine z3 ?_
 refine zz (fun _ d=>ac (YF (YO (Xs c name (QR c a))) WZ ⟨_,_,rfl,(XI (d.w rfl) ⟨_,_,rfl, .inr ⟨_,_,_,_,rfl,(d.n 10 rfl),rfl⟩,⟨_,_,rfl, .inr ⟨_,_,_,_,rfl,(d.n 11 rfl),rfl⟩,⟨_,_,rfl, .inr ⟨_,_,_,_,rfl,(d.n 12 rfl),rfl⟩,rfl⟩⟩⟩),rfl⟩ rfl rfl rfl) rfl)<|zz (fun _ d=>ac (QO (d.v rfl) (d.en 1 rfl) (d.w rfl) (by show QQ _ [.ref 10, .ref 11, .ref 12]=true; simp only[QQ,Xz,aY,br]; rw[(d.en 10 rfl),(d.en 11 rfl),(d.en 12 rfl)]; rfl) YL rfl) rfl) ?_
 exact y2
 refine w_ ?_
 have y:(decide (SgOk (Xs c name (QR c a))):Bool)=((Z2 c name a).2):=by
  (rw[Kf (XO ‹_› ‹_› ‹_› (by omega))]; done)
 exact fi_ [(0,10),(1,11),(2,12),(3,13)] e ⟨(Qe (by (rw[Kf (XO ‹_› ‹_› ‹_› (by omega))]; done))),(Qe (by (rw[Kf (XO ‹_› ‹_› ‹_› (by omega))]; done))),(Qe (by (rw[Kf (XO ‹_› ‹_› ‹_› (by omega))]; done))),(Qe (by (rw[Kf (XO ‹_› ‹_› ‹_› (by omega))]; done))),trivial⟩ (h0:=by rw[y] <;> rfl)
 refine w_ ?_
 refine lc (Qg ZU rfl (au.1 rfl) rfl rfl) ?_
 refine w4 ?_
 refine AC.wk (Qn 15 (p:=1) (off:=0) 44 Qz rfl rfl (Fresh.of rfl) (nlr rfl))<|AC.wk (Qn 16 (p:=1) (off:=1) 9 .str rfl rfl (Fresh.of rfl) (nlr rfl))<|AC.wk (Qn 17 (p:=1) (off:=2) 46 Qs rfl rfl (Fresh.of rfl) (nlr rfl))<|AC.wk (Wk.nilS 18 7 3 .int rfl (Fresh.of rfl) (nlr rfl))<|Qd ?_
 have A:(false:Bool)=((Z2 c name a).2):=by
  (rw[ZK (W4 ‹_›)]; done)
 exact fi_ [(0,15),(1,16),(2,17),(3,18)] e ⟨(Qe (by (rw[ZK (W4 ‹_›)]; rfl))),(Qe (by (rw[ZK (W4 ‹_›)]; rfl))),(Qe (by (rw[ZK (W4 ‹_›)]; rfl))),(Qe (by (rw[ZK (W4 ‹_›)]; rfl))),trivial⟩ (h0:=by rw[← A] <;> rfl)
 have g:=ab f
 refine w14 ?_
 refine lc (Qg ZU rfl (au.1 rfl) rfl rfl) ?_
 refine w4 ?_
 refine AC.wk (Qn 19 (p:=1) (off:=0) 44 Qz rfl rfl (Fresh.of rfl) (nlr rfl))<|AC.wk (Qn 20 (p:=1) (off:=1) 9 .str rfl rfl (Fresh.of rfl) (nlr rfl))<|AC.wk (Qn 21 (p:=1) (off:=2) 46 Qs rfl rfl (Fresh.of rfl) (nlr rfl))<|AC.wk (Wk.nilS 22 7 3 .int rfl (Fresh.of rfl) (nlr rfl))<|Qd ?_
 have o:(false:Bool)=((Z2 c name a).2):=by
  (rw[ZK (Qbx ‹_› ‹_›)]; done)
 exact fi_ [(0,19),(1,20),(2,21),(3,22)] e ⟨(Qe (by (rw[ZK (Qbx ‹_› ‹_›)]; rfl))),(Qe (by (rw[ZK (Qbx ‹_› ‹_›)]; rfl))),(Qe (by (rw[ZK (Qbx ‹_› ‹_›)]; rfl))),(Qe (by (rw[ZK (Qbx ‹_› ‹_›)]; rfl))),trivial⟩ (h0:=by rw[← o] <;> rfl)
end Go.Proofs.YtgpdhgadmjfokaaGreat
namespace Go.Proofs.YtgpdhgadmjfokaaGreat
open Go.RowKit
set_option maxRecDepth 100000
set_option maxHeartbeats 4000000
@[reducible] def QsO:(ByteArray)→Int→(ByteArray)×Int:=fun _ k=>(QvO (k),k+1)
@[reducible] def QvG:(QxD)→Int→(QxD)×Int:=fun _ k=>((k,k+1,decide ((k+1+1) % 3=0),k+1+1+1),k+1+1+1+1)
def mSG (c:DSg)(k:Int):DSg×Int:=(((QI fS c.1 k).1,(QI QsO c.2.1 (QI fS c.1 k).2).1,(QI QvG c.2.2 (QI QsO c.2.1 (QI fS c.1 k).2).2).1),(QI QvG c.2.2 (QI QsO c.2.1 (QI fS c.1 k).2).2).2)
section
variable [∀c,Decidable (SgOk c)][∀s,Decidable (Zx s)]
end
end Go.Proofs.YtgpdhgadmjfokaaGreat
namespace Go.Proofs.YtgpdhgadmjfokaaGreat
open Go.RowKit
theorem Qdw:∀{t:Ty} {w:World} {cs:List Value} {x y:t.Den},Rep t w cs x→Rep t w cs y→x=y
 | .int,_,_,x,y,h,k=>by have f:=h.1; have d:=k.1; rw[f] at d; simpa using d
 | .bool,_,_,x,y,h,k=>by have f:_=_:=h; have d:_=_:=k; rw[f] at d; simpa using d
 | .str,_,_,x,y,h,k=>by have f:=h.1; have d:=k.1; rw[f] at d; simpa using d
 | .u8,_,_,x,y,h,k=>by
  have f:_=_:=h; have d:_=_:=k; rw[f] at d
  simp only[aJ,Value.int.injEq,and_true,true_and] at d
  exact UInt8.toNat_inj.1 (by omega)
 | .vl,_,_,x,y,h,k=>by
  have f:_=_:=h; have d:_=_:=k; rw[f] at d
  exact QnK (by simpa using d)
 | .sl E e,w,cs,xs,ys,⟨A,c,f,d,h3,h4⟩,⟨A',c',k1,k2,k3,k4⟩=>by
  rw[f] at k1
  simp only[aJ,Value.slice.injEq,and_true] at k1
  obtain ⟨rfl,K,rfl⟩:=k1
  apply bK
  intro i
  rcases cZ i xs.length with m | m
  ·obtain ⟨b,o,B,C⟩:=h4 (by omega)
   obtain ⟨J,N,q,D⟩:=k4 (by omega)
   rw[B] at q
   cases q
   obtain ⟨p,u,H⟩:=C i xs[i] (ak m)
   obtain ⟨g,v,I⟩:=D i ys[i] (ak (by omega))
   have F:p=g:=by
    apply bK
    intro j
    have L:=u.len
    have M:=v.len
    rcases cZ j e.wd with G | G
    ·have z:=H j p[j] (ak (by omega))
     have n:=I j g[j] (ak (by omega))
     rw[z] at n
     rw[ak (by omega),ak (by omega)]
     exact n
    ·rw[bD (by omega),bD (by omega)]
   subst F
   rw[ak m,ak (by omega),Qdw u v]
  ·rw[bD m,bD (by omega)]
 | .pr a b,w,cs,x,y,⟨l,r,f,d,h3⟩,⟨l',r',k1,k2,k3⟩=>by
  rw[f] at k1
  obtain ⟨rfl,rfl⟩:=List.append_inj k1 (by rw[d.len,k2.len])
  exact dH (Qdw d k2) (Qdw h3 k3)
theorem QdT {E:TypeId}{e:Ty}{w:World}{fp:List Nat}{cs:List Value}{x:List e.Den}(h:Own (.sl E e) w fp cs x):∃v:Hdr,cs=[hdV v]:=by
 rcases h with ⟨_,h,_⟩ | ⟨g,a,b,fps,_,h,_⟩
 ·exact ⟨none,h⟩
 ·exact ⟨some (g,0,x.length,a),h⟩
open Classical in
noncomputable def rdF (E:TypeId) (e:Ty) (w:World) (v:Hdr):List e.Den:=if h:∃x,Rep (.sl E e) w [hdV v] x then h.choose else []
theorem Qew {E:TypeId}{e:Ty}{w:World}{v:Hdr}{x:List e.Den}(h:Rep (.sl E e) w [hdV v] x):rdF E e w v=x:=by
 have a:∃x,Rep (.sl E e) w [hdV v] x:=⟨x,h⟩
 unfold rdF
 rw[dif_pos a]
 exact Qdw a.choose_spec h
theorem QgU {E:TypeId}{e:Ty}{w:World}:∀{xs:List (List e.Den)} {fp:List Nat} {cs:List Value},OwnL (Own (.sl E e) w) fp cs xs→∃vs:List Hdr,cs=vs.map hdV∧vs.map (rdF E e w)=xs
 | [],_,_,h=>⟨[],h.2,rfl⟩
 | x :: xs,_,_,⟨f1,f2,c1,c2,h1,h2,h3,h4⟩=>by
  obtain ⟨v,rfl⟩:=QdT h3
  obtain ⟨vs,rfl,a⟩:=QgU h4
  exact ⟨v :: vs,by rw[h2]; rfl,by rw[be,a,Qew h3.rep]⟩
theorem Qbd {E:TypeId}{e:Ty}{w:World}{f:Hdr→List e.Den}:∀{vs:List Hdr} {fp:List Nat},OwnL (Own (.sl E e) w) fp (vs.map hdV) (vs.map f)→∀v∈vs,∃a,Own (.sl E e) w a [hdV v] (f v)∧∀g∈a,g∈fp
 | [],_,_,v,hv=>by cases hv
 | u :: vs,fp,h,v,hv=>by
  obtain ⟨j,o,c1,c2,rfl,d,i,k⟩:=h
  obtain ⟨z,rfl⟩:=QdT i
  simp only[be,cq,ci,aJ] at d
  obtain ⟨l,rfl⟩:=d
  rcases aD.1 hv with rfl | hv
  ·exact ⟨j,by rw[l]; exact i,fun g b=>aG _ b⟩
  ·obtain ⟨a,m,n⟩:=Qbd k v hv
   exact ⟨a,m,fun g b=>aN _ (n g b)⟩
theorem QnM {w:World}:∀(vs:List Hdr),OwnL (Own .vl w) [] (vs.map hdV) vs
 | []=>⟨rfl,rfl⟩
 | v :: vs=>⟨[],[],[hdV v],vs.map hdV,rfl,rfl,⟨rfl,rfl⟩,QnM vs⟩
theorem Qtr {E E':TypeId}{e:Ty}{w:World}{fp:List Nat}{v:Value}{xs:List (List e.Den)}(h:Own (.sl E (.sl E' e)) w fp [v] xs):
 ∃j k vs f,fp=j++k∧Own (.sl E .vl) w j [v] vs∧OwnL (Own (.sl E' e) w) k (vs.map hdV) (vs.map f)∧vs.map f=xs:=by
 rcases h with ⟨rfl,h,rfl⟩ | ⟨g,b,a,fps,rfl,n,o,r,p,q,d⟩
 ·exact ⟨[],[],[],fun _=>[],rfl, .inl ⟨rfl,h,rfl⟩,⟨rfl,rfl⟩,rfl⟩
 ·obtain ⟨vs,m,i⟩:=QgU d
  have l:vs.length=xs.length:=by rw[← i,aC]
  rw[m] at d
  refine ⟨[g],fps,vs,rdF E' e w,rfl, .inr ⟨g,b,a,[],rfl,by rw[l]; exact n,o,by omega,p,q, ?_⟩,by rw[i]; exact d,i⟩
  have:(a.toList.take (vs.length*Ty.wd .vl))=vs.map hdV:=by rw[l]; exact m
  rw[this]
  exact QnM vs
section
variable {A:Amb}{P:Program}{s:St}{Q:Exit→St→Prop}{c:Code}
theorem R.pool {q:Nat}(p:Nat){E E':TypeId}{e:Ty}{xs:List (List e.Den)}{a:Act}{w:World}(Y:s.tab.ent q=some (.arr E (.sl E' e) xs))(z:Fresh s p)(hk:A.k0≤p)(r:R A s a w):
 ∃(vs:List Hdr) (f:Hdr→List e.Den),vs.map f=xs∧R A ⟨s.tm,(p,some (.pl false (.sl E' e) vs f)) :: (q,some (.arr E .vl vs)) :: s.tab⟩ a w:=by
 obtain ⟨m,r⟩:=r
 have C:s.tab.al q:=⟨_,Y⟩
 have H:q≠p:=fun h=>z.al (h▸C)
 have hO:Own (.sl E (.sl E' e)) w (m.f q) [m.h q] xs:=r.cx.en q _ Y
 obtain ⟨D,W,vs,f,M,h2,h3,h4⟩:=Qtr hO
 have G:=r.cx.nd q C
 rw[M] at G
 obtain ⟨n1,n2,n3⟩:=aV.1 G
 have mg:∀g∈D,g∈m.f q:=fun g i=>by rw[M]; exact aG _ i
 have K:∀g∈W,g∈m.f q:=fun g i=>by rw[M]; exact aN _ i
 have l:∀t,Tab.al ((p,some (.pl false (.sl E' e) vs f)) :: (q,some (.arr E .vl vs)) :: s.tab) t→t=p∨(t≠p∧s.tab.al t):=fun t ⟨x,n⟩=>by
  by_cases d:t=p
  ·exact .inl d
  ·refine .inr ⟨d, ?_⟩
   rw[Qf,if_neg d,Qf] at n
   by_cases j:t=q
   ·rw[j]; exact C
   ·rw[if_neg j] at n; exact ⟨_,n⟩
 let k:Gh:=⟨fun t=>if t=p then .slice none 0 0 else m.h t,fun t=>if t=p then [] else if t=q then D else m.f t,fun g=>m.N g∨g∈W⟩
 have I:k.f q=D:=by show (if q=p then [] else if q=q then D else m.f q)=D; rw[if_neg H,if_pos rfl]
 have F:k.f p=[]:=if_pos rfl
 have L:∀t,t≠p→t≠q→k.f t=m.f t:=fun t d j=>by show (if t=p then [] else if t=q then D else m.f t)=_; rw[if_neg d,if_neg j]
 have J:∀t,t≠p→k.h t=m.h t:=fun t d=>if_neg d
 have o:∀t,t≠p→∀g∈k.f t,g∈m.f t:=fun t d g i=>by
  by_cases j:t=q
  ·rw[j,I] at i; rw[j]; exact mg g i
  ·rwa [L t d j] at i
 have X:∀g,m.N g→k.N g∧w.heap[g]? =w.heap[g]? :=fun g h=>⟨.inl h,rfl⟩
 refine ⟨vs,f,h4,k,r.step ⟨fun t x n=> ?_,fun t U y S hn g i B=> ?_,fun t y=> ?_,fun t y g i b=> ?_,fun g b=> ?_⟩ (fun t y=> ?_) X (Q9 w) (fun _ _ _=>rfl) (fun g b=> ?_) fun t y g i=> ?_⟩
 ·rw[Qf] at n
  by_cases d:t=p
  ·rw[if_pos d] at n
   cases n
   rw[d]
   refine ⟨if_pos rfl,F,fun v hv=> ?_⟩
   obtain ⟨fv,k1,k2⟩:=Qbd h3 v hv
   exact k1.rd fun g i=> .inr (k2 g i)
  ·rw[if_neg d,Qf] at n
   by_cases j:t=q
   ·rw[if_pos j] at n
    cases n
    show Own (.sl E .vl) w (k.f t) [k.h t] vs
    rw[j,I,J q H]
    exact h2
   ·rw[if_neg j] at n
    refine (r.cx.en t x n).mono (fun T O ha=> ?_) X (J t d) (L t d j) fun _ _=>rfl
    have V:T≠p:=fun h=>z.en t x n (h▸O)
    rcases l T ha with h | ⟨_,h⟩
    ·exact absurd h V
    ·exact ⟨h,J T V⟩
 ·rcases l t y with d | ⟨d,u⟩
  ·rw[d,F] at i; cases i
  ·rcases l U S with j | ⟨j,a2⟩
   ·rw[j,F] at B; cases B
   ·exact r.cx.dj t U u a2 hn g (o t d g i) (o U j g B)
 ·rcases l t y with d | ⟨d,u⟩
  ·rw[d,F]; exact bI
  ·by_cases j:t=q
   ·rw[j,I]; exact n1
   ·rw[L t d j]; exact r.cx.nd t u
 ·rcases l t y with d | ⟨d,u⟩
  ·rw[d,F] at i; cases i
  ·rcases b with b | b
   ·exact r.cx.no t u g (o t d g i) b
   ·by_cases j:t=q
    ·rw[j,I] at i; exact n3 g i g b rfl
    ·exact r.cx.dj t q u C j g (o t d g i) (K g b)
 ·rcases b with b | b
  ·exact r.cx.nl g b
  ·exact r.cx.lt C g (K g b)
 ·rcases l t y with d | ⟨d,u⟩
  ·rw[d]; exact .inr ⟨z,hk⟩
  ·exact .inl ⟨u,J t d,fun _=>rfl⟩
 ·rcases b with b | b
  ·exact .inl b
  ·exact .inr (.inr ⟨q,C,K g b,fun Z=>r.xn g Z (r.ox q C g (K g b) Z)⟩)
 ·rcases l t y with d | ⟨d,u⟩
  ·rw[d,F] at i; cases i
  ·exact .inr ⟨t,u,o t d g i⟩
theorem AC.pool {q:Nat}(p:Nat){E E':TypeId}{e:Ty}{xs:List (List e.Den)}(d:s.tab.ent q=some (.arr E (.sl E' e) xs))(b:Fresh s p)(g:A.k0≤p)
 (k:∀(vs:List Hdr) (f:Hdr→List e.Den),vs.map f=xs→AC A P c Q ⟨s.tm,(p,some (.pl false (.sl E' e) vs f)) :: (q,some (.arr E .vl vs)) :: s.tab⟩):AC A P c Q s:=fun a w r=>by
 obtain ⟨vs,f,h,i⟩:=R.pool p d b g r
 exact k vs f h a w i
theorem AL.pool {ops:Array Oper}{l:List Oper}{q:Nat}(p:Nat){E E':TypeId}{e:Ty}{xs:List (List e.Den)}(d:s.tab.ent q=some (.arr E (.sl E' e) xs))(b:Fresh s p)(g:A.k0≤p)
 (k:∀(vs:List Hdr) (f:Hdr→List e.Den),vs.map f=xs→AL A P ops l Q ⟨s.tm,(p,some (.pl false (.sl E' e) vs f)) :: (q,some (.arr E .vl vs)) :: s.tab⟩):AL A P ops l Q s:=fun a w r=>by
 obtain ⟨vs,f,h,i⟩:=R.pool p d b g r
 exact k vs f h a w i
theorem Evl.pl {x:Operand}{p:Nat}{e:Ty}{vs:List Hdr}{f:Hdr→e.Den}{v:Hdr}(j:Evl A s x (.dat .vl v))(i:s.tab.ent p=some (.pl false e vs f))(hv:v∈vs):Evl A s x (.dat e (f v)):=fun b a w r=>by
 obtain ⟨_,_,h⟩:=r.cx.en p _ i
 have d:Rd b.N .vl w [a.eval x] v:=j b a w r
 have g:[a.eval x]=[hdV v]:=d.rep
 show Rd b.N e w [a.eval x] (f v)
 rw[g]
 exact h v hv
theorem QrX {i q p:Nat}{E E':TypeId}{e:Ty}{zs vs:List Hdr}{f:Hdr→List e.Den}(hi:lk s.tm i=some (lf (.ref q)))(x:s.tab.ent q=some (.arr E .vl zs))(T:s.tab.ent p=some (.pl false (.sl E' e) vs f))(W:∀z∈zs,z∈vs):
 Wk A s ⟨(i,lf (.dat (.sl E (.sl E' e)) (zs.map f))) :: s.tm,(q,none) :: s.tab⟩:=fun a w r=>by
 obtain ⟨d,r⟩:=r
 obtain ⟨v,O,l,C,R⟩:=r.tm i _ hi
 simp only[aJ,and_true] at C
 subst C
 have V:v=d.h q:=R ⟨_,x⟩
 have S:Own (.sl E .vl) w (d.f q) [d.h q] zs:=r.cx.en q _ x
 obtain ⟨_,_,X⟩:=r.cx.en p _ T
 refine ⟨_,(r.freeze x).know O (pv:=lf (.dat (.sl E (.sl E' e)) (zs.map f))) ⟨_,rfl, ?_⟩⟩
 rw[V]
 show Rd (fun g=>d.N g∨g∈d.f q) (.sl E (.sl E' e)) w [d.h q] (zs.map f)
 obtain ⟨wM,Y,F⟩:=Qad (fun g=>d.N g∨g∈d.f q) w
 refine ⟨wM,Y, ?_⟩
 rcases S with ⟨_,o,t⟩ | ⟨g,n,G,fps,J,o,t,K,L,g6,M⟩
 ·subst t
  exact ⟨none,0,o,aO _,aS _,fun h=>absurd h (by simp)⟩
 ·refine ⟨_,n,by rw[aC]; exact o,by rw[aC]; exact K,L,fun _=>⟨g,0,rfl,fun j y D=> ?_⟩⟩
  rw[bc] at D
  obtain ⟨z,k,rfl⟩:=co.1 D
  obtain ⟨wN,w1,w2⟩:=X z (W z (ah k))
  refine ⟨[hdV z],w2.kp (w1.kp fun I B=>F I (.inl B)),fun b u U=> ?_⟩
  obtain ⟨fv,H,Z,o2,o3⟩:=M.get j z k
  have o4:H=[hdV z]:=Z.2
  subst o4
  have m:=o3 b u U
  rw[bu] at m
  split at m
  ·rw[World.cell?_of_block (F g (.inr (by rw[J]; simp)))]
   simp only[World.cell?,t]
   simpa using m
  ·cases m
end
end Go.Proofs.YtgpdhgadmjfokaaGreat
namespace Go.Proofs.YtgpdhgadmjfokaaGreat
open Go.RowKit
section
variable {A:Amb}{P:Program}{s:St}{x y:Operand}{d:Nat}{T T' ty:TypeId}{pos:String}{af:Array Edge}{g:Option (Nat×Bool)}
theorem QlW (m n:Nat)(e:m < 9223372036854775808)(f:n < 9223372036854775808):bits .andNot .i64 (m:Int) (n:Int)=((m ^^^ (m &&& n):Nat):Int):=by
 have a:(BitVec.ofInt 64 (m:Int)).toNat=m:=by rw[BitVec.ofInt_natCast,BitVec.toNat_ofNat]; exact cC (by omega)
 have b:(BitVec.ofInt 64 (n:Int)).toNat=n:=by rw[BitVec.ofInt_natCast,BitVec.toNat_ofNat]; exact cC (by omega)
 have h:m ^^^ (m &&& n) < 2 ^ 63:=Nat.xor_lt_two_pow (by omega) (Nat.and_lt_two_pow _ (by omega))
 have c:BitVec.ofInt 64 (m:Int) &&& ~~~(BitVec.ofInt 64 (n:Int))=BitVec.ofInt 64 (m:Int) ^^^ (BitVec.ofInt 64 (m:Int) &&& BitVec.ofInt 64 (n:Int)):=by
  ext i hi
  simp only[BitVec.getElem_and,BitVec.getElem_not,BitVec.getElem_xor]
  cases (BitVec.ofInt 64 (m:Int))[i] <;> cases (BitVec.ofInt 64 (n:Int))[i] <;> rfl
 show IntKind.i64.wrap ((BitVec.ofInt 64 (m:Int) &&& ~~~(BitVec.ofInt 64 (n:Int))).toNat:Int)=_
 rw[c,BitVec.toNat_xor,BitVec.toNat_and,a,b,IntWalk.i64_in _ (by omega)]
theorem Qke {m n:Int}(f:Evl A s x (dI m))(h:Evl A s y (dI n))(o:Nat.blt d A.n=true)(h0:0≤m)(b:0≤n):Does A P ⟨some d, .binOp .andNot T x y T',ty,pos,af,g⟩ s (s.put d (lf (dI ((m.toNat ^^^ (m.toNat &&& n.toNat):Nat):Int)))):=
 Qk rfl o fun c a w r=>by
  have j:=f.i r
  have k:=h.i r
  have q:=(LVR.int (f c a w r)).2
  have t:=(LVR.int (h c a w r)).2
  have e:=QlW m.toNat n.toNat (by omega) (by omega)
  rw[cE h0,cE b] at e
  have l:Op.intBits .andNot .i64 m n=pure (.int .i64 ((m.toNat ^^^ (m.toNat &&& n.toNat):Nat):Int)):=by rw[← e]; rfl
  have p:m.toNat ^^^ (m.toNat &&& n.toNat) < 2 ^ 63:=Nat.xor_lt_two_pow (by omega) (Nat.and_lt_two_pow _ (by omega))
  refine ⟨.int .i64 ((m.toNat ^^^ (m.toNat &&& n.toNat):Nat):Int), ?_,_,rfl,Ye (by omega)⟩
  simp only[execOp,j,k,eqGuard_at_int,binOp,l]
  simp
end
end Go.Proofs.YtgpdhgadmjfokaaGreat
