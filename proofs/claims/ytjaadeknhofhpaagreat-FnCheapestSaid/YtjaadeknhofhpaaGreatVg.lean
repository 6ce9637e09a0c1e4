/- Walks over abstract states: the reference puts a signal in. -/
import Derived.Test.YtjaadeknhofhpaaGreatVf
set_option linter.unusedSimpArgs false
set_option linter.unusedVariables false
set_option linter.unusedSectionVars false
namespace Go.Proofs.YtjaadeknhofhpaaGreat
open Go.RowKit
set_option maxRecDepth 100000
set_option maxHeartbeats 4000000
def vB (b:Bool):Int:=if b then 1 else 0
def ZM (p:PSt):Int:=2*p.1+vB p.2
def Qby (x:UInt8)(v:Int):Bool:=if x=48 then decide (v=0) else if x=49 then decide (v=1) else true
section
variable {c:DSg}{s:ByteArray}{ps:List PSt}{p:PSt}{cs:List ByteArray}{i:Nat}{k v z q:Int}{code:ByteArray}{a:DAr}
theorem Kr (b:Bool):vB b=0∨vB b=1:=by cases b <;> simp[vB]
theorem QdE (b:Bool):decide (vB b=1)=b:=by cases b <;> rfl
theorem Qbk (hv:v=0∨v=1):ZM p=2*k+v↔p=(k,decide (v=1)):=by
  obtain ⟨x,b⟩:=p
  simp only[ZM,Prod.mk.injEq]
  have:=Kr b
  constructor
  · intro h
    have h1:x=k:=by omega
    have h2:vB b=v:=by omega
    refine ⟨h1, ?_⟩
    rw[← h2,QdE]
  · rintro ⟨rfl, rfl⟩
    rcases hv with rfl | rfl <;> rfl
theorem QpE {α:Type _}[BEq α][LawfulBEq α]{l:List α}{i:Nat}{x:α}(h:l[i]? =some x)(hn:∀j,j < i→l[j]? ≠some x):l.idxOf x=i:=by
  induction l generalizing i with
  | nil=>simp at h
  | cons y l ih=>
    cases i with
    | zero=>simp at h; subst h; simp
    | succ i=>
      have h0:y≠x:=by have:=hn 0 (by omega); simpa using this
      rw[List.idxOf_cons,show (y==x)=false by simpa using h0]
      simp only[cond_false]
      rw[ih (by simpa using h) fun j hj=>by have:=hn (j+1) (by omega); simpa using this]
abbrev Qhp (k v:Int):Int→Bool:=fun z=>decide (z=2*k+v)
theorem QeK (h:(ps.map ZM)[i]? =some z):∃p,ps[i]? =some p∧z=ZM p:=by
  rw[b6] at h
  cases h2:ps[i]? with
  | none=>rw[h2] at h; cases h
  | some p=>rw[h2] at h; exact ⟨p,rfl,(cu h).symm⟩
theorem QqC (hv:v=0∨v=1)(hN:NoneTo (Qhp k v) (ps.map ZM) i)(hx:(ps.map ZM)[i]? =some z)(hz:z=2*k+v):ps[i]? =some (k,decide (v=1))∧(i:Int)=ixP ps (k,decide (v=1)):=by
  obtain ⟨p,h1,h2⟩:=QeK hx
  have h3:=(Qbk hv).1 (h2.symm.trans hz)
  rw[h3] at h1
  refine ⟨h1, ?_⟩
  unfold ixP
  rw[QpE h1 fun j hj hq=> ?_]
  have:=hN j hj (ZM (k,decide (v=1))) (by rw[b6,hq]; rfl)
  simp only[bp] at this
  exact this ((Qbk hv).2 rfl)
theorem QuZ (hv:v=0∨v=1)(hN:NoneTo (Qhp k v) (ps.map ZM) i)(hx:(ps.map ZM)[i]? =some z)(hz:z=2*k+v):(i:Int)=ixP ps (k,decide (v=1)):=(QqC hv hN hx hz).2
theorem QuJ (hv:v=0∨v=1)(hN:NoneTo (Qhp k v) (ps.map ZM) i)(hx:(ps.map ZM)[i]? =some z)(hz:z=2*k+v):ps.map ZM=(psP ps (k,decide (v=1))).map ZM:=by
  unfold psP; rw[if_pos (a8 (QqC hv hN hx hz).1)]
theorem Qu2 (hv:v=0∨v=1)(hN:NoneTo (Qhp k v) (ps.map ZM) i)(hx:(ps.map ZM)[i]? =some z)(hz:z=2*k+v):cs=cdP c ps cs (k,decide (v=1)):=by
  unfold cdP; rw[if_pos (a8 (QqC hv hN hx hz).1)]
theorem Qk9 (hv:v=0∨v=1)(hN:NoneTo (Qhp k v) (ps.map ZM) i)(hi:ps.length≤i):(k,decide (v=1))∉ps:=fun hm=>by
  obtain ⟨j,hj⟩:=aJ.1 hm
  have hl:=(ab.1 hj).1
  have:=hN j (by omega) (ZM (k,decide (v=1))) (by rw[b6,hj]; rfl)
  simp only[bp] at this
  exact this ((Qbk hv).2 rfl)
theorem Qvb (hv:v=0∨v=1)(hN:NoneTo (Qhp k v) (ps.map ZM) i)(hi:ps.length≤i):(((ps.map ZM)++[2*k+v]).length:Int) - 1=ixP ps (k,decide (v=1)):=by
  unfold ixP; rw[List.idxOf_eq_length (Qk9 hv hN hi)]; simp
theorem QuN (hv:v=0∨v=1)(hN:NoneTo (Qhp k v) (ps.map ZM) i)(hi:ps.length≤i):ps.map ZM++[2*k+v]=(psP ps (k,decide (v=1))).map ZM:=by
  unfold psP; rw[if_neg (Qk9 hv hN hi),bh,List.map_singleton,(Qbk hv).2 rfl]
theorem QuX (hv:v=0∨v=1)(hN:NoneTo (Qhp k v) (ps.map ZM) i)(hi:ps.length≤i)(hx:c.2.1[k.toNat]? =some code):cs++[code++⟨#[UInt8.ofNat (48+v).toNat]⟩]=cdP c ps cs (k,decide (v=1)):=by
  unfold cdP; rw[if_neg (Qk9 hv hN hi),W8 hx]
  rcases hv with rfl | rfl <;> rfl
theorem Qib:ZM p / 2=p.1:=by have:=Kr p.2; unfold ZM; omega
theorem QoO:ZM p % 2=vB p.2:=by have:=Kr p.2; unfold ZM; omega
theorem Qi1 (hm:Qby (bAt s a.2.2.2) (vB p.2)=false):X9 s p a=true:=by
  unfold Qby at hm
  unfold X9
  cases hb:p.2 <;> rw[hb] at hm <;> revert hm <;> (repeat' split) <;> simp_all [vB]
theorem QkV (ha:a.1=p.1)(hd:Zs s a=true)(he:(decide (bAt s p.1=43)==decide (vB p.2=0))=true):X9 s p a=true:=by
  unfold X9
  rw[hd]
  have:Yf s p=true:=by
    unfold Zs at hd
    unfold Yf
    rw[ha] at hd
    cases hb:p.2 <;> rw[hb] at he <;> simp_all [vB]
  simp[this]
theorem QiR (ha:a.1=p.1)(hm:Qby (bAt s a.2.2.2) (vB p.2)=true)(he:Zs s a=false∨(decide (bAt s p.1=43)==decide (vB p.2=0))=false):X9 s p a=false:=by
  have h3:(Yf s p&&Zs s a)=false:=by
    rcases he with he | he
    · rw[he,Bool.and_false]
    · cases hd : Zs s a with
      | false=>rw[Bool.and_false]
      | true=>
        unfold Zs at hd
        unfold Yf
        rw[ha] at hd
        cases hb:p.2 <;> rw[hb] at he <;> simp_all [vB]
  unfold X9
  rw[h3]
  unfold Qby at hm
  cases hb:p.2 <;> rw[hb] at hm <;> revert hm <;> (repeat' split) <;> simp_all [vB]
theorem QpI (h:Yf s p=true):(bAt s p.1=43∧p.2=false)∨(bAt s p.1=45∧p.2=true):=by
  unfold Yf at h
  simpa using h
theorem Qpn {st:Ins}(h1:bAt s p.1=43)(h2:vB p.2=0):QcH c s st q p=Kq c st q ((c.1.length:Int),true) (p.1,decide ((1:Int)=1)):=by
  have hb:p.2=false:=by cases h:p.2 <;> rw[h] at h2 <;> simp[vB] at h2
  rw[QcZ (by unfold Yf; rw[h1,hb]; rfl),h1,hb]; rfl
theorem Qn3 {st:Ins}(h1:bAt s p.1=45)(h2:vB p.2=1):QcH c s st q p=Kq c st q ((c.1.length:Int),false) (p.1,decide ((0:Int)=1)):=by
  have hb:p.2=true:=by cases h:p.2 <;> rw[h] at h2 <;> simp[vB] at h2
  rw[QcZ (by unfold Yf; rw[h1,hb]; rfl),h1,hb]; rfl
theorem QeC {st:Ins}(h1:bAt s p.1=43→¬vB p.2=0)(h2:bAt s p.1=45→¬vB p.2=1):QcH c s st q p=st:=by
  refine QgB ?_
  cases h:Yf s p with
  | false=>rfl
  | true=>
    rcases QpI h with ⟨h3,h4⟩ | ⟨h3,h4⟩
    · exact absurd (by rw[h4]; rfl) (h1 h3)
    · exact absurd (by rw[h4]; rfl) (h2 h3)
end
theorem Hq (n:Int)(hn:0≤n∧n≤9):FC Tryz.prog 285 [(false,[dI n])] [] 0 (Zk (lf (dS (⟨#[UInt8.ofNat (48+n).toNat]⟩:ByteArray)))):=by
 have hn10:decide (n < 10)=true:=aI (by omega)
 refine Qy Tryz.func285 rfl rfl Tryz.ntmps285 fun O_ hO w0_ N0_ X_ h0_ f0_=> ?_
 refine AC.fact (Ql (x:= .tmp 0) (Qa rfl)) fun hi1=> ?_
 iterate 8 refine w_ ?_
 cases hb2:(decide (n < 10))
 exact absurd (hb2.symm.trans (show (decide (n < 10))=true from hn10)) (by decide)
 have hb2':=a7 hb2
 iterate 4 refine w_ ?_
 refine lc (Qna (Qa rfl) Hy Ve (by omega) (by omega) rfl) ?_
 refine lc (dBs 0 (e:= .u8) Qdl) ?_
 refine lc (Zt (ys:=[UInt8.ofNat (48+n).toNat]) (YS (Qa rfl) rfl) ZF Ve Zo rfl) ?_
 iterate 3 refine w_ ?_
 subst hO
 exact Qe (Res.one rfl (Qb rfl)) rfl rfl
theorem ZK (c:DSg)(signs:ByteArray)(ps:List PSt)(ss:List QJ)(cs:List ByteArray)(as_:List DAr)(k:Int)(v:Int)(hp:0≤k∧k < (c.2.1.length:Int))(hv:v=0∨v=1)(hc:∀x∈c.2.1,x.size≤1000)(hl:ps.length≤1000000∧cs.length≤1000000)(hn:c.2.1.length≤1000000):FC Tryz.prog 323 [(false,[.ptr 0 0]),(false,[dI k]),(false,[dI v])] [(0,some (.box 337 [.dat Qo c.1, .dat Qr c.2.1, .dat QD c.2.2,dS signs, .ref 3, .ref 1, .ref 4, .ref 2])),(3,some (.arr 3 .int (ps.map ZM))),(1,some (.arr 90 QK ss)),(4,some (.arr 9 .str cs)),(2,some (.arr 106 QA as_))] 3 (Is (lI (ixP ps (k,decide (v=1)))) [(0,some (.box 337 [.dat Qo c.1, .dat Qr c.2.1, .dat QD c.2.2,dS signs, .ref 3, .ref 1, .ref 4, .ref 2])),(3,some (.arr 3 .int ((psP ps (k,decide (v=1))).map ZM))),(1,some (.arr 90 QK ss)),(4,some (.arr 9 .str (cdP c ps cs (k,decide (v=1))))),(2,some (.arr 106 QA as_))]):=by
 have hml:(ps.map ZM).length=ps.length:=aF ..
 refine Qy Tryz.func323 rfl rfl Tryz.ntmps323 fun O_ hO w0_ N0_ X_ h0_ f0_=> ?_
 refine AC.fact (Ql (x:= .tmp 1) (Qa rfl)) fun hi1=>AC.fact (Ql (x:= .tmp 2) (Qa rfl)) fun hi2=> ?_
 iterate 13 refine w_ ?_
 refine Qm (fun m_ s_=>∃(i:Nat),i≤ps.length∧m_=ps.length - i∧(NoneTo (Qhp k v) (ps.map ZM) i)∧s_=⟨[(0,lP 0 0),(1,lI k),(2,lI v),(12,lR 3),(13,lI ((ps.map ZM).length:Int)),(14,lI (i:Int))],[(0,some (.box 337 [.dat Qo c.1, .dat Qr c.2.1, .dat QD c.2.2,dS signs, .ref 3, .ref 1, .ref 4, .ref 2])),(1,some (.arr 90 QK ss)),(2,some (.arr 106 QA as_)),(3,some (.arr 3 .int (ps.map ZM))),(4,some (.arr 9 .str cs))]⟩) ⟨0,ap _,rfl,NoneTo.zero,rfl⟩ ?_ ?_
 exact wo []
 rintro m_ s_ ⟨i,hk3,hm4,hN,rfl⟩
 iterate 4 refine w_ ?_
 cases hb5:(decide ((i:Int) < ((ps.map ZM).length:Int)))
 have hb5':=a6 hb5
 iterate 10 refine w_ ?_
 refine lc (W6 (Qu rfl) (Qa rfl) rfl (by first | omega | (simp only[aa,aF,ao,aD]; omega))) ?_
 refine w_ ?_
 refine lc (XS (Qa rfl) (Qa rfl) rfl (by first | omega | (simp only[aa,aF,ao,aD]; omega))) ?_
 refine lc (dBs 5 (e:= .int) YD) ?_
 refine lc (dA 6 XR) ?_
 iterate 4 refine w_ ?_
 obtain ⟨x6,hx7⟩:=gx c.2.1 ((k).toNat)
 have hczx6:=hc _ (a8 hx7)
 apply dW [io 40 _,io 41 _,io 42 _,io 43 _,io 44 _,io 45 _,io 46 _,io 47 _,io 48 _,io 49 _,io 50 _,io 51 _,io 52 _,io 53 _,io 54 _,io 55 (lf (dS (⟨#[UInt8.ofNat (48+v).toNat]⟩:ByteArray))),io 56 (lf (dS (x6++(⟨#[UInt8.ofNat (48+v).toNat]⟩:ByteArray)))),⟨some 57,lR 7,[(7,some (.arr 9 .str ([x6++(⟨#[UInt8.ofNat (48+v).toNat]⟩:ByteArray)])))]⟩,⟨some 58,lR 8,[(8,some (.arr 9 .str (cs++([x6++(⟨#[UInt8.ofNat (48+v).toNat]⟩:ByteArray)])))),(4,none),(7,none)]⟩,io 59 _,io 60 _,io 61 _,⟨none,lf (.val undef),[(0,some (.box 337 [.dat Qo c.1, .dat Qr c.2.1, .dat QD c.2.2,dS signs, .ref 6, .ref 1, .ref 8, .ref 2]))]⟩] [0,1,1,1,1,1,63,63,63,63,63,2047,63,63,16383,16383,63,63,1,0,0,0,0]
 iterate 15 refine z_ ?_
 refine zz (fun _ h_=>ac (dK (Hq v (by omega)) QdU) rfl) ?_
 refine zz (fun _ h_=>ac (ZR (h_.v rfl) (h_.v rfl) rfl (by first | omega | (simp only[X5]; omega))) rfl) ?_
 refine zz (fun _ h_=>ac (dBs 7 (e:= .str) U2) rfl) ?_
 refine zz (fun _ h_=>ac (dA 8 Qcd) rfl) ?_
 iterate 3 refine z_ ?_
 refine zz (fun _ h_=>ac (QZ (h_.v rfl) (h_.en 0 rfl) (h_.w rfl) (by simp only[Q6,Wx,aW,bc]; rw[(h_.en 8 rfl)]; rfl) Qjs rfl) rfl) ?_
 exact zN
 iterate 6 refine w_ ?_
 refine lc (Vi (Qa rfl) (Qu rfl) rfl (by first | omega | (simp only[aa,aF,ao,aD]; omega))) ?_
 iterate 3 refine w_ ?_
 subst hO
 have e8:((((ps.map ZM)++([(2*k)+v])).length:Int) - 1:Int)=(ixP ps (k,decide (v=1))):=by
  exact Qvb hv hN (by omega)
 exact QF _ _ [(3,6),(4,8)] (Res.one rfl (Qb rfl)) (by rw[e8] <;> rfl) ⟨rfl,(Qh (by exact QuN hv hN (by omega))),rfl,(Qh (by exact QuX hv hN (by omega) ‹_›)),rfl,trivial⟩ rfl rfl
 have hb5':=a7 hb5
 iterate 7 refine w_ ?_
 obtain ⟨x9,hx10⟩:=gx (ps.map ZM) i
 refine w_ ?_
 refine AL.fact (Ql (x:= .tmp 18) (Qa rfl)) fun hi11=> ?_
 iterate 6 refine w_ ?_
 refine lc (W6 (Qu rfl) (Qa rfl) rfl (by first | omega | (simp only[aa,aF,ao,aD]; omega))) ?_
 refine w_ ?_
 refine lc (XS (Qa rfl) (Qa rfl) rfl (by first | omega | (simp only[aa,aF,ao,aD]; omega))) ?_
 iterate 2 refine w_ ?_
 cases hb12:(decide (x9=((2*k)+v)))
 have hb12':=a6 hb12
 iterate 4 refine w_ ?_
 refine lc (XS (Qa rfl) (Qu rfl) rfl (by first | omega | (simp only[aa,aF,ao,aD]; omega))) ?_
 refine w_ ?_
 refine Qc<|QE ⟨i+1,by omega,rfl,hN.step hx10 ‹_›,rfl⟩ (by omega) ?_
 exact wo []
 have hb12':=a7 hb12
 iterate 6 refine w_ ?_
 subst hO
 have e13:((i:Int):Int)=(ixP ps (k,decide (v=1))):=by
  exact QuZ hv hN hx10 ‹_›
 exact QF _ _ [] (Res.one rfl (Qb rfl)) (by rw[e13] <;> rfl) ⟨rfl,(Qh (by exact QuJ hv hN hx10 ‹_›)),rfl,(Qh (by exact Qu2 hv hN hx10 ‹_›)),rfl,trivial⟩ rfl rfl
theorem U7 (c:DSg)(signs:ByteArray)(ps:List PSt)(ss:List QJ)(cs:List ByteArray)(as_:List DAr)(k:Int)(v:Int)(hk:0≤k∧k < (signs.size:Int)):FC Tryz.prog 362 [(false,[.ptr 0 0]),(false,[dI k]),(false,[dI v])] [(0,some (.box 337 [.dat Qo c.1, .dat Qr c.2.1, .dat QD c.2.2,dS signs, .ref 1, .ref 2, .ref 3, .ref 4])),(1,some (.arr 3 .int (ps.map ZM))),(2,some (.arr 90 QK ss)),(3,some (.arr 9 .str cs)),(4,some (.arr 106 QA as_))] 5 (Is (lB (Qby (bAt signs k) v)) [(0,some (.box 337 [.dat Qo c.1, .dat Qr c.2.1, .dat QD c.2.2,dS signs, .ref 1, .ref 2, .ref 3, .ref 4])),(1,some (.arr 3 .int (ps.map ZM))),(2,some (.arr 90 QK ss)),(3,some (.arr 9 .str cs)),(4,some (.arr 106 QA as_))]):=by
 refine Qy Tryz.func362 rfl rfl Tryz.ntmps362 fun O_ hO w0_ N0_ X_ h0_ f0_=> ?_
 refine AC.fact (Ql (x:= .tmp 1) (Qa rfl)) fun hi1=>AC.fact (Ql (x:= .tmp 2) (Qa rfl)) fun hi2=> ?_
 iterate 10 refine w_ ?_
 obtain ⟨c3,hc4⟩:=gs signs ((k).toNat)
 iterate 4 refine w_ ?_
 refine lc (Qt (Qa rfl) (QB 48 rfl) rfl) ?_
 iterate 2 refine w_ ?_
 cases hb5:(decide (c3=48))
 have hb5':=a6 hb5
 iterate 2 refine w_ ?_
 refine lc (Qt (Qa rfl) (QB 49 rfl) rfl) ?_
 iterate 2 refine w_ ?_
 cases hb6:(decide (c3=49))
 have hb6':=a6 hb6
 iterate 7 refine w_ ?_
 subst hO
 have e7:(true:Bool)=(Qby (bAt signs k) v):=by
  first | (unfold Qby; rw[QC ‹_›]; simp[*]; done)
 exact QF _ _ [] (Res.one rfl (Qb rfl)) (by rw[← e7] <;> rfl) ⟨rfl,rfl,rfl,rfl,rfl,trivial⟩ rfl rfl
 have hb6':=a7 hb6
 iterate 7 refine w_ ?_
 subst hO
 have e8:(decide (v=1):Bool)=(Qby (bAt signs k) v):=by
  first | (unfold Qby; rw[QC ‹_›]; simp[*]; done)
 exact QF _ _ [] (Res.one rfl (Qb rfl)) (by rw[e8] <;> rfl) ⟨rfl,rfl,rfl,rfl,rfl,trivial⟩ rfl rfl
 have hb5':=a7 hb5
 iterate 7 refine w_ ?_
 subst hO
 have e9:(decide (v=0):Bool)=(Qby (bAt signs k) v):=by
  first | (unfold Qby; rw[QC ‹_›]; simp[*]; done)
 exact QF _ _ [] (Res.one rfl (Qb rfl)) (by rw[e9] <;> rfl) ⟨rfl,rfl,rfl,rfl,rfl,trivial⟩ rfl rfl
theorem Qa7 (c:DSg)(signs:ByteArray)(ps:List PSt)(ss:List QJ)(cs:List ByteArray)(as_:List DAr)(q:Int)(hk:0≤q∧q < (ps.length:Int))(hs:SignsOk c signs)(hps:∀p∈ps,0≤p.1∧p.1 < (c.2.1.length:Int))(hl:ps.length≤10000∧cs.length≤10000∧as_.length≤90000000):FC Tryz.prog 324 [(false,[.ptr 0 0]),(false,[dI q])] [(0,some (.box 337 [.dat Qo c.1, .dat Qr c.2.1, .dat QD c.2.2,dS signs, .ref 2, .ref 1, .ref 3, .ref 4])),(2,some (.arr 3 .int (ps.map ZM))),(1,some (.arr 90 QK ss)),(3,some (.arr 9 .str cs)),(4,some (.arr 106 QA as_))] 2 (Is (PV.tup []) [(0,some (.box 337 [.dat Qo c.1, .dat Qr c.2.1, .dat QD c.2.2,dS signs, .ref 2, .ref 1, .ref 3, .ref 4])),(2,some (.arr 3 .int (((Vw c signs (ps,cs,as_) q).1).map ZM))),(1,some (.arr 90 QK ss)),(3,some (.arr 9 .str ((Vw c signs (ps,cs,as_) q).2.1))),(4,some (.arr 106 QA ((Vw c signs (ps,cs,as_) q).2.2)))]):=by
 have hsz:=hs.2.1
 have hn3:=hs.2.2.some_
 have hfw:=hs.2.2.few
 have hsl:=UF hs.2.2.sigs
 have hc:∀x∈c.2.1,x.size≤1000:=fun x hx=>by have:=(hs.2.2.codes x hx).2; omega
 have hml:(ps.map ZM).length=ps.length:=aF ..
 refine Qy Tryz.func324 rfl rfl Tryz.ntmps324 fun O_ hO w0_ N0_ X_ h0_ f0_=> ?_
 refine AC.fact (Ql (x:= .tmp 1) (Qa rfl)) fun hi1=> ?_
 obtain ⟨z,hx3⟩:=gx (ps.map ZM) ((q).toNat)
 have hz0z:0≤z:=by obtain ⟨p_,h1_,h2_⟩:=QeK hx3; have:=hps _ (a8 h1_); have:=Kr p_.2; rw[h2_]; unfold ZM; omega
 apply dW [io 10 _,io 11 _,io 12 _,io 13 _,io 14 _,io 15 (lf (.ept 2 1 ((q).toNat) 0)),io 16 (lI z),io 17 (lI (z / 2)),io 18 _,io 19 _,io 20 _,io 21 _,io 22 _,io 23 (lf (.ept 2 1 ((q).toNat) 0)),io 24 (lI z),io 25 (lI (z % 2)),io 4 _,io 5 _] [0,0,0,0,15,0,0,0,255,255,255,255,4095,255,255,255,65280,0]
 iterate 5 refine z_ ?_
 refine zz (fun _ h_=>ac (QS (e:= .int) (h_.v rfl) (h_.en 2 rfl) (h_.v rfl) YZ WK rfl (by omega) (by first | omega | (simp only[au]; omega))) rfl)<|zz (fun _ h_=>ac (Zp (e:= .int) (h_.v rfl) (h_.n 2 rfl) hx3 rfl WK rfl rfl) rfl)<|zz (fun _ h_=>ac (QeB (h_.v rfl) (Qu rfl) rfl (by omega) (by omega)) rfl) ?_
 iterate 5 refine z_ ?_
 refine zz (fun _ h_=>ac (QS (e:= .int) (h_.v rfl) (h_.en 2 rfl) (h_.v rfl) YZ WK rfl (by omega) (by first | omega | (simp only[au]; omega))) rfl)<|zz (fun _ h_=>ac (Zp (e:= .int) (h_.v rfl) (h_.n 2 rfl) hx3 rfl WK rfl rfl) rfl)<|zz (fun _ h_=>ac (QeS (h_.v rfl) (Qu rfl) rfl (by omega) (by omega)) rfl) ?_
 iterate 2 refine z_ ?_
 exact zN
 refine Yd ?_
 obtain ⟨p,hxp,hzp⟩:=QeK hx3
 have hz1:z / 2=p.1:=by rw[hzp]; exact Qib
 have hz2:z % 2=vB p.2:=by rw[hzp]; exact QoO
 rw[hz1,hz2]
 have hpr:=hps _ (a8 hxp)
 have hfl:=Qa6 (l:=c.2.2) (q:=p.1)
 have hvr:=Kr p.2
 iterate 6 refine w_ ?_
 refine AL.fact (Qp (x:= .tmp 30) (Qa rfl)) fun hl4=> ?_
 iterate 3 refine w_ ?_
 refine QdX (fun s_=>∃(cs2:List ByteArray) (as2:List (Int×Int×Bool×Int)) (ps2:List PSt),((ps2,cs2,as2)=QcH c signs (ps,cs,as_) q p)∧(ps2.length≤ps.length+1∧cs2.length≤cs.length+1∧as2.length≤as_.length+1)∧s_=⟨[(0,lP 0 0),(1,lI q),(4,lI p.1),(5,lI (vB p.2))],[(0,some (.box 337 [.dat Qo c.1, .dat Qr c.2.1, .dat QD c.2.2,dS signs, .ref 5, .ref 1, .ref 6, .ref 7])),(1,some (.arr 90 QK ss)),(5,some (.arr 3 .int (ps2.map ZM))),(6,some (.arr 9 .str cs2)),(7,some (.arr 106 QA as2))]⟩) ?_ fun J5=> ?_
 rintro s_ ⟨cs2,as2,ps2,hP,hl2,rfl⟩
 iterate 6 refine w_ ?_
 refine lc (dK (Qdu c p.1 (by omega)).frozen QjL) ?_
 refine AL.fact (Qp (x:= .tmp 93) (Qa rfl)) fun hl6=> ?_
 iterate 4 refine w_ ?_
 refine Qm (fun m_ s_=>∃(i:Nat) (cs3:List ByteArray) (as3:List (Int×Int×Bool×Int)) (ps3:List PSt),i≤(Z7 c.2.2 p.1).length∧m_=(Z7 c.2.2 p.1).length - i∧(Vw c signs (ps,cs,as_) q=((Z7 c.2.2 p.1).drop i).foldl (K9 c signs q p) (ps3,cs3,as3))∧(ps3.length≤ps.length+1+i∧cs3.length≤cs.length+1+i∧as3.length≤as_.length+1+i)∧s_=⟨[(0,lP 0 0),(1,lI q),(4,lI p.1),(5,lI (vB p.2)),(93,lf (.dat QD (Z7 c.2.2 p.1))),(94,lI ((Z7 c.2.2 p.1).length:Int)),(95,lI (i:Int))],[(0,some (.box 337 [.dat Qo c.1, .dat Qr c.2.1, .dat QD c.2.2,dS signs, .ref 8, .ref 1, .ref 9, .ref 10])),(1,some (.arr 90 QK ss)),(8,some (.arr 3 .int (ps3.map ZM))),(9,some (.arr 9 .str cs3)),(10,some (.arr 106 QA as3))]⟩) ⟨0,cs2,as2,ps2,ap _,rfl,(by rw[hP]; exact Ql0 hxp),(by omega),rfl⟩ ?_ ?_
 exact wo [(8,5),(9,6),(10,7)]
 rintro m_ s_ ⟨i,cs3,as3,ps3,hk7,hm8,hA,hl3,rfl⟩
 iterate 4 refine w_ ?_
 cases hb9:(decide ((i:Int) < ((Z7 c.2.2 p.1).length:Int)))
 have hb9':=a6 hb9
 iterate 2 refine w_ ?_
 refine (?_:fin _ _ _ _ .normal _)
 subst hO
 exact QF _ _ [(2,8),(3,9),(4,10)] (JH rfl) (rfl) ⟨rfl,(Qh (by (rw[hA,VI (by omega)]; done))),rfl,(Qh (by (rw[hA,VI (by omega)]; done))),(Qh (by (rw[hA,VI (by omega)]; done))),trivial⟩ rfl rfl
 have hb9':=a7 hb9
 iterate 5 refine w_ ?_
 obtain ⟨x10,hx11⟩:=gx (Z7 c.2.2 p.1) i
 have hmx10:=Qd6.1 (a8 hx11)
 have hrx10:=hs.at_ hmx10.1
 iterate 2 refine w_ ?_
 refine lc (xal 11 QA Za) ?_
 iterate 2 refine w_ ?_
 cases hb12:(Zs signs x10)
 apply dW [io 99 _,io 100 _,io 101 _,io 102 _,io 103 _,io 104 (lB false),io 105 _,io 106 _,io 107 _,io 108 _,io 109 _,io 110 _,io 111 _,io 112 _,io 113 _,io 114 _,io 115 _,io 116 _,io 9 _] [0,0,0,0,15,0,0,0,0,0,0,1920,0,0,16256,16256,0,0,0]
 iterate 5 refine z_ ?_
 refine zz (fun _ h_=>ac (QL (hb12) (dK (WM signs x10 (by omega) (by omega)) HL)) rfl) ?_
 iterate 13 refine z_ ?_
 exact zN
 iterate 4 refine w_ ?_
 refine AL.fact (Ql (x:= .tmp 119) (Qa rfl)) fun hi13=> ?_
 refine w_ ?_
 refine lc (dP 12 [(1,8),(2,1),(3,9),(4,10)] (U7 c signs ps3 ss cs3 as3 x10.2.2.2 (vB p.2) (by omega)) Qeo) ?_
 refine w_ ?_
 cases hb14:(Qby (bAt signs x10.2.2.2) (vB p.2))
 iterate 10 refine w_ ?_
 refine Qc<|QE ⟨i+1,cs3,as3,ps3,by omega,rfl,(by (rw[hA,ZZ hx11,Wl (Qi1 ‹_›)]; done)),(by omega),rfl⟩ (by omega) ?_
 exact wo []
 iterate 5 refine w_ ?_
 apply dV [io 126 _,io 127 _,io 128 (lP 0 0),io 129 (lP 0 5),io 130 (lP 0 7),io 131 (lR 10),io 132 _,io 133 _,io 134 _,io 135 _,io 136 _,io 137 _,io 138 _,io 139 _,io 140 _,⟨some 141,lI (ixP ps3 (x10.2.2.2,decide ((vB p.2)=1))),[(0,some (.box 337 [.dat Qo c.1, .dat Qr c.2.1, .dat QD c.2.2,dS signs, .ref 20, .ref 1, .ref 21, .ref 10])),(20,some (.arr 3 .int ((psP ps3 (x10.2.2.2,decide ((vB p.2)=1))).map ZM))),(1,some (.arr 90 QK ss)),(21,some (.arr 9 .str (cdP c ps3 cs3 (x10.2.2.2,decide ((vB p.2)=1))))),(10,some (.arr 106 QA as3)),(0,none),(8,none),(1,none),(9,none),(10,none)]⟩,io 142 (ag [dI q,dI x10.2.1,dB x10.2.2.1,dI (ixP ps3 (x10.2.2.2,decide ((vB p.2)=1)))]),⟨some 143,lR 22,[(22,some (.arr 106 QA ([(q,x10.2.1,x10.2.2.1,ixP ps3 (x10.2.2.2,decide ((vB p.2)=1)))])))]⟩,⟨some 144,lR 23,[(23,some (.arr 106 QA (as3++([(q,x10.2.1,x10.2.2.1,ixP ps3 (x10.2.2.2,decide ((vB p.2)=1)))])))),(10,none),(22,none)]⟩,io 145 _,io 146 _,io 147 _,⟨none,lf (.val undef),[(0,some (.box 337 [.dat Qo c.1, .dat Qr c.2.1, .dat QD c.2.2,dS signs, .ref 20, .ref 1, .ref 21, .ref 23]))]⟩] [0,1,1,1,1,1,63,127,127,511,511,2047,4095,4095,16383,2047,63,63,1,0,0,0,0]
 iterate 2 refine z_ ?_
 refine zz (fun _ h_=>by rcases h_.en2 0 15 rfl with hq0 | hq0 <;> exact ac (Wo (h_.v rfl) (by rw[hq0]; rfl) rfl) rfl)<|zz (fun _ h_=>by rcases h_.en2 0 15 rfl with hq0 | hq0 <;> exact ac (ZN (h_.v rfl) Hd (by rw[hq0]; rfl) rfl) rfl)<|zz (fun _ h_=>by rcases h_.en2 0 15 rfl with hq0 | hq0 <;> exact ac (ZN (h_.v rfl) Jj (by rw[hq0]; rfl) rfl) rfl)<|zz (fun _ h_=>by rcases h_.en2 0 15 rfl with hq0 | hq0 <;> exact ac (Xs (h_.v rfl) hq0 UC rfl rfl) rfl) ?_
 iterate 9 refine z_ ?_
 refine zz (fun _ h_=>ac (dP 17 [(2,10),(3,8),(4,9)] (ZK c signs ps3 ss cs3 as3 x10.2.2.2 (vB p.2) (by omega) (by omega) hc (by omega) (by omega)) X6) rfl) ?_
 refine zz (fun _ h_=>ac (Qi JV ⟨_,_,rfl,(h_.w rfl),⟨_,_,rfl,(h_.w rfl),⟨_,_,rfl,(h_.w rfl),⟨_,_,rfl,(h_.w rfl),rfl⟩⟩⟩⟩ (ah.1 rfl) rfl rfl) rfl) ?_
 refine zz (fun _ h_=>ac (dBs 22 (e:=QA) Za (hab:=by exact ⟨_,_,_,_,rfl,⟨[dI q],[dI x10.2.1,dB x10.2.2.1,dI (ixP ps3 (x10.2.2.2,decide ((vB p.2)=1)))],_,_,_,_,rfl,rfl,⟨rfl,rfl⟩,⟨[dI x10.2.1],[dB x10.2.2.1,dI (ixP ps3 (x10.2.2.2,decide ((vB p.2)=1)))],_,_,_,_,rfl,rfl,⟨rfl,rfl⟩,⟨[dB x10.2.2.1],[dI (ixP ps3 (x10.2.2.2,decide ((vB p.2)=1)))],_,_,_,_,rfl,rfl,⟨rfl,rfl⟩,⟨rfl,rfl⟩,rfl⟩,rfl⟩,rfl⟩,⟨rfl,rfl⟩,rfl⟩)) rfl) ?_
 refine zz (fun _ h_=>ac (dA 23 Uh) rfl) ?_
 iterate 3 refine z_ ?_
 refine zz (fun _ h_=>ac (QZ (h_.v rfl) (h_.en 0 rfl) (h_.w rfl) (by simp only[Q6,Wx,aW,bc]; rw[(h_.en 23 rfl)]; rfl) UC rfl) rfl) ?_
 exact zN
 iterate 4 refine w_ ?_
 refine Qc<|QE ⟨i+1,(cdP c ps3 cs3 (x10.2.2.2,decide ((vB p.2)=1))),(as3++([(q,x10.2.1,x10.2.2.1,ixP ps3 (x10.2.2.2,decide ((vB p.2)=1)))])),(psP ps3 (x10.2.2.2,decide ((vB p.2)=1))),by omega,rfl,(by (rw[hA,ZZ hx11,Vb (QiR hmx10.2 ‹_› (by first | exact .inl ‹_› | exact .inr (by rw[QC ‹_›]; assumption)))]; simp[Kq,QdE]; done)),(by (exact ⟨b4 XT (by omega),b4 XW (by omega),by rw[aa]; simp; omega⟩)),rfl⟩ (by omega) ?_
 exact wp [(8,20),(9,21),(10,23)] ⟨rfl,rfl,rfl,rfl,(Qh (by first | rfl | simp)),trivial⟩
 obtain ⟨c15,hc16⟩:=gs signs ((p.1).toNat)
 apply dW [io 99 _,io 100 _,io 101 _,io 102 _,io 103 _,io 104 (lB true),io 105 _,io 106 _,io 107 _,io 108 _,io 109 _,io 110 _,io 111 _,io 112 (lB (decide (c15=43))),io 113 _,io 114 _,io 115 (lB ((decide (c15=43))==(decide ((vB p.2)=0)))),io 116 _,io 9 _] [0,0,0,0,15,0,0,0,0,0,0,1920,0,0,16256,16256,0,0,0]
 iterate 5 refine z_ ?_
 refine zz (fun _ h_=>ac (QL (hb12) (dK (WM signs x10 (by omega) (by omega)) HL)) rfl) ?_
 iterate 7 refine z_ ?_
 refine zz (fun _ h_=>day rfl (h_.k rfl) (Qt (h_.v rfl) (QB 43 rfl) rfl) rfl) ?_
 iterate 2 refine z_ ?_
 refine zz (fun _ h_=>day rfl (h_.k rfl) (J0 (h_.v rfl) (h_.v rfl) rfl JJ) rfl) ?_
 iterate 2 refine z_ ?_
 exact zN
 iterate 4 refine w_ ?_
 refine AL.fact (Ql (x:= .tmp 119) (Qa rfl)) fun hi17=> ?_
 refine w_ ?_
 refine lc (dP 24 [(1,8),(2,1),(3,9),(4,10)] (U7 c signs ps3 ss cs3 as3 x10.2.2.2 (vB p.2) (by omega)) Qeo) ?_
 refine w_ ?_
 cases hb18:(Qby (bAt signs x10.2.2.2) (vB p.2))
 iterate 10 refine w_ ?_
 refine Qc<|QE ⟨i+1,cs3,as3,ps3,by omega,rfl,(by (rw[hA,ZZ hx11,Wl (Qi1 ‹_›)]; done)),(by omega),rfl⟩ (by omega) ?_
 exact wo []
 iterate 4 refine w_ ?_
 cases hb19:((decide (c15=43))==(decide ((vB p.2)=0)))
 refine w_ ?_
 apply dV [io 126 _,io 127 _,io 128 (lP 0 0),io 129 (lP 0 5),io 130 (lP 0 7),io 131 (lR 10),io 132 _,io 133 _,io 134 _,io 135 _,io 136 _,io 137 _,io 138 _,io 139 _,io 140 _,⟨some 141,lI (ixP ps3 (x10.2.2.2,decide ((vB p.2)=1))),[(0,some (.box 337 [.dat Qo c.1, .dat Qr c.2.1, .dat QD c.2.2,dS signs, .ref 32, .ref 1, .ref 33, .ref 10])),(32,some (.arr 3 .int ((psP ps3 (x10.2.2.2,decide ((vB p.2)=1))).map ZM))),(1,some (.arr 90 QK ss)),(33,some (.arr 9 .str (cdP c ps3 cs3 (x10.2.2.2,decide ((vB p.2)=1))))),(10,some (.arr 106 QA as3)),(0,none),(8,none),(1,none),(9,none),(10,none)]⟩,io 142 (ag [dI q,dI x10.2.1,dB x10.2.2.1,dI (ixP ps3 (x10.2.2.2,decide ((vB p.2)=1)))]),⟨some 143,lR 34,[(34,some (.arr 106 QA ([(q,x10.2.1,x10.2.2.1,ixP ps3 (x10.2.2.2,decide ((vB p.2)=1)))])))]⟩,⟨some 144,lR 35,[(35,some (.arr 106 QA (as3++([(q,x10.2.1,x10.2.2.1,ixP ps3 (x10.2.2.2,decide ((vB p.2)=1)))])))),(10,none),(34,none)]⟩,io 145 _,io 146 _,io 147 _,⟨none,lf (.val undef),[(0,some (.box 337 [.dat Qo c.1, .dat Qr c.2.1, .dat QD c.2.2,dS signs, .ref 32, .ref 1, .ref 33, .ref 35]))]⟩] [0,1,1,1,1,1,63,127,127,511,511,2047,4095,4095,16383,2047,63,63,1,0,0,0,0]
 iterate 2 refine z_ ?_
 refine zz (fun _ h_=>by rcases h_.en2 0 15 rfl with hq0 | hq0 <;> exact ac (Wo (h_.v rfl) (by rw[hq0]; rfl) rfl) rfl)<|zz (fun _ h_=>by rcases h_.en2 0 15 rfl with hq0 | hq0 <;> exact ac (ZN (h_.v rfl) Hd (by rw[hq0]; rfl) rfl) rfl)<|zz (fun _ h_=>by rcases h_.en2 0 15 rfl with hq0 | hq0 <;> exact ac (ZN (h_.v rfl) Jj (by rw[hq0]; rfl) rfl) rfl)<|zz (fun _ h_=>by rcases h_.en2 0 15 rfl with hq0 | hq0 <;> exact ac (Xs (h_.v rfl) hq0 UC rfl rfl) rfl) ?_
 iterate 9 refine z_ ?_
 refine zz (fun _ h_=>ac (dP 29 [(2,10),(3,8),(4,9)] (ZK c signs ps3 ss cs3 as3 x10.2.2.2 (vB p.2) (by omega) (by omega) hc (by omega) (by omega)) X6) rfl) ?_
 refine zz (fun _ h_=>ac (Qi JV ⟨_,_,rfl,(h_.w rfl),⟨_,_,rfl,(h_.w rfl),⟨_,_,rfl,(h_.w rfl),⟨_,_,rfl,(h_.w rfl),rfl⟩⟩⟩⟩ (ah.1 rfl) rfl rfl) rfl) ?_
 refine zz (fun _ h_=>ac (dBs 34 (e:=QA) Za (hab:=by exact ⟨_,_,_,_,rfl,⟨[dI q],[dI x10.2.1,dB x10.2.2.1,dI (ixP ps3 (x10.2.2.2,decide ((vB p.2)=1)))],_,_,_,_,rfl,rfl,⟨rfl,rfl⟩,⟨[dI x10.2.1],[dB x10.2.2.1,dI (ixP ps3 (x10.2.2.2,decide ((vB p.2)=1)))],_,_,_,_,rfl,rfl,⟨rfl,rfl⟩,⟨[dB x10.2.2.1],[dI (ixP ps3 (x10.2.2.2,decide ((vB p.2)=1)))],_,_,_,_,rfl,rfl,⟨rfl,rfl⟩,⟨rfl,rfl⟩,rfl⟩,rfl⟩,rfl⟩,⟨rfl,rfl⟩,rfl⟩)) rfl) ?_
 refine zz (fun _ h_=>ac (dA 35 Uh) rfl) ?_
 iterate 3 refine z_ ?_
 refine zz (fun _ h_=>ac (QZ (h_.v rfl) (h_.en 0 rfl) (h_.w rfl) (by simp only[Q6,Wx,aW,bc]; rw[(h_.en 35 rfl)]; rfl) UC rfl) rfl) ?_
 exact zN
 iterate 4 refine w_ ?_
 refine Qc<|QE ⟨i+1,(cdP c ps3 cs3 (x10.2.2.2,decide ((vB p.2)=1))),(as3++([(q,x10.2.1,x10.2.2.1,ixP ps3 (x10.2.2.2,decide ((vB p.2)=1)))])),(psP ps3 (x10.2.2.2,decide ((vB p.2)=1))),by omega,rfl,(by (rw[hA,ZZ hx11,Vb (QiR hmx10.2 ‹_› (by first | exact .inl ‹_› | exact .inr (by rw[QC ‹_›]; assumption)))]; simp[Kq,QdE]; done)),(by (exact ⟨b4 XT (by omega),b4 XW (by omega),by rw[aa]; simp; omega⟩)),rfl⟩ (by omega) ?_
 exact wp [(8,32),(9,33),(10,35)] ⟨rfl,rfl,rfl,rfl,(Qh (by first | rfl | simp)),trivial⟩
 iterate 6 refine w_ ?_
 refine Qc<|QE ⟨i+1,cs3,as3,ps3,by omega,rfl,(by (rw[hA,ZZ hx11,Wl (QkV hmx10.2 ‹_› (by rw[QC ‹_›]; assumption))]; done)),(by omega),rfl⟩ (by omega) ?_
 exact wo []
 iterate 7 refine w_ ?_
 obtain ⟨c20,hc21⟩:=gs signs ((p.1).toNat)
 refine w_ ?_
 refine lc (Qt (Qa rfl) (QB 43 rfl) rfl) ?_
 refine w_ ?_
 cases hb22:(decide (c20=43))
 have hb22':=a6 hb22
 iterate 14 refine w_ ?_
 refine lc (Qt (Qa rfl) (QB 45 rfl) rfl) ?_
 refine w_ ?_
 cases hb23:(decide (c20=45))
 have hb23':=a6 hb23
 iterate 6 refine w_ ?_
 refine XP (J5 _ ⟨cs,as_,ps,(by (rw[QeC (fun h=>by rw[QC ‹_›] at h; first | assumption | contradiction) (fun h=>by rw[QC ‹_›] at h; first | assumption | contradiction)]; done)),(by (exact ⟨by omega,by omega,by omega⟩)),rfl⟩) ?_
 exact wo [(5,2),(6,3),(7,4)]
 have hb23':=a7 hb23
 iterate 4 refine w_ ?_
 cases hb24:(decide ((vB p.2)=1))
 have hb24':=a6 hb24
 iterate 2 refine w_ ?_
 refine XP (J5 _ ⟨cs,as_,ps,(by (rw[QeC (fun h=>by rw[QC ‹_›] at h; first | assumption | contradiction) (fun h=>by rw[QC ‹_›] at h; first | assumption | contradiction)]; done)),(by (exact ⟨by omega,by omega,by omega⟩)),rfl⟩) ?_
 exact wo [(5,2),(6,3),(7,4)]
 have hb24':=a7 hb24
 refine w_ ?_
 apply dZ [io 71 _,io 72 _,io 73 (lP 0 0),io 74 (lP 0 5),io 75 (lP 0 7),io 76 (lR 4),io 77 _,io 78 _,io 79 _,io 80 _,⟨some 81,lI (ixP ps (p.1,decide (0=1))),[(0,some (.box 337 [.dat Qo c.1, .dat Qr c.2.1, .dat QD c.2.2,dS signs, .ref 39, .ref 1, .ref 40, .ref 4])),(39,some (.arr 3 .int ((psP ps (p.1,decide (0=1))).map ZM))),(1,some (.arr 90 QK ss)),(40,some (.arr 9 .str (cdP c ps cs (p.1,decide (0=1))))),(4,some (.arr 106 QA as_)),(0,none),(2,none),(1,none),(3,none),(4,none)]⟩,io 82 (ag [dI q,dI (c.1.length:Int),dB false,dI (ixP ps (p.1,decide (0=1)))]),⟨some 83,lR 41,[(41,some (.arr 106 QA ([(q,(c.1.length:Int),false,ixP ps (p.1,decide (0=1)))])))]⟩,⟨some 84,lR 42,[(42,some (.arr 106 QA (as_++([(q,(c.1.length:Int),false,ixP ps (p.1,decide (0=1)))])))),(4,none),(41,none)]⟩,io 85 _,io 86 _,io 87 _,⟨none,lf (.val undef),[(0,some (.box 337 [.dat Qo c.1, .dat Qr c.2.1, .dat QD c.2.2,dS signs, .ref 39, .ref 1, .ref 40, .ref 42]))]⟩] [0,1,1,1,1,1,63,127,255,511,255,63,63,1,0,0,0,0]
 iterate 2 refine z_ ?_
 refine zz (fun _ h_=>by rcases h_.en2 0 10 rfl with hq0 | hq0 <;> exact ac (Wo (h_.v rfl) (by rw[hq0]; rfl) rfl) rfl)<|zz (fun _ h_=>by rcases h_.en2 0 10 rfl with hq0 | hq0 <;> exact ac (ZN (h_.v rfl) Hd (by rw[hq0]; rfl) rfl) rfl)<|zz (fun _ h_=>by rcases h_.en2 0 10 rfl with hq0 | hq0 <;> exact ac (ZN (h_.v rfl) Jj (by rw[hq0]; rfl) rfl) rfl)<|zz (fun _ h_=>by rcases h_.en2 0 10 rfl with hq0 | hq0 <;> exact ac (Xs (h_.v rfl) hq0 UC rfl rfl) rfl) ?_
 iterate 4 refine z_ ?_
 refine zz (fun _ h_=>ac (dP 36 [(2,4),(3,2),(4,3)] (ZK c signs ps ss cs as_ p.1 0 (by omega) (by omega) hc (by omega) (by omega)) X6) rfl) ?_
 refine zz (fun _ h_=>ac (Qi JV ⟨_,_,rfl,(h_.w rfl),⟨_,_,rfl,(h_.w rfl),⟨_,_,rfl,(h_.w rfl),rfl⟩⟩⟩ (ah.1 rfl) rfl rfl) rfl) ?_
 refine zz (fun _ h_=>ac (dBs 41 (e:=QA) Za (hab:=by exact ⟨_,_,_,_,rfl,⟨[dI q],[dI (c.1.length:Int),dB false,dI (ixP ps (p.1,decide (0=1)))],_,_,_,_,rfl,rfl,⟨rfl,rfl⟩,⟨[dI (c.1.length:Int)],[dB false,dI (ixP ps (p.1,decide (0=1)))],_,_,_,_,rfl,rfl,⟨rfl,rfl⟩,⟨[dB false],[dI (ixP ps (p.1,decide (0=1)))],_,_,_,_,rfl,rfl,⟨rfl,rfl⟩,⟨rfl,rfl⟩,rfl⟩,rfl⟩,rfl⟩,⟨rfl,rfl⟩,rfl⟩)) rfl) ?_
 refine zz (fun _ h_=>ac (dA 42 Uh) rfl) ?_
 iterate 3 refine z_ ?_
 refine zz (fun _ h_=>ac (QZ (h_.v rfl) (h_.en 0 rfl) (h_.w rfl) (by simp only[Q6,Wx,aW,bc]; rw[(h_.en 42 rfl)]; rfl) UC rfl) rfl) ?_
 exact zN
 refine XP (J5 _ ⟨(cdP c ps cs (p.1,decide (0=1))),(as_++([(q,(c.1.length:Int),false,ixP ps (p.1,decide (0=1)))])),(psP ps (p.1,decide (0=1))),(by (rw[Qn3 (by rw[QC ‹_›]; assumption) ‹_›]; rfl)),(by (exact ⟨XT,XW,by simp⟩)),rfl⟩) ?_
 exact wp [(5,39),(6,40),(7,42)] ⟨rfl,rfl,rfl,rfl,(Qh (by first | rfl | simp)),trivial⟩
 have hb22':=a7 hb22
 iterate 4 refine w_ ?_
 cases hb25:(decide ((vB p.2)=0))
 have hb25':=a6 hb25
 iterate 10 refine w_ ?_
 refine lc (Qt (Qa rfl) (QB 45 rfl) rfl) ?_
 refine w_ ?_
 have hb26:(decide (c20=45))=false:=az fun h_=>absurd ((a7 (hb22)).symm.trans h_) (by decide)
 have hb26':=a6 hb26
 try rw[hb26]
 iterate 6 refine w_ ?_
 refine XP (J5 _ ⟨cs,as_,ps,(by (rw[QeC (fun h=>by rw[QC ‹_›] at h; first | assumption | contradiction) (fun h=>by rw[QC ‹_›] at h; first | assumption | contradiction)]; done)),(by (exact ⟨by omega,by omega,by omega⟩)),rfl⟩) ?_
 exact wo [(5,2),(6,3),(7,4)]
 have hb25':=a7 hb25
 refine w_ ?_
 apply dZ [io 43 _,io 44 _,io 45 (lP 0 0),io 46 (lP 0 5),io 47 (lP 0 7),io 48 (lR 4),io 49 _,io 50 _,io 51 _,io 52 _,⟨some 53,lI (ixP ps (p.1,decide (1=1))),[(0,some (.box 337 [.dat Qo c.1, .dat Qr c.2.1, .dat QD c.2.2,dS signs, .ref 46, .ref 1, .ref 47, .ref 4])),(46,some (.arr 3 .int ((psP ps (p.1,decide (1=1))).map ZM))),(1,some (.arr 90 QK ss)),(47,some (.arr 9 .str (cdP c ps cs (p.1,decide (1=1))))),(4,some (.arr 106 QA as_)),(0,none),(2,none),(1,none),(3,none),(4,none)]⟩,io 54 (ag [dI q,dI (c.1.length:Int),dB true,dI (ixP ps (p.1,decide (1=1)))]),⟨some 55,lR 48,[(48,some (.arr 106 QA ([(q,(c.1.length:Int),true,ixP ps (p.1,decide (1=1)))])))]⟩,⟨some 56,lR 49,[(49,some (.arr 106 QA (as_++([(q,(c.1.length:Int),true,ixP ps (p.1,decide (1=1)))])))),(4,none),(48,none)]⟩,io 57 _,io 58 _,io 59 _,⟨none,lf (.val undef),[(0,some (.box 337 [.dat Qo c.1, .dat Qr c.2.1, .dat QD c.2.2,dS signs, .ref 46, .ref 1, .ref 47, .ref 49]))]⟩] [0,1,1,1,1,1,63,127,255,511,255,63,63,1,0,0,0,0]
 iterate 2 refine z_ ?_
 refine zz (fun _ h_=>by rcases h_.en2 0 10 rfl with hq0 | hq0 <;> exact ac (Wo (h_.v rfl) (by rw[hq0]; rfl) rfl) rfl)<|zz (fun _ h_=>by rcases h_.en2 0 10 rfl with hq0 | hq0 <;> exact ac (ZN (h_.v rfl) Hd (by rw[hq0]; rfl) rfl) rfl)<|zz (fun _ h_=>by rcases h_.en2 0 10 rfl with hq0 | hq0 <;> exact ac (ZN (h_.v rfl) Jj (by rw[hq0]; rfl) rfl) rfl)<|zz (fun _ h_=>by rcases h_.en2 0 10 rfl with hq0 | hq0 <;> exact ac (Xs (h_.v rfl) hq0 UC rfl rfl) rfl) ?_
 iterate 4 refine z_ ?_
 refine zz (fun _ h_=>ac (dP 43 [(2,4),(3,2),(4,3)] (ZK c signs ps ss cs as_ p.1 1 (by omega) (by omega) hc (by omega) (by omega)) X6) rfl) ?_
 refine zz (fun _ h_=>ac (Qi JV ⟨_,_,rfl,(h_.w rfl),⟨_,_,rfl,(h_.w rfl),⟨_,_,rfl,(Evl.ev Zg),⟨_,_,rfl,(h_.w rfl),rfl⟩⟩⟩⟩ (ah.1 rfl) rfl rfl) rfl) ?_
 refine zz (fun _ h_=>ac (dBs 48 (e:=QA) Za (hab:=by exact ⟨_,_,_,_,rfl,⟨[dI q],[dI (c.1.length:Int),dB true,dI (ixP ps (p.1,decide (1=1)))],_,_,_,_,rfl,rfl,⟨rfl,rfl⟩,⟨[dI (c.1.length:Int)],[dB true,dI (ixP ps (p.1,decide (1=1)))],_,_,_,_,rfl,rfl,⟨rfl,rfl⟩,⟨[dB true],[dI (ixP ps (p.1,decide (1=1)))],_,_,_,_,rfl,rfl,⟨rfl,rfl⟩,⟨rfl,rfl⟩,rfl⟩,rfl⟩,rfl⟩,⟨rfl,rfl⟩,rfl⟩)) rfl) ?_
 refine zz (fun _ h_=>ac (dA 49 Uh) rfl) ?_
 iterate 3 refine z_ ?_
 refine zz (fun _ h_=>ac (QZ (h_.v rfl) (h_.en 0 rfl) (h_.w rfl) (by simp only[Q6,Wx,aW,bc]; rw[(h_.en 49 rfl)]; rfl) UC rfl) rfl) ?_
 exact zN
 iterate 8 refine w_ ?_
 refine lc (Qt (Qa rfl) (QB 45 rfl) rfl) ?_
 refine w_ ?_
 have hb27:(decide (c20=45))=false:=az fun h_=>absurd ((a7 (hb22)).symm.trans h_) (by decide)
 have hb27':=a6 hb27
 try rw[hb27]
 iterate 6 refine w_ ?_
 refine XP (J5 _ ⟨(cdP c ps cs (p.1,decide (1=1))),(as_++([(q,(c.1.length:Int),true,ixP ps (p.1,decide (1=1)))])),(psP ps (p.1,decide (1=1))),(by (rw[Qpn (by rw[QC ‹_›]; assumption) ‹_›]; rfl)),(by (exact ⟨XT,XW,by simp⟩)),rfl⟩) ?_
 exact wp [(5,46),(6,47),(7,49)] ⟨rfl,rfl,rfl,rfl,(Qh (by first | rfl | simp)),trivial⟩
end Go.Proofs.YtjaadeknhofhpaaGreat
