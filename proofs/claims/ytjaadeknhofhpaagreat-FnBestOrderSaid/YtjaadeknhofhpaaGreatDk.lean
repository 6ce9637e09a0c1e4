/- Walks over abstract states: graphs built from words. -/
import Derived.Test.YtjaadeknhofhpaaGreatBu
import Derived.Test.YtjaadeknhofhpaaGreatAg
import Derived.Test.YtjaadeknhofhpaaGreatWi
import Derived.Test.YtjaadeknhofhpaaGreatUd
set_option linter.unusedSimpArgs false
set_option linter.unusedVariables false
set_option linter.unusedSectionVars false
namespace Go.Proofs.YtjaadeknhofhpaaGreat
open Go.RowKit
set_option maxRecDepth 100000
set_option maxHeartbeats 4000000
section
variable {s:ByteArray}{b c:UInt8}{i:Nat}{out:List ByteArray}{fr:Int}
theorem Qmv (hA:(out,fr)=spS s b i)(hi:s.size≤i)(hk:i≤s.size):out++[s.extract fr.toNat s.size]=Z5 s b:=by
  have e:i=s.size:=by omega
  subst e
  unfold Z5
  rw[← hA]
theorem Qng (hA:(out,fr)=spS s b i)(h:s[((i:Nat):Int).toNat]? =some c)(e:c=b):(out++[s.extract fr.toNat ((i:Nat):Int).toNat],(i:Int)+1)=spS s b (i+1):=by
  rw[cY] at h ⊢
  rw[← Qqi h e,← hA]
theorem Qmm (s:ByteArray)(b:UInt8):1≤(Z5 s b).length:=by unfold Z5; rw[aa,ah,aj]; omega
theorem Qat {x:ByteArray}(h:x∈Z5 s b):x.size≤s.size:=by
  have h1:∀i,∀x∈(spS s b i).1,x.size≤s.size:=fun i=>by
    induction i with
    | zero=>intro x h; cases h
    | succ i ih=>
      intro x h
      rw[spS] at h
      split at h
      · rcases aJ.1 h with h | h
        · exact ih x h
        · rw[aM.1 h]; simp only[aR]; omega
      · exact ih x h
  unfold Z5 at h
  rcases aJ.1 h with h | h
  · exact h1 _ x h
  · rw[aM.1 h]; simp only[aR]; omega
theorem Qnr (hA:(out,fr)=spS s b i)(h:s[((i:Nat):Int).toNat]? =some c)(e:¬c=b):(out,fr)=spS s b (i+1):=by
  rw[cY] at h
  rw[← QrN h e,← hA]
end
theorem Vz (s:ByteArray)(b:UInt8)(hs:s.size≤100000):FC Tryz.prog 335 [(false,[dS s]),(false,[.dat .u8 b])] [] 0 (Uz 9 .str (Z5 s b)):=by
 refine QO Tryz.func335 rfl rfl Tryz.ntmps335 fun O_ hO w0_ N0_ X_ h0_ f0_=> ?_
 iterate 14 refine w_ ?_
 refine AC.wk (Wk.nilS 0 5 9 .str rfl (Fresh.of rfl) (nlr rfl)) ?_
 refine Qu (fun m_ s_=>∃(i:Nat) (out:List ByteArray) (fr:Int),i≤s.size∧m_=s.size - i∧((out,fr)=spS s b i)∧s_=⟨[(0,lf (dS s)),(1,lf (.dat .u8 b)),(4,lf (.val (.slice none 0 0))),(5,lR 1),(6,lI fr),(7,lI (i:Int))],[(1,some (.arr 9 .str out))]⟩) ⟨0,([]:(Zr:Ty).Den),0,aw _,rfl,rfl,rfl⟩ ?_ ?_
 exact wp [(1,0)] ⟨(Qp (by first | rfl | simp)),trivial⟩
 rintro m_ s_ ⟨i,out,fr,hk1,hm2,hA,rfl⟩
 have hsr:=Qk6 (s:=s) (b:=b) (i:=i)
 rw[← hA] at hsr
 dsimp only at hsr
 iterate 4 refine w_ ?_
 refine AL.fact (U6 (x:= .tmp 9) (Qa rfl)) fun hl3=>lc (W2 (Qa rfl) rfl ZS) ?_
 iterate 2 refine w_ ?_
 cases hb4:(decide ((i:Int) < (s.size:Int)))
 have hb4':=a7 hb4
 iterate 7 refine w_ ?_
 refine lc (show Does _ _ _ _ (St.put _ 31 (lf (dS (s.extract (fr).toNat s.size)))) from ZW (l:=(some fr)) (h:=none) (Qa rfl) (by exact (Qa rfl)) (by exact trivial) ZS rfl (by first | omega | (simp only[ao,ak]; omega)) (by first | omega | (simp only[ao,ak]; omega)) (by first | omega | (simp only[ao,ak]; omega)))<|lc (Qf 2 (e:= .str) Zo Zg H8 rfl ⟨_,_,rfl,(Qb rfl),rfl⟩ (ae.1 rfl) ⟨_,_,_,_,rfl,⟨rfl,rfl⟩,⟨rfl,rfl⟩,rfl⟩ (by decide) rfl rfl (Fresh.of rfl) (nlr rfl))<|lc (QH 3 (Qa rfl) rfl (Qa rfl) rfl rfl Zo Qgn (by first | omega | (simp only[aa,av,ab,ah,aj]; omega) | (simp only[aa,ay,ab,ah,aj]; omega)) rfl (Fresh.of rfl) (nlr rfl)) ?_
 iterate 3 refine w_ ?_
 subst hO
 refine Z3 (e:= .str) (xs:=(out++([s.extract (fr).toNat s.size]))) (Qg rfl (Qd rfl)) rfl ?_
 exact Qmv hA (by omega) hk1
 have hb4':=a8 hb4
 iterate 7 refine w_ ?_
 obtain ⟨c5,hc6⟩:=gs s (((i:Int)).toNat)
 have hcz:=hc6
 refine lc (ZY (Qa rfl) (Qa rfl) rfl ZS (by omega) hc6) ?_
 iterate 3 refine w_ ?_
 cases hb7:(decide (c5=b))
 have hb7':=a7 hb7
 iterate 7 refine w_ ?_
 refine Qm<|QV ⟨i+1,out,fr,by omega,rfl,(by exact Qnr hA hcz ‹_›),rfl⟩ (by omega) ?_
 exact wo [(1,1)]
 have hb7':=a8 hb7
 iterate 6 refine w_ ?_
 refine lc (show Does _ _ _ _ (St.put _ 23 (lf (dS (s.extract (fr).toNat ((i:Int)).toNat)))) from ZW (l:=(some fr)) (h:=(some (i:Int))) (Qa rfl) (by exact (Qa rfl)) (by exact (Qa rfl)) ZS rfl (by first | omega | (simp only[ao,ak]; omega)) (by first | omega | (simp only[ao,ak]; omega)) (by first | omega | (simp only[ao,ak]; omega)))<|lc (Qf 4 (e:= .str) Zo Zg H8 rfl ⟨_,_,rfl,(Qb rfl),rfl⟩ (ae.1 rfl) ⟨_,_,_,_,rfl,⟨rfl,rfl⟩,⟨rfl,rfl⟩,rfl⟩ (by decide) rfl rfl (Fresh.of rfl) (nlr rfl))<|lc (QH 5 (Qa rfl) rfl (Qa rfl) rfl rfl Zo Qgn (by first | omega | (simp only[aa,av,ab,ah,aj]; omega) | (simp only[aa,ay,ab,ah,aj]; omega)) rfl (Fresh.of rfl) (nlr rfl)) ?_
 iterate 6 refine w_ ?_
 refine Qm ?_
 iterate 5 refine w_ ?_
 refine Qm<|QV ⟨i+1,(out++([s.extract (fr).toNat ((i:Int)).toNat])),((i:Int)+1),by omega,rfl,(by exact Qng hA hcz ‹_›),rfl⟩ (by omega) ?_
 exact wp [(1,5)] ⟨(Qp (by first | rfl | simp)),trivial⟩
section
variable {word text nm:ByteArray}{G:List Q9}{c0 cz:UInt8}{k:Nat}{x:DTr}{T_:List DTr}{t p:Int}
theorem QrQ (hn:Qa7 word=nm)(hc:nm[(0:Int).toNat]? =some c0)(h:c0=126):((-1,false):ZD)=Qkb G word:=by
  unfold Qkb b0
  rw[hn,show nm[0]? =some c0 from hc]
  exact (if_pos (show (some c0).getD 0=126 from h)).symm
theorem Qrt (hn:Qa7 word=nm)(hc:nm[(0:Int).toNat]? =some c0)(h:¬c0=126)(hz:nm[((nm.size:Int) - 1).toNat]? =some cz):
    ((ZN (fun g=>decide (g.1=nm.extract 0 ((nm.size:Int) - 1).toNat)) G,decide (cz=43)):ZD)=Qkb G word:=by
  unfold Qkb b0 bZ
  have e:((nm.size:Int) - 1).toNat=nm.size - 1:=by omega
  rw[e] at hz ⊢
  rw[hn,show nm[0]? =some c0 from hc]
  refine Eq.trans ?_ (if_neg (show¬(some c0).getD 0=126 from h)).symm
  rw[hz]; rfl
theorem QmX (hx:T_[t.toNat]? =some x):T_.set t.toNat (x.1,Y1 ltI p x.2)=QeU T_ t p:=by
  unfold QeU
  apply bp
  intro i
  rw[aY,cO]
  by_cases e:t.toNat=i
  · subst e; rw[hx]; simp[(au.1 hx).1]
  · simp[e]
theorem QmK (hx:T_[t.toNat]? =some x):T_.set t.toNat (Y1 ltI p x.1,x.2)=Qd0 T_ t p:=by
  unfold Qd0
  apply bp
  intro i
  rw[aY,cO]
  by_cases e:t.toNat=i
  · subst e; rw[hx]; simp[(au.1 hx).1]
  · simp[e]
end
theorem QbM (b:DB)(name:ByteArray)(hp:0≤b.1.1.1∧b.1.1.1≤100000)(hl:b.2.1.length≤100000∧b.1.2.2.2.size≤100000):FC Tryz.prog 376 [(false,[.ptr 0 0]),(false,[dS name])] [(0,some (.box 347 [dI b.1.1.1, .ref 1, .ref 2, .ref 3,dS b.1.2.2.2, .ref 5, .ref 4])),(1,some (.arr 198 QS b.1.1.2)),(2,some (.arr 90 QY b.1.2.1)),(3,some (.arr 55 Q5 b.1.2.2.1)),(5,some (.arr 9 .str b.2.1)),(4,some (.arr 9 .str b.2.2))] 5 (Is (lI (plI b name)) [(0,some (.box 347 [dI ((plV b name).1.1.1), .ref 1, .ref 2, .ref 3,dS ((plV b name).1.2.2.2), .ref 5, .ref 4])),(1,some (.arr 198 QS ((plV b name).1.1.2))),(2,some (.arr 90 QY ((plV b name).1.2.1))),(3,some (.arr 55 Q5 ((plV b name).1.2.2.1))),(5,some (.arr 9 .str ((plV b name).2.1))),(4,some (.arr 9 .str ((plV b name).2.2)))]):=by
 refine QO Tryz.func376 rfl rfl Tryz.ntmps376 fun O_ hO w0_ N0_ X_ h0_ f0_=> ?_
 iterate 13 refine w_ ?_
 refine Qu (fun m_ s_=>∃(k:Nat),k≤b.2.1.length∧m_=b.2.1.length - k∧(NoneTo (fun y=>decide (y=name)) b.2.1 k)∧s_=⟨[(0,lP 0 0),(1,lf (dS name)),(10,lR 5),(11,lI (b.2.1.length:Int)),(12,lI (k:Int))],[(0,some (.box 347 [dI b.1.1.1, .ref 1, .ref 2, .ref 3,dS b.1.2.2.2, .ref 5, .ref 4])),(1,some (.arr 198 QS b.1.1.2)),(2,some (.arr 90 QY b.1.2.1)),(3,some (.arr 55 Q5 b.1.2.2.1)),(4,some (.arr 9 .str b.2.2)),(5,some (.arr 9 .str b.2.1))]⟩) ⟨0,aw _,rfl,NoneTo.zero,rfl⟩ ?_ ?_
 exact wo [(0,0),(1,1),(2,2),(3,3),(4,4),(5,5)]
 rintro m_ s_ ⟨k,hk1,hm2,hno,rfl⟩
 iterate 4 refine w_ ?_
 cases hb3:(decide ((k:Int) < (b.2.1.length:Int)))
 have hb3':=a7 hb3
 iterate 10 refine w_ ?_
 refine lc (Qf 6 (e:= .str) Zo Zg H8 rfl ⟨_,_,rfl,(Qb rfl),rfl⟩ (ae.1 rfl) ⟨_,_,_,_,rfl,⟨rfl,rfl⟩,⟨rfl,rfl⟩,rfl⟩ (by decide) rfl rfl (Fresh.of rfl) (nlr rfl))<|lc (QH 7 (Qa rfl) rfl (Qa rfl) rfl rfl Zo Qgn (by first | omega | (simp only[aa,av,ab,ah,aj]; omega) | (simp only[aa,ay,ab,ah,aj]; omega)) rfl (Fresh.of rfl) (nlr rfl)) ?_
 iterate 2 refine w_ ?_
 refine lc (Qc (Qa rfl) rfl (Qb rfl) rfl XS rfl) ?_
 iterate 7 refine w_ ?_
 refine lc (Z9 (Qa rfl) (Evl.str rfl) rfl (by (simp only[XZ]; omega))) ?_
 iterate 3 refine w_ ?_
 refine lc (Qc (Qa rfl) rfl (Qb rfl) rfl Zg rfl) ?_
 iterate 8 refine w_ ?_
 refine AL.fact (QC (x:= .tmp 46) (Qa rfl)) fun hi4=>lc (Xb (Qa rfl) (Qv rfl) rfl (by first | omega | (simp only[aa,ah,aj]; omega))) ?_
 iterate 4 refine w_ ?_
 refine lc (Qc (Qa rfl) rfl (Qb rfl) rfl QL rfl) ?_
 iterate 7 refine w_ ?_
 refine lc (Vu (Qa rfl) (Qv rfl) rfl (by first | omega | (simp only[aa,ah,aj]; omega))) ?_
 iterate 3 refine w_ ?_
 subst hO
 have e5:(((b.2.1++([name])).length:Int) - 1:Int)=(plI b name):=by
  (unfold plI; rw[Qbz (YK hno (by omega)),aa]; simp)
 exact QD _ _ [(0,0),(1,1),(2,2),(3,3),(4,4),(5,7)] (Qg rfl (Qd rfl)) (by rw[e5] <;> rfl) ⟨(((congrArg (fun z_=>some (Ent.box 347 [dI z_, .ref 1, .ref 2, .ref 3,dS (b.1.2.2.2++(⟨#[48]⟩:ByteArray)), .ref 7, .ref 4])) (show (b.1.1.1+1:Int)=(plV b name).1.1.1 by (rw[VZ (YK hno (by omega))]; done)))).trans (congrArg (fun z_=>some (Ent.box 347 [dI ((plV b name).1.1.1), .ref 1, .ref 2, .ref 3,dS z_, .ref 7, .ref 4])) (show (b.1.2.2.2++(⟨#[48]⟩:ByteArray):ByteArray)=(plV b name).1.2.2.2 by (rw[VZ (YK hno (by omega))]; done)))),(Qp (by (rw[VZ (YK hno (by omega))]; done))),(Qp (by (rw[VZ (YK hno (by omega))]; done))),(Qp (by (rw[VZ (YK hno (by omega))]; done))),(Qp (by (rw[VZ (YK hno (by omega))]; done))),(Qp (by (rw[VZ (YK hno (by omega))]; done))),trivial⟩ rfl rfl
 have hb3':=a8 hb3
 iterate 6 refine w_ ?_
 refine lc (Qw (e:= .str) (Qa rfl) rfl (Qa rfl) Zo Zg rfl (by omega) (by first | omega | (simp only[aq]; omega))) ?_
 obtain ⟨x,hx7⟩:=gx b.2.1 k
 have hxz:=hx7
 refine lc (QP (e:= .str) (Qa rfl) rfl hx7 rfl Zg rfl rfl) ?_
 iterate 8 refine w_ ?_
 cases hb8:(decide (x=name))
 have hb8':=a7 hb8
 iterate 4 refine w_ ?_
 refine lc (Xb (Qa rfl) (Qv rfl) rfl (by first | omega | (simp only[aa,ah,aj]; omega))) ?_
 refine w_ ?_
 refine Qm<|QV ⟨k+1,by omega,rfl,hno.step hx7 (aP ‹_›),rfl⟩ (by omega) ?_
 exact wo [(0,0),(1,1),(2,2),(3,3),(4,4),(5,5)]
 have hb8':=a8 hb8
 iterate 6 refine w_ ?_
 subst hO
 have e9:((k:Int):Int)=(plI b name):=by
  exact QoW hno hxz ‹_›
 exact QD _ _ [(0,0),(1,1),(2,2),(3,3),(4,4),(5,5)] (Qg rfl (Qd rfl)) (by rw[e9] <;> rfl) ⟨(((congrArg (fun z_=>some (Ent.box 347 [dI z_, .ref 1, .ref 2, .ref 3,dS b.1.2.2.2, .ref 5, .ref 4])) (show (b.1.1.1:Int)=(plV b name).1.1.1 by (rw[Je (XC hxz ‹_›)]; done)))).trans (congrArg (fun z_=>some (Ent.box 347 [dI ((plV b name).1.1.1), .ref 1, .ref 2, .ref 3,dS z_, .ref 5, .ref 4])) (show (b.1.2.2.2:ByteArray)=(plV b name).1.2.2.2 by (rw[Je (XC hxz ‹_›)]; done)))),(Qp (by (rw[Je (XC hxz ‹_›)]; done))),(Qp (by (rw[Je (XC hxz ‹_›)]; done))),(Qp (by (rw[Je (XC hxz ‹_›)]; done))),(Qp (by (rw[Je (XC hxz ‹_›)]; done))),(Qp (by (rw[Je (XC hxz ‹_›)]; done))),trivial⟩ rfl rfl
theorem UU (b:DB)(word:ByteArray)(hw:word.size≤1000∧1≤(Qa7 word).size)(hl:b.1.1.2.length≤100000∧b.1.2.2.1.length≤100000∧b.2.2.length≤100000):FC Tryz.prog 377 [(false,[.ptr 0 0]),(false,[dS word])] [(0,some (.box 347 [dI b.1.1.1, .ref 3, .ref 1, .ref 4,dS b.1.2.2.2, .ref 2, .ref 5])),(3,some (.arr 198 QS b.1.1.2)),(1,some (.arr 90 QY b.1.2.1)),(4,some (.arr 55 Q5 b.1.2.2.1)),(2,some (.arr 9 .str b.2.1)),(5,some (.arr 9 .str b.2.2))] 3 (Is (lI (trI b word)) [(0,some (.box 347 [dI ((trV b word).1.1.1), .ref 3, .ref 1, .ref 4,dS ((trV b word).1.2.2.2), .ref 2, .ref 5])),(3,some (.arr 198 QS ((trV b word).1.1.2))),(1,some (.arr 90 QY ((trV b word).1.2.1))),(4,some (.arr 55 Q5 ((trV b word).1.2.2.1))),(2,some (.arr 9 .str ((trV b word).2.1))),(5,some (.arr 9 .str ((trV b word).2.2)))]):=by
 have hsp:=Qmm word 47
 refine QO Tryz.func377 rfl rfl Tryz.ntmps377 fun O_ hO w0_ N0_ X_ h0_ f0_=> ?_
 iterate 13 refine w_ ?_
 refine Qu (fun m_ s_=>∃(k:Nat),k≤b.2.2.length∧m_=b.2.2.length - k∧(NoneTo (fun y=>decide (y=word)) b.2.2 k)∧s_=⟨[(0,lP 0 0),(1,lf (dS word)),(12,lR 5),(13,lI (b.2.2.length:Int)),(14,lI (k:Int))],[(0,some (.box 347 [dI b.1.1.1, .ref 3, .ref 1, .ref 4,dS b.1.2.2.2, .ref 2, .ref 5])),(1,some (.arr 90 QY b.1.2.1)),(2,some (.arr 9 .str b.2.1)),(3,some (.arr 198 QS b.1.1.2)),(4,some (.arr 55 Q5 b.1.2.2.1)),(5,some (.arr 9 .str b.2.2))]⟩) ⟨0,aw _,rfl,NoneTo.zero,rfl⟩ ?_ ?_
 exact wo [(0,0),(1,1),(2,2),(3,3),(4,4),(5,5)]
 rintro m_ s_ ⟨k,hk1,hm2,hno,rfl⟩
 iterate 4 refine w_ ?_
 cases hb3:(decide ((k:Int) < (b.2.2.length:Int)))
 have hb3':=a7 hb3
 iterate 10 refine w_ ?_
 refine lc (Qf 6 (e:= .str) Zo Zg H8 rfl ⟨_,_,rfl,(Qb rfl),rfl⟩ (ae.1 rfl) ⟨_,_,_,_,rfl,⟨rfl,rfl⟩,⟨rfl,rfl⟩,rfl⟩ (by decide) rfl rfl (Fresh.of rfl) (nlr rfl))<|lc (QH 7 (Qa rfl) rfl (Qa rfl) rfl rfl Zo Qgn (by first | omega | (simp only[aa,av,ab,ah,aj]; omega) | (simp only[aa,ay,ab,ah,aj]; omega)) rfl (Fresh.of rfl) (nlr rfl)) ?_
 iterate 2 refine w_ ?_
 refine lc (Qc (Qa rfl) rfl (Qb rfl) rfl XS rfl) ?_
 iterate 3 refine w_ ?_
 refine lc (Ql (Vz word 47 (by omega)).frozen QaK ⟨_,_,rfl,(Qb rfl),⟨_,_,rfl,(Evl.ev (ZJ 47 rfl)),rfl⟩⟩ rfl rfl) ?_
 obtain ⟨nm,hx5⟩:=gx (Z5 word 47) 0
 have hnw:Qa7 word=nm:=by unfold Qa7; rw[show (Z5 word 47)[0]? =some nm from hx5]; rfl
 have hnz:1≤nm.size:=by rw[← hnw]; exact hw.2
 have hnl:=Qat (ai hx5)
 refine lc (Qh (Qa rfl) (Qv rfl) Zo Zg rfl (by omega) hx5) ?_
 iterate 4 refine w_ ?_
 refine lc (QA QjM ⟨_,_,rfl,(Evl.ev (Qv rfl)),rfl⟩ (ae.1 rfl) rfl rfl)<|lc (Qj 8 Q5 WF rfl rfl (Fresh.of rfl) (nlr rfl))<|lc (Qc (Qa rfl) rfl (Qb rfl) rfl ZO rfl) ?_
 iterate 4 refine w_ ?_
 obtain ⟨c0,hc7⟩:=gs nm ((0:Int).toNat)
 have hc0:=hc7
 refine lc (ZY (Qa rfl) (Qv rfl) rfl ZS (by omega) hc7)<|lc (YU (Qa rfl) (ZJ 126 rfl) rfl) ?_
 refine w_ ?_
 cases hb8:(!decide (c0=126))
 have hb8':(c0=126):=Zm hb8
 iterate 10 refine w_ ?_
 refine lc (QA HA rfl (ae.1 rfl) rfl rfl)<|lc (Qf 9 (e:=QS) Zw Zn We rfl ⟨_,_,rfl,(Qb rfl),rfl⟩ (ae.1 rfl) ⟨_,_,_,_,rfl,⟨[.val (.slice none 0 0)],[.val (.slice none 0 0)],_,_,_,_,rfl,rfl,(.inr ⟨rfl,rfl,rfl⟩),(.inr ⟨rfl,rfl,rfl⟩),rfl⟩,⟨rfl,rfl⟩,rfl⟩ (by decide) rfl rfl (Fresh.of rfl) (nlr rfl))<|lc (QH 10 (Qa rfl) rfl (Qa rfl) rfl rfl Zw HD (by first | omega | (simp only[aa,av,ab,ah,aj]; omega) | (simp only[aa,ay,ab,ah,aj]; omega)) rfl (Fresh.of rfl) (nlr rfl)) ?_
 iterate 4 refine w_ ?_
 refine lc (Qc (Qa rfl) rfl (Qb rfl) rfl Yf rfl) ?_
 refine w_ ?_
 refine dw [io 74 (lP 0 0),io 75 (lP 0 0),io 76 (lP 0 0),io 77 (lP 0 0),io 78 (lP 0 3),io 79 (lR 4),io 80 (ag [dI (-1),dB false]),⟨some 81,lR 11,[(11,some (.arr 55 Q5 ([((-1),false)])))]⟩,⟨some 82,lR 12,[(12,some (.arr 55 Q5 (b.1.2.2.1++([((-1),false)])))),(4,none),(11,none)]⟩,io 83 (lP 0 0),io 84 (lP 0 0),io 85 (lP 0 3),⟨none,lf (.val undef),[(0,some (.box 347 [dI b.1.1.1, .ref 10, .ref 1, .ref 12,dS b.1.2.2.2, .ref 2, .ref 7]))]⟩] [0,0,2,6,14,30,0,64,254,511,1023,2047,4095] mixed rfl (by kernel_rfl) ⟨dxm rfl rfl,dxm rfl rfl,dxn rfl rfl rfl,dxf YB rfl rfl rfl,dxf XP rfl rfl rfl,dxl WK rfl rfl rfl rfl rfl,dxa ZO rfl rfl rfl rfl,fun _ h_=>ac (Qf 11 (e:=Q5) Yq ZO WF rfl ⟨_,_,rfl,(h_.w rfl),rfl⟩ (ae.1 rfl) ⟨_,_,_,_,rfl,⟨[dI (-1)],[dB false],_,_,_,_,rfl,rfl,⟨rfl,rfl⟩,⟨rfl,rfl⟩,rfl⟩,⟨rfl,rfl⟩,rfl⟩ (by decide) rfl rfl (h_.fr 11 rfl) (nlr rfl)) rfl,fun _ h_=>ac (QH 12 (h_.v rfl) (h_.en 4 rfl) (h_.v rfl) (h_.en 11 rfl) rfl Yq QaU (by first | omega | (simp only[aa,av,ab,ah,aj]; omega) | (simp only[aa,ay,ab,ah,aj]; omega)) rfl (h_.fr 12 rfl) (nlr rfl)) rfl,dxn rfl rfl rfl,dxf YB rfl rfl rfl,dxf XP rfl rfl rfl,fun _ h_=>ac (Qc (h_.v rfl) (h_.en 0 rfl) (h_.w rfl) (by simp only[ZB,X7,aQ,b8]; rw[(h_.en 12 rfl)]; rfl) WK rfl) rfl,⟨⟩⟩ ?_
 iterate 6 refine w_ ?_
 refine lc (Vu (Qa rfl) (Qv rfl) rfl (by first | omega | (simp only[aa,ah,aj]; omega))) ?_
 iterate 3 refine w_ ?_
 subst hO
 have e9:(((b.2.2++([word])).length:Int) - 1:Int)=(trI b word):=by
  (unfold trI; rw[Qbz (YK hno (by omega)),aa]; simp)
 exact QD _ _ [(0,0),(1,1),(2,2),(3,10),(4,12),(5,7)] (Qg rfl (Qd rfl)) (by rw[e9] <;> rfl) ⟨(((congrArg (fun z_=>some (Ent.box 347 [dI z_, .ref 10, .ref 1, .ref 12,dS b.1.2.2.2, .ref 2, .ref 7])) (show (b.1.1.1:Int)=(trV b word).1.1.1 by (rw[Y4 (YK hno (by omega))]; done)))).trans (congrArg (fun z_=>some (Ent.box 347 [dI ((trV b word).1.1.1), .ref 10, .ref 1, .ref 12,dS z_, .ref 2, .ref 7])) (show (b.1.2.2.2:ByteArray)=(trV b word).1.2.2.2 by (rw[Y4 (YK hno (by omega))]; done)))),(Qp (by (rw[Y4 (YK hno (by omega))]; done))),(Qp (by (rw[Y4 (YK hno (by omega))]; done))),(Qp (by (rw[Y4 (YK hno (by omega)),← QrQ hnw hc0 ‹_›]; done))),(Qp (by (rw[Y4 (YK hno (by omega))]; done))),(Qp (by (rw[Y4 (YK hno (by omega))]; done))),trivial⟩ rfl rfl
 have hb8':¬(c0=126):=Zx hb8
 refine w_ ?_
 obtain ⟨cz,hc11⟩:=gs nm (((nm.size:Int) - 1).toNat)
 have hcz:=hc11
 refine dz [io 42 (lP 0 0),io 43 (lP 0 0),io 44 (lP 0 0),io 45 (lP 0 2),io 46 (lR 1),io 47 (lf (dS nm)),io 48 (lf (dS nm)),io 49 (lI (nm.size:Int)),io 50 (lI ((nm.size:Int) - 1)),io 51 (lf (dS (nm.extract 0 ((nm.size:Int) - 1).toNat))),io 52 (lI (ZN (fun x:Q9=>decide (x.1=(nm.extract 0 ((nm.size:Int) - 1).toNat))) b.1.2.1)),io 53 (lf (dS nm)),io 54 (lf (dS nm)),io 55 (lI (nm.size:Int)),io 56 (lI ((nm.size:Int) - 1)),io 57 (lf (.dat .u8 cz)),io 58 (lB (decide (cz=43))),io 59 (ag [dI (ZN (fun x:Q9=>decide (x.1=(nm.extract 0 ((nm.size:Int) - 1).toNat))) b.1.2.1),dB (decide (cz=43))]),⟨none,lf (.val undef),[(8,some (.box 55 [dI (ZN (fun x:Q9=>decide (x.1=(nm.extract 0 ((nm.size:Int) - 1).toNat))) b.1.2.1),dB (decide (cz=43))]))]⟩] [0,1,3,7,15,0,0,64,192,480,1023,0,0,4096,12288,30720,63488,131071,262143] mixed rfl (by kernel_rfl) ⟨dxm rfl rfl,dxn rfl rfl rfl,dxf YB rfl rfl rfl,dxf XH rfl rfl rfl,dxl Ub rfl rfl rfl rfl rfl,dxm rfl rfl,dxm rfl rfl,fun _ h_=>ac (W2 (h_.v rfl) rfl ZS) rfl,fun _ h_=>ac (Vu (h_.v rfl) (Qv rfl) rfl (by first | omega | (simp only[aa,ah,aj]; omega))) rfl,fun _ h_=>ac (show Does _ _ _ _ (St.put _ 51 (lf (dS (nm.extract 0 ((nm.size:Int) - 1).toNat)))) from ZW (l:=none) (h:=(some ((nm.size:Int) - 1))) (h_.v rfl) (by exact trivial) (by exact (h_.v rfl)) ZS rfl (by first | omega | (simp only[ao,ak]; omega)) (by first | omega | (simp only[ao,ak]; omega)) (by first | omega | (simp only[ao,ak]; omega))) rfl,fun _ h_=>ac (Yv (Qb5 b.1.2.1 (nm.extract 0 ((nm.size:Int) - 1).toNat)) QjN ⟨_,_,rfl,(U3 (h_.v rfl) (h_.n 1 rfl)),⟨_,_,rfl,(Ev.b (h_.w rfl)),rfl⟩⟩ rfl rfl rfl) rfl,dxm rfl rfl,dxm rfl rfl,fun _ h_=>ac (W2 (h_.v rfl) rfl ZS) rfl,fun _ h_=>ac (Vu (h_.v rfl) (Qv rfl) rfl (by first | omega | (simp only[aa,ah,aj]; omega))) rfl,fun _ h_=>ac (ZY (h_.v rfl) (h_.v rfl) rfl ZS (by omega) hc11) rfl,fun _ h_=>ac (Z7 (h_.v rfl) (ZJ 43 rfl) rfl) rfl,fun _ h_=>ac (QA QjM ⟨_,_,rfl,(h_.w rfl),⟨_,_,rfl,(h_.w rfl),rfl⟩⟩ (ae.1 rfl) rfl rfl) rfl,fun _ h_=>ac (Qc (h_.v rfl) (h_.n 8 rfl) (h_.w rfl) rfl ZO rfl) rfl,⟨⟩⟩ ?_
 iterate 8 refine w_ ?_
 refine lc (QA HA rfl (ae.1 rfl) rfl rfl)<|lc (Qf 13 (e:=QS) Zw Zn We rfl ⟨_,_,rfl,(Qb rfl),rfl⟩ (ae.1 rfl) ⟨_,_,_,_,rfl,⟨[.val (.slice none 0 0)],[.val (.slice none 0 0)],_,_,_,_,rfl,rfl,(.inr ⟨rfl,rfl,rfl⟩),(.inr ⟨rfl,rfl,rfl⟩),rfl⟩,⟨rfl,rfl⟩,rfl⟩ (by decide) rfl rfl (Fresh.of rfl) (nlr rfl))<|lc (QH 14 (Qa rfl) rfl (Qa rfl) rfl rfl Zw HD (by first | omega | (simp only[aa,av,ab,ah,aj]; omega) | (simp only[aa,ay,ab,ah,aj]; omega)) rfl (Fresh.of rfl) (nlr rfl)) ?_
 iterate 4 refine w_ ?_
 refine lc (Qc (Qa rfl) rfl (Qb rfl) rfl Yf rfl) ?_
 refine w_ ?_
 refine dw [io 74 (lP 0 0),io 75 (lP 0 0),io 76 (lP 0 0),io 77 (lP 0 0),io 78 (lP 0 3),io 79 (lR 4),io 80 (ag [dI (ZN (fun x:Q9=>decide (x.1=(nm.extract 0 ((nm.size:Int) - 1).toNat))) b.1.2.1),dB (decide (cz=43))]),⟨some 81,lR 15,[(15,some (.arr 55 Q5 ([(ZN (fun x:Q9=>decide (x.1=(nm.extract 0 ((nm.size:Int) - 1).toNat))) b.1.2.1,decide (cz=43))])))]⟩,⟨some 82,lR 16,[(16,some (.arr 55 Q5 (b.1.2.2.1++([(ZN (fun x:Q9=>decide (x.1=(nm.extract 0 ((nm.size:Int) - 1).toNat))) b.1.2.1,decide (cz=43))])))),(4,none),(15,none)]⟩,io 83 (lP 0 0),io 84 (lP 0 0),io 85 (lP 0 3),⟨none,lf (.val undef),[(0,some (.box 347 [dI b.1.1.1, .ref 14, .ref 1, .ref 16,dS b.1.2.2.2, .ref 2, .ref 7]))]⟩] [0,0,2,6,14,30,0,64,254,511,1023,2047,4095] mixed rfl (by kernel_rfl) ⟨dxm rfl rfl,dxm rfl rfl,dxn rfl rfl rfl,dxf YB rfl rfl rfl,dxf XP rfl rfl rfl,dxl WK rfl rfl rfl rfl rfl,dxa ZO rfl rfl rfl rfl,fun _ h_=>ac (Qf 15 (e:=Q5) Yq ZO WF rfl ⟨_,_,rfl,(h_.w rfl),rfl⟩ (ae.1 rfl) ⟨_,_,_,_,rfl,⟨[dI (ZN (fun x:Q9=>decide (x.1=(nm.extract 0 ((nm.size:Int) - 1).toNat))) b.1.2.1)],[dB (decide (cz=43))],_,_,_,_,rfl,rfl,⟨rfl,rfl⟩,⟨rfl,rfl⟩,rfl⟩,⟨rfl,rfl⟩,rfl⟩ (by decide) rfl rfl (h_.fr 15 rfl) (nlr rfl)) rfl,fun _ h_=>ac (QH 16 (h_.v rfl) (h_.en 4 rfl) (h_.v rfl) (h_.en 15 rfl) rfl Yq QaU (by first | omega | (simp only[aa,av,ab,ah,aj]; omega) | (simp only[aa,ay,ab,ah,aj]; omega)) rfl (h_.fr 16 rfl) (nlr rfl)) rfl,dxn rfl rfl rfl,dxf YB rfl rfl rfl,dxf XP rfl rfl rfl,fun _ h_=>ac (Qc (h_.v rfl) (h_.en 0 rfl) (h_.w rfl) (by simp only[ZB,X7,aQ,b8]; rw[(h_.en 16 rfl)]; rfl) WK rfl) rfl,⟨⟩⟩ ?_
 iterate 6 refine w_ ?_
 refine lc (Vu (Qa rfl) (Qv rfl) rfl (by first | omega | (simp only[aa,ah,aj]; omega))) ?_
 iterate 3 refine w_ ?_
 subst hO
 have e12:(((b.2.2++([word])).length:Int) - 1:Int)=(trI b word):=by
  (unfold trI; rw[Qbz (YK hno (by omega)),aa]; simp)
 exact QD _ _ [(0,0),(1,1),(2,2),(3,14),(4,16),(5,7)] (Qg rfl (Qd rfl)) (by rw[e12] <;> rfl) ⟨(((congrArg (fun z_=>some (Ent.box 347 [dI z_, .ref 14, .ref 1, .ref 16,dS b.1.2.2.2, .ref 2, .ref 7])) (show (b.1.1.1:Int)=(trV b word).1.1.1 by (rw[Y4 (YK hno (by omega))]; done)))).trans (congrArg (fun z_=>some (Ent.box 347 [dI ((trV b word).1.1.1), .ref 14, .ref 1, .ref 16,dS z_, .ref 2, .ref 7])) (show (b.1.2.2.2:ByteArray)=(trV b word).1.2.2.2 by (rw[Y4 (YK hno (by omega))]; done)))),(Qp (by (rw[Y4 (YK hno (by omega))]; done))),(Qp (by (rw[Y4 (YK hno (by omega))]; done))),(Qp (by (rw[Y4 (YK hno (by omega)),← Qrt hnw hc0 ‹_› hcz]; done))),(Qp (by (rw[Y4 (YK hno (by omega))]; done))),(Qp (by (rw[Y4 (YK hno (by omega))]; done))),trivial⟩ rfl rfl
 have hb3':=a8 hb3
 iterate 6 refine w_ ?_
 refine lc (Qw (e:= .str) (Qa rfl) rfl (Qa rfl) Zo Zg rfl (by omega) (by first | omega | (simp only[aq]; omega))) ?_
 obtain ⟨x,hx14⟩:=gx b.2.2 k
 have hxz:=hx14
 refine lc (QP (e:= .str) (Qa rfl) rfl hx14 rfl Zg rfl rfl) ?_
 iterate 8 refine w_ ?_
 cases hb15:(decide (x=word))
 have hb15':=a7 hb15
 iterate 4 refine w_ ?_
 refine lc (Xb (Qa rfl) (Qv rfl) rfl (by first | omega | (simp only[aa,ah,aj]; omega))) ?_
 refine w_ ?_
 refine Qm<|QV ⟨k+1,by omega,rfl,hno.step hx14 (aP ‹_›),rfl⟩ (by omega) ?_
 exact wo [(0,0),(1,1),(2,2),(3,3),(4,4),(5,5)]
 have hb15':=a8 hb15
 iterate 6 refine w_ ?_
 subst hO
 have e16:((k:Int):Int)=(trI b word):=by
  exact QoW hno hxz ‹_›
 exact QD _ _ [(0,0),(1,1),(2,2),(3,3),(4,4),(5,5)] (Qg rfl (Qd rfl)) (by rw[e16] <;> rfl) ⟨(((congrArg (fun z_=>some (Ent.box 347 [dI z_, .ref 3, .ref 1, .ref 4,dS b.1.2.2.2, .ref 2, .ref 5])) (show (b.1.1.1:Int)=(trV b word).1.1.1 by (rw[K3 (XC hxz ‹_›)]; done)))).trans (congrArg (fun z_=>some (Ent.box 347 [dI ((trV b word).1.1.1), .ref 3, .ref 1, .ref 4,dS z_, .ref 2, .ref 5])) (show (b.1.2.2.2:ByteArray)=(trV b word).1.2.2.2 by (rw[K3 (XC hxz ‹_›)]; done)))),(Qp (by (rw[K3 (XC hxz ‹_›)]; done))),(Qp (by (rw[K3 (XC hxz ‹_›)]; done))),(Qp (by (rw[K3 (XC hxz ‹_›)]; done))),(Qp (by (rw[K3 (XC hxz ‹_›)]; done))),(Qp (by (rw[K3 (XC hxz ‹_›)]; done))),trivial⟩ rfl rfl
end Go.Proofs.YtjaadeknhofhpaaGreat
namespace Go.Proofs.YtjaadeknhofhpaaGreat
open Go.RowKit
set_option maxRecDepth 100000
set_option maxHeartbeats 4000000
section
variable {text tx fr to_ nm:ByteArray}{c c0:UInt8}{b b1:DB}{p:Int}
theorem Qrr (h:okA text=true):1≤text.size∧2≤(Z5 (H5 text) 62).length∧(1≤(X9 text 0).size∧(b0 (X9 text 0)=95∨1≤(Qa7 (X9 text 0)).size))∧1≤(X9 text 1).size∧(b0 (X9 text 1)=95∨1≤(Qa7 (X9 text 1)).size):=by
  unfold okA okW at h
  simp only[aF,bR,aN] at h
  exact ⟨h.1,h.2.1,h.2.2.1,h.2.2.2⟩
theorem WJ (hc:text[(0:Int).toNat]? =some c):b0 text=c:=by unfold b0; rw[show text[0]? =some c from hc]; rfl
theorem Qsc (hc:text[(0:Int).toNat]? =some c)(h:c=42):text.extract (1:Int).toNat text.size=H5 text:=by unfold H5; rw[WJ hc,if_pos h]; rfl
theorem Qs3 (hc:text[(0:Int).toNat]? =some c)(h:¬c=42):text=H5 text:=by unfold H5; rw[WJ hc,if_neg h]
theorem Xq {k:Nat}(hx:tx=H5 text)(h:(Z5 tx 62)[k]? =some fr):X9 text k=fr:=by unfold X9; rw[← hx,h]; rfl
theorem QqR (h1:X9 text 1=to_)(hc:to_[(0:Int).toNat]? =some c)(h:c=95):to_=Qa6 text:=by unfold Qa6; rw[h1,WJ hc,if_pos h]
theorem Qsx (h1:X9 text 1=to_)(hc:to_[(0:Int).toNat]? =some c)(h:¬c=95)(h0:X9 text 0=fr)(hc0:fr[(0:Int).toNat]? =some c0)(h2:c0=95):fr=Qa6 text:=by unfold Qa6; rw[h1,WJ hc,if_neg h,h0,WJ hc0,if_pos h2]
theorem Qr6 (h1:X9 text 1=to_)(hc:to_[(0:Int).toNat]? =some c)(h:¬c=95)(h0:X9 text 0=fr)(hc0:fr[(0:Int).toNat]? =some c0)(h2:¬c0=95)(hx:tx=H5 text):tx=Qa6 text:=by unfold Qa6; rw[h1,WJ hc,if_neg h,h0,WJ hc0,if_neg h2,hx]
theorem Qsa (h0:X9 text 0=fr)(hc0:fr[(0:Int).toNat]? =some c0)(h:c0=95):b=ar1 p b text:=by unfold ar1; rw[h0,WJ hc0,if_pos h]
theorem QsE (h0:X9 text 1=to_)(hc0:to_[(0:Int).toNat]? =some c0)(h:c0=95):b=ar2 p b text:=by unfold ar2; rw[h0,WJ hc0,if_pos h]
theorem Qsf (h0:X9 text 0=fr)(hc0:fr[(0:Int).toNat]? =some c0)(h:¬c0=95):((((trV b fr).1.1.1,QeU (trV b fr).1.1.2 (trI b fr) p),(trV b fr).1.2.1,(trV b fr).1.2.2.1,(trV b fr).1.2.2.2),(trV b fr).2.1,(trV b fr).2.2)=ar1 p b text:=by unfold ar1; rw[h0,WJ hc0,if_neg h]
theorem QsJ (h0:X9 text 1=to_)(hc0:to_[(0:Int).toNat]? =some c0)(h:¬c0=95):((((trV b to_).1.1.1,Qd0 (trV b to_).1.1.2 (trI b to_) p),(trV b to_).1.2.1,(trV b to_).1.2.2.1,(trV b to_).1.2.2.2),(trV b to_).2.1,(trV b to_).2.2)=ar2 p b text:=by unfold ar2; rw[h0,WJ hc0,if_neg h]
theorem QgZ {k:Nat}(hx:tx=H5 text)(hf:(Z5 tx 62)[k]? =some fr)(hs:text.size≤1000)(ho:b0 (X9 text k)=95∨1≤(Qa7 (X9 text k)).size)(hc:fr[(0:Int).toNat]? =some c)(h:¬c=95):fr.size≤1000∧1≤(Qa7 fr).size:=by
  have h1:=Qat (ai hf)
  have h2:(H5 text).size≤text.size:=by unfold H5; split; simp only[aR]; omega; exact aL _
  rw[Xq hx hf,WJ hc] at ho
  rw[hx] at h1
  exact ⟨by omega,ho.resolve_left h⟩
theorem Qkc {b2:DB}(hc:text[(0:Int).toNat]? =some c)(h:¬c=42)(hm:nm=Qa6 text)(h1:b1=ar1 (plI b nm) (plV b nm) text)(h2:b2=ar2 (plI b nm) b1 text):arV b text=b2:=by
  rw[h2,h1,hm]; unfold arV; dsimp only; rw[WJ hc,if_neg h]
theorem QjX {b2:DB}(hc:text[(0:Int).toNat]? =some c)(h:c=42)(hm:nm=Qa6 text)(h1:b1=ar1 (plI b nm) (plV b nm) text)(h2:b2=ar2 (plI b nm) b1 text):arV b text=((b2.1.1,b2.1.2.1,b2.1.2.2.1,QnT b2.1.2.2.2 (plI b nm)),b2.2.1,b2.2.2):=by
  rw[h2,h1,hm]; unfold arV; dsimp only; rw[WJ hc,if_pos h]
theorem Qnx:(H5 text).size≤text.size:=by unfold H5; split; simp only[aR]; omega; exact aL _
end
theorem QcT (b:DB)(text:ByteArray)(n_:Nat)(hI:DBJ b n_ (2*n_) (2*n_))(hn:n_≤1000)(ht:okA text=true)(hs:text.size≤1000):FC Tryz.prog 336 [(false,[.ptr 0 0]),(false,[dS text])] [(0,some (.box 347 [dI b.1.1.1, .ref 2, .ref 1, .ref 3,dS b.1.2.2.2, .ref 4, .ref 5])),(2,some (.arr 198 QS b.1.1.2)),(1,some (.arr 90 QY b.1.2.1)),(3,some (.arr 55 Q5 b.1.2.2.1)),(4,some (.arr 9 .str b.2.1)),(5,some (.arr 9 .str b.2.2))] 2 (Is (PV.tup []) [(0,some (.box 347 [dI ((arV b text).1.1.1), .ref 2, .ref 1, .ref 3,dS ((arV b text).1.2.2.2), .ref 4, .ref 5])),(2,some (.arr 198 QS ((arV b text).1.1.2))),(1,some (.arr 90 QY ((arV b text).1.2.1))),(3,some (.arr 55 Q5 ((arV b text).1.2.2.1))),(4,some (.arr 9 .str ((arV b text).2.1))),(5,some (.arr 9 .str ((arV b text).2.2)))]):=by
 obtain ⟨ho1,ho2,⟨ho3,ho4⟩,ho5,ho6⟩:=Qrr ht
 have hbs:=Qnx (text:=text)
 have hi0:=hI.p0
 have hi1:=hI.pl
 have hi2:=hI.st
 have hi3:=hI.tr
 have hi4:=hI.la
 have hi5:=hI.ws
 refine QO Tryz.func336 rfl rfl Tryz.ntmps336 fun O_ hO w0_ N0_ X_ h0_ f0_=> ?_
 iterate 2 refine w_ ?_
 obtain ⟨tc,hc2⟩:=gs text ((0:Int).toNat)
 have htc:=hc2
 refine lc (ZY (Qa rfl) (Qv rfl) rfl ZS (by omega) hc2)<|lc (Z7 (Qa rfl) (ZJ 42 rfl) rfl) ?_
 iterate 2 refine w_ ?_
 refine Qbf (fun s_=>∃(tx:ByteArray),(tx=H5 text)∧s_=⟨[(0,lP 0 0),(1,lf (dS tx)),(4,lB (decide (tc=42)))],[(0,some (.box 347 [dI b.1.1.1, .ref 2, .ref 1, .ref 3,dS b.1.2.2.2, .ref 4, .ref 5])),(1,some (.arr 90 QY b.1.2.1)),(2,some (.arr 198 QS b.1.1.2)),(3,some (.arr 55 Q5 b.1.2.2.1)),(4,some (.arr 9 .str b.2.1)),(5,some (.arr 9 .str b.2.2))]⟩) ?_ fun J3=> ?_
 rintro s_ ⟨tx,hx,rfl⟩
 have hx2:2≤(Z5 tx 62).length:=by rw[hx]; exact ho2
 iterate 2 refine w_ ?_
 refine lc (Ql (Vz tx 62 (by rw[hx]; omega)).frozen QaK ⟨_,_,rfl,(Qb rfl),⟨_,_,rfl,(Evl.ev (ZJ 62 rfl)),rfl⟩⟩ rfl rfl) ?_
 iterate 2 refine w_ ?_
 obtain ⟨fr,hx5⟩:=gx (Z5 tx 62) 0
 have hfr:=hx5
 have hsfr:1≤fr.size:=by first | (rw[← Xq (k:=0) hx hx5]; exact ho3) | (rw[← Xq (k:=1) hx hx5]; exact ho5)
 obtain ⟨to_,hx7⟩:=gx (Z5 tx 62) 1
 have hto_:=hx7
 have hsto_:1≤to_.size:=by first | (rw[← Xq (k:=0) hx hx7]; exact ho3) | (rw[← Xq (k:=1) hx hx7]; exact ho5)
 refine dw [io 20 (lf (.dat Zr (Z5 tx 62))),io 21 (lf (.elt .str fr 0)),io 22 (lf (dS fr)),io 23 (lf (.dat Zr (Z5 tx 62))),io 24 (lf (.elt .str to_ 0)),io 25 (lf (dS to_)),io 6 (lf (dS fr)),io 7 (lf (dS to_))] [0,1,3,0,8,24,7,127] mixed rfl (by kernel_rfl) ⟨dxm rfl rfl,fun _ h_=>ac (Qh (h_.v rfl) (Qv rfl) Zo Zg rfl (by omega) hx5) rfl,fun _ h_=>ac (Q3 (h_.v rfl) Zg rfl rfl) rfl,dxm rfl rfl,fun _ h_=>ac (Qh (h_.v rfl) (Qv rfl) Zo Zg rfl (by omega) hx7) rfl,fun _ h_=>ac (Q3 (h_.v rfl) Zg rfl rfl) rfl,dxt rfl rfl,dxt rfl rfl,⟨⟩⟩ ?_
 refine Qov (fun s_=>∃(nm:ByteArray),(nm=Qa6 text)∧s_=⟨[(0,lP 0 0),(4,lB (decide (tc=42))),(6,lf (dS fr)),(7,lf (dS to_)),(8,lf (dS nm))],[(0,some (.box 347 [dI b.1.1.1, .ref 2, .ref 1, .ref 3,dS b.1.2.2.2, .ref 4, .ref 5])),(1,some (.arr 90 QY b.1.2.1)),(2,some (.arr 198 QS b.1.1.2)),(3,some (.arr 55 Q5 b.1.2.2.1)),(4,some (.arr 9 .str b.2.1)),(5,some (.arr 9 .str b.2.2))]⟩) ?_ fun J8=> ?_
 rintro s_ ⟨nm,hm,rfl⟩
 have hk:=hI.pl_ (name:=nm)
 have hk1:=hk.tr
 have hk2:=hk.la
 have hk3:=hk.ws
 have hpr:=QlO (b:=b) (name:=nm)
 iterate 3 refine w_ ?_
 refine lc (QK 6 [(0,0),(1,2),(2,1),(3,3),(4,5),(5,4)] (QbM b nm (by omega) (by omega)) Qkv ⟨_,_,rfl,(Qb rfl),⟨_,_,rfl,(Qb rfl),rfl⟩⟩ ⟨rfl,rfl,rfl,rfl,rfl,rfl,trivial⟩ rfl ⟨trivial,trivial,trivial,trivial,(Fresh.of rfl),trivial,trivial,trivial,trivial,(Fresh.of rfl),trivial,trivial⟩ (nlr rfl)) ?_
 iterate 2 refine w_ ?_
 refine Qbf (fun s_=>∃(b1:((Int×(List (List Int×List Int)))×(List (ByteArray×Int))×(List (Int×Bool))×ByteArray)×List ByteArray×List ByteArray),(b1=ar1 (plI b nm) (plV b nm) text)∧s_=⟨[(0,lP 0 0),(4,lB (decide (tc=42))),(7,lf (dS to_)),(9,lI (plI b nm))],[(0,some (.box 347 [dI b1.1.1.1, .ref 12, .ref 1, .ref 13,dS b1.1.2.2.2, .ref 14, .ref 15])),(1,some (.arr 90 QY b1.1.2.1)),(12,some (.arr 198 QS b1.1.1.2)),(13,some (.arr 55 Q5 b1.1.2.2.1)),(14,some (.arr 9 .str b1.2.1)),(15,some (.arr 9 .str b1.2.2))]⟩) ?_ fun J9=> ?_
 rintro s_ ⟨b1,hb1,rfl⟩
 have hI1:DBJ b1 (n_+1) (2*n_+1) (2*n_+1):=by rw[hb1]; exact hk.ar1_
 have hj1:=hI1.tr
 have hj2:=hI1.la
 have hj3:=hI1.ws
 refine Qbf (fun s_=>∃(b2:((Int×(List (List Int×List Int)))×(List (ByteArray×Int))×(List (Int×Bool))×ByteArray)×List ByteArray×List ByteArray),(b2=ar2 (plI b nm) b1 text)∧s_=⟨[(0,lP 0 0),(4,lB (decide (tc=42))),(9,lI (plI b nm))],[(0,some (.box 347 [dI b2.1.1.1, .ref 16, .ref 1, .ref 17,dS b2.1.2.2.2, .ref 18, .ref 19])),(1,some (.arr 90 QY b2.1.2.1)),(16,some (.arr 198 QS b2.1.1.2)),(17,some (.arr 55 Q5 b2.1.2.2.1)),(18,some (.arr 9 .str b2.2.1)),(19,some (.arr 9 .str b2.2.2))]⟩) ?_ fun J10=> ?_
 rintro s_ ⟨b2,hb2,rfl⟩
 have hI2:DBJ b2 (n_+1) (2*n_+2) (2*n_+2):=by rw[hb2]; exact hI1.ar2_
 have hst2:=hI2.st
 have hpl2:b2.2.1=(plV b nm).2.1:=by rw[hb2,QoV,hb1,QnL]
 rw[hpl2] at hst2
 have hkp:=hk.pl
 iterate 3 refine w_ ?_
 cases hb11:(decide (tc=42))
 have hb11':=a7 hb11
 iterate 2 refine w_ ?_
 refine (?_:fin _ _ _ _ .normal _)
 subst hO
 exact QD _ _ [(0,0),(1,1),(2,16),(3,17),(4,18),(5,19)] (QiI rfl) (rfl) ⟨(((congrArg (fun z_=>some (Ent.box 347 [dI z_, .ref 16, .ref 1, .ref 17,dS b2.1.2.2.2, .ref 18, .ref 19])) (show (b2.1.1.1:Int)=(arV b text).1.1.1 by (rw[Qkc htc ‹_› hm hb1 hb2]; done)))).trans (congrArg (fun z_=>some (Ent.box 347 [dI ((arV b text).1.1.1), .ref 16, .ref 1, .ref 17,dS z_, .ref 18, .ref 19])) (show (b2.1.2.2.2:ByteArray)=(arV b text).1.2.2.2 by (rw[Qkc htc ‹_› hm hb1 hb2]; done)))),(Qp (by (rw[Qkc htc ‹_› hm hb1 hb2]; done))),(Qp (by (rw[Qkc htc ‹_› hm hb1 hb2]; done))),(Qp (by (rw[Qkc htc ‹_› hm hb1 hb2]; done))),(Qp (by (rw[Qkc htc ‹_› hm hb1 hb2]; done))),(Qp (by (rw[Qkc htc ‹_› hm hb1 hb2]; done))),trivial⟩ rfl rfl
 have hb11':=a8 hb11
 refine w_ ?_
 refine dv [io 93 (lP 0 0),io 94 (lP 0 0),io 95 (lP 0 0),io 96 (lP 0 0),io 97 (lP 0 4),io 98 (lf (dS b2.1.2.2.2)),io 99 (lI (plI b nm)),io 100 (lf (dS (b2.1.2.2.2.extract 0 (plI b nm).toNat))),io 101 (lf (dS ((b2.1.2.2.2.extract 0 (plI b nm).toNat)++(⟨#[49]⟩:ByteArray)))),io 102 (lP 0 0),io 103 (lP 0 0),io 104 (lP 0 0),io 105 (lP 0 4),io 106 (lf (dS b2.1.2.2.2)),io 107 (lI (plI b nm)),io 108 (lI ((plI b nm)+1)),io 109 (lf (dS (b2.1.2.2.2.extract ((plI b nm)+1).toNat b2.1.2.2.2.size))),io 110 (lf (dS (((b2.1.2.2.2.extract 0 (plI b nm).toNat)++(⟨#[49]⟩:ByteArray))++(b2.1.2.2.2.extract ((plI b nm)+1).toNat b2.1.2.2.2.size)))),io 111 (lP 0 0),io 112 (lP 0 0),io 113 (lP 0 4),⟨none,lf (.val undef),[(0,some (.box 347 [dI b2.1.1.1, .ref 16, .ref 1, .ref 17,dS (((b2.1.2.2.2.extract 0 (plI b nm).toNat)++(⟨#[49]⟩:ByteArray))++(b2.1.2.2.2.extract ((plI b nm)+1).toNat b2.1.2.2.2.size)), .ref 18, .ref 19]))]⟩] [0,0,2,6,14,30,0,126,254,0,512,1536,3584,7680,0,16384,65024,131070,262143,524287,1048575,2097151] mixed rfl (by kernel_rfl) ⟨dxm rfl rfl,dxm rfl rfl,dxn rfl rfl rfl,dxf YB rfl rfl rfl,dxf XQ rfl rfl rfl,dxl Zg rfl rfl rfl rfl rfl,dxm rfl rfl,fun _ h_=>ac (show Does _ _ _ _ (St.put _ 100 (lf (dS (b2.1.2.2.2.extract 0 (plI b nm).toNat)))) from ZW (l:=none) (h:=(some (plI b nm))) (h_.v rfl) (by exact trivial) (by exact (h_.v rfl)) ZS rfl (by first | omega | (simp only[ao,ak]; omega)) (by first | omega | (simp only[ao,ak]; omega)) (by first | omega | (simp only[ao,ak]; omega))) rfl,fun _ h_=>ac (Z9 (h_.v rfl) (Evl.str rfl) rfl (by (simp only[aV,aR,XZ]; omega))) rfl,dxm rfl rfl,dxn rfl rfl rfl,dxf YB rfl rfl rfl,dxf XQ rfl rfl rfl,dxl Zg rfl rfl rfl rfl rfl,dxm rfl rfl,fun _ h_=>ac (Xb (h_.v rfl) (Qv rfl) rfl (by omega)) rfl,fun _ h_=>ac (show Does _ _ _ _ (St.put _ 109 (lf (dS (b2.1.2.2.2.extract ((plI b nm)+1).toNat b2.1.2.2.2.size)))) from ZW (l:=(some ((plI b nm)+1))) (h:=none) (h_.v rfl) (by exact (h_.v rfl)) (by exact trivial) ZS rfl (by first | omega | (simp only[ao,ak]; omega)) (by first | omega | (simp only[ao,ak]; omega)) (by first | omega | (simp only[ao,ak]; omega))) rfl,fun _ h_=>ac (Z9 (h_.v rfl) (h_.v rfl) rfl (by (simp only[aV,aR,XZ]; omega))) rfl,dxn rfl rfl rfl,dxf YB rfl rfl rfl,dxf XQ rfl rfl rfl,fun _ h_=>ac (Qc (h_.v rfl) (h_.n 0 rfl) (h_.w rfl) rfl Zg rfl) rfl,⟨⟩⟩ ?_
 refine (?_:fin _ _ _ _ .normal _)
 subst hO
 exact QD _ _ [(0,0),(1,1),(2,16),(3,17),(4,18),(5,19)] (QiI rfl) (rfl) ⟨(((congrArg (fun z_=>some (Ent.box 347 [dI z_, .ref 16, .ref 1, .ref 17,dS (((b2.1.2.2.2.extract 0 (plI b nm).toNat)++(⟨#[49]⟩:ByteArray))++(b2.1.2.2.2.extract ((plI b nm)+1).toNat b2.1.2.2.2.size)), .ref 18, .ref 19])) (show (b2.1.1.1:Int)=(arV b text).1.1.1 by (rw[QjX htc ‹_› hm hb1 hb2]; done)))).trans (congrArg (fun z_=>some (Ent.box 347 [dI ((arV b text).1.1.1), .ref 16, .ref 1, .ref 17,dS z_, .ref 18, .ref 19])) (show (((b2.1.2.2.2.extract 0 (plI b nm).toNat)++(⟨#[49]⟩:ByteArray))++(b2.1.2.2.2.extract ((plI b nm)+1).toNat b2.1.2.2.2.size):ByteArray)=(arV b text).1.2.2.2 by (rw[QjX htc ‹_› hm hb1 hb2]; rfl)))),(Qp (by (rw[QjX htc ‹_› hm hb1 hb2]; done))),(Qp (by (rw[QjX htc ‹_› hm hb1 hb2]; done))),(Qp (by (rw[QjX htc ‹_› hm hb1 hb2]; done))),(Qp (by (rw[QjX htc ‹_› hm hb1 hb2]; done))),(Qp (by (rw[QjX htc ‹_› hm hb1 hb2]; done))),trivial⟩ rfl rfl
 iterate 3 refine w_ ?_
 obtain ⟨tc2,hc13⟩:=gs to_ ((0:Int).toNat)
 have htc2:=hc13
 refine lc (ZY (Qa rfl) (Qv rfl) rfl ZS (by omega) hc13)<|lc (YU (Qa rfl) (ZJ 95 rfl) rfl) ?_
 refine w_ ?_
 cases hb14:(!decide (tc2=95))
 have hb14':(tc2=95):=Zm hb14
 iterate 2 refine w_ ?_
 refine QcR (J10 _ ⟨b1,(by exact QsE (Xq hx hto_) htc2 ‹_›),rfl⟩) ?_
 exact wo [(0,0),(1,1),(16,12),(17,13),(18,14),(19,15)]
 have hb14':¬(tc2=95):=Zx hb14
 iterate 4 refine w_ ?_
 refine lc (QK 20 [(0,0),(1,1),(2,14),(3,12),(4,13),(5,15)] (UU b1 to_ (by first | exact QgZ hx hfr hs ho4 hfc ‹_› | exact QgZ hx hto_ hs ho6 htc2 ‹_›) (by omega)) QdC ⟨_,_,rfl,(Qb rfl),⟨_,_,rfl,(Qb rfl),rfl⟩⟩ ⟨rfl,rfl,rfl,rfl,rfl,rfl,trivial⟩ rfl ⟨trivial,(Fresh.of rfl),trivial,(Fresh.of rfl),trivial,(Fresh.of rfl),(Fresh.of rfl),trivial,(Fresh.of rfl),trivial,(Fresh.of rfl),trivial⟩ (nlr rfl)) ?_
 iterate 2 refine w_ ?_
 have hkI:=hI1.tr_ (word:=to_)
 have hkt:=hkI.tr
 have hkr:=Qlx (b:=b1) (word:=to_)
 obtain ⟨y,hy⟩:=gx ((trV b1 to_).1.1.2) ((trI b1 to_).toNat)
 have hc:=(KC hy).2
 have hyi:=hkI.inn y (ai hy)
 have hpp:(trI b1 to_).toNat*2+0 < (ZG QS ((trV b1 to_).1.1.2)).length:=by rw[Wm]; exact Qrs (by omega)
 refine AC.wk (Qc0 (q:=23) rfl (by omega))<|AC.wk (V7 26 (q:=23) (p:=(trI b1 to_).toNat*2+0) (E':=3) (e':= .int) (ys:=y.1) rfl (hc) (Fresh.of rfl) (aC rfl)) ?_
 refine dz [io 71 (lP 0 0),io 72 (lP 0 0),io 73 (lP 0 0),io 74 (lP 0 0),io 75 (lP 0 1),io 76 (lR 23),io 77 (lI (trI b1 to_)),io 78 (lP 0 0),io 79 (lP 0 0),io 80 (lP 0 0),io 81 (lP 0 0),io 82 (lP 0 1),io 83 (lR 23),io 84 (lI (trI b1 to_)),io 85 (lf (.ept 23 2 ((trI b1 to_).toNat) 0)),io 86 (lf (.ept 23 2 ((trI b1 to_).toNat) 0)),io 87 (lR 26),io 88 (lI (plI b nm)),⟨some 89,lR 27,[(27,some (.arr 3 .int (Y1 ltI (plI b nm) y.1))),(26,none)]⟩,io 90 (lf (.ept 23 2 ((trI b1 to_).toNat) 0)),io 91 (lf (.ept 23 2 ((trI b1 to_).toNat) 0)),⟨none,lf (.val undef),[(23,some (.obx 198 2 (((trV b1 to_).1.1.2).length) (ZG QS ((trV b1 to_).1.1.2)) [((trI b1 to_).toNat*2+0, .ref 27),((trI b1 to_).toNat*2+0, .ref 26)]))]⟩] [0,1,3,7,15,31,0,0,128,384,896,1920,3968,0,16256,32640,65408,0,262016,524287,1048575,2097151] mixed rfl (by kernel_rfl) ⟨dxm rfl rfl,dxn rfl rfl rfl,dxf YB rfl rfl rfl,dxf Z1 rfl rfl rfl,dxf Zz rfl rfl rfl,dxl Yf rfl rfl rfl rfl rfl,dxm rfl rfl,dxm rfl rfl,dxn rfl rfl rfl,dxf YB rfl rfl rfl,dxf Z1 rfl rfl rfl,dxf Zz rfl rfl rfl,dxl Yf rfl rfl rfl rfl rfl,dxm rfl rfl,fun _ h_=>ac (YN (h_.v rfl) (h_.en 23 rfl) (h_.v rfl) Zw Zn rfl (by omega) (by omega)) rfl,fun _ h_=>ac (ZI (h_.v rfl) Z0 (by rw[(h_.en 23 rfl)]; rfl) rfl) rfl,fun _ h_=>ac (W5 (h_.v rfl) (h_.en 23 rfl) (by simp only[ovr,aY,aq,hpp,hc,cB,if_true,if_false,↓reduceIte]) (h_.en 26 rfl) QU rfl) rfl,dxm rfl rfl,fun _ h_=>ac (QK 27 [(0,26)] (Qai y.1 (plI b nm) (by omega)) QdJ ⟨_,_,rfl,(h_.w rfl),⟨_,_,rfl,(h_.w rfl),rfl⟩⟩ ⟨(h_.en 26 rfl),trivial⟩ rfl ⟨(h_.fr 27 rfl),trivial⟩ (nlr rfl)) rfl,fun _ h_=>ac (YN (h_.v rfl) (h_.en 23 rfl) (h_.v rfl) Zw Zn rfl (by omega) (by omega)) rfl,fun _ h_=>ac (ZI (h_.v rfl) Z0 (by rw[(h_.en 23 rfl)]; rfl) rfl) rfl,fun _ h_=>ac (Wp (t:=26) (h_.v rfl) (h_.en 23 rfl) (by simp only[ovr,aY,aq,hpp,hc,cB,if_true,if_false,↓reduceIte]) (h_.v rfl) (h_.en 27 rfl) QU) rfl,⟨⟩⟩ ?_
 refine QcR (J10 _ ⟨((((trV b1 to_).1.1.1,Qd0 ((trV b1 to_).1.1.2) (trI b1 to_) (plI b nm)),(trV b1 to_).1.2.1,(trV b1 to_).1.2.2.1,(trV b1 to_).1.2.2.2),(trV b1 to_).2.1,(trV b1 to_).2.2),(by exact QsJ (Xq hx hto_) htc2 ‹_›),rfl⟩) ?_
 refine Wk.trans (Ki (q:=23) (t:=27) (p:=(trI b1 to_).toNat*2+0) rfl (by simp only[ovr,aY,aq,hpp,hc,cB,if_true,if_false,↓reduceIte]) rfl) ?_
 refine Wk.trans (Qbg (q:=23) (e:=QS) (Qd0 ((trV b1 to_).1.1.2) (trI b1 to_) (plI b nm)) rfl (by simp[Qd0]) (by simp only[ovr]; rw[List.set_set,List.set_set,Qao hy,QmK hy])) ?_
 exact wp [(0,0),(1,1),(16,23),(17,24),(18,14),(19,25)] ⟨rfl,(Qp (by first | rfl | simp)),(Qp (by first | rfl | simp)),(Qp (by first | rfl | simp)),(Qp (by first | rfl | simp)),(Qp (by first | rfl | simp)),trivial⟩
 iterate 3 refine w_ ?_
 obtain ⟨fc,hc16⟩:=gs fr ((0:Int).toNat)
 have hfc:=hc16
 refine lc (ZY (Qa rfl) (Qv rfl) rfl ZS (by omega) hc16)<|lc (YU (Qa rfl) (ZJ 95 rfl) rfl) ?_
 refine w_ ?_
 cases hb17:(!decide (fc=95))
 have hb17':(fc=95):=Zm hb17
 iterate 2 refine w_ ?_
 refine QcR (J9 _ ⟨(plV b nm),(by exact Qsa (Xq hx hfr) hfc ‹_›),rfl⟩) ?_
 exact wo [(0,0),(1,1),(12,2),(13,3),(14,11),(15,5)]
 have hb17':¬(fc=95):=Zx hb17
 iterate 4 refine w_ ?_
 refine lc (QK 28 [(0,0),(1,1),(2,11),(3,2),(4,3),(5,5)] (UU (plV b nm) fr (by first | exact QgZ hx hfr hs ho4 hfc ‹_› | exact QgZ hx hto_ hs ho6 htc2 ‹_›) (by omega)) QdC ⟨_,_,rfl,(Qb rfl),⟨_,_,rfl,(Qb rfl),rfl⟩⟩ ⟨rfl,rfl,rfl,rfl,rfl,rfl,trivial⟩ rfl ⟨trivial,(Fresh.of rfl),trivial,(Fresh.of rfl),trivial,(Fresh.of rfl),(Fresh.of rfl),trivial,(Fresh.of rfl),trivial,(Fresh.of rfl),trivial⟩ (nlr rfl)) ?_
 iterate 2 refine w_ ?_
 have hkI:=hk.tr_ (word:=fr)
 have hkt:=hkI.tr
 have hkr:=Qlx (b:=plV b nm) (word:=fr)
 obtain ⟨y,hy⟩:=gx ((trV (plV b nm) fr).1.1.2) ((trI (plV b nm) fr).toNat)
 have hc:=(KC hy).1
 have hyi:=hkI.inn y (ai hy)
 have hpp:(trI (plV b nm) fr).toNat*2+1 < (ZG QS ((trV (plV b nm) fr).1.1.2)).length:=by rw[Wm]; exact Qry (by omega)
 refine AC.wk (Qc0 (q:=31) rfl (by omega))<|AC.wk (V7 34 (q:=31) (p:=(trI (plV b nm) fr).toNat*2+1) (E':=3) (e':= .int) (ys:=y.2) rfl (hc) (Fresh.of rfl) (aC rfl)) ?_
 refine dz [io 44 (lP 0 0),io 45 (lP 0 0),io 46 (lP 0 0),io 47 (lP 0 0),io 48 (lP 0 1),io 49 (lR 31),io 50 (lI (trI (plV b nm) fr)),io 51 (lP 0 0),io 52 (lP 0 0),io 53 (lP 0 0),io 54 (lP 0 0),io 55 (lP 0 1),io 56 (lR 31),io 57 (lI (trI (plV b nm) fr)),io 58 (lf (.ept 31 2 ((trI (plV b nm) fr).toNat) 0)),io 59 (lf (.ept 31 2 ((trI (plV b nm) fr).toNat) 1)),io 60 (lR 34),io 61 (lI (plI b nm)),⟨some 62,lR 35,[(35,some (.arr 3 .int (Y1 ltI (plI b nm) y.2))),(34,none)]⟩,io 63 (lf (.ept 31 2 ((trI (plV b nm) fr).toNat) 0)),io 64 (lf (.ept 31 2 ((trI (plV b nm) fr).toNat) 1)),⟨none,lf (.val undef),[(31,some (.obx 198 2 (((trV (plV b nm) fr).1.1.2).length) (ZG QS ((trV (plV b nm) fr).1.1.2)) [((trI (plV b nm) fr).toNat*2+1, .ref 35),((trI (plV b nm) fr).toNat*2+1, .ref 34)]))]⟩] [0,1,3,7,15,31,0,0,128,384,896,1920,3968,0,16256,32640,65408,0,262016,524287,1048575,2097151] mixed rfl (by kernel_rfl) ⟨dxm rfl rfl,dxn rfl rfl rfl,dxf YB rfl rfl rfl,dxf Z1 rfl rfl rfl,dxf Zz rfl rfl rfl,dxl Yf rfl rfl rfl rfl rfl,dxm rfl rfl,dxm rfl rfl,dxn rfl rfl rfl,dxf YB rfl rfl rfl,dxf Z1 rfl rfl rfl,dxf Zz rfl rfl rfl,dxl Yf rfl rfl rfl rfl rfl,dxm rfl rfl,fun _ h_=>ac (YN (h_.v rfl) (h_.en 31 rfl) (h_.v rfl) Zw Zn rfl (by omega) (by omega)) rfl,fun _ h_=>ac (ZI (h_.v rfl) YV (by rw[(h_.en 31 rfl)]; rfl) rfl) rfl,fun _ h_=>ac (W5 (h_.v rfl) (h_.en 31 rfl) (by simp only[ovr,aY,aq,hpp,hc,cB,if_true,if_false,↓reduceIte]) (h_.en 34 rfl) QU rfl) rfl,dxm rfl rfl,fun _ h_=>ac (QK 35 [(0,34)] (Qai y.2 (plI b nm) (by omega)) QdJ ⟨_,_,rfl,(h_.w rfl),⟨_,_,rfl,(h_.w rfl),rfl⟩⟩ ⟨(h_.en 34 rfl),trivial⟩ rfl ⟨(h_.fr 35 rfl),trivial⟩ (nlr rfl)) rfl,fun _ h_=>ac (YN (h_.v rfl) (h_.en 31 rfl) (h_.v rfl) Zw Zn rfl (by omega) (by omega)) rfl,fun _ h_=>ac (ZI (h_.v rfl) YV (by rw[(h_.en 31 rfl)]; rfl) rfl) rfl,fun _ h_=>ac (Wp (t:=34) (h_.v rfl) (h_.en 31 rfl) (by simp only[ovr,aY,aq,hpp,hc,cB,if_true,if_false,↓reduceIte]) (h_.v rfl) (h_.en 35 rfl) QU) rfl,⟨⟩⟩ ?_
 refine QcR (J9 _ ⟨((((trV (plV b nm) fr).1.1.1,QeU ((trV (plV b nm) fr).1.1.2) (trI (plV b nm) fr) (plI b nm)),(trV (plV b nm) fr).1.2.1,(trV (plV b nm) fr).1.2.2.1,(trV (plV b nm) fr).1.2.2.2),(trV (plV b nm) fr).2.1,(trV (plV b nm) fr).2.2),(by exact Qsf (Xq hx hfr) hfc ‹_›),rfl⟩) ?_
 refine Wk.trans (Ki (q:=31) (t:=35) (p:=(trI (plV b nm) fr).toNat*2+1) rfl (by simp only[ovr,aY,aq,hpp,hc,cB,if_true,if_false,↓reduceIte]) rfl) ?_
 refine Wk.trans (Qbg (q:=31) (e:=QS) (QeU ((trV (plV b nm) fr).1.1.2) (trI (plV b nm) fr) (plI b nm)) rfl (by simp[QeU]) (by simp only[ovr]; rw[List.set_set,List.set_set,QaV hy,QmX hy])) ?_
 exact wp [(0,0),(1,1),(12,31),(13,32),(14,11),(15,33)] ⟨rfl,(Qp (by first | rfl | simp)),(Qp (by first | rfl | simp)),(Qp (by first | rfl | simp)),(Qp (by first | rfl | simp)),(Qp (by first | rfl | simp)),trivial⟩
 iterate 7 refine w_ ?_
 obtain ⟨fc,hc19⟩:=gs fr ((0:Int).toNat)
 have hfc:=hc19
 refine lc (ZY (Qa rfl) (Qv rfl) rfl ZS (by omega) hc19)<|lc (Z7 (Qa rfl) (ZJ 95 rfl) rfl) ?_
 refine w_ ?_
 cases hb20:(decide (fc=95))
 have hb20':=a7 hb20
 iterate 5 refine w_ ?_
 obtain ⟨tc2,hc22⟩:=gs to_ ((0:Int).toNat)
 have htc2:=hc22
 refine lc (ZY (Qa rfl) (Qv rfl) rfl ZS (by omega) hc22)<|lc (Z7 (Qa rfl) (ZJ 95 rfl) rfl) ?_
 refine w_ ?_
 cases hb23:(decide (tc2=95))
 have hb23':=a7 hb23
 iterate 2 refine w_ ?_
 refine QcR (J8 _ ⟨tx,(by exact Qr6 (Xq hx hto_) htc2 ‹_› (Xq hx hfr) hfc ‹_› hx),rfl⟩) ?_
 exact wo [(0,0),(1,1),(2,2),(3,3),(4,4),(5,5)]
 have hb23':=a8 hb23
 iterate 5 refine w_ ?_
 refine QcR (J8 _ ⟨to_,(by exact QqR (Xq hx hto_) htc2 ‹_›),rfl⟩) ?_
 exact wo [(0,0),(1,1),(2,2),(3,3),(4,4),(5,5)]
 have hb20':=a8 hb20
 iterate 8 refine w_ ?_
 obtain ⟨tc2,hc25⟩:=gs to_ ((0:Int).toNat)
 have htc2:=hc25
 refine lc (ZY (Qa rfl) (Qv rfl) rfl ZS (by omega) hc25)<|lc (Z7 (Qa rfl) (ZJ 95 rfl) rfl) ?_
 refine w_ ?_
 cases hb26:(decide (tc2=95))
 have hb26':=a7 hb26
 iterate 2 refine w_ ?_
 refine QcR (J8 _ ⟨fr,(by exact Qsx (Xq hx hto_) htc2 ‹_› (Xq hx hfr) hfc ‹_›),rfl⟩) ?_
 exact wo [(0,0),(1,1),(2,2),(3,3),(4,4),(5,5)]
 have hb26':=a8 hb26
 iterate 5 refine w_ ?_
 refine QcR (J8 _ ⟨to_,(by exact QqR (Xq hx hto_) htc2 ‹_›),rfl⟩) ?_
 exact wo [(0,0),(1,1),(2,2),(3,3),(4,4),(5,5)]
 iterate 4 refine w_ ?_
 cases hb27:(decide (tc=42))
 have hb27':=a7 hb27
 iterate 2 refine w_ ?_
 refine QcR (J3 _ ⟨text,(by exact Qs3 htc ‹_›),rfl⟩) ?_
 exact Wk.of [(0,0),(1,1),(2,2),(3,3),(4,4),(5,5)] rfl ⟨rfl,rfl,(congrArg (fun z_=>some (lB z_)) ((hb27).symm)),trivial⟩ ⟨rfl,rfl,rfl,rfl,rfl,rfl,trivial⟩ rfl rfl
 have hb27':=a8 hb27
 iterate 3 refine w_ ?_
 refine lc (show Does _ _ _ _ (St.put _ 17 (lf (dS (text.extract (1:Int).toNat text.size)))) from ZW (l:=(some 1)) (h:=none) (Qa rfl) (by exact (Qv rfl)) (by exact trivial) ZS rfl (by first | omega | (simp only[ao,ak]; omega)) (by first | omega | (simp only[ao,ak]; omega)) (by first | omega | (simp only[ao,ak]; omega))) ?_
 iterate 2 refine w_ ?_
 refine QcR (J3 _ ⟨(text.extract (1:Int).toNat text.size),(by exact Qsc htc ‹_›),rfl⟩) ?_
 exact Wk.of [(0,0),(1,1),(2,2),(3,3),(4,4),(5,5)] rfl ⟨rfl,rfl,(congrArg (fun z_=>some (lB z_)) ((hb27).symm)),trivial⟩ ⟨rfl,rfl,rfl,rfl,rfl,rfl,trivial⟩ rfl rfl
end Go.Proofs.YtjaadeknhofhpaaGreat
