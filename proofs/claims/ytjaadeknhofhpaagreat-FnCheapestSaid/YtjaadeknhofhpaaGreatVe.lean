/- Walks over abstract states: the arcs that leave a state; the place of a name. -/
import Derived.Test.YtjaadeknhofhpaaGreatVc
import Derived.Test.YtjaadeknhofhpaaGreatAv
import Derived.DeepKeys3
set_option linter.unusedSimpArgs false
set_option linter.unusedVariables false
set_option linter.unusedSectionVars false
namespace Go.Proofs.YtjaadeknhofhpaaGreat
open Go.RowKit
set_option maxRecDepth 100000
set_option maxHeartbeats 4000000
def DelI {α:Type _}(p:α→Bool)(l0 l:List α)(i j:Int):Prop:=(0≤i∧i < j∧j≤(l.length:Int))∧l.length=l0.length∧l.take i.toNat=(l0.take j.toNat).filter p∧l.drop j.toNat=l0.drop j.toNat
section
variable {α:Type _}{p f:α→Bool}{l0 l:List α}{i j:Int}{x:α}
theorem HU (f:α→Bool)(l:List α):(Ze f l= -1∧∀x∈l,f x=false)∨∃(k:Nat) (x:α),Ze f l=(k:Int)∧l[k]? =some x∧f x=true∧NoneTo f l k:=by
  unfold Ze
  cases h:l.findIdx? f with
  | none=>exact .inl ⟨rfl,fun x hx=>by simpa using List.findIdx?_eq_none_iff.1 h x hx⟩
  | some k=>
    obtain ⟨h1,h2,h3⟩:=c9.1 h
    exact .inr ⟨k,l[k],rfl,ai h1,h2,fun j hj y hy=>by
      obtain ⟨h4,h5⟩:=ab.1 hy
      have:=h3 j hj
      rw[h5] at this
      simpa using this⟩
theorem Qit (f:α→Bool)(l:List α): -1≤Ze f l∧Ze f l < (l.length:Int):=by
  rcases HU f l with ⟨h,_⟩ | ⟨k,x,h,h2,_⟩
  · omega
  · have := (ab.1 h2).1
    omega
theorem Qce (h:Ze f l= -1):l=l.filter fun x=> !f x:=by
  rcases HU f l with ⟨_,h2⟩ | ⟨k,_,h2,_⟩
  · exact (List.filter_eq_self.2 fun x hx=>by rw[h2 x hx]; rfl).symm
  · omega
theorem DelI.start (h:¬Ze f l= -1):DelI (fun x=> !f x) l l (Ze f l) (Ze f l+1):=by
  rcases HU f l with ⟨h2,_⟩ | ⟨k,x,h2,h3,h4,h5⟩
  · exact absurd h2 h
  · have hk := (ab.1 h3).1
    rw[h2]
    refine ⟨by omega,rfl, ?_,rfl⟩
    rw[show ((k:Int)+1).toNat=k+1 by omega,show ((k:Int)).toNat=k by omega,QO h3,b5]
    have:([x].filter fun x=> !f x)=[]:=by simp[h4]
    rw[this,bo]
    refine (List.filter_eq_self.2 fun y hy=> ?_).symm
    obtain ⟨n,hn⟩:=aJ.1 hy
    have hn2:=(ab.1 hn).1
    rw[ak] at hn2
    rw[List.getElem?_take_of_lt (by omega)] at hn
    rw[h5 n (by omega) y hn]; rfl
theorem DelI.at_ (h:DelI p l0 l i j)(hx:l[j.toNat]? =some x):l0[j.toNat]? =some x:=by
  obtain ⟨h1,h2,h3,h4⟩:=h
  have:=congrArg (fun l:List α=>l[0]?) h4
  simpa [hx] using this.symm
theorem DelI.lt (h:DelI p l0 l i j)(hx:l[j.toNat]? =some x):j < (l.length:Int):=by
  have:=(ab.1 hx).1
  obtain ⟨h1,_⟩:=h
  omega
theorem DelI.drop_ (h:DelI p l0 l i j)(hx:l[j.toNat]? =some x)(hp:p x=false):DelI p l0 l i (j+1):=by
  have h0:=h.at_ hx
  have hl:=h.lt hx
  obtain ⟨h1,h2,h3,h4⟩:=h
  refine ⟨by omega,h2, ?_, ?_⟩
  · rw[show (j+1).toNat=j.toNat+1 by omega,QO h0,b5,h3]; simp[hp]
  · have := congrArg (List.drop 1) h4
    rw[cY,cY] at this
    rw[show (j+1).toNat=j.toNat+1 by omega]
    exact this
theorem DelI.keep (h:DelI p l0 l i j)(hx:l[j.toNat]? =some x)(hp:p x=true):DelI p l0 (l.set i.toNat x) (i+1) (j+1):=by
  have h0:=h.at_ hx
  have hl:=h.lt hx
  obtain ⟨h1,h2,h3,h4⟩:=h
  refine ⟨by rw[au]; omega,by rw[au]; exact h2, ?_, ?_⟩
  · have hg : (l.set i.toNat x)[i.toNat]? = some x := aR (by omega)
    rw[show (j+1).toNat=j.toNat+1 by omega,show (i+1).toNat=i.toNat+1 by omega,QO hg,QO h0,b5,List.take_set_of_le (aO _),h3]
    simp[hp]
  · have := congrArg (List.drop 1) h4
    rw[cY,cY] at this
    rw[show (j+1).toNat=j.toNat+1 by omega,List.drop_set_of_lt (by omega)]
    exact this
theorem DelI.end_ {z:List α}(h:DelI p l0 l i j)(hj:¬j < (l.length:Int))(n:Nat)(hn:n=i.toNat):(l.take i.toNat++z).take n=l0.filter p:=by
  obtain ⟨h1,h2,h3,h4⟩:=h
  subst hn
  rw[List.take_left' (by rw[ak]; omega),h3,br (by omega)]
end
theorem Qh4 {l:List DAr}{q:Int}:(l.filter fun x=> !(!decide (x.1=q)))=Z7 l q:=by
  unfold Z7
  congr 1
  funext x
  rw[Bool.not_not]
theorem V0 (a:Int×Int×Bool×Int)(q:Int):FC Tryz.prog 360 [(true,[dI a.1,dI a.2.1,dB a.2.2.1,dI a.2.2.2]),(false,[.ptr 0 0])] [(0,some (.box 3 [dI q]))] 1 (Is (lB (!decide (a.1=q))) [(0,some (.box 3 [dI q]))]):=by
 refine Qy Tryz.func360 rfl rfl Tryz.ntmps360 fun O_ hO w0_ N0_ X_ h0_ f0_=> ?_
 refine AC.fact (QH (x:= .tmp 0) (i:=0) (Qf rfl) rfl) fun hi1=>AC.fact (QH (x:= .tmp 0) (i:=1) (Qf rfl) rfl) fun hi2=>AC.fact (QH (x:= .tmp 0) (i:=3) (Qf rfl) rfl) fun hi3=> ?_
 refine w_ ?_
 refine xbx 1 ?_
 iterate 6 refine w_ ?_
 refine AL.fact (Ql (x:= .tmp 6) (Qa rfl)) fun hi4=> ?_
 iterate 4 refine w_ ?_
 subst hO
 exact QF _ _ [] (Res.one rfl (Qb rfl)) (rfl) ⟨rfl,trivial⟩ rfl rfl
theorem KY (l:List (Int×Int×Bool×Int))(q:Int)(hl:l.length≤1000000):FC Tryz.prog 276 [(false,[.ref 1]),(false,[.clo 360 [0]])] [(0,some (.box 3 [dI q])),(1,some (.arr 106 QA l))] 2 (Is (lI (Ze (fun a:DAr=> !decide (a.1=q)) l)) [(0,some (.box 3 [dI q])),(1,some (.arr 106 QA l))]):=by
 refine Qy Tryz.func276 rfl rfl Tryz.ntmps276 fun O_ hO w0_ N0_ X_ h0_ f0_=> ?_
 iterate 10 refine w_ ?_
 refine Qm (fun m_ s_=>∃(k:Nat),k≤l.length∧m_=l.length - k∧(NoneTo (fun a:DAr=> !decide (a.1=q)) l k)∧s_=⟨[(0,lR 1),(1,lf (.clo 360 [0])),(7,lI (l.length:Int)),(8,lI (k:Int))],[(0,some (.box 3 [dI q])),(1,some (.arr 106 QA l))]⟩) ⟨0,ap _,rfl,NoneTo.zero,rfl⟩ ?_ ?_
 exact wo []
 rintro m_ s_ ⟨k,hk1,hm2,hno,rfl⟩
 iterate 4 refine w_ ?_
 cases hb3:(decide ((k:Int) < (l.length:Int)))
 have hb3':=a6 hb3
 iterate 7 refine w_ ?_
 subst hO
 have e4:((-1):Int)=(Ze (fun a:DAr=> !decide (a.1=q)) l):=by
  first | exact (hno.no (by omega)).symm
 exact QF _ _ [] (Res.one rfl (Qb rfl)) (by rw[← e4] <;> rfl) ⟨rfl,rfl,trivial⟩ rfl rfl
 have hb3':=a7 hb3
 iterate 12 refine w_ ?_
 refine lc (QS (e:=QA) (Qa rfl) rfl (Qa rfl) VR Wv rfl (by omega) (by first | omega | (simp only[au]; omega))) ?_
 obtain ⟨x5,hx6⟩:=gx l k
 refine lc (Ua (e:=QA) (Qa rfl) rfl hx6 rfl Wv rfl rfl)<|lc (Xn (args0:=[(true,[dI x5.1,dI x5.2.1,dB x5.2.2.1,dI x5.2.2.2])]) (caps:=[0]) 2 [(0,0)] (V0 x5 q) Qev rfl (Qa rfl) rfl rfl ⟨_,_,rfl,(Qf rfl),rfl⟩ ⟨rfl,trivial⟩ rfl ⟨trivial,trivial⟩ (nlr rfl)) ?_
 refine w_ ?_
 cases hb7:(!decide (x5.1=q))
 have hb7':(x5.1=q):=QT hb7
 iterate 6 refine w_ ?_
 refine Qc<|QE ⟨k+1,by omega,rfl,hno.step hx6 (by simp[*]),rfl⟩ (by omega) ?_
 exact wo []
 have hb7':¬(x5.1=q):=Q0 hb7
 iterate 6 refine w_ ?_
 subst hO
 have e8:((k:Int):Int)=(Ze (fun a:DAr=> !decide (a.1=q)) l):=by
  exact (hno.at hx6 (by simp[*])).symm
 exact QF _ _ [] (Res.one rfl (Qb rfl)) (by rw[e8] <;> rfl) ⟨rfl,rfl,trivial⟩ rfl rfl
theorem Qa3 (l:List (Int×Int×Bool×Int))(q:Int)(hl:l.length≤1000000):FC Tryz.prog 358 [(false,[.ref 1]),(false,[.clo 360 [0]])] [(0,some (.box 3 [dI q])),(1,some (.arr 106 QA l))] 1 (Is (lR 2) [(0,some (.box 3 [dI q])),(2,some (.arr 106 QA (Z7 l q)))]):=by
 have hix:=Qit (fun a:DAr=> !decide (a.1=q)) l
 refine Qy Tryz.func358 rfl rfl Tryz.ntmps358 fun O_ hO w0_ N0_ X_ h0_ f0_=> ?_
 iterate 6 refine w_ ?_
 refine lc (dP 2 [] (KY l q hl) HH) ?_
 iterate 7 refine w_ ?_
 cases hb1:(decide ((Ze (fun a:DAr=> !decide (a.1=q)) l)=(-1)))
 have hb1':=a6 hb1
 iterate 9 refine w_ ?_
 refine Qm (fun m_ s_=>∃(i:Int) (j:Int) (l2:List (Int×Int×Bool×Int)),m_=((l2.length:Int) - j).toNat∧(DelI (fun x:DAr=> !(!decide (x.1=q))) l l2 i j)∧s_=⟨[(0,lR 4),(1,lf (.clo 360 [0])),(4,lf (.val (.slice none 0 0))),(5,lI i),(6,lI j)],[(0,some (.box 3 [dI q])),(4,some (.arr 106 QA l2))]⟩) ⟨Ze (fun a:DAr=> !decide (a.1=q)) l,(Ze (fun a:DAr=> !decide (a.1=q)) l)+1,l,rfl,(DelI.start ‹_›),rfl⟩ ?_ ?_
 exact wo [(4,1)]
 rintro m_ s_ ⟨i,j,l2,hm3,hD,rfl⟩
 have hDb:=hD.1
 have hDl:=hD.2.1
 iterate 7 refine w_ ?_
 cases hb4:(decide (j < (l2.length:Int)))
 have hb4':=a6 hb4
 iterate 6 refine w_ ?_
 refine lc (Yh (e:=QA) (a:=(i).toNat) (b:=l2.length - (i).toNat) (l:=(some i)) (h:=none) (Qa rfl) rfl (by exact (Qa rfl)) (by exact trivial) VR Wv rfl (by first | (simp only[aj,ae]; omega) | omega | (simp only[aj,ae,aa,ak,ay]; omega)) (by first | (simp only[aj,ae]; omega) | omega | (simp only[aj,ae,aa,ak,ay]; omega)) (by first | (simp only[aj,ae]; omega) | omega | (simp only[aj,ae,aa,ak,ay]; omega)) (by first | rfl | simp) (by first | rfl | simp))<|lc (Qck (e:=QA) (Qa rfl) rfl (by omega) VR Za rfl rfl rfl) ?_
 iterate 4 refine w_ ?_
 refine lc (Yh (e:=QA) (a:=0) (b:=(i).toNat) (l:=none) (h:=(some i)) (Qa rfl) rfl (by exact trivial) (by exact (Qa rfl)) VR Wv rfl (by first | (simp only[aj,ae]; omega) | omega | (simp only[aj,ae,aa,ak,ay]; omega)) (by first | (simp only[aj,ae]; omega) | omega | (simp only[aj,ae,aa,ak,ay]; omega)) (by first | (simp only[aj,ae]; omega) | omega | (simp only[aj,ae,aa,ak,ay]; omega)) (by first | rfl | simp) (by first | rfl | simp)) ?_
 iterate 2 refine w_ ?_
 refine AC.wk (Qes 5 4 (e:=QA) (xs:=l2.take ((i).toNat)++List.replicate (l2.length - (i).toNat) (Ty.zero QA)) rfl rfl (by first | omega | (simp only[aa,ak,ay]; omega)) rfl (Fresh.of rfl) (nlr rfl))<|Zf ?_
 subst hO
 exact QF _ _ [(2,5)] (Res.one rfl (Qb rfl)) (rfl) ⟨rfl,(Qh (by exact (hD.end_ ‹_› _ (by omega)).trans Qh4)),trivial⟩ rfl rfl
 have hb4':=a7 hb4
 iterate 7 refine w_ ?_
 refine lc (QS (e:=QA) (Qa rfl) rfl (Qa rfl) VR Wv rfl (by omega) (by first | omega | (simp only[au]; omega))) ?_
 obtain ⟨xj,hx6⟩:=gx l2 ((j).toNat)
 refine lc (Ua (e:=QA) (Qa rfl) rfl hx6 rfl Wv rfl rfl)<|lc (xal 6 QA Za) ?_
 iterate 5 refine w_ ?_
 refine lc (Xn (args0:=[(true,[dI xj.1,dI xj.2.1,dB xj.2.2.1,dI xj.2.2.2])]) (caps:=[0]) 7 [(0,0)] (V0 xj q) Qev rfl (Qa rfl) rfl rfl ⟨_,_,rfl,(Qf rfl),rfl⟩ ⟨rfl,trivial⟩ rfl ⟨trivial,trivial⟩ (nlr rfl)) ?_
 iterate 2 refine w_ ?_
 cases hb7:(!decide (xj.1=q))
 have hb7':(xj.1=q):=QT hb7
 iterate 5 refine w_ ?_
 refine lc (QS (e:=QA) (Qa rfl) rfl (Qa rfl) VR Wv rfl (by omega) (by first | omega | (simp only[au]; omega))) ?_
 obtain ⟨x8,hx9⟩:=gx l2 ((i).toNat)
 refine lc (QG (e:=QA) (z':=xj) (Qa rfl) rfl hx9 rfl (Qf rfl) rfl Wv rfl rfl) ?_
 iterate 5 refine w_ ?_
 refine Qc ?_
 iterate 5 refine w_ ?_
 refine Qc<|QE ⟨(i+1),(j+1),(l2.set ((i).toNat) xj),rfl,(by exact hD.keep (x:=xj) ‹_› (by simp[*])),rfl⟩ (by first | omega | (simp only[au]; omega)) ?_
 exact wp [] ⟨rfl,(Qh (by first | rfl | simp)),trivial⟩
 have hb7':¬(xj.1=q):=Q0 hb7
 iterate 7 refine w_ ?_
 refine Qc<|QE ⟨i,(j+1),l2,rfl,(by exact hD.drop_ (x:=xj) ‹_› (by simp[*])),rfl⟩ (by first | omega | (simp only[au]; omega)) ?_
 exact wo []
 have hb1':=a7 hb1
 iterate 6 refine w_ ?_
 subst hO
 exact QF _ _ [(2,1)] (Res.one rfl (Qb rfl)) (rfl) ⟨rfl,(Qh (by exact (Qce ‹_›).trans Qh4)),trivial⟩ rfl rfl
theorem Wp (s:List (Int×Int×Bool×Int))(hl:s.length≤1000000):FC Tryz.prog 359 [(false,[.dat QD s])] [] 0 (Xe 106 QA s):=by
 refine Qy Tryz.func359 rfl rfl Tryz.ntmps359 fun O_ hO w0_ N0_ X_ h0_ f0_=> ?_
 iterate 6 refine w_ ?_
 refine Qje (Qa rfl) Evl.val VR rfl fun b1 hnil=> ?_
 refine w_ ?_
 cases hb2:(b1)
 iterate 3 refine w_ ?_
 refine lc (dBs 0 (e:=QA) Za) ?_
 refine w_ ?_
 refine lc (ZH 1 (Qa rfl) rfl (Evl.rep (Qa rfl)) rfl VR Uh (by first | omega | (simp only[aa,aF,ak,ao,aD]; omega) | (simp only[aa,bn,ak,ao,aD]; omega)) rfl (Fresh.of rfl) (nlr rfl)) ?_
 iterate 3 refine w_ ?_
 subst hO
 refine Zc (e:=QA) (xs:=(([])++s)) (Res.one rfl (Qb rfl)) rfl ?_
 rfl
 iterate 4 refine w_ ?_
 refine AC.wk (Wk.nilS 2 2 106 QA rfl (Fresh.of rfl) (nlr rfl))<|Zf ?_
 subst hO
 refine Zc (e:=QA) (xs:=([])) (Res.one rfl (Qb rfl)) rfl ?_
 exact (hnil ‹_›).symm
theorem Qb9 (c:(List (ByteArray×Int))×List ByteArray×(List (Int×Int×Bool×Int)))(q:Int)(hl:c.2.2.length≤1000000):FC Tryz.prog 322 [(true,[.dat Qo c.1, .dat Qr c.2.1, .dat QD c.2.2]),(false,[dI q])] [] 0 (Xe 106 QA (Z7 c.2.2 q)):=by
 refine Qy Tryz.func322 rfl rfl Tryz.ntmps322 fun O_ hO w0_ N0_ X_ h0_ f0_=> ?_
 refine AC.fact (Ql (x:= .tmp 1) (Qa rfl)) fun hi1=> ?_
 refine w_ ?_
 refine xbx 0 ?_
 refine xbx 1 ?_
 iterate 5 refine w_ ?_
 refine lc (dO 2 (Wp c.2.2 hl) Qkd) ?_
 refine lc (Xb ⟨_,_,rfl,(Qa rfl),rfl,rfl⟩ rfl) ?_
 refine lc (dP 3 [(0,1),(1,2)] (Qa3 c.2.2 q hl) Qlz) ?_
 iterate 3 refine w_ ?_
 subst hO
 refine Zc (e:=QA) (xs:=(Z7 c.2.2 q)) (Res.one rfl (Qb rfl)) rfl ?_
 rfl
theorem Qdu (c:(List (ByteArray×Int))×List ByteArray×(List (Int×Int×Bool×Int)))(q:Int)(hl:c.2.2.length≤1000000):FC Tryz.prog 361 [(true,[.dat Qo c.1, .dat Qr c.2.1, .dat QD c.2.2]),(false,[dI q])] [] 0 (Xe 106 QA (Z7 c.2.2 q)):=by
 refine Qy Tryz.func361 rfl rfl Tryz.ntmps361 fun O_ hO w0_ N0_ X_ h0_ f0_=> ?_
 refine AC.fact (Ql (x:= .tmp 1) (Qa rfl)) fun hi1=> ?_
 refine w_ ?_
 refine xbx 0 ?_
 iterate 9 refine w_ ?_
 refine AL.fact (Qp (x:= .tmp 9) (Qa rfl)) fun hl2=> ?_
 iterate 4 refine w_ ?_
 refine AC.wk (Wk.nilS 1 5 106 QA rfl (Fresh.of rfl) (nlr rfl)) ?_
 refine Qm (fun m_ s_=>∃(k:Nat),k≤c.2.2.length∧m_=c.2.2.length - k∧s_=⟨[(1,lI q),(4,lf (.val (.slice none 0 0))),(5,lR 2),(9,lf (.dat QD c.2.2)),(10,lI (c.2.2.length:Int)),(11,lI (k:Int))],[(2,some (.arr 106 QA (Z7 (c.2.2.take k) q)))]⟩) ⟨0,ap _,rfl,rfl⟩ ?_ ?_
 exact wp [(2,1)] ⟨(Qh (by first | rfl | simp)),trivial⟩
 rintro m_ s_ ⟨k,hk3,hm4,rfl⟩
 have hfl:=Qa6 (l:=c.2.2.take k) (q:=q)
 have hft:(c.2.2.take k).length≤c.2.2.length:=by simp only[ak]; omega
 iterate 4 refine w_ ?_
 cases hb5:(decide ((k:Int) < (c.2.2.length:Int)))
 have hb5':=a6 hb5
 iterate 8 refine w_ ?_
 subst hO
 refine Zc (e:=QA) (xs:=(Z7 (c.2.2.take k) q)) (Res.one rfl (Qb rfl)) rfl ?_
 rw[QN (by omega)]
 have hb5':=a7 hb5
 iterate 5 refine w_ ?_
 obtain ⟨x6,hx7⟩:=gx c.2.2 k
 iterate 2 refine w_ ?_
 refine lc (xal 3 QA Za) ?_
 iterate 5 refine w_ ?_
 refine AL.fact (Ql (x:= .tmp 16) (Qa rfl)) fun hi8=> ?_
 iterate 3 refine w_ ?_
 cases hb9:(decide (x6.1=q))
 have hb9':=a6 hb9
 iterate 6 refine w_ ?_
 refine Qc<|QE ⟨k+1,by omega,rfl,rfl⟩ (by omega) ?_
 exact wp [] ⟨(Qh (by first | exact QiY hx7 ‹_› | exact Qmb hx7 ‹_›)),trivial⟩
 have hb9':=a7 hb9
 iterate 4 refine w_ ?_
 refine lc (dBs 4 (e:=QA) Za (hab:=by exact ⟨_,_,_,_,rfl,⟨[dI x6.1],[dI x6.2.1,dB x6.2.2.1,dI x6.2.2.2],_,_,_,_,rfl,rfl,⟨rfl,rfl⟩,⟨[dI x6.2.1],[dB x6.2.2.1,dI x6.2.2.2],_,_,_,_,rfl,rfl,⟨rfl,rfl⟩,⟨[dB x6.2.2.1],[dI x6.2.2.2],_,_,_,_,rfl,rfl,⟨rfl,rfl⟩,⟨rfl,rfl⟩,rfl⟩,rfl⟩,rfl⟩,⟨rfl,rfl⟩,rfl⟩)) ?_
 refine lc (dA 5 Uh) ?_
 refine w_ ?_
 refine Qc ?_
 iterate 4 refine w_ ?_
 refine Qc<|QE ⟨k+1,by omega,rfl,rfl⟩ (by omega) ?_
 exact wp [(2,5)] ⟨(Qh (by first | exact QiY hx7 ‹_› | exact Qmb hx7 ‹_›)),trivial⟩
theorem H4 (x:ByteArray×Int)(name:ByteArray):FC Tryz.prog 320 [(true,[dS x.1,dI x.2]),(false,[.ptr 0 0])] [(0,some (.box 9 [dS name]))] 1 (Is (lB (decide (x.1=name))) [(0,some (.box 9 [dS name]))]):=by
 refine Qy Tryz.func320 rfl rfl Tryz.ntmps320 fun O_ hO w0_ N0_ X_ h0_ f0_=> ?_
 refine AC.fact (QH (x:= .tmp 0) (i:=1) (Qf rfl) rfl) fun hi1=> ?_
 refine w_ ?_
 refine xbx 1 ?_
 iterate 10 refine w_ ?_
 subst hO
 exact QF _ _ [] (Res.one rfl (Qb rfl)) (rfl) ⟨rfl,trivial⟩ rfl rfl
theorem Kw (l:List (ByteArray×Int))(name:ByteArray):FC Tryz.prog 319 [(false,[.dat Qo l]),(false,[.clo 320 [0]])] [(0,some (.box 9 [dS name]))] 1 (Is (lI (Ze (fun x:QJ=>decide (x.1=name)) l)) [(0,some (.box 9 [dS name]))]):=by
 refine Qy Tryz.func319 rfl rfl Tryz.ntmps319 fun O_ hO w0_ N0_ X_ h0_ f0_=> ?_
 iterate 6 refine w_ ?_
 refine AL.fact (Qp (x:= .tmp 6) (Qa rfl)) fun hl1=> ?_
 iterate 4 refine w_ ?_
 refine Qm (fun m_ s_=>∃(k:Nat),k≤l.length∧m_=l.length - k∧(NoneTo (fun x:QJ=>decide (x.1=name)) l k)∧s_=⟨[(0,lf (.dat Qo l)),(1,lf (.clo 320 [0])),(7,lI (l.length:Int)),(8,lI (k:Int))],[(0,some (.box 9 [dS name]))]⟩) ⟨0,ap _,rfl,NoneTo.zero,rfl⟩ ?_ ?_
 exact wo []
 rintro m_ s_ ⟨k,hk2,hm3,hno,rfl⟩
 iterate 4 refine w_ ?_
 cases hb4:(decide ((k:Int) < (l.length:Int)))
 have hb4':=a6 hb4
 iterate 7 refine w_ ?_
 subst hO
 have e5:((-1):Int)=(Ze (fun x:QJ=>decide (x.1=name)) l):=by
  first | exact (hno.no (by omega)).symm
 exact QF _ _ [] (Res.one rfl (Qb rfl)) (by rw[← e5] <;> rfl) ⟨rfl,trivial⟩ rfl rfl
 have hb4':=a7 hb4
 iterate 12 refine w_ ?_
 obtain ⟨x6,hx7⟩:=gx l k
 iterate 2 refine w_ ?_
 refine lc (Xn (args0:=[(true,[dS x6.1,dI x6.2])]) (caps:=[0]) 1 [(0,0)] (H4 x6 name) Qkh rfl (Qa rfl) rfl rfl ⟨_,_,rfl,(Qf rfl),rfl⟩ ⟨rfl,trivial⟩ rfl ⟨trivial,trivial⟩ (nlr rfl)) ?_
 refine w_ ?_
 cases hb8:(decide (x6.1=name))
 have hb8':=a6 hb8
 iterate 6 refine w_ ?_
 refine Qc<|QE ⟨k+1,by omega,rfl,hno.step hx7 ‹_›,rfl⟩ (by omega) ?_
 exact wo []
 have hb8':=a7 hb8
 iterate 6 refine w_ ?_
 subst hO
 have e9:((k:Int):Int)=(Ze (fun x:QJ=>decide (x.1=name)) l):=by
  exact (hno.at hx7 ‹_›).symm
 exact QF _ _ [] (Res.one rfl (Qb rfl)) (by rw[e9] <;> rfl) ⟨rfl,trivial⟩ rfl rfl
theorem UW (l:List (ByteArray×Int))(name:ByteArray):FC Tryz.prog 241 [(false,[.dat Qo l]),(false,[dS name])] [] 0 (Zk (lI (Ze (fun x:QJ=>decide (x.1=name)) l))):=by
 refine Qy Tryz.func241 rfl rfl Tryz.ntmps241 fun O_ hO w0_ N0_ X_ h0_ f0_=> ?_
 refine w_ ?_
 refine xbx 0 ?_
 iterate 4 refine w_ ?_
 refine lc (Xb ⟨_,_,rfl,(Qa rfl),rfl,rfl⟩ rfl) ?_
 refine lc (dP 1 [] (Kw l name) Qkz) ?_
 iterate 3 refine w_ ?_
 subst hO
 exact Qe (Res.one rfl (Qb rfl)) rfl rfl
theorem WV (l:List (ByteArray×Int))(name:ByteArray):FC Tryz.prog 245 [(false,[.dat Qo l]),(false,[dS name])] [] 0 (Zk (lI (Ze (fun x:QJ=>decide (x.1=name)) l))):=by
 refine Qy Tryz.func245 rfl rfl Tryz.ntmps245 fun O_ hO w0_ N0_ X_ h0_ f0_=> ?_
 iterate 6 refine w_ ?_
 refine AL.fact (Qp (x:= .tmp 7) (Qa rfl)) fun hl1=> ?_
 iterate 4 refine w_ ?_
 refine Qm (fun m_ s_=>∃(k:Nat),k≤l.length∧m_=l.length - k∧(NoneTo (fun x:QJ=>decide (x.1=name)) l k)∧s_=⟨[(1,lf (dS name)),(7,lf (.dat Qo l)),(8,lI (l.length:Int)),(9,lI (k:Int))],[]⟩) ⟨0,ap _,rfl,NoneTo.zero,rfl⟩ ?_ ?_
 exact wo []
 rintro m_ s_ ⟨k,hk2,hm3,hno,rfl⟩
 iterate 4 refine w_ ?_
 cases hb4:(decide ((k:Int) < (l.length:Int)))
 have hb4':=a6 hb4
 iterate 7 refine w_ ?_
 subst hO
 have e5:((-1):Int)=(Ze (fun x:QJ=>decide (x.1=name)) l):=by
  first | exact (hno.no (by omega)).symm
 exact Qe (Res.one rfl (Qb rfl)) (by rw[← e5] <;> rfl) rfl
 have hb4':=a7 hb4
 iterate 6 refine w_ ?_
 obtain ⟨x6,hx7⟩:=gx l k
 iterate 2 refine w_ ?_
 refine lc (xal 0 QK Vp) ?_
 iterate 9 refine w_ ?_
 cases hb8:(decide (x6.1=name))
 have hb8':=a6 hb8
 iterate 6 refine w_ ?_
 refine Qc<|QE ⟨k+1,by omega,rfl,hno.step hx7 ‹_›,rfl⟩ (by omega) ?_
 exact wo []
 have hb8':=a7 hb8
 iterate 6 refine w_ ?_
 subst hO
 have e9:((k:Int):Int)=(Ze (fun x:QJ=>decide (x.1=name)) l):=by
  exact (hno.at hx7 ‹_›).symm
 exact Qe (Res.one rfl (Qb rfl)) (by rw[e9] <;> rfl) rfl
end Go.Proofs.YtjaadeknhofhpaaGreat
namespace Go.Proofs.YtjaadeknhofhpaaGreat
open Go.RowKit
set_option maxRecDepth 100000
set_option maxHeartbeats 4000000
abbrev PSt:=Int×Bool
theorem QjW {n:Int}{b:Bool}(h: -9223372036854775808≤n∧n≤9223372036854775807):∃l,keyOf Tryz.prog 268 (.agg #[.int .i64 n, .bool b])=some l:=by
  have hu:=Tryz.underlying268
  have h1:Tryz.prog.keyType 268=true:=by kernel_rfl
  have hc:Tryz.prog.cellsOf 268=2:=by kernel_rfl
  have hc3:Tryz.prog.cellsOf 3=1:=by kernel_rfl
  have hc4:Tryz.prog.cellsOf 4=1:=by kernel_rfl
  have hs:Tryz.prog.types.size+1=(Tryz.prog.types.size - 1)+1+1:=by
    have:1≤Tryz.prog.types.size:=by exact a7 (by kernel_rfl)
    omega
  have hw:(Lit.int .i64 n).wf=true:=by simp[Lit.wf]; exact h
  have hl:∃ls,Tryz.prog.keyLits (Tryz.prog.types.size+1) 268 [.int .i64 n, .bool b]=some ls:=by
    rw[hs]
    generalize Tryz.prog.types.size - 1=d
    simp[Program.keyLits,hu,hc,hc3,hc4,Tryz.underlying3,Tryz.underlying4,hw]
  obtain ⟨ls,hl⟩:=hl
  refine ⟨.string (keyBytes ls), ?_⟩
  unfold keyOf
  rw[hu]
  generalize Tryz.prog.types.size+1=N at hl ⊢
  simp[h1,Value.formed,hu,hc,Value.cells,hl]
theorem Qmh:KeyL Tryz.prog 268 true Qw where
  K:=Maps.Keyed.of_law (deep_law (m:=3) (by omega) (by kernel_rfl) (by kernel_rfl) (by rw[Tryz.underlying268]))
  flat:=rfl
  rd:=fun v x ⟨cs,w,h1,h2⟩=>by
    obtain ⟨n,b⟩:=x
    obtain ⟨l,r,rfl,h3,h4⟩:=h2
    obtain ⟨rfl,h5⟩:=h3
    have h4:r=[.bool b]:=h4
    subst h1 h4
    exact QjW h5
def ixP (ps:List PSt)(p:PSt):Int:=(ps.idxOf p:Nat)
def psP (ps:List PSt)(p:PSt):List PSt:=if p∈ps then ps else ps++[p]
def cdP (c:DSg)(ps:List PSt)(cs:List ByteArray)(p:PSt):List ByteArray:=if p∈ps then cs else cs++[Qej c p.1++⟨#[if p.2 then 49 else 48]⟩]
def QgA:Nat→List PSt→List (PSt×Int)
  | _,[]=>[]
  | n,p :: ps=>(p,(n:Int)) :: QgA (n+1) ps
def YJ (ps:List PSt):List (PSt×Int):=QgA 0 ps
section
variable {c:DSg}{ps:List PSt}{p:PSt}{cs:List ByteArray}{n:Nat}{code:ByteArray}
theorem Qo4:YI Qw (QgA n ps) p=if p∈ps then some ((n:Int)+ixP ps p) else none:=by
  induction ps generalizing n with
  | nil=>rfl
  | cons q ps ih=>
    rw[QgA,YI,ih]
    by_cases e:q=p
    · subst e
      rw[if_pos (Z2 Qw q),if_pos (aA ..)]
      simp[ixP]
    · rw [if_neg (fun h => e ((Ty.beq_iff Qw q p).1 h))]
      have e2:ixP (q :: ps) p=ixP ps p+1:=by
        simp only[ixP,List.idxOf_cons]
        rw[show (q==p)=false by simpa using e]
        simp
      have e3:(p∈q :: ps)↔p∈ps:=by
        rw[aH]
        exact ⟨fun h=>h.resolve_left fun h=>e h.symm, .inr⟩
      by_cases h:p∈ps
      · rw[if_pos h,if_pos (e3.2 h),e2]; congr 1; omega
      · rw[if_neg h,if_neg (fun h2=>h (e3.1 h2))]
theorem Qdz:YI Qw (YJ ps) p=if p∈ps then some (ixP ps p) else none:=by
  have:=Qo4 (n:=0) (ps:=ps) (p:=p)
  simpa [YJ] using this
theorem QqK (h:p∉ps):Vl Qw (QgA n ps) p ((n:Int)+ps.length)=QgA n (ps++[p]):=by
  induction ps generalizing n with
  | nil=>simp[QgA,Vl]
  | cons q ps ih=>
    have h1:¬q=p:=fun e=>h (by rw[e]; exact aA ..)
    rw[QgA,Vl,if_neg (fun h=>h1 ((Ty.beq_iff Qw q p).1 h)),bR,QgA,← ih fun h2=>h (ax _ h2)]
    rw[show (n:Int)+((q :: ps).length:Nat)=((n+1:Nat):Int)+(ps.length:Nat) by rw[ao]; omega]
theorem Qk5 (h:(YI Qw (YJ ps) p).isSome=true):p∈ps:=by
  rw[Qdz] at h
  by_cases e:p∈ps
  · exact e
  · rw[if_neg e] at h; cases h
theorem QcT (h:(YI Qw (YJ ps) p).isSome=false):p∉ps:=fun e=>by
  rw[Qdz,if_pos e] at h; cases h
theorem Qtk (h:(YI Qw (YJ ps) p).isSome=true):(YI Qw (YJ ps) p).getD (Ty.zero .int)=ixP ps p:=by rw[Qdz,if_pos (Qk5 h)]; rfl
theorem Qpj (h:(YI Qw (YJ ps) p).isSome=true):ps=psP ps p:=(if_pos (Qk5 h)).symm
theorem QtE (h:(YI Qw (YJ ps) p).isSome=true):cs=cdP c ps cs p:=(if_pos (Qk5 h)).symm
theorem QtW (h:(YI Qw (YJ ps) p).isSome=true):YJ ps=YJ (psP ps p):=by rw[← Qpj h]
theorem Qty (h:(YI Qw (YJ ps) p).isSome=false):(ps.length:Int)=ixP ps p:=by unfold ixP; rw[List.idxOf_eq_length (QcT h)]
theorem QqA (h:(YI Qw (YJ ps) p).isSome=false):ps++[p]=psP ps p:=(if_neg (QcT h)).symm
theorem Qtd (h:(YI Qw (YJ ps) p).isSome=false)(hx:c.2.1[p.1.toNat]? =some code):cs++[code++⟨#[if p.2 then 49 else 48]⟩]=cdP c ps cs p:=by
  unfold cdP
  rw[if_neg (QcT h),W8 hx]
theorem QtH (h:(YI Qw (YJ ps) p).isSome=false):Vl Qw (YJ ps) p (ps.length:Int)=YJ (psP ps p):=by
  rw[← QqA h]
  have:=QqK (n:=0) (QcT h)
  simpa [YJ] using this
theorem XT:(psP ps p).length≤ps.length+1:=by unfold psP; split <;> simp
theorem XW:(cdP c ps cs p).length≤cs.length+1:=by unfold cdP; split <;> simp
end
theorem YL (c:DSg)(signs:ByteArray)(ss:List QJ)(cs:List ByteArray)(as_:List DAr)(ps:List PSt)(p:Int×Bool)(hp:0≤p.1∧p.1 < (c.2.1.length:Int))(hc:∀x∈c.2.1,x.size≤1000)(hl:ps.length≤1000000∧cs.length≤1000000):FC Tryz.prog 242 [(false,[.ptr 0 0]),(true,[dI p.1,dB p.2])] [(0,some (.box 265 [.dat Qo c.1, .dat Qr c.2.1, .dat QD c.2.2,dS signs, .ref 1, .ref 4, .ref 2, .ref 5, .ref 3])),(1,some (.arr 90 QK ss)),(4,some (.arr 9 .str cs)),(2,some (.arr 106 QA as_)),(5,some (.arr 268 Qw ps)),(3,some (.mp true Qw false .int (YJ ps)))] 4 (Is (lI (ixP ps p)) [(0,some (.box 265 [.dat Qo c.1, .dat Qr c.2.1, .dat QD c.2.2,dS signs, .ref 1, .ref 4, .ref 2, .ref 5, .ref 3])),(1,some (.arr 90 QK ss)),(4,some (.arr 9 .str (cdP c ps cs p))),(2,some (.arr 106 QA as_)),(5,some (.arr 268 Qw (psP ps p))),(3,some (.mp true Qw false .int (YJ (psP ps p))))]):=by
 refine Qy Tryz.func242 rfl rfl Tryz.ntmps242 fun O_ hO w0_ N0_ X_ h0_ f0_=> ?_
 refine AC.fact (QH (x:= .tmp 1) (i:=0) (Qf rfl) rfl) fun hi1=> ?_
 refine w_ ?_
 refine xbx 6 ?_
 iterate 3 refine w_ ?_
 apply dW [io 9 _,io 10 _,io 11 _,io 12 _,io 13 _,io 14 (PV.tup [(false,[dI ((YI Qw (YJ ps) p).getD (Ty.zero .int))]),(false,[dB ((YI Qw (YJ ps) p).isSome)])]),io 8 _,io 15 _,io 16 _,io 5 _,io 6 _] [0,0,0,0,15,0,0,0,128,256,0]
 iterate 5 refine z_ ?_
 refine zz (fun _ h_=>ac (Qfn Qmh Qmd Qvc (h_.v rfl) (h_.n 3 rfl) (h_.w rfl) (p:=p) rfl rfl rfl) rfl) ?_
 iterate 5 refine z_ ?_
 exact zN
 iterate 3 refine w_ ?_
 cases hb2:((YI Qw (YJ ps) p).isSome)
 iterate 10 refine w_ ?_
 apply dW [io 24 _,io 25 _,io 26 _,io 27 _,io 28 _,io 29 _,⟨none,lf (.val undef),[(3,some (.mp true Qw false .int (Vl Qw (YJ ps) p (ps.length:Int))))]⟩] [0,0,0,0,15,31,0]
 iterate 6 refine z_ ?_
 refine zz (fun _ h_=>ac (QeZ Qmh Qmd (h_.v rfl) (h_.n 3 rfl) (h_.w rfl) (p:=p) rfl (h_.w rfl) (u:=(ps.length:Int)) rfl) rfl) ?_
 exact zN
 apply dW [io 30 _,io 31 _,io 32 _,io 33 _,io 34 _,io 35 _,⟨some 36,lR 7,[(7,some (.arr 268 Qw ([(p.1,p.2)])))]⟩,⟨some 37,lR 8,[(8,some (.arr 268 Qw (ps++([(p.1,p.2)])))),(5,none),(7,none)]⟩,io 38 _,io 39 _,⟨none,lf (.val undef),[(0,some (.box 265 [.dat Qo c.1, .dat Qr c.2.1, .dat QD c.2.2,dS signs, .ref 1, .ref 4, .ref 2, .ref 8, .ref 3]))]⟩] [0,1,1,1,1,31,31,1,0,0,0]
 iterate 6 refine z_ ?_
 refine zz (fun _ h_=>ac (dBs 7 (e:=Qw) Qc3 (hab:=by exact ⟨_,_,_,_,rfl,⟨[dI p.1],[dB p.2],_,_,_,_,rfl,rfl,⟨rfl,rfl⟩,⟨rfl,rfl⟩,rfl⟩,⟨rfl,rfl⟩,rfl⟩)) rfl) ?_
 refine zz (fun _ h_=>ac (dA 8 Qsd) rfl) ?_
 iterate 2 refine z_ ?_
 refine zz (fun _ h_=>ac (QZ (h_.v rfl) (h_.en 0 rfl) (h_.w rfl) (by simp only[Q6,Wx,aW,bc]; rw[(h_.en 8 rfl)]; rfl) Qr2 rfl) rfl) ?_
 exact zN
 obtain ⟨x3,hx4⟩:=gx c.2.1 ((p.1).toNat)
 have hczx3:=hc _ (a8 hx4)
 apply dW [io 40 _,io 41 _,io 42 _,io 43 _,io 44 _,io 45 _,io 46 _,io 47 _,io 48 _,io 49 _,io 50 _,io 51 _,io 52 _,io 53 _,io 54 _,io 55 _,io 56 _,io 57 (lf (.dat .u8 (if p.2 then 49 else 48))),⟨some 58,lR 9,[(9,some (.arr 5 .u8 ([if p.2 then 49 else 48])))]⟩,io 59 (lf (dS (⟨#[if p.2 then 49 else 48]⟩:ByteArray))),io 60 (lf (dS (x3++(⟨#[if p.2 then 49 else 48]⟩:ByteArray)))),⟨some 61,lR 10,[(10,some (.arr 9 .str ([x3++(⟨#[if p.2 then 49 else 48]⟩:ByteArray)])))]⟩,⟨some 62,lR 11,[(11,some (.arr 9 .str (cs++([x3++(⟨#[if p.2 then 49 else 48]⟩:ByteArray)])))),(4,none),(10,none)]⟩,io 63 _,io 64 _,io 65 _,⟨none,lf (.val undef),[(0,some (.box 265 [.dat Qo c.1, .dat Qr c.2.1, .dat QD c.2.2,dS signs, .ref 1, .ref 11, .ref 2, .ref 8, .ref 3]))]⟩] [0,1,1,1,1,1,63,63,63,63,63,2047,2047,63,63,32767,32767,32767,32767,32767,63,63,1,0,0,0,0]
 iterate 17 refine z_ ?_
 refine zz (fun _ h_=>ac (dK (Qi3 p.2) Qjf) rfl) ?_
 refine zz (fun _ h_=>ac (dBs 9 (e:= .u8) Qdl) rfl) ?_
 refine zz (fun _ h_=>ac (Zt (ys:=[if p.2 then 49 else 48]) (YS (h_.v rfl) (h_.n 9 rfl)) ZF Ve Zo rfl) rfl)<|zz (fun _ h_=>ac (ZR (h_.v rfl) (h_.v rfl) rfl (by first | omega | (simp only[X5]; omega))) rfl) ?_
 refine zz (fun _ h_=>ac (dBs 10 (e:= .str) U2) rfl) ?_
 refine zz (fun _ h_=>ac (dA 11 Qcd) rfl) ?_
 iterate 3 refine z_ ?_
 refine zz (fun _ h_=>ac (QZ (h_.v rfl) (h_.en 0 rfl) (h_.w rfl) (by simp only[Q6,Wx,aW,bc]; rw[(h_.en 11 rfl)]; rfl) Qjs rfl) rfl) ?_
 exact zN
 iterate 5 refine w_ ?_
 subst hO
 have e5:((ps.length:Int):Int)=(ixP ps p):=by
  exact Qty ‹_›
 exact QF _ _ [(4,11),(5,8)] (Res.one rfl (Qb rfl)) (by rw[e5] <;> rfl) ⟨rfl,rfl,(Qh (by exact Qtd ‹_› ‹_›)),rfl,(Qh (by exact QqA ‹_›)),(QtV (by exact QtH ‹_›)),trivial⟩ rfl rfl
 iterate 6 refine w_ ?_
 subst hO
 have e6:((YI Qw (YJ ps) p).getD (Ty.zero .int):Int)=(ixP ps p):=by
  exact Qtk ‹_›
 exact QF _ _ [] (Res.one rfl (Qb rfl)) (by rw[e6] <;> rfl) ⟨rfl,rfl,(Qh (by exact QtE ‹_›)),rfl,(Qh (by exact Qpj ‹_›)),(QtV (by exact QtW ‹_›)),trivial⟩ rfl rfl
end Go.Proofs.YtjaadeknhofhpaaGreat
