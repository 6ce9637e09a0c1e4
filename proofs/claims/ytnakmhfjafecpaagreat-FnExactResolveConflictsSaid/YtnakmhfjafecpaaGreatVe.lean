/- Walks over abstract states: the arcs that leave a state; the place of a name. -/
import Derived.Test.YtnakmhfjafecpaaGreatVc
import Derived.Test.YtnakmhfjafecpaaGreatWg
import Derived.DeepKeys3
set_option linter.unusedSimpArgs false
set_option linter.unusedVariables false
set_option linter.unusedSectionVars false
namespace Go.Proofs.YtnakmhfjafecpaaGreat
open Go.RowKit
set_option maxRecDepth 100000
set_option maxHeartbeats 4000000
def DelI {α:Type _}(p:α→Bool)(l0 l:List α)(i j:Int):Prop:=(0≤i∧i < j∧j≤(l.length:Int))∧l.length=l0.length∧l.take i.toNat=(l0.take j.toNat).filter p∧l.drop j.toNat=l0.drop j.toNat
section
variable {α:Type _}{p f:α→Bool}{l0 l:List α}{i j:Int}{x:α}
theorem Jw (f:α→Bool)(l:List α):(ZJ f l= -1∧∀x∈l,f x=false)∨∃(k:Nat) (x:α),ZJ f l=(k:Int)∧l[k]? =some x∧f x=true∧NoneTo f l k:=by
  unfold ZJ
  cases h:l.findIdx? f with
  | none=>exact .inl ⟨rfl,fun x hx=>by simpa using List.findIdx?_eq_none_iff.1 h x hx⟩
  | some k=>
    obtain ⟨h1,h2,h3⟩:=List.findIdx?_eq_some_iff_getElem.1 h
    exact .inr ⟨k,l[k],rfl,List.getElem?_eq_getElem h1,h2,fun j hj y hy=>by
      obtain ⟨h4,h5⟩:=List.getElem?_eq_some_iff.1 hy
      have:=h3 j hj
      rw[h5] at this
      simpa using this⟩
theorem Qgn (f:α→Bool)(l:List α): -1≤ZJ f l∧ZJ f l < (l.length:Int):=by
  rcases Jw f l with ⟨h,_⟩ | ⟨k,x,h,h2,_⟩
  · omega
  · have := (List.getElem?_eq_some_iff.1 h2).1
    omega
theorem Qbh (h:ZJ f l= -1):l=l.filter fun x=> !f x:=by
  rcases Jw f l with ⟨_,h2⟩ | ⟨k,_,h2,_⟩
  · exact (List.filter_eq_self.2 fun x hx=>by rw[h2 x hx]; rfl).symm
  · omega
theorem DelI.start (h:¬ZJ f l= -1):DelI (fun x=> !f x) l l (ZJ f l) (ZJ f l+1):=by
  rcases Jw f l with ⟨h2,_⟩ | ⟨k,x,h2,h3,h4,h5⟩
  · exact absurd h2 h
  · have hk := (List.getElem?_eq_some_iff.1 h3).1
    rw[h2]
    refine ⟨by omega,rfl, ?_,rfl⟩
    rw[show ((k:Int)+1).toNat=k+1 by omega,show ((k:Int)).toNat=k by omega,Za h3,List.filter_append]
    have:([x].filter fun x=> !f x)=[]:=by simp[h4]
    rw[this,List.append_nil]
    refine (List.filter_eq_self.2 fun y hy=> ?_).symm
    obtain ⟨n,hn⟩:=List.mem_iff_getElem?.1 hy
    have hn2:=(List.getElem?_eq_some_iff.1 hn).1
    rw[List.length_take] at hn2
    rw[List.getElem?_take_of_lt (by omega)] at hn
    rw[h5 n (by omega) y hn]; rfl
theorem DelI.at_ (h:DelI p l0 l i j)(hx:l[j.toNat]? =some x):l0[j.toNat]? =some x:=by
  obtain ⟨h1,h2,h3,h4⟩:=h
  have:=congrArg (fun l:List α=>l[0]?) h4
  simpa [hx] using this.symm
theorem DelI.lt (h:DelI p l0 l i j)(hx:l[j.toNat]? =some x):j < (l.length:Int):=by
  have:=(List.getElem?_eq_some_iff.1 hx).1
  obtain ⟨h1,_⟩:=h
  omega
theorem DelI.drop_ (h:DelI p l0 l i j)(hx:l[j.toNat]? =some x)(hp:p x=false):DelI p l0 l i (j+1):=by
  have h0:=h.at_ hx
  have hl:=h.lt hx
  obtain ⟨h1,h2,h3,h4⟩:=h
  refine ⟨by omega,h2, ?_, ?_⟩
  · rw[show (j+1).toNat=j.toNat+1 by omega,Za h0,List.filter_append,h3]; simp[hp]
  · have := congrArg (List.drop 1) h4
    rw[List.drop_drop,List.drop_drop] at this
    rw[show (j+1).toNat=j.toNat+1 by omega]
    exact this
theorem DelI.keep (h:DelI p l0 l i j)(hx:l[j.toNat]? =some x)(hp:p x=true):DelI p l0 (l.set i.toNat x) (i+1) (j+1):=by
  have h0:=h.at_ hx
  have hl:=h.lt hx
  obtain ⟨h1,h2,h3,h4⟩:=h
  refine ⟨by rw[List.length_set]; omega,by rw[List.length_set]; exact h2, ?_, ?_⟩
  · have hg : (l.set i.toNat x)[i.toNat]? = some x := List.getElem?_set_self (by omega)
    rw[show (j+1).toNat=j.toNat+1 by omega,show (i+1).toNat=i.toNat+1 by omega,Za hg,Za h0,List.filter_append,List.take_set_of_le (Nat.le_refl _),h3]
    simp[hp]
  · have := congrArg (List.drop 1) h4
    rw[List.drop_drop,List.drop_drop] at this
    rw[show (j+1).toNat=j.toNat+1 by omega,List.drop_set_of_lt (by omega)]
    exact this
theorem DelI.end_ {z:List α}(h:DelI p l0 l i j)(hj:¬j < (l.length:Int))(n:Nat)(hn:n=i.toNat):(l.take i.toNat++z).take n=l0.filter p:=by
  obtain ⟨h1,h2,h3,h4⟩:=h
  subst hn
  rw[List.take_left' (by rw[List.length_take]; omega),h3,List.take_of_length_le (by omega)]
end
theorem QgQ {l:List DAr}{q:Int}:(l.filter fun x=> !(!decide (x.1=q)))=Yl l q:=by
  unfold Yl
  congr 1
  funext x
  rw[Bool.not_not]
theorem VC (a:Int×Int×Bool×Int)(q:Int):FC Tryz.prog 321 [(true,[dI a.1,dI a.2.1,dB a.2.2.1,dI a.2.2.2]),(false,[.ptr 0 0])] [(0,some (.box 3 [dI q]))] 1 (Is (lB (!decide (a.1=q))) [(0,some (.box 3 [dI q]))]):=by
 refine QQ Tryz.func321 rfl rfl Tryz.ntmps321 fun O_ hO w0_ N0_ X_ h0_ f0_=> ?_
 refine AC.fact (Q3 (x:= .tmp 0) (i:=0) (Qb rfl) rfl) fun hi1=>AC.fact (Q3 (x:= .tmp 0) (i:=1) (Qb rfl) rfl) fun hi2=>AC.fact (Q3 (x:= .tmp 0) (i:=3) (Qb rfl) rfl) fun hi3=> ?_
 refine w_ ?_
 refine lc (Qr 1 (Qb rfl) rfl rfl (Fresh.of rfl) (nlr rfl)) ?_
 iterate 6 refine w_ ?_
 refine AL.fact (Qs (x:= .tmp 6) (Qa rfl)) fun hi4=> ?_
 iterate 3 refine w_ ?_
 refine Qe ?_
 subst hO
 exact Q2 _ _ [(0,0)] (Qd rfl (Qc rfl)) (rfl) ⟨rfl,trivial⟩ rfl rfl
theorem Kl (l:List (Int×Int×Bool×Int))(q:Int)(hl:l.length≤1000000):FC Tryz.prog 212 [(false,[.ref 1]),(false,[.clo 321 [0]])] [(0,some (.box 3 [dI q])),(1,some (.arr 179 (.pr .int (.pr .int (.pr .bool .int))) l))] 2 (Is (lI (ZJ (fun a:DAr=> !decide (a.1=q)) l)) [(0,some (.box 3 [dI q])),(1,some (.arr 179 (.pr .int (.pr .int (.pr .bool .int))) l))]):=by
 refine QQ Tryz.func212 rfl rfl Tryz.ntmps212 fun O_ hO w0_ N0_ X_ h0_ f0_=> ?_
 iterate 10 refine w_ ?_
 refine Qy (fun m_ s_=>∃(k:Nat),k≤l.length∧m_=l.length - k∧(NoneTo (fun a:DAr=> !decide (a.1=q)) l k)∧s_=⟨[(0,lR 1),(1,lf (.clo 321 [0])),(7,lI (l.length:Int)),(8,lI (k:Int))],[(0,some (.box 3 [dI q])),(1,some (.arr 179 (.pr .int (.pr .int (.pr .bool .int))) l))]⟩) ⟨0,Nat.zero_le _,rfl,NoneTo.zero,rfl⟩ ?_ ?_
 · exact Wk.of [(0,0),(1,1)] rfl ⟨rfl,rfl,rfl,rfl,trivial⟩ ⟨rfl,rfl,trivial⟩ rfl rfl
 rintro m_ s_ ⟨k,hk1,hm2,hno,rfl⟩
 iterate 4 refine w_ ?_
 cases hb3:(decide ((k:Int) < (l.length:Int)))
 ·have hb3':=of_decide_eq_false hb3
  refine w_ ?_
  refine QA ?_
  refine (?_:AC _ _ _ _ _)
  iterate 3 refine w_ ?_
  refine Qe ?_
  subst hO
  have e4:((-1):Int)=(ZJ (fun a:DAr=> !decide (a.1=q)) l):=by
   first | exact (hno.no (by omega)).symm
  exact Q2 _ _ [(0,0),(1,1)] (Qd rfl (Qc rfl)) ((congrArg (fun z_=>lI z_) e4)) ⟨rfl,rfl,trivial⟩ rfl rfl
 ·have hb3':=of_decide_eq_true hb3
  iterate 12 refine w_ ?_
  refine lc (Qq (e:=(.pr .int (.pr .int (.pr .bool .int)))) (Qa rfl) rfl (Qa rfl) Q9 QJ rfl (by omega) (by first | omega | (simp only[List.length_set]; omega))) ?_
  obtain ⟨x5,hx6⟩:∃z,l[k]? =some z:=⟨_,List.getElem?_eq_getElem (by omega)⟩
  refine lc (W2 (e:=(.pr .int (.pr .int (.pr .bool .int)))) (Qa rfl) rfl hx6 rfl QJ rfl rfl)<|lc (Xp (args0:=[(true,[dI x5.1,dI x5.2.1,dB x5.2.2.1,dI x5.2.2.2])]) (caps:=[0]) 2 [(0,0)] (VC x5 q) Qdm rfl (Qa rfl) rfl rfl ⟨_,_,rfl,(Qb rfl),rfl⟩ ⟨rfl,trivial⟩ rfl ⟨trivial,trivial⟩ (nlr rfl)) ?_
  refine w_ ?_
  cases hb7:(!decide (x5.1=q))
  ·have hb7':(x5.1=q):=Ze hb7
   refine w_ ?_
   refine AC.skip ?_
   refine (?_:AC _ _ _ _ _)
   iterate 3 refine w_ ?_
   refine Qj<|QS ⟨k+1,by omega,rfl,hno.step hx6 (by simp[*]),rfl⟩ (by omega) ?_
   exact Wk.of [(0,0),(1,1)] rfl ⟨rfl,rfl,rfl,rfl,trivial⟩ ⟨rfl,rfl,trivial⟩ rfl rfl
  ·have hb7':¬(x5.1=q):=Zp hb7
   iterate 5 refine w_ ?_
   refine Qe ?_
   subst hO
   have e8:((k:Int):Int)=(ZJ (fun a:DAr=> !decide (a.1=q)) l):=by
    exact (hno.at hx6 (by simp[*])).symm
   exact Q2 _ _ [(0,0),(1,1)] (Qd rfl (Qc rfl)) ((congrArg (fun z_=>lI z_) e8)) ⟨rfl,rfl,trivial⟩ rfl rfl
theorem HZ (l:List (Int×Int×Bool×Int))(q:Int)(hl:l.length≤1000000):FC Tryz.prog 319 [(false,[.ref 1]),(false,[.clo 321 [0]])] [(0,some (.box 3 [dI q])),(1,some (.arr 179 (.pr .int (.pr .int (.pr .bool .int))) l))] 1 (Is (lR 2) [(0,some (.box 3 [dI q])),(2,some (.arr 179 (.pr .int (.pr .int (.pr .bool .int))) (Yl l q)))]):=by
 have hix:=Qgn (fun a:DAr=> !decide (a.1=q)) l
 refine QQ Tryz.func319 rfl rfl Tryz.ntmps319 fun O_ hO w0_ N0_ X_ h0_ f0_=> ?_
 iterate 6 refine w_ ?_
 refine lc (QP 2 [(0,0),(1,1)] (Kl l q hl) JH ⟨_,_,rfl,(Qb rfl),⟨_,_,rfl,(Qb rfl),rfl⟩⟩ ⟨rfl,rfl,trivial⟩ rfl ⟨trivial,trivial,trivial⟩ (nlr rfl)) ?_
 iterate 7 refine w_ ?_
 cases hb1:(decide ((ZJ (fun a:DAr=> !decide (a.1=q)) l)=(-1)))
 ·have hb1':=of_decide_eq_false hb1
  iterate 9 refine w_ ?_
  refine Qy (fun m_ s_=>∃(i:Int) (j:Int) (l2:List (Int×Int×Bool×Int)),m_=((l2.length:Int) - j).toNat∧(DelI (fun x:DAr=> !(!decide (x.1=q))) l l2 i j)∧s_=⟨[(0,lR 4),(1,lf (.clo 321 [0])),(4,lf (.val (.slice none 0 0))),(5,lI i),(6,lI j)],[(0,some (.box 3 [dI q])),(4,some (.arr 179 (.pr .int (.pr .int (.pr .bool .int))) l2))]⟩) ⟨ZJ (fun a:DAr=> !decide (a.1=q)) l,(ZJ (fun a:DAr=> !decide (a.1=q)) l)+1,l,rfl,(DelI.start (by assumption)),rfl⟩ ?_ ?_
  · exact Wk.of [(0,0),(4,1)] rfl ⟨rfl,rfl,rfl,rfl,rfl,trivial⟩ ⟨rfl,rfl,trivial⟩ rfl rfl
  rintro m_ s_ ⟨i,j,l2,hm3,hD,rfl⟩
  have hDb:=hD.1
  have hDl:=hD.2.1
  iterate 7 refine w_ ?_
  cases hb4:(decide (j < (l2.length:Int)))
  ·have hb4':=of_decide_eq_false hb4
   refine w_ ?_
   refine QA ?_
   refine (?_:AC _ _ _ _ _)
   iterate 3 refine w_ ?_
   refine lc (YD (e:=(.pr .int (.pr .int (.pr .bool .int)))) (a:=(i).toNat) (b:=l2.length - (i).toNat) (l:=(some i)) (h:=none) (Qa rfl) rfl (by exact (Qa rfl)) (by exact trivial) Q9 QJ rfl (by first | (simp only[Option.getD_none,Option.getD_some]; omega) | omega | (simp only[Option.getD_none,Option.getD_some,List.length_append,List.length_take,List.length_replicate]; omega)) (by first | (simp only[Option.getD_none,Option.getD_some]; omega) | omega | (simp only[Option.getD_none,Option.getD_some,List.length_append,List.length_take,List.length_replicate]; omega)) (by first | (simp only[Option.getD_none,Option.getD_some]; omega) | omega | (simp only[Option.getD_none,Option.getD_some,List.length_append,List.length_take,List.length_replicate]; omega)) (by first | rfl | simp) (by first | rfl | simp))<|lc (Qba (e:=(.pr .int (.pr .int (.pr .bool .int)))) (Qa rfl) rfl (by omega) Q9 Zq rfl rfl rfl) ?_
   iterate 4 refine w_ ?_
   refine lc (YD (e:=(.pr .int (.pr .int (.pr .bool .int)))) (a:=0) (b:=(i).toNat) (l:=none) (h:=(some i)) (Qa rfl) rfl (by exact trivial) (by exact (Qa rfl)) Q9 QJ rfl (by first | (simp only[Option.getD_none,Option.getD_some]; omega) | omega | (simp only[Option.getD_none,Option.getD_some,List.length_append,List.length_take,List.length_replicate]; omega)) (by first | (simp only[Option.getD_none,Option.getD_some]; omega) | omega | (simp only[Option.getD_none,Option.getD_some,List.length_append,List.length_take,List.length_replicate]; omega)) (by first | (simp only[Option.getD_none,Option.getD_some]; omega) | omega | (simp only[Option.getD_none,Option.getD_some,List.length_append,List.length_take,List.length_replicate]; omega)) (by first | rfl | simp) (by first | rfl | simp)) ?_
   iterate 2 refine w_ ?_
   refine AC.wk (QbT 5 4 (e:=(.pr .int (.pr .int (.pr .bool .int)))) (xs:=l2.take ((i).toNat)++List.replicate (l2.length - (i).toNat) (Ty.zero (.pr .int (.pr .int (.pr .bool .int))))) rfl rfl (by first | omega | (simp only[List.length_append,List.length_take,List.length_replicate]; omega)) rfl (Fresh.of rfl) (nlr rfl))<|Qe ?_
   subst hO
   exact Q2 _ _ [(0,0),(2,5)] (Qd rfl (Qc rfl)) (rfl) ⟨rfl,(Qv (by exact (hD.end_ (by assumption) _ (by omega)).trans QgQ)),trivial⟩ rfl rfl
  ·have hb4':=of_decide_eq_true hb4
   iterate 7 refine w_ ?_
   refine lc (Qq (e:=(.pr .int (.pr .int (.pr .bool .int)))) (Qa rfl) rfl (Qa rfl) Q9 QJ rfl (by omega) (by first | omega | (simp only[List.length_set]; omega))) ?_
   obtain ⟨xj,hx6⟩:∃z,l2[(j).toNat]? =some z:=⟨_,List.getElem?_eq_getElem (by omega)⟩
   refine lc (W2 (e:=(.pr .int (.pr .int (.pr .bool .int)))) (Qa rfl) rfl hx6 rfl QJ rfl rfl)<|lc (Qw 6 (.pr .int (.pr .int (.pr .bool .int))) Zq rfl rfl (Fresh.of rfl) (nlr rfl))<|lc (Qf (Qa rfl) rfl (Qb rfl) rfl QJ rfl) ?_
   iterate 4 refine w_ ?_
   refine lc (Xp (args0:=[(true,[dI xj.1,dI xj.2.1,dB xj.2.2.1,dI xj.2.2.2])]) (caps:=[0]) 7 [(0,0)] (VC xj q) Qdm rfl (Qa rfl) rfl rfl ⟨_,_,rfl,(Qb rfl),rfl⟩ ⟨rfl,trivial⟩ rfl ⟨trivial,trivial⟩ (nlr rfl)) ?_
   iterate 2 refine w_ ?_
   cases hb7:(!decide (xj.1=q))
   ·have hb7':(xj.1=q):=Ze hb7
    iterate 5 refine w_ ?_
    refine lc (Qq (e:=(.pr .int (.pr .int (.pr .bool .int)))) (Qa rfl) rfl (Qa rfl) Q9 QJ rfl (by omega) (by first | omega | (simp only[List.length_set]; omega))) ?_
    obtain ⟨x8,hx9⟩:∃z,l2[(i).toNat]? =some z:=⟨_,List.getElem?_eq_getElem (by omega)⟩
    refine lc (Q5 (e:=(.pr .int (.pr .int (.pr .bool .int)))) (z':=xj) (Qa rfl) rfl hx9 rfl (Qb rfl) rfl QJ rfl rfl) ?_
    iterate 5 refine w_ ?_
    refine Qj ?_
    refine (?_:AC _ _ _ _ _)
    iterate 4 refine w_ ?_
    refine Qj<|QS ⟨(i+1),(j+1),(l2.set ((i).toNat) xj),rfl,(by exact hD.keep (x:=xj) (by assumption) (by simp[*])),rfl⟩ (by first | omega | (simp only[List.length_set]; omega)) ?_
    exact Wk.of [(0,0),(4,4)] rfl ⟨rfl,rfl,rfl,rfl,rfl,trivial⟩ ⟨rfl,(Qv (by first | rfl | simp)),trivial⟩ rfl rfl
   ·have hb7':¬(xj.1=q):=Zp hb7
    refine w_ ?_
    refine AC.skip ?_
    refine (?_:AC _ _ _ _ _)
    iterate 4 refine w_ ?_
    refine Qj<|QS ⟨i,(j+1),l2,rfl,(by exact hD.drop_ (x:=xj) (by assumption) (by simp[*])),rfl⟩ (by first | omega | (simp only[List.length_set]; omega)) ?_
    exact Wk.of [(0,0),(4,4)] rfl ⟨rfl,rfl,rfl,rfl,rfl,trivial⟩ ⟨rfl,rfl,trivial⟩ rfl rfl
 ·have hb1':=of_decide_eq_true hb1
  iterate 5 refine w_ ?_
  refine Qe ?_
  subst hO
  exact Q2 _ _ [(0,0),(2,1)] (Qd rfl (Qc rfl)) (rfl) ⟨rfl,(Qv (by exact (Qbh (by assumption)).trans QgQ)),trivial⟩ rfl rfl
theorem Wf (s:List (Int×Int×Bool×Int))(hl:s.length≤1000000):FC Tryz.prog 320 [(false,[.dat (.sl 179 (.pr .int (.pr .int (.pr .bool .int)))) s])] [] 0 (XZ 179 (.pr .int (.pr .int (.pr .bool .int))) s):=by
 refine QQ Tryz.func320 rfl rfl Tryz.ntmps320 fun O_ hO w0_ N0_ X_ h0_ f0_=> ?_
 iterate 6 refine w_ ?_
 refine Qf1 (Qa rfl) Evl.val Q9 rfl fun b1 hnil=> ?_
 refine w_ ?_
 cases hb2:(b1)
 ·iterate 3 refine w_ ?_
  refine lc (Qk 0 (e:=(.pr .int (.pr .int (.pr .bool .int)))) Q9 QJ Zq rfl rfl (List.all_eq_true.1 rfl) ⟨rfl,rfl⟩ (by decide) rfl rfl (Fresh.of rfl) (nlr rfl)) ?_
  refine w_ ?_
  refine lc (ZI 1 (Qa rfl) rfl (Evl.rep (Qa rfl)) rfl Q9 Vh (by first | omega | (simp only[List.length_append,List.length_map,List.length_take,List.length_cons,List.length_nil]; omega) | (simp only[List.length_append,List.length_drop,List.length_take,List.length_cons,List.length_nil]; omega)) rfl (Fresh.of rfl) (nlr rfl)) ?_
  iterate 2 refine w_ ?_
  refine Qe ?_
  subst hO
  refine ZC (e:=(.pr .int (.pr .int (.pr .bool .int)))) (xs:=(([])++s)) (Qd rfl (Qc rfl)) rfl ?_
  rfl
 ·iterate 4 refine w_ ?_
  refine AC.wk (Wk.nilS 2 2 179 (.pr .int (.pr .int (.pr .bool .int))) rfl (Fresh.of rfl) (nlr rfl))<|Qe ?_
  subst hO
  refine ZC (e:=(.pr .int (.pr .int (.pr .bool .int)))) (xs:=([])) (Qd rfl (Qc rfl)) rfl ?_
  exact (hnil (by assumption)).symm
theorem QaU (c:(List (ByteArray×Int))×List ByteArray×(List (Int×Int×Bool×Int)))(q:Int)(hl:c.2.2.length≤1000000):FC Tryz.prog 295 [(true,[.dat (.sl 145 (.pr .str .int)) c.1, .dat (.sl 9 .str) c.2.1, .dat (.sl 179 (.pr .int (.pr .int (.pr .bool .int)))) c.2.2]),(false,[dI q])] [] 0 (XZ 179 (.pr .int (.pr .int (.pr .bool .int))) (Yl c.2.2 q)):=by
 refine QQ Tryz.func295 rfl rfl Tryz.ntmps295 fun O_ hO w0_ N0_ X_ h0_ f0_=> ?_
 refine AC.fact (Qs (x:= .tmp 1) (Qa rfl)) fun hi1=> ?_
 refine w_ ?_
 refine lc (Qr 0 (Qb rfl) rfl rfl (Fresh.of rfl) (nlr rfl))<|lc (Qr 1 (Qb rfl) rfl rfl (Fresh.of rfl) (nlr rfl)) ?_
 iterate 5 refine w_ ?_
 refine lc (Y7 2 (Wf c.2.2 hl) QiK ⟨_,_,rfl,(Qb rfl),rfl⟩ rfl (Fresh.of rfl) (nlr rfl))<|lc (Xe ⟨_,_,rfl,(Qa rfl),rfl,rfl⟩ rfl)<|lc (QP 3 [(0,1),(1,2)] (HZ c.2.2 q hl) Qh9 ⟨_,_,rfl,(Qb rfl),⟨_,_,rfl,(Qb rfl),rfl⟩⟩ ⟨rfl,rfl,trivial⟩ rfl ⟨trivial,(Fresh.of rfl),trivial⟩ (nlr rfl)) ?_
 iterate 2 refine w_ ?_
 refine Qe ?_
 subst hO
 refine ZC (e:=(.pr .int (.pr .int (.pr .bool .int)))) (xs:=(Yl c.2.2 q)) (Qd rfl (Qc rfl)) rfl ?_
 rfl
theorem Qcn (c:(List (ByteArray×Int))×List ByteArray×(List (Int×Int×Bool×Int)))(q:Int)(hl:c.2.2.length≤1000000):FC Tryz.prog 290 [(true,[.dat (.sl 145 (.pr .str .int)) c.1, .dat (.sl 9 .str) c.2.1, .dat (.sl 179 (.pr .int (.pr .int (.pr .bool .int)))) c.2.2]),(false,[dI q])] [] 0 (XZ 179 (.pr .int (.pr .int (.pr .bool .int))) (Yl c.2.2 q)):=by
 refine QQ Tryz.func290 rfl rfl Tryz.ntmps290 fun O_ hO w0_ N0_ X_ h0_ f0_=> ?_
 refine AC.fact (Qs (x:= .tmp 1) (Qa rfl)) fun hi1=> ?_
 refine w_ ?_
 refine lc (Qr 0 (Qb rfl) rfl rfl (Fresh.of rfl) (nlr rfl)) ?_
 iterate 9 refine w_ ?_
 refine AL.fact (QB (x:= .tmp 9) (Qa rfl)) fun hl2=> ?_
 iterate 4 refine w_ ?_
 refine AC.wk (Wk.nilS 1 5 179 (.pr .int (.pr .int (.pr .bool .int))) rfl (Fresh.of rfl) (nlr rfl)) ?_
 refine Qy (fun m_ s_=>∃(k:Nat),k≤c.2.2.length∧m_=c.2.2.length - k∧s_=⟨[(1,lI q),(4,lf (.val (.slice none 0 0))),(5,lR 2),(9,lf (.dat (.sl 179 (.pr .int (.pr .int (.pr .bool .int)))) c.2.2)),(10,lI (c.2.2.length:Int)),(11,lI (k:Int))],[(2,some (.arr 179 (.pr .int (.pr .int (.pr .bool .int))) (Yl (c.2.2.take k) q)))]⟩) ⟨0,Nat.zero_le _,rfl,rfl⟩ ?_ ?_
 · exact Wk.of [(2,1)] rfl ⟨rfl,rfl,rfl,rfl,rfl,rfl,trivial⟩ ⟨(Qv (by first | rfl | simp)),trivial⟩ rfl rfl
 rintro m_ s_ ⟨k,hk3,hm4,rfl⟩
 have hfl:=Ht (l:=c.2.2.take k) (q:=q)
 have hft:(c.2.2.take k).length≤c.2.2.length:=by simp only[List.length_take]; omega
 iterate 4 refine w_ ?_
 cases hb5:(decide ((k:Int) < (c.2.2.length:Int)))
 ·have hb5':=of_decide_eq_false hb5
  refine w_ ?_
  refine QA ?_
  refine (?_:AC _ _ _ _ _)
  iterate 4 refine w_ ?_
  refine Qe ?_
  subst hO
  refine ZC (e:=(.pr .int (.pr .int (.pr .bool .int)))) (xs:=(Yl (c.2.2.take k) q)) (Qd rfl (Qc rfl)) rfl ?_
  rw[Zh (by omega)]
 ·have hb5':=of_decide_eq_true hb5
  iterate 5 refine w_ ?_
  obtain ⟨x6,hx7⟩:∃z,c.2.2[k]? =some z:=⟨_,List.getElem?_eq_getElem (by omega)⟩
  refine lc (Qm (Qa rfl) (Qa rfl) Q9 QJ rfl (by omega) hx7) ?_
  refine w_ ?_
  refine lc (Qw 3 (.pr .int (.pr .int (.pr .bool .int))) Zq rfl rfl (Fresh.of rfl) (nlr rfl))<|lc (Qf (Qa rfl) rfl (Qb rfl) rfl QJ rfl) ?_
  iterate 4 refine w_ ?_
  refine AL.fact (Qs (x:= .tmp 16) (Qa rfl)) fun hi8=> ?_
  iterate 3 refine w_ ?_
  cases hb9:(decide (x6.1=q))
  ·have hb9':=of_decide_eq_false hb9
   refine w_ ?_
   refine AC.skip ?_
   refine (?_:AC _ _ _ _ _)
   iterate 3 refine w_ ?_
   refine Qj<|QS ⟨k+1,by omega,rfl,rfl⟩ (by omega) ?_
   exact Wk.of [(2,2)] rfl ⟨rfl,rfl,rfl,rfl,rfl,rfl,trivial⟩ ⟨(Qv (by first | exact QfE hx7 (by assumption) | exact Qjb hx7 (by assumption))),trivial⟩ rfl rfl
  ·have hb9':=of_decide_eq_true hb9
   iterate 4 refine w_ ?_
   refine lc (Qk 4 (e:=(.pr .int (.pr .int (.pr .bool .int)))) Q9 QJ Zq rfl ⟨_,_,rfl,(Qb rfl),rfl⟩ (List.all_eq_true.1 rfl) ⟨_,_,_,_,rfl,⟨[dI x6.1],[dI x6.2.1,dB x6.2.2.1,dI x6.2.2.2],_,_,_,_,rfl,rfl,⟨rfl,rfl⟩,⟨[dI x6.2.1],[dB x6.2.2.1,dI x6.2.2.2],_,_,_,_,rfl,rfl,⟨rfl,rfl⟩,⟨[dB x6.2.2.1],[dI x6.2.2.2],_,_,_,_,rfl,rfl,⟨rfl,rfl⟩,⟨rfl,rfl⟩,rfl⟩,rfl⟩,rfl⟩,⟨rfl,rfl⟩,rfl⟩ (by decide) rfl rfl (Fresh.of rfl) (nlr rfl))<|lc (Q0 5 (Qa rfl) rfl (Qa rfl) rfl rfl Q9 Vh (by first | omega | (simp only[List.length_append,List.length_map,List.length_take,List.length_cons,List.length_nil]; omega) | (simp only[List.length_append,List.length_drop,List.length_take,List.length_cons,List.length_nil]; omega)) rfl (Fresh.of rfl) (nlr rfl)) ?_
   refine w_ ?_
   refine Qj ?_
   refine (?_:AC _ _ _ _ _)
   iterate 3 refine w_ ?_
   refine Qj<|QS ⟨k+1,by omega,rfl,rfl⟩ (by omega) ?_
   exact Wk.of [(2,5)] rfl ⟨rfl,rfl,rfl,rfl,rfl,rfl,trivial⟩ ⟨(Qv (by first | exact QfE hx7 (by assumption) | exact Qjb hx7 (by assumption))),trivial⟩ rfl rfl
theorem JU (x:ByteArray×Int)(name:ByteArray):FC Tryz.prog 273 [(true,[dS x.1,dI x.2]),(false,[.ptr 0 0])] [(0,some (.box 9 [dS name]))] 1 (Is (lB (decide (x.1=name))) [(0,some (.box 9 [dS name]))]):=by
 refine QQ Tryz.func273 rfl rfl Tryz.ntmps273 fun O_ hO w0_ N0_ X_ h0_ f0_=> ?_
 refine AC.fact (Q3 (x:= .tmp 0) (i:=1) (Qb rfl) rfl) fun hi1=> ?_
 refine w_ ?_
 refine lc (Qr 1 (Qb rfl) rfl rfl (Fresh.of rfl) (nlr rfl)) ?_
 iterate 9 refine w_ ?_
 refine Qe ?_
 subst hO
 exact Q2 _ _ [(0,0)] (Qd rfl (Qc rfl)) (rfl) ⟨rfl,trivial⟩ rfl rfl
theorem U9 (l:List (ByteArray×Int))(name:ByteArray):FC Tryz.prog 272 [(false,[.dat (.sl 145 (.pr .str .int)) l]),(false,[.clo 273 [0]])] [(0,some (.box 9 [dS name]))] 1 (Is (lI (ZJ (fun x:Q4=>decide (x.1=name)) l)) [(0,some (.box 9 [dS name]))]):=by
 refine QQ Tryz.func272 rfl rfl Tryz.ntmps272 fun O_ hO w0_ N0_ X_ h0_ f0_=> ?_
 iterate 6 refine w_ ?_
 refine AL.fact (QB (x:= .tmp 6) (Qa rfl)) fun hl1=> ?_
 iterate 4 refine w_ ?_
 refine Qy (fun m_ s_=>∃(k:Nat),k≤l.length∧m_=l.length - k∧(NoneTo (fun x:Q4=>decide (x.1=name)) l k)∧s_=⟨[(0,lf (.dat (.sl 145 (.pr .str .int)) l)),(1,lf (.clo 273 [0])),(7,lI (l.length:Int)),(8,lI (k:Int))],[(0,some (.box 9 [dS name]))]⟩) ⟨0,Nat.zero_le _,rfl,NoneTo.zero,rfl⟩ ?_ ?_
 · exact Wk.of [(0,0)] rfl ⟨rfl,rfl,rfl,rfl,trivial⟩ ⟨rfl,trivial⟩ rfl rfl
 rintro m_ s_ ⟨k,hk2,hm3,hno,rfl⟩
 iterate 4 refine w_ ?_
 cases hb4:(decide ((k:Int) < (l.length:Int)))
 ·have hb4':=of_decide_eq_false hb4
  refine w_ ?_
  refine QA ?_
  refine (?_:AC _ _ _ _ _)
  iterate 3 refine w_ ?_
  refine Qe ?_
  subst hO
  have e5:((-1):Int)=(ZJ (fun x:Q4=>decide (x.1=name)) l):=by
   first | exact (hno.no (by omega)).symm
  exact Q2 _ _ [(0,0)] (Qd rfl (Qc rfl)) ((congrArg (fun z_=>lI z_) e5)) ⟨rfl,trivial⟩ rfl rfl
 ·have hb4':=of_decide_eq_true hb4
  iterate 12 refine w_ ?_
  obtain ⟨x6,hx7⟩:∃z,l[k]? =some z:=⟨_,List.getElem?_eq_getElem (by omega)⟩
  refine lc (Qm (Qa rfl) (Qa rfl) Yh Yj rfl (by omega) hx7) ?_
  refine w_ ?_
  refine lc (Xp (args0:=[(true,[dS x6.1,dI x6.2])]) (caps:=[0]) 1 [(0,0)] (JU x6 name) QiF rfl (Qa rfl) rfl rfl ⟨_,_,rfl,(Qb rfl),rfl⟩ ⟨rfl,trivial⟩ rfl ⟨trivial,trivial⟩ (nlr rfl)) ?_
  refine w_ ?_
  cases hb8:(decide (x6.1=name))
  ·have hb8':=of_decide_eq_false hb8
   refine w_ ?_
   refine AC.skip ?_
   refine (?_:AC _ _ _ _ _)
   iterate 3 refine w_ ?_
   refine Qj<|QS ⟨k+1,by omega,rfl,hno.step hx7 (by assumption),rfl⟩ (by omega) ?_
   exact Wk.of [(0,0)] rfl ⟨rfl,rfl,rfl,rfl,trivial⟩ ⟨rfl,trivial⟩ rfl rfl
  ·have hb8':=of_decide_eq_true hb8
   iterate 5 refine w_ ?_
   refine Qe ?_
   subst hO
   have e9:((k:Int):Int)=(ZJ (fun x:Q4=>decide (x.1=name)) l):=by
    exact (hno.at hx7 (by assumption)).symm
   exact Q2 _ _ [(0,0)] (Qd rfl (Qc rfl)) ((congrArg (fun z_=>lI z_) e9)) ⟨rfl,trivial⟩ rfl rfl
theorem Uq (l:List (ByteArray×Int))(name:ByteArray):FC Tryz.prog 214 [(false,[.dat (.sl 145 (.pr .str .int)) l]),(false,[dS name])] [] 0 (Zy (lI (ZJ (fun x:Q4=>decide (x.1=name)) l))):=by
 refine QQ Tryz.func214 rfl rfl Tryz.ntmps214 fun O_ hO w0_ N0_ X_ h0_ f0_=> ?_
 refine w_ ?_
 refine lc (Qr 0 (Qb rfl) rfl rfl (Fresh.of rfl) (nlr rfl)) ?_
 iterate 4 refine w_ ?_
 refine lc (Xe ⟨_,_,rfl,(Qa rfl),rfl,rfl⟩ rfl)<|lc (QP 1 [(0,0)] (U9 l name) Qiq ⟨_,_,rfl,(Qb rfl),⟨_,_,rfl,(Qb rfl),rfl⟩⟩ ⟨rfl,trivial⟩ rfl ⟨trivial,trivial⟩ (nlr rfl)) ?_
 iterate 2 refine w_ ?_
 refine Qe ?_
 subst hO
 exact Qg (Qd rfl (Qc rfl)) rfl rfl
theorem Ur (l:List (ByteArray×Int))(name:ByteArray):FC Tryz.prog 201 [(false,[.dat (.sl 145 (.pr .str .int)) l]),(false,[dS name])] [] 0 (Zy (lI (ZJ (fun x:Q4=>decide (x.1=name)) l))):=by
 refine QQ Tryz.func201 rfl rfl Tryz.ntmps201 fun O_ hO w0_ N0_ X_ h0_ f0_=> ?_
 iterate 6 refine w_ ?_
 refine AL.fact (QB (x:= .tmp 7) (Qa rfl)) fun hl1=> ?_
 iterate 4 refine w_ ?_
 refine Qy (fun m_ s_=>∃(k:Nat),k≤l.length∧m_=l.length - k∧(NoneTo (fun x:Q4=>decide (x.1=name)) l k)∧s_=⟨[(1,lf (dS name)),(7,lf (.dat (.sl 145 (.pr .str .int)) l)),(8,lI (l.length:Int)),(9,lI (k:Int))],[]⟩) ⟨0,Nat.zero_le _,rfl,NoneTo.zero,rfl⟩ ?_ ?_
 · exact Wk.of [] rfl ⟨rfl,rfl,rfl,rfl,trivial⟩ trivial rfl rfl
 rintro m_ s_ ⟨k,hk2,hm3,hno,rfl⟩
 iterate 4 refine w_ ?_
 cases hb4:(decide ((k:Int) < (l.length:Int)))
 ·have hb4':=of_decide_eq_false hb4
  refine w_ ?_
  refine QA ?_
  refine (?_:AC _ _ _ _ _)
  iterate 3 refine w_ ?_
  refine Qe ?_
  subst hO
  have e5:((-1):Int)=(ZJ (fun x:Q4=>decide (x.1=name)) l):=by
   first | exact (hno.no (by omega)).symm
  exact Qg (Qd rfl (Qc rfl)) ((congrArg (fun z_=>lI z_) e5)) rfl
 ·have hb4':=of_decide_eq_true hb4
  iterate 6 refine w_ ?_
  obtain ⟨x6,hx7⟩:∃z,l[k]? =some z:=⟨_,List.getElem?_eq_getElem (by omega)⟩
  refine lc (Qm (Qa rfl) (Qa rfl) Yh Yj rfl (by omega) hx7) ?_
  refine w_ ?_
  refine lc (Qw 0 (.pr .str .int) Wq rfl rfl (Fresh.of rfl) (nlr rfl)) ?_
  refine w_ ?_
  refine lc (Qf (Qa rfl) rfl (Qb rfl) rfl Yj rfl) ?_
  iterate 7 refine w_ ?_
  cases hb8:(decide (x6.1=name))
  ·have hb8':=of_decide_eq_false hb8
   refine w_ ?_
   refine AC.skip ?_
   refine (?_:AC _ _ _ _ _)
   iterate 3 refine w_ ?_
   refine Qj<|QS ⟨k+1,by omega,rfl,hno.step hx7 (by assumption),rfl⟩ (by omega) ?_
   exact Wk.of [] rfl ⟨rfl,rfl,rfl,rfl,trivial⟩ trivial rfl rfl
  ·have hb8':=of_decide_eq_true hb8
   iterate 5 refine w_ ?_
   refine Qe ?_
   subst hO
   have e9:((k:Int):Int)=(ZJ (fun x:Q4=>decide (x.1=name)) l):=by
    exact (hno.at hx7 (by assumption)).symm
   exact Qg (Qd rfl (Qc rfl)) ((congrArg (fun z_=>lI z_) e9)) rfl
end Go.Proofs.YtnakmhfjafecpaaGreat
namespace Go.Proofs.YtnakmhfjafecpaaGreat
open Go.RowKit
set_option maxRecDepth 100000
set_option maxHeartbeats 4000000
abbrev PSt:=Int×Bool
theorem Qhh {n:Int}{b:Bool}(h: -9223372036854775808≤n∧n≤9223372036854775807):∃l,keyOf Tryz.prog 300 (.agg #[.int .i64 n, .bool b])=some l:=by
  have hu:=Tryz.underlying300
  have h1:Tryz.prog.keyType 300=true:=by kernel_rfl
  have hc:Tryz.prog.cellsOf 300=2:=by kernel_rfl
  have hc3:Tryz.prog.cellsOf 3=1:=by kernel_rfl
  have hc4:Tryz.prog.cellsOf 4=1:=by kernel_rfl
  have hs:Tryz.prog.types.size+1=(Tryz.prog.types.size - 1)+1+1:=by
    have:1≤Tryz.prog.types.size:=by exact of_decide_eq_true (by kernel_rfl)
    omega
  have hw:(Lit.int .i64 n).wf=true:=by simp[Lit.wf]; exact h
  have hl:∃ls,Tryz.prog.keyLits (Tryz.prog.types.size+1) 300 [.int .i64 n, .bool b]=some ls:=by
    rw[hs]
    generalize Tryz.prog.types.size - 1=d
    simp[Program.keyLits,hu,hc,hc3,hc4,Tryz.underlying3,Tryz.underlying4,hw]
  obtain ⟨ls,hl⟩:=hl
  refine ⟨.string (keyBytes ls), ?_⟩
  unfold keyOf
  rw[hu]
  generalize Tryz.prog.types.size+1=N at hl ⊢
  simp[h1,Value.formed,hu,hc,Value.cells,hl]
theorem QjT:KeyL Tryz.prog 300 true (.pr .int .bool) where
  K:=Maps.Keyed.of_law (deep_law (m:=3) (by omega) (by kernel_rfl) (by kernel_rfl) (by rw[Tryz.underlying300]))
  flat:=rfl
  rd:=fun v x ⟨cs,w,h1,h2⟩=>by
    obtain ⟨n,b⟩:=x
    obtain ⟨l,r,rfl,h3,h4⟩:=h2
    obtain ⟨rfl,h5⟩:=h3
    have h4:r=[.bool b]:=h4
    subst h1 h4
    exact Qhh h5
def ixP (ps:List PSt)(p:PSt):Int:=(ps.idxOf p:Nat)
def psP (ps:List PSt)(p:PSt):List PSt:=if p∈ps then ps else ps++[p]
def cdP (c:DSg)(ps:List PSt)(cs:List ByteArray)(p:PSt):List ByteArray:=if p∈ps then cs else cs++[QbX c p.1++⟨#[if p.2 then 49 else 48]⟩]
def Qfx:Nat→List PSt→List (PSt×Int)
  | _,[]=>[]
  | n,p :: ps=>(p,(n:Int)) :: Qfx (n+1) ps
def YH (ps:List PSt):List (PSt×Int):=Qfx 0 ps
section
variable {c:DSg}{ps:List PSt}{p:PSt}{cs:List ByteArray}{n:Nat}{code:ByteArray}
theorem Qls:YG (.pr .int .bool) (Qfx n ps) p=if p∈ps then some ((n:Int)+ixP ps p) else none:=by
  induction ps generalizing n with
  | nil=>rfl
  | cons q ps ih=>
    rw[Qfx,YG,ih]
    by_cases e:q=p
    · subst e
      rw[if_pos (Qgt (.pr .int .bool) q),if_pos (List.mem_cons_self ..)]
      simp[ixP]
    · rw [if_neg (fun h => e ((Ty.beq_iff (.pr .int .bool) q p).1 h))]
      have e2:ixP (q :: ps) p=ixP ps p+1:=by
        simp only[ixP,List.idxOf_cons]
        rw[show (q==p)=false by simpa using e]
        simp
      have e3:(p∈q :: ps)↔p∈ps:=by
        rw[List.mem_cons]
        exact ⟨fun h=>h.resolve_left fun h=>e h.symm, .inr⟩
      by_cases h:p∈ps
      · rw[if_pos h,if_pos (e3.2 h),e2]; congr 1; omega
      · rw[if_neg h,if_neg (fun h2=>h (e3.1 h2))]
theorem Qc7:YG (.pr .int .bool) (YH ps) p=if p∈ps then some (ixP ps p) else none:=by
  have:=Qls (n:=0) (ps:=ps) (p:=p)
  simpa [YH] using this
theorem QlS (h:p∉ps):Va (.pr .int .bool) (Qfx n ps) p ((n:Int)+ps.length)=Qfx n (ps++[p]):=by
  induction ps generalizing n with
  | nil=>simp[Qfx,Va]
  | cons q ps ih=>
    have h1:¬q=p:=fun e=>h (by rw[e]; exact List.mem_cons_self ..)
    rw[Qfx,Va,if_neg (fun h=>h1 ((Ty.beq_iff (.pr .int .bool) q p).1 h)),List.cons_append,Qfx,← ih fun h2=>h (List.mem_cons_of_mem _ h2)]
    rw[show (n:Int)+((q :: ps).length:Nat)=((n+1:Nat):Int)+(ps.length:Nat) by rw[List.length_cons]; omega]
theorem Qg4 (h:(YG (.pr .int .bool) (YH ps) p).isSome=true):p∈ps:=by
  rw[Qc7] at h
  by_cases e:p∈ps
  · exact e
  · rw[if_neg e] at h; cases h
theorem Qbz (h:(YG (.pr .int .bool) (YH ps) p).isSome=false):p∉ps:=fun e=>by
  rw[Qc7,if_pos e] at h; cases h
theorem QoX (h:(YG (.pr .int .bool) (YH ps) p).isSome=true):(YG (.pr .int .bool) (YH ps) p).getD (Ty.zero .int)=ixP ps p:=by rw[Qc7,if_pos (Qg4 h)]; rfl
theorem QlW (h:(YG (.pr .int .bool) (YH ps) p).isSome=true):ps=psP ps p:=(if_pos (Qg4 h)).symm
theorem Qpe (h:(YG (.pr .int .bool) (YH ps) p).isSome=true):cs=cdP c ps cs p:=(if_pos (Qg4 h)).symm
theorem Qo5 (h:(YG (.pr .int .bool) (YH ps) p).isSome=true):YH ps=YH (psP ps p):=by rw[← QlW h]
theorem Qpz (h:(YG (.pr .int .bool) (YH ps) p).isSome=false):(ps.length:Int)=ixP ps p:=by unfold ixP; rw[List.idxOf_eq_length (Qbz h)]
theorem QlD (h:(YG (.pr .int .bool) (YH ps) p).isSome=false):ps++[p]=psP ps p:=(if_neg (Qbz h)).symm
theorem QoH (h:(YG (.pr .int .bool) (YH ps) p).isSome=false)(hx:c.2.1[p.1.toNat]? =some code):cs++[code++⟨#[if p.2 then 49 else 48]⟩]=cdP c ps cs p:=by
  unfold cdP
  rw[if_neg (Qbz h),WS hx]
theorem QoQ (h:(YG (.pr .int .bool) (YH ps) p).isSome=false):Va (.pr .int .bool) (YH ps) p (ps.length:Int)=YH (psP ps p):=by
  rw[← QlD h]
  have:=QlS (n:=0) (Qbz h)
  simpa [YH] using this
theorem XW:(psP ps p).length≤ps.length+1:=by unfold psP; split <;> simp
theorem XP:(cdP c ps cs p).length≤cs.length+1:=by unfold cdP; split <;> simp
end
theorem YX (c:DSg)(signs:ByteArray)(ss:List Q4)(cs:List ByteArray)(as_:List DAr)(ps:List PSt)(p:Int×Bool)(hp:0≤p.1∧p.1 < (c.2.1.length:Int))(hc:∀x∈c.2.1,x.size≤1000)(hl:ps.length≤1000000∧cs.length≤1000000):FC Tryz.prog 270 [(false,[.ptr 0 0]),(true,[dI p.1,dB p.2])] [(0,some (.box 297 [.dat (.sl 145 (.pr .str .int)) c.1, .dat (.sl 9 .str) c.2.1, .dat (.sl 179 (.pr .int (.pr .int (.pr .bool .int)))) c.2.2,dS signs, .ref 1, .ref 4, .ref 2, .ref 5, .ref 3])),(1,some (.arr 145 (.pr .str .int) ss)),(4,some (.arr 9 .str cs)),(2,some (.arr 179 (.pr .int (.pr .int (.pr .bool .int))) as_)),(5,some (.arr 300 (.pr .int .bool) ps)),(3,some (.mp true (.pr .int .bool) false .int (YH ps)))] 4 (Is (lI (ixP ps p)) [(0,some (.box 297 [.dat (.sl 145 (.pr .str .int)) c.1, .dat (.sl 9 .str) c.2.1, .dat (.sl 179 (.pr .int (.pr .int (.pr .bool .int)))) c.2.2,dS signs, .ref 1, .ref 4, .ref 2, .ref 5, .ref 3])),(1,some (.arr 145 (.pr .str .int) ss)),(4,some (.arr 9 .str (cdP c ps cs p))),(2,some (.arr 179 (.pr .int (.pr .int (.pr .bool .int))) as_)),(5,some (.arr 300 (.pr .int .bool) (psP ps p))),(3,some (.mp true (.pr .int .bool) false .int (YH (psP ps p))))]):=by
 refine QQ Tryz.func270 rfl rfl Tryz.ntmps270 fun O_ hO w0_ N0_ X_ h0_ f0_=> ?_
 refine AC.fact (Q3 (x:= .tmp 1) (i:=0) (Qb rfl) rfl) fun hi1=> ?_
 refine w_ ?_
 refine lc (Qr 6 (Qb rfl) rfl rfl (Fresh.of rfl) (nlr rfl)) ?_
 iterate 3 refine w_ ?_
 refine dw [io 9 (lP 0 0),io 10 (lP 0 0),io 11 (lP 0 8),io 12 (lR 3),io 13 (ag [dI p.1,dB p.2]),io 14 (PV.tup [(false,[dI ((YG (.pr .int .bool) (YH ps) p).getD (Ty.zero .int))]),(false,[dB ((YG (.pr .int .bool) (YH ps) p).isSome)])]),io 8 (PV.tup [(false,[dI ((YG (.pr .int .bool) (YH ps) p).getD (Ty.zero .int))]),(false,[dB ((YG (.pr .int .bool) (YH ps) p).isSome)])]),io 15 (lI ((YG (.pr .int .bool) (YH ps) p).getD (Ty.zero .int))),io 16 (lB ((YG (.pr .int .bool) (YH ps) p).isSome)),io 5 (lI ((YG (.pr .int .bool) (YH ps) p).getD (Ty.zero .int))),io 6 (lB ((YG (.pr .int .bool) (YH ps) p).isSome))] [0,1,3,7,0,31,63,127,127,255,1023] mixed rfl (by kernel_rfl) ⟨dxm rfl rfl,dxn rfl rfl rfl,dxf Qea rfl rfl rfl,dxl QjE rfl rfl rfl rfl rfl,dxa Wh rfl rfl rfl rfl,fun _ h_=>ac (Qdw QjT Qi5 Qp3 (h_.v rfl) (h_.n 3 rfl) (h_.w rfl) (p:=p) rfl rfl rfl) rfl,dxm rfl rfl,fun _ h_=>ac (YN (h_.k rfl) rfl rfl) rfl,fun _ h_=>ac (YN (h_.k rfl) rfl rfl) rfl,dxt rfl rfl,dxt rfl rfl,⟨⟩⟩ ?_
 iterate 3 refine w_ ?_
 cases hb2:((YG (.pr .int .bool) (YH ps) p).isSome)
 ·iterate 10 refine w_ ?_
  refine dw [io 24 (lP 0 0),io 25 (lP 0 0),io 26 (lP 0 8),io 27 (lR 3),io 28 (ag [dI p.1,dB p.2]),io 29 (lI (ps.length:Int)),⟨none,lf (.val undef),[(3,some (.mp true (.pr .int .bool) false .int (Va (.pr .int .bool) (YH ps) p (ps.length:Int))))]⟩] [0,1,3,7,0,0,63] mixed rfl (by kernel_rfl) ⟨dxm rfl rfl,dxn rfl rfl rfl,dxf Qea rfl rfl rfl,dxl QjE rfl rfl rfl rfl rfl,dxa Wh rfl rfl rfl rfl,dxm rfl rfl,fun _ h_=>ac (Qc5 QjT Qi5 (h_.v rfl) (h_.n 3 rfl) (h_.w rfl) (p:=p) rfl (h_.w rfl) (u:=(ps.length:Int)) rfl) rfl,⟨⟩⟩<|dw [io 30 (lP 0 0),io 31 (lP 0 0),io 32 (lP 0 0),io 33 (lP 0 7),io 34 (lR 5),io 35 (ag [dI p.1,dB p.2]),⟨some 36,lR 7,[(7,some (.arr 300 (.pr .int .bool) ([(p.1,p.2)])))]⟩,⟨some 37,lR 8,[(8,some (.arr 300 (.pr .int .bool) (ps++([(p.1,p.2)])))),(5,none),(7,none)]⟩,io 38 (lP 0 0),io 39 (lP 0 7),⟨none,lf (.val undef),[(0,some (.box 297 [.dat (.sl 145 (.pr .str .int)) c.1, .dat (.sl 9 .str) c.2.1, .dat (.sl 179 (.pr .int (.pr .int (.pr .bool .int)))) c.2.2,dS signs, .ref 1, .ref 4, .ref 2, .ref 8, .ref 3]))]⟩] [0,0,2,6,14,0,32,126,255,511,1023] mixed rfl (by kernel_rfl) ⟨dxm rfl rfl,dxm rfl rfl,dxn rfl rfl rfl,dxf QaY rfl rfl rfl,dxl Qe2 rfl rfl rfl rfl rfl,dxa Wh rfl rfl rfl rfl,fun _ h_=>ac (Qk 7 (e:=(.pr .int .bool)) QbH Wh Qbx rfl ⟨_,_,rfl,(h_.w rfl),rfl⟩ (List.all_eq_true.1 rfl) ⟨_,_,_,_,rfl,⟨[dI p.1],[dB p.2],_,_,_,_,rfl,rfl,⟨rfl,rfl⟩,⟨rfl,rfl⟩,rfl⟩,⟨rfl,rfl⟩,rfl⟩ (by decide) rfl rfl (h_.fr 7 rfl) (nlr rfl)) rfl,fun _ h_=>ac (Q0 8 (h_.v rfl) (h_.en 5 rfl) (h_.v rfl) (h_.en 7 rfl) rfl QbH QnB (by first | omega | (simp only[List.length_append,List.length_map,List.length_take,List.length_cons,List.length_nil]; omega) | (simp only[List.length_append,List.length_drop,List.length_take,List.length_cons,List.length_nil]; omega)) rfl (h_.fr 8 rfl) (nlr rfl)) rfl,dxn rfl rfl rfl,dxf QaY rfl rfl rfl,fun _ h_=>ac (Qf (h_.v rfl) (h_.en 0 rfl) (h_.w rfl) (by simp only[Yf,Up,List.all_cons,List.all_nil]; rw[(h_.en 8 rfl)]; rfl) Qe2 rfl) rfl,⟨⟩⟩ ?_
  obtain ⟨x3,hx4⟩:∃z,c.2.1[(p.1).toNat]? =some z:=⟨_,List.getElem?_eq_getElem (by omega)⟩
  have hczx3:=hc _ (List.mem_of_getElem? hx4)
  refine dw [io 40 (lP 0 0),io 41 (lP 0 0),io 42 (lP 0 0),io 43 (lP 0 4),io 44 (lP 0 5),io 45 (lR 4),io 46 (lP 0 0),io 47 (lP 0 0),io 48 (lP 0 0),io 49 (lP 0 1),io 50 (lf (.dat (.sl 9 .str) c.2.1)),io 51 (lP 6 0),io 52 (lI p.1),io 53 (lf (.elt .str x3 0)),io 54 (lf (dS x3)),io 55 (lP 6 1),io 56 (lB p.2),io 57 (lf (.dat .u8 (if p.2 then 49 else 48))),⟨some 58,lR 9,[(9,some (.arr 5 .u8 ([if p.2 then 49 else 48])))]⟩,io 59 (lf (dS (⟨#[if p.2 then 49 else 48]⟩:ByteArray))),io 60 (lf (dS (x3++(⟨#[if p.2 then 49 else 48]⟩:ByteArray)))),⟨some 61,lR 10,[(10,some (.arr 9 .str ([x3++(⟨#[if p.2 then 49 else 48]⟩:ByteArray)])))]⟩,⟨some 62,lR 11,[(11,some (.arr 9 .str (cs++([x3++(⟨#[if p.2 then 49 else 48]⟩:ByteArray)])))),(4,none),(10,none)]⟩,io 63 (lP 0 0),io 64 (lP 0 4),io 65 (lP 0 5),⟨none,lf (.val undef),[(0,some (.box 297 [.dat (.sl 145 (.pr .str .int)) c.1, .dat (.sl 9 .str) c.2.1, .dat (.sl 179 (.pr .int (.pr .int (.pr .bool .int)))) c.2.2,dS signs, .ref 1, .ref 11, .ref 2, .ref 8, .ref 3]))]⟩] [0,0,2,6,14,30,0,64,192,448,960,0,2048,8128,16320,0,32768,98304,229376,491520,1048512,2097088,4194302,8388607,16777215,33554431,67108863] mixed rfl (by kernel_rfl) ⟨dxm rfl rfl,dxm rfl rfl,dxn rfl rfl rfl,dxf Je rfl rfl rfl,dxf Z9 rfl rfl rfl,dxl Xc rfl rfl rfl rfl rfl,dxm rfl rfl,dxn rfl rfl rfl,dxf Qa3 rfl rfl rfl,dxf Z9 rfl rfl rfl,dxl Xc rfl rfl rfl rfl rfl,dxf Qan rfl rfl rfl,dxl QD rfl rfl rfl rfl rfl,fun _ h_=>ac (Qm (h_.v rfl) (h_.v rfl) ZL Zx rfl (by omega) hx4) rfl,fun _ h_=>ac (Zv (h_.v rfl) Zx rfl rfl) rfl,dxf YF rfl rfl rfl,dxl ZH rfl rfl rfl rfl rfl,fun _ h_=>ac (Qh (Qgh p.2) QiA ⟨_,_,rfl,(h_.w rfl),rfl⟩ rfl rfl) rfl,fun _ h_=>ac (Qk 9 (e:= .u8) Zc ZA Qco rfl ⟨_,_,rfl,(h_.w rfl),rfl⟩ (List.all_eq_true.1 rfl) ⟨_,_,_,_,rfl,⟨rfl,rfl⟩,⟨rfl,rfl⟩,rfl⟩ (by decide) rfl rfl (h_.fr 9 rfl) (nlr rfl)) rfl,fun _ h_=>ac (ZS (ys:=[if p.2 then 49 else 48]) (Xd (h_.v rfl) (h_.n 9 rfl)) Zc VX Zd rfl) rfl,fun _ h_=>ac (X9 (h_.v rfl) (h_.v rfl) rfl (by first | omega | (simp only[QaF]; omega))) rfl,fun _ h_=>ac (Qk 10 (e:= .str) ZL Zx Qcu rfl ⟨_,_,rfl,(h_.w rfl),rfl⟩ (List.all_eq_true.1 rfl) ⟨_,_,_,_,rfl,⟨rfl,rfl⟩,⟨rfl,rfl⟩,rfl⟩ (by decide) rfl rfl (h_.fr 10 rfl) (nlr rfl)) rfl,fun _ h_=>ac (Q0 11 (h_.v rfl) (h_.en 4 rfl) (h_.v rfl) (h_.en 10 rfl) rfl ZL QjD (by first | omega | (simp only[List.length_append,List.length_map,List.length_take,List.length_cons,List.length_nil]; omega) | (simp only[List.length_append,List.length_drop,List.length_take,List.length_cons,List.length_nil]; omega)) rfl (h_.fr 11 rfl) (nlr rfl)) rfl,dxn rfl rfl rfl,dxf Je rfl rfl rfl,dxf Z9 rfl rfl rfl,fun _ h_=>ac (Qf (h_.v rfl) (h_.en 0 rfl) (h_.w rfl) (by simp only[Yf,Up,List.all_cons,List.all_nil]; rw[(h_.en 11 rfl)]; rfl) Xc rfl) rfl,⟨⟩⟩ ?_
  iterate 4 refine w_ ?_
  refine Qe ?_
  subst hO
  have e5:((ps.length:Int):Int)=(ixP ps p):=by
   exact Qpz (by assumption)
  exact Q2 _ _ [(0,0),(1,1),(2,2),(3,3),(4,11),(5,8)] (Qd rfl (Qc rfl)) ((congrArg (fun z_=>lI z_) e5)) ⟨rfl,rfl,(Qv (by exact QoH (by assumption) (by assumption))),rfl,(Qv (by exact QlD (by assumption))),(Qo3 (by exact QoQ (by assumption))),trivial⟩ rfl rfl
 ·iterate 5 refine w_ ?_
  refine Qe ?_
  subst hO
  have e6:((YG (.pr .int .bool) (YH ps) p).getD (Ty.zero .int):Int)=(ixP ps p):=by
   exact QoX (by assumption)
  exact Q2 _ _ [(0,0),(1,1),(2,2),(3,3),(4,4),(5,5)] (Qd rfl (Qc rfl)) ((congrArg (fun z_=>lI z_) e6)) ⟨rfl,rfl,(Qv (by exact Qpe (by assumption))),rfl,(Qv (by exact QlW (by assumption))),(Qo3 (by exact Qo5 (by assumption))),trivial⟩ rfl rfl
end Go.Proofs.YtnakmhfjafecpaaGreat
