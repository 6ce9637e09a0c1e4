/- Walks over abstract states: the reference puts a signal in. -/
import Derived.Test.YtnakmhfjafecpaaGreatVf
set_option linter.unusedSimpArgs false
set_option linter.unusedVariables false
set_option linter.unusedSectionVars false
namespace Go.Proofs.YtnakmhfjafecpaaGreat
open Go.RowKit
set_option maxRecDepth 100000
set_option maxHeartbeats 4000000
def vB (b:Bool):Int:=if b then 1 else 0
def Z3 (p:PSt):Int:=2*p.1+vB p.2
def Qap (x:UInt8)(v:Int):Bool:=if x=48 then decide (v=0) else if x=49 then decide (v=1) else true
section
variable {c:DSg}{s:ByteArray}{ps:List PSt}{p:PSt}{cs:List ByteArray}{i:Nat}{k v z q:Int}{code:ByteArray}{a:DAr}
theorem U6 (b:Bool):vB b=0∨vB b=1:=by cases b <;> simp[vB]
theorem QbY (b:Bool):decide (vB b=1)=b:=by cases b <;> rfl
theorem HL (hv:v=0∨v=1):Z3 p=2*k+v↔p=(k,decide (v=1)):=by
  obtain ⟨x,b⟩:=p
  simp only[Z3,Prod.mk.injEq]
  have:=U6 b
  constructor
  · intro h
    have h1:x=k:=by omega
    have h2:vB b=v:=by omega
    refine ⟨h1, ?_⟩
    rw[← h2,QbY]
  · rintro ⟨rfl, rfl⟩
    rcases hv with rfl | rfl <;> rfl
theorem QlN {α:Type _}[BEq α][LawfulBEq α]{l:List α}{i:Nat}{x:α}(h:l[i]? =some x)(hn:∀j,j < i→l[j]? ≠some x):l.idxOf x=i:=by
  induction l generalizing i with
  | nil=>simp at h
  | cons y l ih=>
    cases i with
    | zero=>simp at h; subst h; simp
    | succ i=>
      have h0:y≠x:=by have:=hn 0 (by omega); simpa using this
      rw[List.idxOf_cons,show (y==x)=false by simpa using h0]
      simp only[cond_false]
      rw[ih (by simpa using h) fun j hj=>by have:=hn (j+1) (by omega); simpa using this]
abbrev Qff (k v:Int):Int→Bool:=fun z=>decide (z=2*k+v)
theorem Qdd (h:(ps.map Z3)[i]? =some z):∃p,ps[i]? =some p∧z=Z3 p:=by
  rw[List.getElem?_map] at h
  cases h2:ps[i]? with
  | none=>rw[h2] at h; cases h
  | some p=>rw[h2] at h; exact ⟨p,rfl,(Option.some.inj h).symm⟩
theorem Qm9 (hv:v=0∨v=1)(hN:NoneTo (Qff k v) (ps.map Z3) i)(hx:(ps.map Z3)[i]? =some z)(hz:z=2*k+v):ps[i]? =some (k,decide (v=1))∧(i:Int)=ixP ps (k,decide (v=1)):=by
  obtain ⟨p,h1,h2⟩:=Qdd hx
  have h3:=(HL hv).1 (h2.symm.trans hz)
  rw[h3] at h1
  refine ⟨h1, ?_⟩
  unfold ixP
  rw[QlN h1 fun j hj hq=> ?_]
  have:=hN j hj (Z3 (k,decide (v=1))) (by rw[List.getElem?_map,hq]; rfl)
  simp only[decide_eq_false_iff_not] at this
  exact this ((HL hv).2 rfl)
theorem QpW (hv:v=0∨v=1)(hN:NoneTo (Qff k v) (ps.map Z3) i)(hx:(ps.map Z3)[i]? =some z)(hz:z=2*k+v):(i:Int)=ixP ps (k,decide (v=1)):=(Qm9 hv hN hx hz).2
theorem Qp1 (hv:v=0∨v=1)(hN:NoneTo (Qff k v) (ps.map Z3) i)(hx:(ps.map Z3)[i]? =some z)(hz:z=2*k+v):ps.map Z3=(psP ps (k,decide (v=1))).map Z3:=by
  unfold psP; rw[if_pos (List.mem_of_getElem? (Qm9 hv hN hx hz).1)]
theorem QpZ (hv:v=0∨v=1)(hN:NoneTo (Qff k v) (ps.map Z3) i)(hx:(ps.map Z3)[i]? =some z)(hz:z=2*k+v):cs=cdP c ps cs (k,decide (v=1)):=by
  unfold cdP; rw[if_pos (List.mem_of_getElem? (Qm9 hv hN hx hz).1)]
theorem Qhk (hv:v=0∨v=1)(hN:NoneTo (Qff k v) (ps.map Z3) i)(hi:ps.length≤i):(k,decide (v=1))∉ps:=fun hm=>by
  obtain ⟨j,hj⟩:=List.mem_iff_getElem?.1 hm
  have hl:=(List.getElem?_eq_some_iff.1 hj).1
  have:=hN j (by omega) (Z3 (k,decide (v=1))) (by rw[List.getElem?_map,hj]; rfl)
  simp only[decide_eq_false_iff_not] at this
  exact this ((HL hv).2 rfl)
theorem QpO (hv:v=0∨v=1)(hN:NoneTo (Qff k v) (ps.map Z3) i)(hi:ps.length≤i):(((ps.map Z3)++[2*k+v]).length:Int) - 1=ixP ps (k,decide (v=1)):=by
  unfold ixP; rw[List.idxOf_eq_length (Qhk hv hN hi)]; simp
theorem QpY (hv:v=0∨v=1)(hN:NoneTo (Qff k v) (ps.map Z3) i)(hi:ps.length≤i):ps.map Z3++[2*k+v]=(psP ps (k,decide (v=1))).map Z3:=by
  unfold psP; rw[if_neg (Qhk hv hN hi),List.map_append,List.map_singleton,(HL hv).2 rfl]
theorem Qqm (hv:v=0∨v=1)(hN:NoneTo (Qff k v) (ps.map Z3) i)(hi:ps.length≤i)(hx:c.2.1[k.toNat]? =some code):cs++[code++⟨#[UInt8.ofNat (48+v).toNat]⟩]=cdP c ps cs (k,decide (v=1)):=by
  unfold cdP; rw[if_neg (Qhk hv hN hi),WS hx]
  rcases hv with rfl | rfl <;> rfl
theorem QfS:Z3 p / 2=p.1:=by have:=U6 p.2; unfold Z3; omega
theorem Qmm:Z3 p % 2=vB p.2:=by have:=U6 p.2; unfold Z3; omega
theorem Qgj (hm:Qap (bAt s a.2.2.2) (vB p.2)=false):Wa s p a=true:=by
  unfold Qap at hm
  unfold Wa
  cases hb:p.2 <;> rw[hb] at hm <;> revert hm <;> (repeat' split) <;> simp_all [vB]
theorem Qh7 (ha:a.1=p.1)(hd:Zs s a=true)(he:(decide (bAt s p.1=43)==decide (vB p.2=0))=true):Wa s p a=true:=by
  unfold Wa
  rw[hd]
  have:YC s p=true:=by
    unfold Zs at hd
    unfold YC
    rw[ha] at hd
    cases hb:p.2 <;> rw[hb] at he <;> simp_all [vB]
  simp[this]
theorem QgK (ha:a.1=p.1)(hm:Qap (bAt s a.2.2.2) (vB p.2)=true)(he:Zs s a=false∨(decide (bAt s p.1=43)==decide (vB p.2=0))=false):Wa s p a=false:=by
  have h3:(YC s p&&Zs s a)=false:=by
    rcases he with he | he
    · rw[he,Bool.and_false]
    · cases hd : Zs s a with
      | false=>rw[Bool.and_false]
      | true=>
        unfold Zs at hd
        unfold YC
        rw[ha] at hd
        cases hb:p.2 <;> rw[hb] at he <;> simp_all [vB]
  unfold Wa
  rw[h3]
  unfold Qap at hm
  cases hb:p.2 <;> rw[hb] at hm <;> revert hm <;> (repeat' split) <;> simp_all [vB]
theorem QmO (h:YC s p=true):(bAt s p.1=43∧p.2=false)∨(bAt s p.1=45∧p.2=true):=by
  unfold YC at h
  simpa using h
theorem Qmz {st:Ins}(h1:bAt s p.1=43)(h2:vB p.2=0):Qbm c s st q p=UZ c st q ((c.1.length:Int),true) (p.1,decide ((1:Int)=1)):=by
  have hb:p.2=false:=by cases h:p.2 <;> rw[h] at h2 <;> simp[vB] at h2
  rw[QbD (by unfold YC; rw[h1,hb]; rfl),h1,hb]; rfl
theorem QkR {st:Ins}(h1:bAt s p.1=45)(h2:vB p.2=1):Qbm c s st q p=UZ c st q ((c.1.length:Int),false) (p.1,decide ((0:Int)=1)):=by
  have hb:p.2=true:=by cases h:p.2 <;> rw[h] at h2 <;> simp[vB] at h2
  rw[QbD (by unfold YC; rw[h1,hb]; rfl),h1,hb]; rfl
theorem Qb8 {st:Ins}(h1:bAt s p.1=43→¬vB p.2=0)(h2:bAt s p.1=45→¬vB p.2=1):Qbm c s st q p=st:=by
  refine QfB ?_
  cases h:YC s p with
  | false=>rfl
  | true=>
    rcases QmO h with ⟨h3,h4⟩ | ⟨h3,h4⟩
    · exact absurd (by rw[h4]; rfl) (h1 h3)
    · exact absurd (by rw[h4]; rfl) (h2 h3)
end
theorem Ju (n:Int)(hn:0≤n∧n≤9):FC Tryz.prog 205 [(false,[dI n])] [] 0 (Zy (lf (dS (⟨#[UInt8.ofNat (48+n).toNat]⟩:ByteArray)))):=by
 have hn10:decide (n < 10)=true:=decide_eq_true (by omega)
 refine QQ Tryz.func205 rfl rfl Tryz.ntmps205 fun O_ hO w0_ N0_ X_ h0_ f0_=> ?_
 refine AC.fact (Qs (x:= .tmp 0) (Qa rfl)) fun hi1=> ?_
 iterate 8 refine w_ ?_
 cases hb2:(decide (n < 10))
 · exact absurd (hb2.symm.trans (show (decide (n < 10))=true from hn10)) (by decide)
 ·have hb2':=of_decide_eq_true hb2
  iterate 4 refine w_ ?_
  refine lc (Qd0 (Qa rfl) QdP VX (by omega) (by omega) rfl)<|lc (Qk 0 (e:= .u8) Zc ZA Qco rfl ⟨_,_,rfl,(Qb rfl),rfl⟩ (List.all_eq_true.1 rfl) ⟨_,_,_,_,rfl,⟨rfl,rfl⟩,⟨rfl,rfl⟩,rfl⟩ (by decide) rfl rfl (Fresh.of rfl) (nlr rfl))<|lc (ZS (ys:=[UInt8.ofNat (48+n).toNat]) (Xd (Qa rfl) rfl) Zc VX Zd rfl) ?_
  iterate 2 refine w_ ?_
  refine Qe ?_
  subst hO
  exact Qg (Qd rfl (Qc rfl)) rfl rfl
theorem ZY (c:DSg)(signs:ByteArray)(ps:List PSt)(ss:List Q4)(cs:List ByteArray)(as_:List DAr)(k:Int)(v:Int)(hp:0≤k∧k < (c.2.1.length:Int))(hv:v=0∨v=1)(hc:∀x∈c.2.1,x.size≤1000)(hl:ps.length≤1000000∧cs.length≤1000000)(hn:c.2.1.length≤1000000):FC Tryz.prog 261 [(false,[.ptr 0 0]),(false,[dI k]),(false,[dI v])] [(0,some (.box 288 [.dat (.sl 145 (.pr .str .int)) c.1, .dat (.sl 9 .str) c.2.1, .dat (.sl 179 (.pr .int (.pr .int (.pr .bool .int)))) c.2.2,dS signs, .ref 3, .ref 1, .ref 4, .ref 2])),(3,some (.arr 3 .int (ps.map Z3))),(1,some (.arr 145 (.pr .str .int) ss)),(4,some (.arr 9 .str cs)),(2,some (.arr 179 (.pr .int (.pr .int (.pr .bool .int))) as_))] 3 (Is (lI (ixP ps (k,decide (v=1)))) [(0,some (.box 288 [.dat (.sl 145 (.pr .str .int)) c.1, .dat (.sl 9 .str) c.2.1, .dat (.sl 179 (.pr .int (.pr .int (.pr .bool .int)))) c.2.2,dS signs, .ref 3, .ref 1, .ref 4, .ref 2])),(3,some (.arr 3 .int ((psP ps (k,decide (v=1))).map Z3))),(1,some (.arr 145 (.pr .str .int) ss)),(4,some (.arr 9 .str (cdP c ps cs (k,decide (v=1))))),(2,some (.arr 179 (.pr .int (.pr .int (.pr .bool .int))) as_))]):=by
 have hml:(ps.map Z3).length=ps.length:=List.length_map ..
 refine QQ Tryz.func261 rfl rfl Tryz.ntmps261 fun O_ hO w0_ N0_ X_ h0_ f0_=> ?_
 refine AC.fact (Qs (x:= .tmp 1) (Qa rfl)) fun hi1=>AC.fact (Qs (x:= .tmp 2) (Qa rfl)) fun hi2=> ?_
 iterate 13 refine w_ ?_
 refine Qy (fun m_ s_=>∃(i:Nat),i≤ps.length∧m_=ps.length - i∧(NoneTo (Qff k v) (ps.map Z3) i)∧s_=⟨[(0,lP 0 0),(1,lI k),(2,lI v),(12,lR 3),(13,lI ((ps.map Z3).length:Int)),(14,lI (i:Int))],[(0,some (.box 288 [.dat (.sl 145 (.pr .str .int)) c.1, .dat (.sl 9 .str) c.2.1, .dat (.sl 179 (.pr .int (.pr .int (.pr .bool .int)))) c.2.2,dS signs, .ref 3, .ref 1, .ref 4, .ref 2])),(1,some (.arr 145 (.pr .str .int) ss)),(2,some (.arr 179 (.pr .int (.pr .int (.pr .bool .int))) as_)),(3,some (.arr 3 .int (ps.map Z3))),(4,some (.arr 9 .str cs))]⟩) ⟨0,Nat.zero_le _,rfl,NoneTo.zero,rfl⟩ ?_ ?_
 · exact Wk.of [(0,0),(1,1),(2,2),(3,3),(4,4)] rfl ⟨rfl,rfl,rfl,rfl,rfl,rfl,trivial⟩ ⟨rfl,rfl,rfl,rfl,rfl,trivial⟩ rfl rfl
 rintro m_ s_ ⟨i,hk3,hm4,hN,rfl⟩
 iterate 4 refine w_ ?_
 cases hb5:(decide ((i:Int) < ((ps.map Z3).length:Int)))
 ·have hb5':=of_decide_eq_false hb5
  refine w_ ?_
  refine QA ?_
  refine (?_:AC _ _ _ _ _)
  iterate 7 refine w_ ?_
  refine lc (VF (QE rfl) (Qa rfl) rfl (by first | omega | (simp only[List.length_append,List.length_map,List.length_cons,List.length_nil]; omega))) ?_
  refine w_ ?_
  refine lc (Uw (Qa rfl) (Qa rfl) rfl (by first | omega | (simp only[List.length_append,List.length_map,List.length_cons,List.length_nil]; omega)))<|lc (Qk 5 (e:= .int) QO QD Xl rfl ⟨_,_,rfl,(Qb rfl),rfl⟩ (List.all_eq_true.1 rfl) ⟨_,_,_,_,rfl,⟨rfl,rfl⟩,⟨rfl,rfl⟩,rfl⟩ (by decide) rfl rfl (Fresh.of rfl) (nlr rfl))<|lc (Q0 6 (Qa rfl) rfl (Qa rfl) rfl rfl QO WX (by first | omega | (simp only[List.length_append,List.length_map,List.length_take,List.length_cons,List.length_nil]; omega) | (simp only[List.length_append,List.length_drop,List.length_take,List.length_cons,List.length_nil]; omega)) rfl (Fresh.of rfl) (nlr rfl)) ?_
  iterate 2 refine w_ ?_
  refine lc (Qf (Qa rfl) rfl (Qb rfl) rfl ZB rfl) ?_
  refine w_ ?_
  obtain ⟨x6,hx7⟩:∃z,c.2.1[(k).toNat]? =some z:=⟨_,List.getElem?_eq_getElem (by omega)⟩
  have hczx6:=hc _ (List.mem_of_getElem? hx7)
  refine dw [io 40 (lP 0 0),io 41 (lP 0 0),io 42 (lP 0 0),io 43 (lP 0 5),io 44 (lP 0 6),io 45 (lR 4),io 46 (lP 0 0),io 47 (lP 0 0),io 48 (lP 0 0),io 49 (lP 0 1),io 50 (lf (.dat (.sl 9 .str) c.2.1)),io 51 (lI k),io 52 (lf (.elt .str x6 0)),io 53 (lf (dS x6)),io 54 (lI v),io 55 (lf (dS (⟨#[UInt8.ofNat (48+v).toNat]⟩:ByteArray))),io 56 (lf (dS (x6++(⟨#[UInt8.ofNat (48+v).toNat]⟩:ByteArray)))),⟨some 57,lR 7,[(7,some (.arr 9 .str ([x6++(⟨#[UInt8.ofNat (48+v).toNat]⟩:ByteArray)])))]⟩,⟨some 58,lR 8,[(8,some (.arr 9 .str (cs++([x6++(⟨#[UInt8.ofNat (48+v).toNat]⟩:ByteArray)])))),(4,none),(7,none)]⟩,io 59 (lP 0 0),io 60 (lP 0 5),io 61 (lP 0 6),⟨none,lf (.val undef),[(0,some (.box 288 [.dat (.sl 145 (.pr .str .int)) c.1, .dat (.sl 9 .str) c.2.1, .dat (.sl 179 (.pr .int (.pr .int (.pr .bool .int)))) c.2.2,dS signs, .ref 6, .ref 1, .ref 8, .ref 2]))]⟩] [0,0,2,6,14,30,0,64,192,448,960,0,4032,8128,0,16384,65472,131008,262142,524287,1048575,2097151,4194303] mixed rfl (by kernel_rfl) ⟨dxm rfl rfl,dxm rfl rfl,dxn rfl rfl rfl,dxf Xi rfl rfl rfl,dxf Z9 rfl rfl rfl,dxl Xc rfl rfl rfl rfl rfl,dxm rfl rfl,dxn rfl rfl rfl,dxf Qkh rfl rfl rfl,dxf Z9 rfl rfl rfl,dxl Xc rfl rfl rfl rfl rfl,dxm rfl rfl,fun _ h_=>ac (Qm (h_.v rfl) (h_.v rfl) ZL Zx rfl (by omega) hx7) rfl,fun _ h_=>ac (Zv (h_.v rfl) Zx rfl rfl) rfl,dxm rfl rfl,fun _ h_=>ac (Qh (Ju v (by omega)) Qcr ⟨_,_,rfl,(h_.w rfl),rfl⟩ rfl rfl) rfl,fun _ h_=>ac (X9 (h_.v rfl) (h_.v rfl) rfl (by first | omega | (simp only[QaF]; omega))) rfl,fun _ h_=>ac (Qk 7 (e:= .str) ZL Zx Qcu rfl ⟨_,_,rfl,(h_.w rfl),rfl⟩ (List.all_eq_true.1 rfl) ⟨_,_,_,_,rfl,⟨rfl,rfl⟩,⟨rfl,rfl⟩,rfl⟩ (by decide) rfl rfl (h_.fr 7 rfl) (nlr rfl)) rfl,fun _ h_=>ac (Q0 8 (h_.v rfl) (h_.en 4 rfl) (h_.v rfl) (h_.en 7 rfl) rfl ZL QjD (by first | omega | (simp only[List.length_append,List.length_map,List.length_take,List.length_cons,List.length_nil]; omega) | (simp only[List.length_append,List.length_drop,List.length_take,List.length_cons,List.length_nil]; omega)) rfl (h_.fr 8 rfl) (nlr rfl)) rfl,dxn rfl rfl rfl,dxf Xi rfl rfl rfl,dxf Z9 rfl rfl rfl,fun _ h_=>ac (Qf (h_.v rfl) (h_.en 0 rfl) (h_.w rfl) (by simp only[Yf,Up,List.all_cons,List.all_nil]; rw[(h_.en 8 rfl)]; rfl) Xc rfl) rfl,⟨⟩⟩ ?_
  iterate 6 refine w_ ?_
  refine lc (Qg2 (Qa rfl) (QE rfl) rfl (by first | omega | (simp only[List.length_append,List.length_map,List.length_cons,List.length_nil]; omega))) ?_
  iterate 2 refine w_ ?_
  refine Qe ?_
  subst hO
  have e8:((((ps.map Z3)++([(2*k)+v])).length:Int) - 1:Int)=(ixP ps (k,decide (v=1))):=by
   exact QpO hv hN (by omega)
  exact Q2 _ _ [(0,0),(1,1),(2,2),(3,6),(4,8)] (Qd rfl (Qc rfl)) ((congrArg (fun z_=>lI z_) e8)) ⟨rfl,(Qv (by exact QpY hv hN (by omega))),rfl,(Qv (by exact Qqm hv hN (by omega) (by assumption))),rfl,trivial⟩ rfl rfl
 ·have hb5':=of_decide_eq_true hb5
  iterate 6 refine w_ ?_
  refine lc (Qq (e:= .int) (Qa rfl) rfl (Qa rfl) QO QD rfl (by omega) (by first | omega | (simp only[List.length_set]; omega))) ?_
  obtain ⟨x9,hx10⟩:∃z,(ps.map Z3)[i]? =some z:=⟨_,List.getElem?_eq_getElem (by omega)⟩
  refine lc (Q7 (e:= .int) (Qa rfl) rfl hx10 rfl QD rfl rfl)<|AL.fact (Qs (x:= .tmp 18) (Qa rfl)) fun hi11=> ?_
  iterate 6 refine w_ ?_
  refine lc (VF (QE rfl) (Qa rfl) rfl (by first | omega | (simp only[List.length_append,List.length_map,List.length_cons,List.length_nil]; omega))) ?_
  refine w_ ?_
  refine lc (Uw (Qa rfl) (Qa rfl) rfl (by first | omega | (simp only[List.length_append,List.length_map,List.length_cons,List.length_nil]; omega))) ?_
  iterate 2 refine w_ ?_
  cases hb12:(decide (x9=((2*k)+v)))
  ·have hb12':=of_decide_eq_false hb12
   refine w_ ?_
   refine AC.skip ?_
   refine (?_:AC _ _ _ _ _)
   refine w_ ?_
   refine lc (Uw (Qa rfl) (QE rfl) rfl (by first | omega | (simp only[List.length_append,List.length_map,List.length_cons,List.length_nil]; omega))) ?_
   refine w_ ?_
   refine Qj<|QS ⟨i+1,by omega,rfl,hN.step hx10 (by assumption),rfl⟩ (by omega) ?_
   exact Wk.of [(0,0),(1,1),(2,2),(3,3),(4,4)] rfl ⟨rfl,rfl,rfl,rfl,rfl,rfl,trivial⟩ ⟨rfl,rfl,rfl,rfl,rfl,trivial⟩ rfl rfl
  ·have hb12':=of_decide_eq_true hb12
   iterate 5 refine w_ ?_
   refine Qe ?_
   subst hO
   have e13:((i:Int):Int)=(ixP ps (k,decide (v=1))):=by
    exact QpW hv hN hx10 (by assumption)
   exact Q2 _ _ [(0,0),(1,1),(2,2),(3,3),(4,4)] (Qd rfl (Qc rfl)) ((congrArg (fun z_=>lI z_) e13)) ⟨rfl,(Qv (by exact Qp1 hv hN hx10 (by assumption))),rfl,(Qv (by exact QpZ hv hN hx10 (by assumption))),rfl,trivial⟩ rfl rfl
theorem Um (c:DSg)(signs:ByteArray)(ps:List PSt)(ss:List Q4)(cs:List ByteArray)(as_:List DAr)(k:Int)(v:Int)(hk:0≤k∧k < (signs.size:Int)):FC Tryz.prog 291 [(false,[.ptr 0 0]),(false,[dI k]),(false,[dI v])] [(0,some (.box 288 [.dat (.sl 145 (.pr .str .int)) c.1, .dat (.sl 9 .str) c.2.1, .dat (.sl 179 (.pr .int (.pr .int (.pr .bool .int)))) c.2.2,dS signs, .ref 1, .ref 2, .ref 3, .ref 4])),(1,some (.arr 3 .int (ps.map Z3))),(2,some (.arr 145 (.pr .str .int) ss)),(3,some (.arr 9 .str cs)),(4,some (.arr 179 (.pr .int (.pr .int (.pr .bool .int))) as_))] 5 (Is (lB (Qap (bAt signs k) v)) [(0,some (.box 288 [.dat (.sl 145 (.pr .str .int)) c.1, .dat (.sl 9 .str) c.2.1, .dat (.sl 179 (.pr .int (.pr .int (.pr .bool .int)))) c.2.2,dS signs, .ref 1, .ref 2, .ref 3, .ref 4])),(1,some (.arr 3 .int (ps.map Z3))),(2,some (.arr 145 (.pr .str .int) ss)),(3,some (.arr 9 .str cs)),(4,some (.arr 179 (.pr .int (.pr .int (.pr .bool .int))) as_))]):=by
 refine QQ Tryz.func291 rfl rfl Tryz.ntmps291 fun O_ hO w0_ N0_ X_ h0_ f0_=> ?_
 refine AC.fact (Qs (x:= .tmp 1) (Qa rfl)) fun hi1=>AC.fact (Qs (x:= .tmp 2) (Qa rfl)) fun hi2=> ?_
 iterate 10 refine w_ ?_
 obtain ⟨c3,hc4⟩:∃z,signs[(k).toNat]? =some z:=⟨_,getElem?_pos _ _ (by omega)⟩
 refine lc (QH (Qa rfl) (Qa rfl) rfl Zd (by omega) hc4) ?_
 iterate 3 refine w_ ?_
 refine lc (QG (Qa rfl) (QW 48 rfl) rfl) ?_
 iterate 2 refine w_ ?_
 cases hb5:(decide (c3=48))
 ·have hb5':=of_decide_eq_false hb5
  iterate 2 refine w_ ?_
  refine lc (QG (Qa rfl) (QW 49 rfl) rfl) ?_
  iterate 2 refine w_ ?_
  cases hb6:(decide (c3=49))
  ·have hb6':=of_decide_eq_false hb6
   refine w_ ?_
   refine AC.skip ?_
   refine (?_:AC _ _ _ _ _)
   iterate 3 refine w_ ?_
   refine Qe ?_
   subst hO
   have e7:(true:Bool)=(Qap (bAt signs k) v):=by
    first | (unfold Qap; rw[QL (by assumption)]; simp[*]; done)
   exact Q2 _ _ [(0,0),(1,1),(2,2),(3,3),(4,4)] (Qd rfl (Qc rfl)) ((congrArg (fun z_=>lB z_) e7)) ⟨rfl,rfl,rfl,rfl,rfl,trivial⟩ rfl rfl
  ·have hb6':=of_decide_eq_true hb6
   iterate 6 refine w_ ?_
   refine Qe ?_
   subst hO
   have e8:(decide (v=1):Bool)=(Qap (bAt signs k) v):=by
    first | (unfold Qap; rw[QL (by assumption)]; simp[*]; done)
   exact Q2 _ _ [(0,0),(1,1),(2,2),(3,3),(4,4)] (Qd rfl (Qc rfl)) ((congrArg (fun z_=>lB z_) e8)) ⟨rfl,rfl,rfl,rfl,rfl,trivial⟩ rfl rfl
 ·have hb5':=of_decide_eq_true hb5
  iterate 6 refine w_ ?_
  refine Qe ?_
  subst hO
  have e9:(decide (v=0):Bool)=(Qap (bAt signs k) v):=by
   first | (unfold Qap; rw[QL (by assumption)]; simp[*]; done)
  exact Q2 _ _ [(0,0),(1,1),(2,2),(3,3),(4,4)] (Qd rfl (Qc rfl)) ((congrArg (fun z_=>lB z_) e9)) ⟨rfl,rfl,rfl,rfl,rfl,trivial⟩ rfl rfl
theorem H1 (c:DSg)(signs:ByteArray)(ps:List PSt)(ss:List Q4)(cs:List ByteArray)(as_:List DAr)(q:Int)(hk:0≤q∧q < (ps.length:Int))(hs:SignsOk c signs)(hps:∀p∈ps,0≤p.1∧p.1 < (c.2.1.length:Int))(hl:ps.length≤10000∧cs.length≤10000∧as_.length≤90000000):FC Tryz.prog 262 [(false,[.ptr 0 0]),(false,[dI q])] [(0,some (.box 288 [.dat (.sl 145 (.pr .str .int)) c.1, .dat (.sl 9 .str) c.2.1, .dat (.sl 179 (.pr .int (.pr .int (.pr .bool .int)))) c.2.2,dS signs, .ref 2, .ref 1, .ref 3, .ref 4])),(2,some (.arr 3 .int (ps.map Z3))),(1,some (.arr 145 (.pr .str .int) ss)),(3,some (.arr 9 .str cs)),(4,some (.arr 179 (.pr .int (.pr .int (.pr .bool .int))) as_))] 2 (Is (PV.tup []) [(0,some (.box 288 [.dat (.sl 145 (.pr .str .int)) c.1, .dat (.sl 9 .str) c.2.1, .dat (.sl 179 (.pr .int (.pr .int (.pr .bool .int)))) c.2.2,dS signs, .ref 2, .ref 1, .ref 3, .ref 4])),(2,some (.arr 3 .int (((Vi c signs (ps,cs,as_) q).1).map Z3))),(1,some (.arr 145 (.pr .str .int) ss)),(3,some (.arr 9 .str ((Vi c signs (ps,cs,as_) q).2.1))),(4,some (.arr 179 (.pr .int (.pr .int (.pr .bool .int))) ((Vi c signs (ps,cs,as_) q).2.2)))]):=by
 have hsz:=hs.2.1
 have hn3:=hs.2.2.some_
 have hfw:=hs.2.2.few
 have hsl:=Hh hs.2.2.sigs
 have hc:∀x∈c.2.1,x.size≤1000:=fun x hx=>by have:=(hs.2.2.codes x hx).2; omega
 have hml:(ps.map Z3).length=ps.length:=List.length_map ..
 refine QQ Tryz.func262 rfl rfl Tryz.ntmps262 fun O_ hO w0_ N0_ X_ h0_ f0_=> ?_
 refine AC.fact (Qs (x:= .tmp 1) (Qa rfl)) fun hi1=> ?_
 obtain ⟨z,hx3⟩:∃z,(ps.map Z3)[(q).toNat]? =some z:=⟨_,List.getElem?_eq_getElem (by omega)⟩
 have hz0z:0≤z:=by obtain ⟨p_,h1_,h2_⟩:=Qdd hx3; have:=hps _ (List.mem_of_getElem? h1_); have:=U6 p_.2; rw[h2_]; unfold Z3; omega
 refine dw [io 10 (lP 0 0),io 11 (lP 0 0),io 12 (lP 0 4),io 13 (lR 2),io 14 (lI q),io 15 (lf (.ept 2 1 ((q).toNat) 0)),io 16 (lI z),io 17 (lI (z / 2)),io 18 (lP 0 0),io 19 (lP 0 0),io 20 (lP 0 4),io 21 (lR 2),io 22 (lI q),io 23 (lf (.ept 2 1 ((q).toNat) 0)),io 24 (lI z),io 25 (lI (z % 2)),io 4 (lI (z / 2)),io 5 (lI (z % 2))] [0,1,3,7,0,31,63,127,0,256,768,1792,0,7936,16128,32512,255,131071] mixed rfl (by kernel_rfl) ⟨dxm rfl rfl,dxn rfl rfl rfl,dxf Qez rfl rfl rfl,dxl ZB rfl rfl rfl rfl rfl,dxm rfl rfl,fun _ h_=>ac (Qq (e:= .int) (h_.v rfl) (h_.en 2 rfl) (h_.v rfl) QO QD rfl (by omega) (by first | omega | (simp only[List.length_set]; omega))) rfl,fun _ h_=>ac (Q7 (e:= .int) (h_.v rfl) (h_.n 2 rfl) hx3 rfl QD rfl rfl) rfl,fun _ h_=>ac (QbZ (h_.v rfl) (QE rfl) rfl (by omega) (by omega)) rfl,dxm rfl rfl,dxn rfl rfl rfl,dxf Qez rfl rfl rfl,dxl ZB rfl rfl rfl rfl rfl,dxm rfl rfl,fun _ h_=>ac (Qq (e:= .int) (h_.v rfl) (h_.en 2 rfl) (h_.v rfl) QO QD rfl (by omega) (by first | omega | (simp only[List.length_set]; omega))) rfl,fun _ h_=>ac (Q7 (e:= .int) (h_.v rfl) (h_.n 2 rfl) hx3 rfl QD rfl rfl) rfl,fun _ h_=>ac (WV (h_.v rfl) (QE rfl) rfl (by omega) (by omega)) rfl,dxt rfl rfl,dxt rfl rfl,⟨⟩⟩<|Wz ?_
 obtain ⟨p,hxp,hzp⟩:=Qdd hx3
 have hz1:z / 2=p.1:=by rw[hzp]; exact QfS
 have hz2:z % 2=vB p.2:=by rw[hzp]; exact Qmm
 rw[hz1,hz2]
 have hpr:=hps _ (List.mem_of_getElem? hxp)
 have hfl:=Ht (l:=c.2.2) (q:=p.1)
 have hvr:=U6 p.2
 iterate 6 refine w_ ?_
 refine AL.fact (QB (x:= .tmp 30) (Qa rfl)) fun hl4=> ?_
 iterate 3 refine w_ ?_
 refine QcA (fun s_=>∃(cs2:List ByteArray) (as2:List (Int×Int×Bool×Int)) (ps2:List PSt),((ps2,cs2,as2)=Qbm c signs (ps,cs,as_) q p)∧(ps2.length≤ps.length+1∧cs2.length≤cs.length+1∧as2.length≤as_.length+1)∧s_=⟨[(0,lP 0 0),(1,lI q),(4,lI p.1),(5,lI (vB p.2))],[(0,some (.box 288 [.dat (.sl 145 (.pr .str .int)) c.1, .dat (.sl 9 .str) c.2.1, .dat (.sl 179 (.pr .int (.pr .int (.pr .bool .int)))) c.2.2,dS signs, .ref 5, .ref 1, .ref 6, .ref 7])),(1,some (.arr 145 (.pr .str .int) ss)),(5,some (.arr 3 .int (ps2.map Z3))),(6,some (.arr 9 .str cs2)),(7,some (.arr 179 (.pr .int (.pr .int (.pr .bool .int))) as2))]⟩) ?_ fun J5=> ?_
 ·rintro s_ ⟨cs2,as2,ps2,hP,hl2,rfl⟩
  iterate 6 refine w_ ?_
  refine lc (Qh (Qcn c p.1 (by omega)).frozen QiU ⟨_,_,rfl,(Qb rfl),⟨_,_,rfl,(Qb rfl),rfl⟩⟩ rfl rfl)<|AL.fact (QB (x:= .tmp 93) (Qa rfl)) fun hl6=> ?_
  iterate 4 refine w_ ?_
  refine Qy (fun m_ s_=>∃(i:Nat) (cs3:List ByteArray) (as3:List (Int×Int×Bool×Int)) (ps3:List PSt),i≤(Yl c.2.2 p.1).length∧m_=(Yl c.2.2 p.1).length - i∧(Vi c signs (ps,cs,as_) q=((Yl c.2.2 p.1).drop i).foldl (Ku c signs q p) (ps3,cs3,as3))∧(ps3.length≤ps.length+1+i∧cs3.length≤cs.length+1+i∧as3.length≤as_.length+1+i)∧s_=⟨[(0,lP 0 0),(1,lI q),(4,lI p.1),(5,lI (vB p.2)),(93,lf (.dat (.sl 179 (.pr .int (.pr .int (.pr .bool .int)))) (Yl c.2.2 p.1))),(94,lI ((Yl c.2.2 p.1).length:Int)),(95,lI (i:Int))],[(0,some (.box 288 [.dat (.sl 145 (.pr .str .int)) c.1, .dat (.sl 9 .str) c.2.1, .dat (.sl 179 (.pr .int (.pr .int (.pr .bool .int)))) c.2.2,dS signs, .ref 8, .ref 1, .ref 9, .ref 10])),(1,some (.arr 145 (.pr .str .int) ss)),(8,some (.arr 3 .int (ps3.map Z3))),(9,some (.arr 9 .str cs3)),(10,some (.arr 179 (.pr .int (.pr .int (.pr .bool .int))) as3))]⟩) ⟨0,cs2,as2,ps2,Nat.zero_le _,rfl,(by rw[hP]; exact QjC hxp),(by omega),rfl⟩ ?_ ?_
  · exact Wk.of [(0,0),(1,1),(8,5),(9,6),(10,7)] rfl ⟨rfl,rfl,rfl,rfl,rfl,rfl,rfl,trivial⟩ ⟨rfl,rfl,rfl,rfl,rfl,trivial⟩ rfl rfl
  rintro m_ s_ ⟨i,cs3,as3,ps3,hk7,hm8,hA,hl3,rfl⟩
  iterate 4 refine w_ ?_
  cases hb9:(decide ((i:Int) < ((Yl c.2.2 p.1).length:Int)))
  ·have hb9':=of_decide_eq_false hb9
   refine w_ ?_
   refine QA ?_
   refine (?_:fin _ _ _ _ .normal _)
   subst hO
   exact Q2 _ _ [(0,0),(1,1),(2,8),(3,9),(4,10)] (Qcb rfl) (rfl) ⟨rfl,(Qv (by (rw[hA,Vy (by omega)]; done))),rfl,(Qv (by (rw[hA,Vy (by omega)]; done))),(Qv (by (rw[hA,Vy (by omega)]; done))),trivial⟩ rfl rfl
  ·have hb9':=of_decide_eq_true hb9
   iterate 5 refine w_ ?_
   obtain ⟨x10,hx11⟩:∃z,(Yl c.2.2 p.1)[i]? =some z:=⟨_,List.getElem?_eq_getElem (by omega)⟩
   have hmx10:=QcM.1 (List.mem_of_getElem? hx11)
   have hrx10:=hs.at_ hmx10.1
   refine lc (Qm (Qa rfl) (Qa rfl) Q9 QJ rfl (by omega) hx11) ?_
   refine w_ ?_
   refine lc (Qw 11 (.pr .int (.pr .int (.pr .bool .int))) Zq rfl rfl (Fresh.of rfl) (nlr rfl))<|lc (Qf (Qa rfl) rfl (Qb rfl) rfl QJ rfl) ?_
   refine w_ ?_
   cases hb12:(Zs signs x10)
   ·refine dw [io 99 (lP 0 0),io 100 (lP 0 0),io 101 (lP 0 3),io 102 (lf (dS signs)),io 103 (ag [dI x10.1,dI x10.2.1,dB x10.2.2.1,dI x10.2.2.2]),io 104 (lB false),io 105 (lB false),io 106 (lf (.val undef)),io 107 (lf (.val undef)),io 108 (lf (.val undef)),io 109 (lf (.val undef)),io 110 (lf (.val undef)),io 111 (lf (.val undef)),io 112 (lf (.val undef)),io 113 (lf (.val undef)),io 114 (lf (.val undef)),io 115 (lf (.val undef)),io 116 (lB false),io 9 (lB false)] [0,1,3,7,0,31,63,127,255,511,1023,127,4095,8191,127,16511,65535,131071,262143] mixed rfl (by kernel_rfl) ⟨dxm rfl rfl,dxn rfl rfl rfl,dxf QaK rfl rfl rfl,dxl Zx rfl rfl rfl rfl rfl,dxa QJ rfl rfl rfl rfl,fun _ h_=>ac (QZ (hb12) (Qh (Wy signs x10 (by omega) (by omega)) J0 ⟨_,_,rfl,(h_.w rfl),⟨_,_,rfl,(h_.w rfl),rfl⟩⟩ rfl rfl)) rfl,dxm rfl rfl,dxo rfl rfl rfl,dxo rfl rfl rfl,dxo rfl rfl rfl,dxo rfl rfl rfl,dxo rfl rfl rfl,dxo rfl rfl rfl,dxo rfl rfl rfl,dxo rfl rfl rfl,dxo rfl rfl rfl,dxo rfl rfl rfl,fun _ h_=>ac (QM (h_.v rfl) (Evl.ev QU) rfl) rfl,dxt rfl rfl,⟨⟩⟩ ?_
    iterate 4 refine w_ ?_
    refine AL.fact (Qs (x:= .tmp 119) (Qa rfl)) fun hi13=> ?_
    refine w_ ?_
    refine lc (QP 12 [(0,0),(1,8),(2,1),(3,9),(4,10)] (Um c signs ps3 ss cs3 as3 x10.2.2.2 (vB p.2) (by omega)) QcY ⟨_,_,rfl,(Qb rfl),⟨_,_,rfl,(Qb rfl),⟨_,_,rfl,(Qb rfl),rfl⟩⟩⟩ ⟨rfl,rfl,rfl,rfl,rfl,trivial⟩ rfl ⟨trivial,trivial,trivial,trivial,trivial,trivial,trivial,trivial,trivial,trivial⟩ (nlr rfl)) ?_
    refine w_ ?_
    cases hb14:(Qap (bAt signs x10.2.2.2) (vB p.2))
    ·iterate 5 refine w_ ?_
     refine AC.skip ?_
     refine (?_:AC _ _ _ _ _)
     iterate 3 refine w_ ?_
     refine Qj<|QS ⟨i+1,cs3,as3,ps3,by omega,rfl,(by (rw[hA,Yd hx11,X8 (Qgj (by assumption))]; done)),(by omega),rfl⟩ (by omega) ?_
     exact Wk.of [(0,0),(1,1),(8,8),(9,9),(10,10)] rfl ⟨rfl,rfl,rfl,rfl,rfl,rfl,rfl,trivial⟩ ⟨rfl,rfl,rfl,rfl,rfl,trivial⟩ rfl rfl
    ·iterate 5 refine w_ ?_
     refine dv [io 126 (lP 0 0),io 127 (lP 0 0),io 128 (lP 0 0),io 129 (lP 0 5),io 130 (lP 0 7),io 131 (lR 10),io 132 (lI q),io 133 (lP 11 1),io 134 (lI x10.2.1),io 135 (lP 11 2),io 136 (lB x10.2.2.1),io 137 (lP 0 0),io 138 (lP 11 3),io 139 (lI x10.2.2.2),io 140 (lI (vB p.2)),⟨some 141,lI (ixP ps3 (x10.2.2.2,decide ((vB p.2)=1))),[(0,some (.box 288 [.dat (.sl 145 (.pr .str .int)) c.1, .dat (.sl 9 .str) c.2.1, .dat (.sl 179 (.pr .int (.pr .int (.pr .bool .int)))) c.2.2,dS signs, .ref 20, .ref 1, .ref 21, .ref 10])),(20,some (.arr 3 .int ((psP ps3 (x10.2.2.2,decide ((vB p.2)=1))).map Z3))),(1,some (.arr 145 (.pr .str .int) ss)),(21,some (.arr 9 .str (cdP c ps3 cs3 (x10.2.2.2,decide ((vB p.2)=1))))),(10,some (.arr 179 (.pr .int (.pr .int (.pr .bool .int))) as3)),(0,none),(8,none),(1,none),(9,none),(10,none)]⟩,io 142 (ag [dI q,dI x10.2.1,dB x10.2.2.1,dI (ixP ps3 (x10.2.2.2,decide ((vB p.2)=1)))]),⟨some 143,lR 22,[(22,some (.arr 179 (.pr .int (.pr .int (.pr .bool .int))) ([(q,x10.2.1,x10.2.2.1,ixP ps3 (x10.2.2.2,decide ((vB p.2)=1)))])))]⟩,⟨some 144,lR 23,[(23,some (.arr 179 (.pr .int (.pr .int (.pr .bool .int))) (as3++([(q,x10.2.1,x10.2.2.1,ixP ps3 (x10.2.2.2,decide ((vB p.2)=1)))])))),(10,none),(22,none)]⟩,io 145 (lP 0 0),io 146 (lP 0 5),io 147 (lP 0 7),⟨none,lf (.val undef),[(0,some (.box 288 [.dat (.sl 145 (.pr .str .int)) c.1, .dat (.sl 9 .str) c.2.1, .dat (.sl 179 (.pr .int (.pr .int (.pr .bool .int)))) c.2.2,dS signs, .ref 20, .ref 1, .ref 21, .ref 23]))]⟩] [0,0,2,6,14,30,0,0,128,0,512,0,0,4096,0,30720,65472,131008,262142,524287,1048575,2097151,4194303] mixed rfl (by kernel_rfl) ⟨dxm rfl rfl,dxm rfl rfl,fun _ h_=>by rcases h_.en2 0 15 rfl with hq0 | hq0 <;> exact ac (YU (h_.v rfl) (by rw[hq0]; rfl) rfl) rfl,fun _ h_=>by rcases h_.en2 0 15 rfl with hq0 | hq0 <;> exact ac (Qz (h_.v rfl) Xi (by rw[hq0]; rfl) rfl) rfl,fun _ h_=>by rcases h_.en2 0 15 rfl with hq0 | hq0 <;> exact ac (Qz (h_.v rfl) YZ (by rw[hq0]; rfl) rfl) rfl,fun _ h_=>by rcases h_.en2 0 15 rfl with hq0 | hq0 <;> exact ac (QI (h_.v rfl) hq0 WD rfl rfl) rfl,dxm rfl rfl,dxf ZN rfl rfl rfl,dxl QD rfl rfl rfl rfl rfl,dxf YY rfl rfl rfl,dxl ZH rfl rfl rfl rfl rfl,dxm rfl rfl,dxf Zg rfl rfl rfl,dxl QD rfl rfl rfl rfl rfl,dxm rfl rfl,fun _ h_=>ac (QP 17 [(0,0),(1,1),(2,10),(3,8),(4,9)] (ZY c signs ps3 ss cs3 as3 x10.2.2.2 (vB p.2) (by omega) (by omega) hc (by omega) (by omega)) X4 ⟨_,_,rfl,(h_.w rfl),⟨_,_,rfl,(h_.w rfl),⟨_,_,rfl,(h_.w rfl),rfl⟩⟩⟩ ⟨(h_.en 0 rfl),(h_.en 8 rfl),(h_.en 1 rfl),(h_.en 9 rfl),(h_.en 10 rfl),trivial⟩ rfl ⟨trivial,(h_.fr 20 rfl),trivial,(h_.fr 21 rfl),trivial,(h_.fr 20 rfl),trivial,(h_.fr 21 rfl),trivial,trivial⟩ (nlr rfl)) rfl,fun _ h_=>ac (QC Hv ⟨_,_,rfl,(h_.w rfl),⟨_,_,rfl,(h_.w rfl),⟨_,_,rfl,(h_.w rfl),⟨_,_,rfl,(h_.w rfl),rfl⟩⟩⟩⟩ (List.all_eq_true.1 rfl) rfl rfl) rfl,fun _ h_=>ac (Qk 22 (e:=(.pr .int (.pr .int (.pr .bool .int)))) Q9 QJ Zq rfl ⟨_,_,rfl,(h_.w rfl),rfl⟩ (List.all_eq_true.1 rfl) ⟨_,_,_,_,rfl,⟨[dI q],[dI x10.2.1,dB x10.2.2.1,dI (ixP ps3 (x10.2.2.2,decide ((vB p.2)=1)))],_,_,_,_,rfl,rfl,⟨rfl,rfl⟩,⟨[dI x10.2.1],[dB x10.2.2.1,dI (ixP ps3 (x10.2.2.2,decide ((vB p.2)=1)))],_,_,_,_,rfl,rfl,⟨rfl,rfl⟩,⟨[dB x10.2.2.1],[dI (ixP ps3 (x10.2.2.2,decide ((vB p.2)=1)))],_,_,_,_,rfl,rfl,⟨rfl,rfl⟩,⟨rfl,rfl⟩,rfl⟩,rfl⟩,rfl⟩,⟨rfl,rfl⟩,rfl⟩ (by decide) rfl rfl (h_.fr 22 rfl) (nlr rfl)) rfl,fun _ h_=>ac (Q0 23 (h_.v rfl) (h_.en 10 rfl) (h_.v rfl) (h_.en 22 rfl) rfl Q9 Vh (by first | omega | (simp only[List.length_append,List.length_map,List.length_take,List.length_cons,List.length_nil]; omega) | (simp only[List.length_append,List.length_drop,List.length_take,List.length_cons,List.length_nil]; omega)) rfl (h_.fr 23 rfl) (nlr rfl)) rfl,dxn rfl rfl rfl,dxf Xi rfl rfl rfl,dxf YZ rfl rfl rfl,fun _ h_=>ac (Qf (h_.v rfl) (h_.en 0 rfl) (h_.w rfl) (by simp only[Yf,Up,List.all_cons,List.all_nil]; rw[(h_.en 23 rfl)]; rfl) WD rfl) rfl,⟨⟩⟩ ?_
     refine (?_:AC _ _ _ _ _)
     iterate 3 refine w_ ?_
     refine Qj<|QS ⟨i+1,(cdP c ps3 cs3 (x10.2.2.2,decide ((vB p.2)=1))),(as3++([(q,x10.2.1,x10.2.2.1,ixP ps3 (x10.2.2.2,decide ((vB p.2)=1)))])),(psP ps3 (x10.2.2.2,decide ((vB p.2)=1))),by omega,rfl,(by (rw[hA,Yd hx11,W0 (QgK hmx10.2 (by assumption) (by first | exact .inl (by assumption) | exact .inr (by rw[QL (by assumption)]; assumption)))]; simp[UZ,QbY]; done)),(by (exact ⟨Nat.le_trans XW (by omega),Nat.le_trans XP (by omega),by rw[List.length_append]; simp; omega⟩)),rfl⟩ (by omega) ?_
     exact Wk.of [(0,0),(1,1),(8,20),(9,21),(10,23)] rfl ⟨rfl,rfl,rfl,rfl,rfl,rfl,rfl,trivial⟩ ⟨rfl,rfl,rfl,rfl,(Qv (by first | rfl | simp)),trivial⟩ rfl rfl
   ·obtain ⟨c15,hc16⟩:∃z,signs[(p.1).toNat]? =some z:=⟨_,getElem?_pos _ _ (by omega)⟩
    refine dw [io 99 (lP 0 0),io 100 (lP 0 0),io 101 (lP 0 3),io 102 (lf (dS signs)),io 103 (ag [dI x10.1,dI x10.2.1,dB x10.2.2.1,dI x10.2.2.2]),io 104 (lB true),io 105 (lB true),io 106 (lP 0 0),io 107 (lP 0 0),io 108 (lP 0 3),io 109 (lf (dS signs)),io 110 (lI p.1),io 111 (lf (.dat .u8 c15)),io 112 (lB (decide (c15=43))),io 113 (lI (vB p.2)),io 114 (lB (decide ((vB p.2)=0))),io 115 (lB ((decide (c15=43))==(decide ((vB p.2)=0)))),io 116 (lB ((decide (c15=43))==(decide ((vB p.2)=0)))),io 9 (lB ((decide (c15=43))==(decide ((vB p.2)=0))))] [0,1,3,7,0,31,63,127,255,511,1023,127,4095,8191,127,16511,65535,131071,262143] mixed rfl (by kernel_rfl) ⟨dxm rfl rfl,dxn rfl rfl rfl,dxf QaK rfl rfl rfl,dxl Zx rfl rfl rfl rfl rfl,dxa QJ rfl rfl rfl rfl,fun _ h_=>ac (QZ (hb12) (Qh (Wy signs x10 (by omega) (by omega)) J0 ⟨_,_,rfl,(h_.w rfl),⟨_,_,rfl,(h_.w rfl),rfl⟩⟩ rfl rfl)) rfl,dxm rfl rfl,fun _ h_=>day rfl (h_.k rfl) (QF (h_.k rfl) rfl) rfl,fun _ h_=>day rfl (h_.k rfl) (YU (h_.v rfl) (by rw[(h_.en 0 rfl)]; rfl) rfl) rfl,fun _ h_=>day rfl (h_.k rfl) (Qz (h_.v rfl) QaK (by rw[(h_.en 0 rfl)]; rfl) rfl) rfl,fun _ h_=>day rfl (h_.k rfl) (QI (h_.v rfl) (h_.n 0 rfl) Zx rfl rfl) rfl,fun _ h_=>day rfl (h_.k rfl) (QF (h_.k rfl) rfl) rfl,fun _ h_=>day rfl (h_.k rfl) (QH (h_.v rfl) (h_.v rfl) rfl Zd (by omega) hc16) rfl,fun _ h_=>day rfl (h_.k rfl) (QG (h_.v rfl) (QW 43 rfl) rfl) rfl,fun _ h_=>day rfl (h_.k rfl) (QF (h_.k rfl) rfl) rfl,fun _ h_=>day rfl (h_.k rfl) (Ws (h_.v rfl) (QE rfl) rfl) rfl,fun _ h_=>day rfl (h_.k rfl) (Jb (h_.v rfl) (h_.v rfl) rfl VV) rfl,fun _ h_=>ac (QV (h_.v rfl) (h_.w rfl) rfl) rfl,dxt rfl rfl,⟨⟩⟩ ?_
    iterate 4 refine w_ ?_
    refine AL.fact (Qs (x:= .tmp 119) (Qa rfl)) fun hi17=> ?_
    refine w_ ?_
    refine lc (QP 24 [(0,0),(1,8),(2,1),(3,9),(4,10)] (Um c signs ps3 ss cs3 as3 x10.2.2.2 (vB p.2) (by omega)) QcY ⟨_,_,rfl,(Qb rfl),⟨_,_,rfl,(Qb rfl),⟨_,_,rfl,(Qb rfl),rfl⟩⟩⟩ ⟨rfl,rfl,rfl,rfl,rfl,trivial⟩ rfl ⟨trivial,trivial,trivial,trivial,trivial,trivial,trivial,trivial,trivial,trivial⟩ (nlr rfl)) ?_
    refine w_ ?_
    cases hb18:(Qap (bAt signs x10.2.2.2) (vB p.2))
    ·iterate 5 refine w_ ?_
     refine AC.skip ?_
     refine (?_:AC _ _ _ _ _)
     iterate 3 refine w_ ?_
     refine Qj<|QS ⟨i+1,cs3,as3,ps3,by omega,rfl,(by (rw[hA,Yd hx11,X8 (Qgj (by assumption))]; done)),(by omega),rfl⟩ (by omega) ?_
     exact Wk.of [(0,0),(1,1),(8,8),(9,9),(10,10)] rfl ⟨rfl,rfl,rfl,rfl,rfl,rfl,rfl,trivial⟩ ⟨rfl,rfl,rfl,rfl,rfl,trivial⟩ rfl rfl
    ·iterate 4 refine w_ ?_
     cases hb19:((decide (c15=43))==(decide ((vB p.2)=0)))
     ·refine w_ ?_
      refine dv [io 126 (lP 0 0),io 127 (lP 0 0),io 128 (lP 0 0),io 129 (lP 0 5),io 130 (lP 0 7),io 131 (lR 10),io 132 (lI q),io 133 (lP 11 1),io 134 (lI x10.2.1),io 135 (lP 11 2),io 136 (lB x10.2.2.1),io 137 (lP 0 0),io 138 (lP 11 3),io 139 (lI x10.2.2.2),io 140 (lI (vB p.2)),⟨some 141,lI (ixP ps3 (x10.2.2.2,decide ((vB p.2)=1))),[(0,some (.box 288 [.dat (.sl 145 (.pr .str .int)) c.1, .dat (.sl 9 .str) c.2.1, .dat (.sl 179 (.pr .int (.pr .int (.pr .bool .int)))) c.2.2,dS signs, .ref 32, .ref 1, .ref 33, .ref 10])),(32,some (.arr 3 .int ((psP ps3 (x10.2.2.2,decide ((vB p.2)=1))).map Z3))),(1,some (.arr 145 (.pr .str .int) ss)),(33,some (.arr 9 .str (cdP c ps3 cs3 (x10.2.2.2,decide ((vB p.2)=1))))),(10,some (.arr 179 (.pr .int (.pr .int (.pr .bool .int))) as3)),(0,none),(8,none),(1,none),(9,none),(10,none)]⟩,io 142 (ag [dI q,dI x10.2.1,dB x10.2.2.1,dI (ixP ps3 (x10.2.2.2,decide ((vB p.2)=1)))]),⟨some 143,lR 34,[(34,some (.arr 179 (.pr .int (.pr .int (.pr .bool .int))) ([(q,x10.2.1,x10.2.2.1,ixP ps3 (x10.2.2.2,decide ((vB p.2)=1)))])))]⟩,⟨some 144,lR 35,[(35,some (.arr 179 (.pr .int (.pr .int (.pr .bool .int))) (as3++([(q,x10.2.1,x10.2.2.1,ixP ps3 (x10.2.2.2,decide ((vB p.2)=1)))])))),(10,none),(34,none)]⟩,io 145 (lP 0 0),io 146 (lP 0 5),io 147 (lP 0 7),⟨none,lf (.val undef),[(0,some (.box 288 [.dat (.sl 145 (.pr .str .int)) c.1, .dat (.sl 9 .str) c.2.1, .dat (.sl 179 (.pr .int (.pr .int (.pr .bool .int)))) c.2.2,dS signs, .ref 32, .ref 1, .ref 33, .ref 35]))]⟩] [0,0,2,6,14,30,0,0,128,0,512,0,0,4096,0,30720,65472,131008,262142,524287,1048575,2097151,4194303] mixed rfl (by kernel_rfl) ⟨dxm rfl rfl,dxm rfl rfl,fun _ h_=>by rcases h_.en2 0 15 rfl with hq0 | hq0 <;> exact ac (YU (h_.v rfl) (by rw[hq0]; rfl) rfl) rfl,fun _ h_=>by rcases h_.en2 0 15 rfl with hq0 | hq0 <;> exact ac (Qz (h_.v rfl) Xi (by rw[hq0]; rfl) rfl) rfl,fun _ h_=>by rcases h_.en2 0 15 rfl with hq0 | hq0 <;> exact ac (Qz (h_.v rfl) YZ (by rw[hq0]; rfl) rfl) rfl,fun _ h_=>by rcases h_.en2 0 15 rfl with hq0 | hq0 <;> exact ac (QI (h_.v rfl) hq0 WD rfl rfl) rfl,dxm rfl rfl,dxf ZN rfl rfl rfl,dxl QD rfl rfl rfl rfl rfl,dxf YY rfl rfl rfl,dxl ZH rfl rfl rfl rfl rfl,dxm rfl rfl,dxf Zg rfl rfl rfl,dxl QD rfl rfl rfl rfl rfl,dxm rfl rfl,fun _ h_=>ac (QP 29 [(0,0),(1,1),(2,10),(3,8),(4,9)] (ZY c signs ps3 ss cs3 as3 x10.2.2.2 (vB p.2) (by omega) (by omega) hc (by omega) (by omega)) X4 ⟨_,_,rfl,(h_.w rfl),⟨_,_,rfl,(h_.w rfl),⟨_,_,rfl,(h_.w rfl),rfl⟩⟩⟩ ⟨(h_.en 0 rfl),(h_.en 8 rfl),(h_.en 1 rfl),(h_.en 9 rfl),(h_.en 10 rfl),trivial⟩ rfl ⟨trivial,(h_.fr 32 rfl),trivial,(h_.fr 33 rfl),trivial,(h_.fr 32 rfl),trivial,(h_.fr 33 rfl),trivial,trivial⟩ (nlr rfl)) rfl,fun _ h_=>ac (QC Hv ⟨_,_,rfl,(h_.w rfl),⟨_,_,rfl,(h_.w rfl),⟨_,_,rfl,(h_.w rfl),⟨_,_,rfl,(h_.w rfl),rfl⟩⟩⟩⟩ (List.all_eq_true.1 rfl) rfl rfl) rfl,fun _ h_=>ac (Qk 34 (e:=(.pr .int (.pr .int (.pr .bool .int)))) Q9 QJ Zq rfl ⟨_,_,rfl,(h_.w rfl),rfl⟩ (List.all_eq_true.1 rfl) ⟨_,_,_,_,rfl,⟨[dI q],[dI x10.2.1,dB x10.2.2.1,dI (ixP ps3 (x10.2.2.2,decide ((vB p.2)=1)))],_,_,_,_,rfl,rfl,⟨rfl,rfl⟩,⟨[dI x10.2.1],[dB x10.2.2.1,dI (ixP ps3 (x10.2.2.2,decide ((vB p.2)=1)))],_,_,_,_,rfl,rfl,⟨rfl,rfl⟩,⟨[dB x10.2.2.1],[dI (ixP ps3 (x10.2.2.2,decide ((vB p.2)=1)))],_,_,_,_,rfl,rfl,⟨rfl,rfl⟩,⟨rfl,rfl⟩,rfl⟩,rfl⟩,rfl⟩,⟨rfl,rfl⟩,rfl⟩ (by decide) rfl rfl (h_.fr 34 rfl) (nlr rfl)) rfl,fun _ h_=>ac (Q0 35 (h_.v rfl) (h_.en 10 rfl) (h_.v rfl) (h_.en 34 rfl) rfl Q9 Vh (by first | omega | (simp only[List.length_append,List.length_map,List.length_take,List.length_cons,List.length_nil]; omega) | (simp only[List.length_append,List.length_drop,List.length_take,List.length_cons,List.length_nil]; omega)) rfl (h_.fr 35 rfl) (nlr rfl)) rfl,dxn rfl rfl rfl,dxf Xi rfl rfl rfl,dxf YZ rfl rfl rfl,fun _ h_=>ac (Qf (h_.v rfl) (h_.en 0 rfl) (h_.w rfl) (by simp only[Yf,Up,List.all_cons,List.all_nil]; rw[(h_.en 35 rfl)]; rfl) WD rfl) rfl,⟨⟩⟩ ?_
      refine (?_:AC _ _ _ _ _)
      iterate 3 refine w_ ?_
      refine Qj<|QS ⟨i+1,(cdP c ps3 cs3 (x10.2.2.2,decide ((vB p.2)=1))),(as3++([(q,x10.2.1,x10.2.2.1,ixP ps3 (x10.2.2.2,decide ((vB p.2)=1)))])),(psP ps3 (x10.2.2.2,decide ((vB p.2)=1))),by omega,rfl,(by (rw[hA,Yd hx11,W0 (QgK hmx10.2 (by assumption) (by first | exact .inl (by assumption) | exact .inr (by rw[QL (by assumption)]; assumption)))]; simp[UZ,QbY]; done)),(by (exact ⟨Nat.le_trans XW (by omega),Nat.le_trans XP (by omega),by rw[List.length_append]; simp; omega⟩)),rfl⟩ (by omega) ?_
      exact Wk.of [(0,0),(1,1),(8,32),(9,33),(10,35)] rfl ⟨rfl,rfl,rfl,rfl,rfl,rfl,rfl,trivial⟩ ⟨rfl,rfl,rfl,rfl,(Qv (by first | rfl | simp)),trivial⟩ rfl rfl
     ·refine w_ ?_
      refine AC.skip ?_
      refine (?_:AC _ _ _ _ _)
      iterate 3 refine w_ ?_
      refine Qj<|QS ⟨i+1,cs3,as3,ps3,by omega,rfl,(by (rw[hA,Yd hx11,X8 (Qh7 hmx10.2 (by assumption) (by rw[QL (by assumption)]; assumption))]; done)),(by omega),rfl⟩ (by omega) ?_
      exact Wk.of [(0,0),(1,1),(8,8),(9,9),(10,10)] rfl ⟨rfl,rfl,rfl,rfl,rfl,rfl,rfl,trivial⟩ ⟨rfl,rfl,rfl,rfl,rfl,trivial⟩ rfl rfl
 ·iterate 7 refine w_ ?_
  obtain ⟨c20,hc21⟩:∃z,signs[(p.1).toNat]? =some z:=⟨_,getElem?_pos _ _ (by omega)⟩
  refine lc (QH (Qa rfl) (Qa rfl) rfl Zd (by omega) hc21)<|lc (QG (Qa rfl) (QW 43 rfl) rfl) ?_
  refine w_ ?_
  cases hb22:(decide (c20=43))
  ·have hb22':=of_decide_eq_false hb22
   iterate 13 refine w_ ?_
   refine lc (QH (Qa rfl) (Qa rfl) rfl Zd (by omega) hc21)<|lc (QG (Qa rfl) (QW 45 rfl) rfl) ?_
   refine w_ ?_
   cases hb23:(decide (c20=45))
   ·have hb23':=of_decide_eq_false hb23
    iterate 6 refine w_ ?_
    refine VI (J5 _ ⟨cs,as_,ps,(by (rw[Qb8 (fun h=>by rw[QL (by assumption)] at h; first | assumption | contradiction) (fun h=>by rw[QL (by assumption)] at h; first | assumption | contradiction)]; done)),(by (exact ⟨by omega,by omega,by omega⟩)),rfl⟩) ?_
    exact Wk.of [(0,0),(1,1),(5,2),(6,3),(7,4)] rfl ⟨rfl,rfl,rfl,rfl,trivial⟩ ⟨rfl,rfl,rfl,rfl,rfl,trivial⟩ rfl rfl
   ·have hb23':=of_decide_eq_true hb23
    iterate 4 refine w_ ?_
    cases hb24:(decide ((vB p.2)=1))
    ·have hb24':=of_decide_eq_false hb24
     iterate 2 refine w_ ?_
     refine VI (J5 _ ⟨cs,as_,ps,(by (rw[Qb8 (fun h=>by rw[QL (by assumption)] at h; first | assumption | contradiction) (fun h=>by rw[QL (by assumption)] at h; first | assumption | contradiction)]; done)),(by (exact ⟨by omega,by omega,by omega⟩)),rfl⟩) ?_
     exact Wk.of [(0,0),(1,1),(5,2),(6,3),(7,4)] rfl ⟨rfl,rfl,rfl,rfl,trivial⟩ ⟨rfl,rfl,rfl,rfl,rfl,trivial⟩ rfl rfl
    ·have hb24':=of_decide_eq_true hb24
     refine w_ ?_
     refine dz [io 71 (lP 0 0),io 72 (lP 0 0),io 73 (lP 0 0),io 74 (lP 0 5),io 75 (lP 0 7),io 76 (lR 4),io 77 (lI q),io 78 (lI (c.1.length:Int)),io 79 (lP 0 0),io 80 (lI p.1),⟨some 81,lI (ixP ps (p.1,decide (0=1))),[(0,some (.box 288 [.dat (.sl 145 (.pr .str .int)) c.1, .dat (.sl 9 .str) c.2.1, .dat (.sl 179 (.pr .int (.pr .int (.pr .bool .int)))) c.2.2,dS signs, .ref 39, .ref 1, .ref 40, .ref 4])),(39,some (.arr 3 .int ((psP ps (p.1,decide (0=1))).map Z3))),(1,some (.arr 145 (.pr .str .int) ss)),(40,some (.arr 9 .str (cdP c ps cs (p.1,decide (0=1))))),(4,some (.arr 179 (.pr .int (.pr .int (.pr .bool .int))) as_)),(0,none),(2,none),(1,none),(3,none),(4,none)]⟩,io 82 (ag [dI q,dI (c.1.length:Int),dB false,dI (ixP ps (p.1,decide (0=1)))]),⟨some 83,lR 41,[(41,some (.arr 179 (.pr .int (.pr .int (.pr .bool .int))) ([(q,(c.1.length:Int),false,ixP ps (p.1,decide (0=1)))])))]⟩,⟨some 84,lR 42,[(42,some (.arr 179 (.pr .int (.pr .int (.pr .bool .int))) (as_++([(q,(c.1.length:Int),false,ixP ps (p.1,decide (0=1)))])))),(4,none),(41,none)]⟩,io 85 (lP 0 0),io 86 (lP 0 5),io 87 (lP 0 7),⟨none,lf (.val undef),[(0,some (.box 288 [.dat (.sl 145 (.pr .str .int)) c.1, .dat (.sl 9 .str) c.2.1, .dat (.sl 179 (.pr .int (.pr .int (.pr .bool .int)))) c.2.2,dS signs, .ref 39, .ref 1, .ref 40, .ref 42]))]⟩] [0,0,2,6,14,30,0,0,0,0,768,1984,4032,8190,16383,32767,65535,131071] mixed rfl (by kernel_rfl) ⟨dxm rfl rfl,dxm rfl rfl,fun _ h_=>by rcases h_.en2 0 10 rfl with hq0 | hq0 <;> exact ac (YU (h_.v rfl) (by rw[hq0]; rfl) rfl) rfl,fun _ h_=>by rcases h_.en2 0 10 rfl with hq0 | hq0 <;> exact ac (Qz (h_.v rfl) Xi (by rw[hq0]; rfl) rfl) rfl,fun _ h_=>by rcases h_.en2 0 10 rfl with hq0 | hq0 <;> exact ac (Qz (h_.v rfl) YZ (by rw[hq0]; rfl) rfl) rfl,fun _ h_=>by rcases h_.en2 0 10 rfl with hq0 | hq0 <;> exact ac (QI (h_.v rfl) hq0 WD rfl rfl) rfl,dxm rfl rfl,dxm rfl rfl,dxm rfl rfl,dxm rfl rfl,fun _ h_=>ac (QP 36 [(0,0),(1,1),(2,4),(3,2),(4,3)] (ZY c signs ps ss cs as_ p.1 0 (by omega) (by omega) hc (by omega) (by omega)) X4 ⟨_,_,rfl,(h_.w rfl),⟨_,_,rfl,(h_.w rfl),⟨_,_,rfl,(Evl.ev (QE rfl)),rfl⟩⟩⟩ ⟨(h_.en 0 rfl),(h_.en 2 rfl),(h_.en 1 rfl),(h_.en 3 rfl),(h_.en 4 rfl),trivial⟩ rfl ⟨trivial,(h_.fr 39 rfl),trivial,(h_.fr 40 rfl),trivial,(h_.fr 39 rfl),trivial,(h_.fr 40 rfl),trivial,trivial⟩ (nlr rfl)) rfl,fun _ h_=>ac (QC Hv ⟨_,_,rfl,(h_.w rfl),⟨_,_,rfl,(h_.w rfl),⟨_,_,rfl,(h_.w rfl),rfl⟩⟩⟩ (List.all_eq_true.1 rfl) rfl rfl) rfl,fun _ h_=>ac (Qk 41 (e:=(.pr .int (.pr .int (.pr .bool .int)))) Q9 QJ Zq rfl ⟨_,_,rfl,(h_.w rfl),rfl⟩ (List.all_eq_true.1 rfl) ⟨_,_,_,_,rfl,⟨[dI q],[dI (c.1.length:Int),dB false,dI (ixP ps (p.1,decide (0=1)))],_,_,_,_,rfl,rfl,⟨rfl,rfl⟩,⟨[dI (c.1.length:Int)],[dB false,dI (ixP ps (p.1,decide (0=1)))],_,_,_,_,rfl,rfl,⟨rfl,rfl⟩,⟨[dB false],[dI (ixP ps (p.1,decide (0=1)))],_,_,_,_,rfl,rfl,⟨rfl,rfl⟩,⟨rfl,rfl⟩,rfl⟩,rfl⟩,rfl⟩,⟨rfl,rfl⟩,rfl⟩ (by decide) rfl rfl (h_.fr 41 rfl) (nlr rfl)) rfl,fun _ h_=>ac (Q0 42 (h_.v rfl) (h_.en 4 rfl) (h_.v rfl) (h_.en 41 rfl) rfl Q9 Vh (by first | omega | (simp only[List.length_append,List.length_map,List.length_take,List.length_cons,List.length_nil]; omega) | (simp only[List.length_append,List.length_drop,List.length_take,List.length_cons,List.length_nil]; omega)) rfl (h_.fr 42 rfl) (nlr rfl)) rfl,dxn rfl rfl rfl,dxf Xi rfl rfl rfl,dxf YZ rfl rfl rfl,fun _ h_=>ac (Qf (h_.v rfl) (h_.en 0 rfl) (h_.w rfl) (by simp only[Yf,Up,List.all_cons,List.all_nil]; rw[(h_.en 42 rfl)]; rfl) WD rfl) rfl,⟨⟩⟩<|VI (J5 _ ⟨(cdP c ps cs (p.1,decide (0=1))),(as_++([(q,(c.1.length:Int),false,ixP ps (p.1,decide (0=1)))])),(psP ps (p.1,decide (0=1))),(by (rw[QkR (by rw[QL (by assumption)]; assumption) (by assumption)]; rfl)),(by (exact ⟨XW,XP,by simp⟩)),rfl⟩) ?_
     exact Wk.of [(0,0),(1,1),(5,39),(6,40),(7,42)] rfl ⟨rfl,rfl,rfl,rfl,trivial⟩ ⟨rfl,rfl,rfl,rfl,(Qv (by first | rfl | simp)),trivial⟩ rfl rfl
  ·have hb22':=of_decide_eq_true hb22
   iterate 4 refine w_ ?_
   cases hb25:(decide ((vB p.2)=0))
   ·have hb25':=of_decide_eq_false hb25
    iterate 9 refine w_ ?_
    refine lc (QH (Qa rfl) (Qa rfl) rfl Zd (by omega) hc21)<|lc (QG (Qa rfl) (QW 45 rfl) rfl) ?_
    refine w_ ?_
    have hb26:(decide (c20=45))=false:=decide_eq_false fun h_=>absurd ((of_decide_eq_true (hb22)).symm.trans h_) (by decide)
    have hb26':=of_decide_eq_false hb26
    try rw[hb26]
    iterate 6 refine w_ ?_
    refine VI (J5 _ ⟨cs,as_,ps,(by (rw[Qb8 (fun h=>by rw[QL (by assumption)] at h; first | assumption | contradiction) (fun h=>by rw[QL (by assumption)] at h; first | assumption | contradiction)]; done)),(by (exact ⟨by omega,by omega,by omega⟩)),rfl⟩) ?_
    exact Wk.of [(0,0),(1,1),(5,2),(6,3),(7,4)] rfl ⟨rfl,rfl,rfl,rfl,trivial⟩ ⟨rfl,rfl,rfl,rfl,rfl,trivial⟩ rfl rfl
   ·have hb25':=of_decide_eq_true hb25
    refine w_ ?_
    refine dz [io 43 (lP 0 0),io 44 (lP 0 0),io 45 (lP 0 0),io 46 (lP 0 5),io 47 (lP 0 7),io 48 (lR 4),io 49 (lI q),io 50 (lI (c.1.length:Int)),io 51 (lP 0 0),io 52 (lI p.1),⟨some 53,lI (ixP ps (p.1,decide (1=1))),[(0,some (.box 288 [.dat (.sl 145 (.pr .str .int)) c.1, .dat (.sl 9 .str) c.2.1, .dat (.sl 179 (.pr .int (.pr .int (.pr .bool .int)))) c.2.2,dS signs, .ref 46, .ref 1, .ref 47, .ref 4])),(46,some (.arr 3 .int ((psP ps (p.1,decide (1=1))).map Z3))),(1,some (.arr 145 (.pr .str .int) ss)),(47,some (.arr 9 .str (cdP c ps cs (p.1,decide (1=1))))),(4,some (.arr 179 (.pr .int (.pr .int (.pr .bool .int))) as_)),(0,none),(2,none),(1,none),(3,none),(4,none)]⟩,io 54 (ag [dI q,dI (c.1.length:Int),dB true,dI (ixP ps (p.1,decide (1=1)))]),⟨some 55,lR 48,[(48,some (.arr 179 (.pr .int (.pr .int (.pr .bool .int))) ([(q,(c.1.length:Int),true,ixP ps (p.1,decide (1=1)))])))]⟩,⟨some 56,lR 49,[(49,some (.arr 179 (.pr .int (.pr .int (.pr .bool .int))) (as_++([(q,(c.1.length:Int),true,ixP ps (p.1,decide (1=1)))])))),(4,none),(48,none)]⟩,io 57 (lP 0 0),io 58 (lP 0 5),io 59 (lP 0 7),⟨none,lf (.val undef),[(0,some (.box 288 [.dat (.sl 145 (.pr .str .int)) c.1, .dat (.sl 9 .str) c.2.1, .dat (.sl 179 (.pr .int (.pr .int (.pr .bool .int)))) c.2.2,dS signs, .ref 46, .ref 1, .ref 47, .ref 49]))]⟩] [0,0,2,6,14,30,0,0,0,0,768,1984,4032,8190,16383,32767,65535,131071] mixed rfl (by kernel_rfl) ⟨dxm rfl rfl,dxm rfl rfl,fun _ h_=>by rcases h_.en2 0 10 rfl with hq0 | hq0 <;> exact ac (YU (h_.v rfl) (by rw[hq0]; rfl) rfl) rfl,fun _ h_=>by rcases h_.en2 0 10 rfl with hq0 | hq0 <;> exact ac (Qz (h_.v rfl) Xi (by rw[hq0]; rfl) rfl) rfl,fun _ h_=>by rcases h_.en2 0 10 rfl with hq0 | hq0 <;> exact ac (Qz (h_.v rfl) YZ (by rw[hq0]; rfl) rfl) rfl,fun _ h_=>by rcases h_.en2 0 10 rfl with hq0 | hq0 <;> exact ac (QI (h_.v rfl) hq0 WD rfl rfl) rfl,dxm rfl rfl,dxm rfl rfl,dxm rfl rfl,dxm rfl rfl,fun _ h_=>ac (QP 43 [(0,0),(1,1),(2,4),(3,2),(4,3)] (ZY c signs ps ss cs as_ p.1 1 (by omega) (by omega) hc (by omega) (by omega)) X4 ⟨_,_,rfl,(h_.w rfl),⟨_,_,rfl,(h_.w rfl),⟨_,_,rfl,(Evl.ev (QE rfl)),rfl⟩⟩⟩ ⟨(h_.en 0 rfl),(h_.en 2 rfl),(h_.en 1 rfl),(h_.en 3 rfl),(h_.en 4 rfl),trivial⟩ rfl ⟨trivial,(h_.fr 46 rfl),trivial,(h_.fr 47 rfl),trivial,(h_.fr 46 rfl),trivial,(h_.fr 47 rfl),trivial,trivial⟩ (nlr rfl)) rfl,fun _ h_=>ac (QC Hv ⟨_,_,rfl,(h_.w rfl),⟨_,_,rfl,(h_.w rfl),⟨_,_,rfl,(Evl.ev QU),⟨_,_,rfl,(h_.w rfl),rfl⟩⟩⟩⟩ (List.all_eq_true.1 rfl) rfl rfl) rfl,fun _ h_=>ac (Qk 48 (e:=(.pr .int (.pr .int (.pr .bool .int)))) Q9 QJ Zq rfl ⟨_,_,rfl,(h_.w rfl),rfl⟩ (List.all_eq_true.1 rfl) ⟨_,_,_,_,rfl,⟨[dI q],[dI (c.1.length:Int),dB true,dI (ixP ps (p.1,decide (1=1)))],_,_,_,_,rfl,rfl,⟨rfl,rfl⟩,⟨[dI (c.1.length:Int)],[dB true,dI (ixP ps (p.1,decide (1=1)))],_,_,_,_,rfl,rfl,⟨rfl,rfl⟩,⟨[dB true],[dI (ixP ps (p.1,decide (1=1)))],_,_,_,_,rfl,rfl,⟨rfl,rfl⟩,⟨rfl,rfl⟩,rfl⟩,rfl⟩,rfl⟩,⟨rfl,rfl⟩,rfl⟩ (by decide) rfl rfl (h_.fr 48 rfl) (nlr rfl)) rfl,fun _ h_=>ac (Q0 49 (h_.v rfl) (h_.en 4 rfl) (h_.v rfl) (h_.en 48 rfl) rfl Q9 Vh (by first | omega | (simp only[List.length_append,List.length_map,List.length_take,List.length_cons,List.length_nil]; omega) | (simp only[List.length_append,List.length_drop,List.length_take,List.length_cons,List.length_nil]; omega)) rfl (h_.fr 49 rfl) (nlr rfl)) rfl,dxn rfl rfl rfl,dxf Xi rfl rfl rfl,dxf YZ rfl rfl rfl,fun _ h_=>ac (Qf (h_.v rfl) (h_.en 0 rfl) (h_.w rfl) (by simp only[Yf,Up,List.all_cons,List.all_nil]; rw[(h_.en 49 rfl)]; rfl) WD rfl) rfl,⟨⟩⟩ ?_
    iterate 7 refine w_ ?_
    refine lc (QH (Qa rfl) (Qa rfl) rfl Zd (by omega) hc21)<|lc (QG (Qa rfl) (QW 45 rfl) rfl) ?_
    refine w_ ?_
    have hb27:(decide (c20=45))=false:=decide_eq_false fun h_=>absurd ((of_decide_eq_true (hb22)).symm.trans h_) (by decide)
    have hb27':=of_decide_eq_false hb27
    try rw[hb27]
    iterate 6 refine w_ ?_
    refine VI (J5 _ ⟨(cdP c ps cs (p.1,decide (1=1))),(as_++([(q,(c.1.length:Int),true,ixP ps (p.1,decide (1=1)))])),(psP ps (p.1,decide (1=1))),(by (rw[Qmz (by rw[QL (by assumption)]; assumption) (by assumption)]; rfl)),(by (exact ⟨XW,XP,by simp⟩)),rfl⟩) ?_
    exact Wk.of [(0,0),(1,1),(5,46),(6,47),(7,49)] rfl ⟨rfl,rfl,rfl,rfl,trivial⟩ ⟨rfl,rfl,rfl,rfl,(Qv (by first | rfl | simp)),trivial⟩ rfl rfl
end Go.Proofs.YtnakmhfjafecpaaGreat
