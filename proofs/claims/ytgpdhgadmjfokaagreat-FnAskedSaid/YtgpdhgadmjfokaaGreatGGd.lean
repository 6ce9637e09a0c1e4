/- Walks over abstract states: excitation regions, both sides. -/
import Derived.Test.YtgpdhgadmjfokaaGreatGGc
import Derived.Test.YtgpdhgadmjfokaaGreatGFz
set_option linter.unusedSimpArgs false
set_option linter.unusedVariables false
set_option linter.unusedSectionVars false
namespace Go.Proofs.YtgpdhgadmjfokaaGreat
open Go.RowKit
set_option maxRecDepth 100000
set_option maxHeartbeats 4000000
theorem Qll {l:List Int}(h:l.Nodup):Y7 l=ofG ltI l:=Zo.ext (((Vo l).and ((Wd l).nodup_iff.2 h)).imp fun ⟨h1,h2⟩=>by simp only[ltI,aS]; omega) (Vj Zo _) fun x=>by rw[UC,Xb Zo]
theorem QqN {l:List Int}{i:Int}{x y:Int}(h:l.Nodup)(h1:1≤i)(hx:l[i.toNat]? =some x)(hy:l[(i - 1).toNat]? =some y):¬x=y:=fun e=>by
  subst e
  have h2:=(ah.1 hx).1
  have h3:=(ah.1 hy).1
  obtain ⟨_,e2⟩:=ah.1 hx
  obtain ⟨_,e3⟩:=ah.1 hy
  exact (List.pairwise_iff_getElem.1 h (i - 1).toNat i.toNat _ _ (by omega)) (e3.trans e2.symm)
theorem QeL {l:List Int}(h:l.Nodup):(Y7 l).Nodup:=(Wd l).nodup_iff.2 h
theorem QhY {S:List Int}{u:Int}:∀{l:List (Int×Int)} {out:List Int},(l.foldl (pE S u) out).length≤out.length+l.length
  | [],out=>aQ _
  | e :: l,out=>by
    rw[aL]
    have:=QhY (S:=S) (u:=u) (l:=l) (out:=pE S u out e)
    have h2:(pE S u out e).length≤out.length+1:=by unfold pE; split <;> simp
    simp only[ax]; omega
theorem Qmh {S:List Int}{u:Int}:∀{l:List DAr} {out:List Int},(l.foldl (pA S u) out).length≤out.length+2*l.length
  | [],out=>aQ _
  | a :: l,out=>by
    rw[aL]
    have:=Qmh (S:=S) (u:=u) (l:=l) (out:=pA S u out a)
    have h2:(pA S u out a).length≤out.length+2:=QhY
    simp only[ax]; omega
theorem Qc7 {as_:List DAr}{S:List Int}:∀{f:Nat} {left:List Int},(compL as_ S f left).length≤f
  | 0,_=>aQ _
  | _+1,[]=>aU _
  | f+1,x :: xs=>by rw[compL,ax]; have:=Qc7 (as_:=as_) (S:=S) (f:=f) (left:=(x :: xs).filter fun k=> !decide (k∈cls as_ S x)); omega
theorem QkS {as_:List DAr}{S left:List Int}{f:Nat}{out:List (List Int)}(h:out++compL as_ S f left=compL as_ S S.length S):out.length≤S.length:=by
  have h1:=congrArg List.length h
  have h2:=Qc7 (as_:=as_) (S:=S) (f:=S.length) (left:=S)
  rw[ao] at h1; omega
theorem QmC {as_:List DAr}{S left:List Int}{f:Nat}{out:List (List Int)}(hS:Srt S)(h:out++compL as_ S f left=compL as_ S S.length S)(hl:left.length=0):out=regV as_ S:=by
  have e:left=[]:=bw hl
  subst e
  rw[← Qk4 hS,← h]
  cases f <;> simp[compL]
def ini {α:Type}(f:Nat→α)(z:α)(n k:Nat):List α:=(List.range k).map f++List.replicate (n - k) z
section
variable {α:Type}{f:Nat→α}{z x:α}{n k:Nat}
theorem Qox:List.replicate n z=ini f z n 0:=by simp[ini]
theorem Qjb (h:k≤n):(ini f z n k).length=n:=by simp[ini]; omega
theorem Qeg (h:k < n)(hx:x=f k):(ini f z n k).set k x=ini f z n (k+1):=by
  subst hx
  unfold ini
  rw[List.set_append_right _ _ (by simp),aN,List.length_range,Nat.sub_self,show n - k=(n - (k+1))+1 by omega,List.replicate_succ,List.set_cons_zero,cp,cC,aP]
  rfl
theorem Qjf (h:n≤k)(h2:k≤n):ini f z n k=(List.range n).map f:=by
  obtain rfl:k=n:=by omega
  simp[ini]
end
def Xe (c:DSg)(l:Int×Bool):List Bool:=(List.range c.2.1.length).map fun k:Nat=>decide ((k:Int)∈xS c.2.2 l)
section
variable {c:DSg}{l:Int×Bool}{k i j n:Nat}{sig q x y:Int}{up b b1 b2:Bool}{code:ByteArray}{a:DAr}{p:List Int}
theorem Qky:(Xe c l).length=c.2.1.length:=by simp[Xe]
theorem Qn9 (h0:0≤q)(h:(Xe c l)[q.toNat]? =some b):b=decide (q∈xS c.2.2 l):=by
  unfold Xe at h
  rw[bg] at h
  obtain ⟨m,h1,h2⟩:=bV.1 h
  rw[← h2]
  have h3:=(ah.1 h1)
  obtain ⟨h3,h4⟩:=h3
  rw[dc] at h4
  rw[← h4,show ((q.toNat:Nat):Int)=q by omega]
theorem Qm3 {s:ByteArray}{i:Nat}{u:UInt8}(h:s[i]? =some u):s.extract i (i+1)=⟨#[u]⟩:=by
  have hl:i < s.size:=by
    rcases cP i s.size with h1 | h1
    · exact h1
    · rw[getElem?_neg s i (by omega)] at h; cases h
  have h2:s[i]=u:=by rw[bo s i hl] at h; exact cY h
  have h3:s.data[i]'(by simpa using hl)=u:=h2
  apply ByteArray.ext
  rw[ByteArray.data_extract]
  apply Array.ext
  · have : i < s.data.size := hl
    simp; omega
  · intro j hj1 hj2
    simp at hj2
    subst hj2
    simp[h3]
theorem QoA (h:QH c (k:Int) sig=false):false=decide ((k:Int)∈xS c.2.2 (sig,up)):=(aF fun g=>by
  obtain ⟨a,h1,h2,h3,h4⟩:=VX.1 g
  unfold QH at h
  rw[cn] at h
  exact h a h1 (aI ⟨h4,h2⟩)).symm
theorem Qap (hs:SgOk c)(ha:a∈c.2.2)(h1:a.1=q)(h2:a.2.1=sig)(h3:0≤sig∧sig≤(c.1.length:Int) - 1)(hc:c.2.1[q.toNat]? =some code):decide (bAt code sig=49)= !a.2.2.1:=by
  obtain ⟨g1,_,_,g4⟩:=hs.arcs a ha
  have hcA:YT c a.1=code:=by unfold YT; rw[h1,hc]; rfl
  have hz:=(hs.codes code (aj hc)).2
  rw[hcA] at g4
  have:=g4 sig.toNat (by omega)
  unfold Yh at this
  rw[if_pos (by omega)] at this
  rw[show ((sig.toNat:Nat):Int)=sig by omega] at this
  exact this.1
theorem Qot (hs:SgOk c)(h:QH c (k:Int) sig=true)(h3:0≤sig∧sig≤(c.1.length:Int) - 1)(hc:c.2.1[k]? =some code):decide (code.extract sig.toNat (sig+1).toNat=Z6 (!up))=decide ((k:Int)∈xS c.2.2 (sig,up)):=by
  unfold QH at h
  obtain ⟨a,ha,h1⟩:=bC.1 h
  have h1:=ab h1
  have hc':c.2.1[((k:Int)).toNat]? =some code:=hc
  have hb:=Qap hs ha h1.1 h1.2 h3 hc'
  have hz:=(hs.codes code (aj hc)).2
  obtain ⟨u,hu⟩:∃u,code[sig.toNat]? =some u:=⟨_,bo code _ (by omega)⟩
  have hm:u=48∨u=49:=(hs.codes code (aj hc)).1 u (aj (QdN hu))
  rw[YS hu] at hb
  rw[show (sig+1).toNat=sig.toNat+1 by omega,Qm3 hu]
  have hmem:(k:Int)∈xS c.2.2 (sig,up)↔a.2.2.1=up:=by
    rw[VX]
    constructor
    · rintro ⟨b, g1, g2, g3, g4⟩
      have hb2:=Qap hs g1 g4 g2 h3 hc'
      rw[YS hu,hb] at hb2
      have g3:b.2.2.1=up:=g3
      rw[← g3]
      simpa using hb2
    · intro g; exact ⟨a,ha,h1.2,g,h1.1⟩
  rw[cA]
  rw[hmem]
  unfold Z6
  rcases hm with rfl | rfl
  · have : a.2.2.1 = true := by simpa using hb.symm
    rw[this]; cases up <;> decide
  · have : a.2.2.1 = false := by simpa using hb.symm
    rw[this]; cases up <;> decide
theorem QhI (hr:∀a∈c.2.2,InR c.2.1.length a)(hq:q∈xS c.2.2 l):0≤q∧q < (c.2.1.length:Int):=by
  obtain ⟨a,h1,_,_,h4⟩:=VX.1 hq
  rw[← h4]; exact (hr a h1).1
theorem QmN (hr:∀a∈c.2.2,InR c.2.1.length a):(xS c.2.2 l).length≤c.2.1.length:=Qej Hb fun q hq=>QhI hr hq
theorem QhP {S:List Int}{as_:List DAr}(hx:as_[i]? =some a)(h1:true=decide (a.1∈S))(h2:true=decide (a.2.2.2∈S))(hp:((as_.take i).foldl (lpS S) p)[a.1.toNat]? =some x)(hq:((as_.take i).foldl (lpS S) p)[a.2.2.2.toNat]? =some y):
    (((as_.take i).foldl (lpS S) p).set a.1.toNat (min x y)).set a.2.2.2.toNat (min x y)=(as_.take (i+1)).foldl (lpS S) p:=by
  rw[Qs hx,bl,aL,bT]
  generalize (as_.take i).foldl (lpS S) p=o at hp hq
  unfold lpS
  rw[if_pos ⟨ab h1.symm,ab h2.symm⟩,XS hp,XS hq]
theorem Qcx {S:List Int}{as_:List DAr}(hx:as_[i]? =some a)(h:¬(a.1∈S∧a.2.2.2∈S)):(as_.take i).foldl (lpS S) p=(as_.take (i+1)).foldl (lpS S) p:=by
  rw[Qs hx,bl,aL,bT,QhN h]
theorem fls (h:false=decide (q∈p)):¬q∈p:=ae h.symm
theorem Qdp {S:List Int}(h1:true=decide ((i:Int)∈S))(hp:p[i]? =some x)(h2:x=q):spF S p q i=some (i:Int):=by
  unfold spF
  rw[if_pos ⟨ab h1.symm,by rw[XS (x:=(i:Int)) (by simpa using hp)]; exact h2⟩]
theorem Qd0 {S:List Int}(h1:false=decide ((i:Int)∈S)):spF S p q i=none:=if_neg fun g=>fls h1 g.1
theorem Qd1 {S:List Int}(hp:p[i]? =some x)(h2:¬x=q):spF S p q i=none:=if_neg fun g=>h2 (by rw[← g.2,XS (x:=(i:Int)) (by simpa using hp)])
theorem rgN {β:Type}{f:Nat→Option β}{y:β}(h:f k=some y):rg f k++[y]=rg f (k+1):=by have:=ZB (B:=[]) h; simpa using this
theorem Qic {S:List Int}{m:Nat}(hm:n≤m)(hm2:m≤n)(h:0 < ((rg (spF S p (k:Int)) m).length:Int)):rg (lbG S p n) k++[rg (spF S p (k:Int)) m]=rg (lbG S p n) (k+1):=by
  obtain rfl:m=n:=by omega
  exact rgN (by unfold lbG; rw[if_pos h])
theorem QkE {S:List Int}{m:Nat}(hm:n≤m)(hm2:m≤n)(h:¬0 < ((rg (spF S p (k:Int)) m).length:Int)):rg (lbG S p n) k=rg (lbG S p n) (k+1):=by
  obtain rfl:m=n:=by omega
  exact Q0 (by unfold lbG; rw[if_neg h])
theorem QkG {S:List Int}{as_:List DAr}:(as_.foldl (lpS S) p).length=p.length:=by
  induction as_ generalizing p with
  | nil=>rfl
  | cons a l ih=>rw[aL,ih]; unfold lpS; split <;> simp
theorem Qhv {S:List Int}{as_:List DAr}:∀{j:Nat},(QJ (lpR as_ S) j p).length=p.length
  | 0=>rfl
  | j+1=>by rw[QJ,lpR,QkG,Qhv]
theorem Qjg:(lpZ n).length=n:=by simp[lpZ]
end
theorem Qcc (l:List Int)(hd:l.Nodup)(hl:l.length≤1000000000):FC Tryz.prog 222 [(false,[.ref 0])] [ar 0 3 .int l] 1 (Is (lR 0) [ar 0 3 .int l]):=by
 refine Qn Tryz.func222 rfl rfl Tryz.ntmps222 fun O_ hO w0_ N0_ X_ h0_ f0_=> ?_
 iterate 9 refine w_ ?_
 refine cd_ (fun hb1 hb1'=> ?_) fun hb1 hb1'=> ?_
 ·iterate 6 refine w_ ?_
  refine QK (fun m_ s_=>∃(i:Int),m_=((l.length:Int) - i).toNat∧(1≤i∧i≤(l.length:Int))∧s_=⟨[(0,lR 0),(3,lI i)],[ar 0 3 .int l]⟩) ⟨1,rfl,(by omega),rfl⟩ ?_ ?_
  · exact Wk.of [] rfl ⟨rfl,rfl,trivial⟩ ⟨rfl,trivial⟩ rfl rfl
  rintro m_ s_ ⟨i,hm3,hi,rfl⟩
  iterate 7 refine w_ ?_
  cases hb4:(decide (i < (l.length:Int)))
  ·have hb4':=ae hb4
   refine w_ ?_
   refine Qh ?_
   refine (?_:AC _ _ _ _ _)
   iterate 4 refine w_ ?_
   refine Qb ?_
   exact fi_ [] hO ⟨rfl,trivial⟩
  ·have hb4':=ab hb4
   iterate 4 refine w_ ?_
   obtain ⟨x,hx6⟩:∃z,l[(i).toNat]? =some z:=⟨_,aa (by omega)⟩
   have hx:=hx6
   obtain ⟨y,hx8⟩:∃z,l[(i - 1).toNat]? =some z:=⟨_,aa (by omega)⟩
   have hy:=hx8
   apply dW (i2 16 _ _ (io 18 (lf (.ept 0 1 ((i).toNat) 0)) :: io 19 (lI x) :: i3 20 _ _ _ [io 23 (lf (.ept 0 1 ((i - 1).toNat) 0)),io 24 (lI y),io 25 _])) [0,1,0,0,15,31,31,15,15,0]
   iterate 2 refine z_ ?_
   refine zz (fun _ h_=>ac (QF (e:= .int) (h_.v rfl) (h_.en 0 rfl) (h_.v rfl) Q9 Zn rfl (by omega) (by first | omega | (simp only[ay]; omega))) rfl)<|zz (fun _ h_=>ac (Q4 (e:= .int) (h_.v rfl) (h_.n 0 rfl) hx6 rfl Zn rfl rfl) rfl) ?_
   iterate 3 refine z_ ?_
   refine zz (fun _ h_=>ac (QF (e:= .int) (h_.v rfl) (h_.en 0 rfl) (h_.v rfl) Q9 Zn rfl (by omega) (by first | omega | (simp only[ay]; omega))) rfl)<|zz (fun _ h_=>ac (Q4 (e:= .int) (h_.v rfl) (h_.n 0 rfl) hx8 rfl Zn rfl rfl) rfl) ?_
   refine z_ ?_
   exact zN
   cases hb9:(decide (x=y))
   ·have hb9':=ae hb9
    refine w_ ?_
    refine AC.skip ?_
    refine (?_:AC _ _ _ _ _)
    iterate 4 refine w_ ?_
    refine Qc<|Zq ⟨(i+1),rfl,(by omega),rfl⟩ (by omega) ?_
    exact Wk.of [] rfl ⟨rfl,rfl,trivial⟩ ⟨rfl,trivial⟩ rfl rfl
   · exact absurd (hb9.symm.trans (show (decide (x=y))=false from aF (QqN hd (by omega) hx hy))) (by decide)
 ·iterate 4 refine w_ ?_
  refine Qb ?_
  exact fi_ [] hO ⟨rfl,trivial⟩
theorem QhL (l:List Int)(hl:l.length≤1000000)(hd:l.Nodup):FC Tryz.prog 110 [(false,[.ref 0])] [ar 0 3 .int l] 1 (Is (lR 0) [ar 0 3 .int (ofG ltI l)]):=by
 refine Qn Tryz.func110 rfl rfl Tryz.ntmps110 fun O_ hO w0_ N0_ X_ h0_ f0_=> ?_
 iterate 5 refine w_ ?_
 refine lc (dP 1 [] (QiV l (by omega)) Qbj) ?_
 iterate 3 refine w_ ?_
 refine lc (dP 2 [] (Qcc (Y7 l) (QeL hd) (by rw[UI]; omega)) QaE) ?_
 iterate 2 refine w_ ?_
 refine Qb ?_
 exact fi_ [] hO ⟨(Qj (by exact Qll hd)),trivial⟩
theorem HE (c:(List (ByteArray×Int))×List ByteArray×(List (Int×Int×Bool×Int)))(l:Int×Bool)(hl:c.2.2.length≤100000):FC Tryz.prog 280 [(true,[.dat (.sl 44 (.pr .str .int)) c.1, .dat (.sl 9 .str) c.2.1, .dat (.sl 46 (.pr .int (.pr .int (.pr .bool .int)))) c.2.2]),(true,[dI l.1,dB l.2])] [] 0 (Yo 3 .int (xS c.2.2 l)):=by
 refine Qn Tryz.func280 rfl rfl Tryz.ntmps280 fun O_ hO w0_ N0_ X_ h0_ f0_=> ?_
 refine acG 1 0 fun hi1=> ?_
 refine w_ ?_
 refine xbx 0 ?_
 refine xbx 1 ?_
 iterate 3 refine w_ ?_
 refine lc (dBs 2 (e:= .int) ZL) ?_
 iterate 6 refine w_ ?_
 refine alL 10 fun hl2=> ?_
 iterate 4 refine w_ ?_
 refine lp0 c.2.2.length (fun k=>⟨[(3,lP 1 0),(4,lf (.val (.slice none 0 0))),(5,lR 3),(10,lf (.dat (.sl 46 (.pr .int (.pr .int (.pr .bool .int)))) c.2.2)),(11,lI (c.2.2.length:Int)),(12,lI (k:Int))],[bx 1 86 [dI l.1,dB l.2],ar 3 3 .int (frL (c.2.2.take k) l)]⟩) ?_ fun k hk3=> ?_
 · exact Wk.of [(3,2)] rfl ⟨rfl,rfl,rfl,rfl,rfl,rfl,trivial⟩ ⟨rfl,(Qj (by first | rfl | simp)),trivial⟩ rfl rfl
 have hfl:=Qop (as_:=c.2.2.take k) (l:=l)
 have hft:(c.2.2.take k).length≤c.2.2.length:=by simp only[aw]; omega
 iterate 4 refine w_ ?_
 cases hb4:(decide ((k:Int) < (c.2.2.length:Int)))
 ·have hb4':=ae hb4
  refine w_ ?_
  refine Qh ?_
  refine (?_:AC _ _ _ _ _)
  iterate 2 refine w_ ?_
  refine lc (dP 4 [(0,3)] (KH (frL (c.2.2.take k) l) (by omega)) Kz) ?_
  iterate 2 refine w_ ?_
  refine Qb<|fo_ hO ?_
  rw[QO (by omega)]; rfl
 ·have hb4':=ab hb4
  iterate 5 refine w_ ?_
  obtain ⟨x5,hx6⟩:∃z,c.2.2[k]? =some z:=⟨_,aa (by omega)⟩
  iterate 2 refine w_ ?_
  refine lc (xal 5 (.pr .int (.pr .int (.pr .bool .int))) ZJ) ?_
  iterate 2 refine w_ ?_
  apply dW [io 16 _,io 17 (ag [dI x5.2.1,dB x5.2.2.1]),io 18 _,io 19 (lB (Ty.beq (.pr .int .bool) (x5.2.1,x5.2.2.1) l))] [0,0,3,0]
  refine z_ ?_
  refine zz (fun _ h_=>ac (dK (YU x5) KC) rfl) ?_
  refine z_ ?_
  refine zz (fun _ h_=>ac (Uq QdX Qea (h_.w rfl) (h_.w rfl) (p:=(x5.2.1,x5.2.2.1)) (q:=l) rfl rfl rfl) rfl) ?_
  exact zN
  cases hb7:(Ty.beq (.pr .int .bool) (x5.2.1,x5.2.2.1) l)
  ·refine w_ ?_
   refine AC.skip ?_
   refine (?_:AC _ _ _ _ _)
   iterate 3 refine w_ ?_
   refine Qc ?_
   refine l0_ ?_
   exact Wk.of [] rfl ⟨rfl,rfl,rfl,rfl,rfl,rfl,trivial⟩ ⟨rfl,(Qj (by first | exact Qi4 hx6 (WO (by assumption)).1 (WO (by assumption)).2 | exact QlG hx6 (QaU (by assumption)))),trivial⟩ rfl rfl
  ·iterate 5 refine w_ ?_
   refine alI 22 fun hi8=> ?_
   refine lc (dBs 6 (e:= .int) ZL) ?_
   refine lc (dA 7 YO) ?_
   refine w_ ?_
   refine Qc ?_
   refine (?_:AC _ _ _ _ _)
   iterate 3 refine w_ ?_
   refine Qc ?_
   refine l0_ ?_
   exact Wk.of [(3,7)] rfl ⟨rfl,rfl,rfl,rfl,rfl,rfl,trivial⟩ ⟨rfl,(Qj (by first | exact Qi4 hx6 (WO (by assumption)).1 (WO (by assumption)).2 | exact QlG hx6 (QaU (by assumption)))),trivial⟩ rfl rfl
theorem Xv (v:Int)(part:List Int):FC Tryz.prog 384 [(false,[dI v]),(false,[.ptr 0 0])] [bx 0 32 [.dat (.sl 3 .int) part]] 1 (Is (lB (part.any (fun y=>decide (v=y)))) [bx 0 32 [.dat (.sl 3 .int) part]]):=by
 refine Qn Tryz.func384 rfl rfl Tryz.ntmps384 fun O_ hO w0_ N0_ X_ h0_ f0_=> ?_
 refine acI 0 fun hi1=> ?_
 iterate 6 refine w_ ?_
 refine lc (dK (QM part v) YV) ?_
 iterate 2 refine w_ ?_
 refine Qb ?_
 exact fi_ [] hO ⟨rfl,trivial⟩
theorem VO (l:List Int)(part:List Int)(hl:l.length≤1000000):FC Tryz.prog 202 [(false,[.ref 1]),(false,[.clo 384 [0]])] [bx 0 32 [.dat (.sl 3 .int) part],ar 1 3 .int l] 2 (Is (lI (Zp (fun v:Int=>part.any (fun y=>decide (v=y))) l)) [bx 0 32 [.dat (.sl 3 .int) part],ar 1 3 .int l]):=by
 refine Qn Tryz.func202 rfl rfl Tryz.ntmps202 fun O_ hO w0_ N0_ X_ h0_ f0_=> ?_
 iterate 10 refine w_ ?_
 refine lpK l.length (fun k=>NoneTo (fun v:Int=>part.any (fun y=>decide (v=y))) l k) (fun k=>⟨[(0,lR 1),(1,lf (.clo 384 [0])),(7,lI (l.length:Int)),(8,lI (k:Int))],[bx 0 32 [.dat (.sl 3 .int) part],ar 1 3 .int l]⟩) (NoneTo.zero) ?_ fun k hk1 hno=> ?_
 · exact Wk.of [] rfl ⟨rfl,rfl,rfl,rfl,trivial⟩ ⟨rfl,rfl,trivial⟩ rfl rfl
 iterate 4 refine w_ ?_
 cases hb2:(decide ((k:Int) < (l.length:Int)))
 ·have hb2':=ae hb2
  refine w_ ?_
  refine Qh ?_
  refine (?_:AC _ _ _ _ _)
  iterate 3 refine w_ ?_
  refine Qb ?_
  have e3:((-1):Int)=(Zp (fun v:Int=>part.any (fun y=>decide (v=y))) l):=by
   first | exact (hno.no (by omega)).symm
  exact fi_ [] hO ⟨rfl,rfl,trivial⟩ (h0:=(congrArg (fun z_=>lI z_) e3))
 ·have hb2':=ab hb2
  iterate 13 refine w_ ?_
  obtain ⟨x4,hx5⟩:∃z,l[k]? =some z:=⟨_,aa (by omega)⟩
  refine w_ ?_
  refine alI 15 fun hi6=> ?_
  refine lc (Yd (args0:=[(false,[dI x4])]) (caps:=[0]) 2 [(0,0)] (Xv x4 part) Qba rfl (Qa rfl) rfl rfl ⟨_,_,rfl,(Ql rfl),rfl⟩ ⟨rfl,trivial⟩ rfl ⟨trivial,trivial⟩ (nlr rfl)) ?_
  refine w_ ?_
  cases hb7:(part.any (fun y=>decide (x4=y)))
  ·refine w_ ?_
   refine AC.skip ?_
   refine (?_:AC _ _ _ _ _)
   iterate 3 refine w_ ?_
   refine Qc ?_
   refine lK_ (hno.step hx5 (by assumption)) ?_
   exact Wk.of [] rfl ⟨rfl,rfl,rfl,rfl,trivial⟩ ⟨rfl,rfl,trivial⟩ rfl rfl
  ·iterate 5 refine w_ ?_
   refine Qb ?_
   have e8:((k:Int):Int)=(Zp (fun v:Int=>part.any (fun y=>decide (v=y))) l):=by
    exact (hno.at hx5 (by assumption)).symm
   exact fi_ [] hO ⟨rfl,rfl,trivial⟩ (h0:=(congrArg (fun z_=>lI z_) e8))
theorem K8 (l:List Int)(part:List Int)(hl:l.length≤1000000):FC Tryz.prog 383 [(false,[.ref 1]),(false,[.clo 384 [0]])] [bx 0 32 [.dat (.sl 3 .int) part],ar 1 3 .int l] 1 (Is (lR 2) [bx 0 32 [.dat (.sl 3 .int) part],ar 2 3 .int (l.filter (fun v:Int=> !(part.any (fun y=>decide (v=y)))))]):=by
 have hix:=QeC (fun v:Int=>part.any (fun y=>decide (v=y))) l
 refine Qn Tryz.func383 rfl rfl Tryz.ntmps383 fun O_ hO w0_ N0_ X_ h0_ f0_=> ?_
 iterate 6 refine w_ ?_
 refine lc (dP 2 [] (VO l part (by omega)) QaZ) ?_
 iterate 7 refine w_ ?_
 refine cd_ (fun hb1 hb1'=> ?_) fun hb1 hb1'=> ?_
 ·iterate 8 refine w_ ?_
  refine QK (fun m_ s_=>∃(i:Int) (j:Int) (l2:List Int),m_=((l2.length:Int) - j).toNat∧(DelI (fun v:Int=> !(part.any (fun y=>decide (v=y)))) l l2 i j)∧s_=⟨[(0,lR 4),(1,lf (.clo 384 [0])),(4,lf (.val (.slice none 0 0))),(5,lI i),(6,lI j)],[bx 0 32 [.dat (.sl 3 .int) part],ar 4 3 .int l2]⟩) ⟨Zp (fun v:Int=>part.any (fun y=>decide (v=y))) l,(Zp (fun v:Int=>part.any (fun y=>decide (v=y))) l)+1,l,rfl,(DelI.start (by assumption)),rfl⟩ ?_ ?_
  · exact Wk.of [(4,1)] rfl ⟨rfl,rfl,rfl,rfl,rfl,trivial⟩ ⟨rfl,rfl,trivial⟩ rfl rfl
  rintro m_ s_ ⟨i,j,l2,hm3,hD,rfl⟩
  have hDb:=hD.1
  have hDl:=hD.2.1
  iterate 7 refine w_ ?_
  cases hb4:(decide (j < (l2.length:Int)))
  ·have hb4':=ae hb4
   refine w_ ?_
   refine Qh ?_
   refine (?_:AC _ _ _ _ _)
   iterate 3 refine w_ ?_
   refine lc (ZD (e:= .int) (a:=(i).toNat) (b:=l2.length - (i).toNat) (l:=(some i)) (h:=none) (Qa rfl) rfl (by exact (Qa rfl)) (by exact trivial) Q9 Zn rfl (by first | (simp only[au,ap]; omega) | omega | (simp only[au,ap,ao,aw,aD]; omega)) (by first | (simp only[au,ap]; omega) | omega | (simp only[au,ap,ao,aw,aD]; omega)) (by first | (simp only[au,ap]; omega) | omega | (simp only[au,ap,ao,aw,aD]; omega)) (by first | rfl | simp) (by first | rfl | simp))<|lc (Hg (e:= .int) (Qa rfl) rfl (by omega) Q9 ZL rfl rfl rfl) ?_
   iterate 4 refine w_ ?_
   refine lc (ZD (e:= .int) (a:=0) (b:=(i).toNat) (l:=none) (h:=(some i)) (Qa rfl) rfl (by exact trivial) (by exact (Qa rfl)) Q9 Zn rfl (by first | (simp only[au,ap]; omega) | omega | (simp only[au,ap,ao,aw,aD]; omega)) (by first | (simp only[au,ap]; omega) | omega | (simp only[au,ap,ao,aw,aD]; omega)) (by first | (simp only[au,ap]; omega) | omega | (simp only[au,ap,ao,aw,aD]; omega)) (by first | rfl | simp) (by first | rfl | simp)) ?_
   iterate 2 refine w_ ?_
   refine AC.wk (Qa0 5 4 (e:= .int) (xs:=l2.take ((i).toNat)++List.replicate (l2.length - (i).toNat) (Ty.zero .int)) rfl rfl (by first | omega | (simp only[ao,aw,aD]; omega)) rfl (Fresh.of rfl) (nlr rfl))<|Qb ?_
   exact fi_ [(2,5)] hO ⟨rfl,(Qj (by exact hD.end_ (by assumption) _ (by omega))),trivial⟩
  ·have hb4':=ab hb4
   iterate 8 refine w_ ?_
   obtain ⟨xj,hx6⟩:∃z,l2[(j).toNat]? =some z:=⟨_,aa (by omega)⟩
   refine w_ ?_
   refine alI 25 fun hi7=> ?_
   iterate 5 refine w_ ?_
   refine lc (Yd (args0:=[(false,[dI xj])]) (caps:=[0]) 6 [(0,0)] (Xv xj part) Qba rfl (Qa rfl) rfl rfl ⟨_,_,rfl,(Ql rfl),rfl⟩ ⟨rfl,trivial⟩ rfl ⟨trivial,trivial⟩ (nlr rfl)) ?_
   iterate 2 refine w_ ?_
   cases hb8:(part.any (fun y=>decide (xj=y)))
   ·iterate 6 refine w_ ?_
    obtain ⟨x9,hx10⟩:∃z,l2[(i).toNat]? =some z:=⟨_,aa (by omega)⟩
    refine lc (Qp (e:= .int) (z':=xj) (Qa rfl) rfl hx10 rfl (Ql rfl) rfl Zn rfl rfl) ?_
    iterate 5 refine w_ ?_
    refine Qc ?_
    refine (?_:AC _ _ _ _ _)
    iterate 4 refine w_ ?_
    refine Qc<|Zq ⟨(i+1),(j+1),(l2.set ((i).toNat) xj),rfl,(by exact hD.keep (x:=xj) (by assumption) (by simp[*])),rfl⟩ (by first | omega | (simp only[ay]; omega)) ?_
    exact Wk.of [] rfl ⟨rfl,rfl,rfl,rfl,rfl,trivial⟩ ⟨rfl,(Qj (by first | rfl | simp)),trivial⟩ rfl rfl
   ·refine w_ ?_
    refine AC.skip ?_
    refine (?_:AC _ _ _ _ _)
    iterate 4 refine w_ ?_
    refine Qc<|Zq ⟨i,(j+1),l2,rfl,(by exact hD.drop_ (x:=xj) (by assumption) (by simp[*])),rfl⟩ (by first | omega | (simp only[ay]; omega)) ?_
    exact Wk.of [] rfl ⟨rfl,rfl,rfl,rfl,rfl,trivial⟩ ⟨rfl,rfl,trivial⟩ rfl rfl
 ·iterate 4 refine w_ ?_
  refine Qb ?_
  exact fi_ [(2,1)] hO ⟨rfl,(Qj (by exact Hm (by assumption))),trivial⟩
theorem QbW (s:List Int)(hl:s.length≤100000000):FC Tryz.prog 218 [(false,[.dat (.sl 3 .int) s])] [] 0 (Yo 3 .int s):=by
 refine Qn Tryz.func218 rfl rfl Tryz.ntmps218 fun O_ hO w0_ N0_ X_ h0_ f0_=> ?_
 iterate 6 refine w_ ?_
 refine QlM (Qa rfl) Evl.val Q9 rfl fun b1 hnil=> ?_
 refine w_ ?_
 refine cb_ (fun hb2=> ?_) fun hb2=> ?_
 ·iterate 2 refine w_ ?_
  refine lc (dBs 0 (e:= .int) ZL) ?_
  refine w_ ?_
  refine lc (Zs 1 (Qa rfl) rfl (Evl.rep (Qa rfl)) rfl Q9 YO (by first | omega | (simp only[ao,aN,aw,ax,aK]; omega) | (simp only[ao,bu,aw,ax,aK]; omega)) rfl (Fresh.of rfl) (nlr rfl)) ?_
  iterate 2 refine w_ ?_
  refine Qb<|fo_ hO ?_
  rfl
 ·iterate 3 refine w_ ?_
  refine AC.wk (Wk.nilS 2 2 3 .int rfl (Fresh.of rfl) (nlr rfl))<|Qb<|fo_ hO ?_
  exact (hnil (by assumption)).symm
theorem U7 (c:(List (ByteArray×Int))×List ByteArray×(List (Int×Int×Bool×Int)))(zs:List Int)(hS:Srt zs)(hl:zs.length≤1000)(ha:c.2.2.length≤4000):FC Tryz.prog 279 [(true,[.dat (.sl 44 (.pr .str .int)) c.1, .dat (.sl 9 .str) c.2.1, .dat (.sl 46 (.pr .int (.pr .int (.pr .bool .int)))) c.2.2]),(false,[.dat (.sl 3 .int) zs])] [] 0 (QY (lf (.dat (.sl 32 (.sl 3 .int)) (regV c.2.2 zs)))):=by
 refine Qn Tryz.func279 rfl rfl Tryz.ntmps279 fun O_ hO w0_ N0_ X_ h0_ f0_=> ?_
 refine w_ ?_
 refine xbx 0 ?_
 iterate 3 refine w_ ?_
 refine lc (dBs 1 (e:=(.sl 3 .int)) YW) ?_
 refine w_ ?_
 refine lc (dO 2 (QbW zs (by omega)) Qf2) ?_
 iterate 5 refine w_ ?_
 refine AC.wk (Wk.toFz (q:=1) rfl) ?_
 refine QK (fun m_ s_=>∃(f:Nat) (left:List Int) (out:List (List Int)),m_=left.length∧(Srt left∧∀v∈left,v∈zs)∧(left.length≤f)∧(out++compL c.2.2 zs f left=compL c.2.2 zs zs.length zs)∧s_=⟨[(1,lf (.dat (.sl 3 .int) zs)),(2,lP 0 0),(4,lf (.val (.slice none 0 0))),(5,lR 4),(6,lR 3)],[bx 0 27 [.dat (.sl 44 (.pr .str .int)) c.1, .dat (.sl 9 .str) c.2.1, .dat (.sl 46 (.pr .int (.pr .int (.pr .bool .int)))) c.2.2],(3,some (.arr 3 .int left)),(4,some (.fz 32 (.sl 3 .int) out))]⟩) ⟨zs.length,zs,([]:((.sl 32 (.sl 3 .int)):Ty).Den),rfl,⟨hS,fun _ h=>h⟩,aQ _,rfl,rfl⟩ ?_ ?_
 · exact Wk.of [(3,2),(4,1)] rfl ⟨rfl,rfl,rfl,rfl,rfl,trivial⟩ ⟨rfl,rfl,(Qkx (by first | rfl | simp)),trivial⟩ rfl rfl
 rintro m_ s_ ⟨f,left,out,hm2,hL,hf,hO1,rfl⟩
 have hol:=QkS hO1
 have hll:left.length≤zs.length:=JO (Vb hL.1) hL.2
 iterate 6 refine w_ ?_
 cases hb3:(decide (0 < (left.length:Int)))
 ·have hb3':=ae hb3
  refine w_ ?_
  refine Qh ?_
  refine (?_:AC _ _ _ _ _)
  iterate 4 refine w_ ?_
  refine AC.wk (Qbb (i:=4) (q:=4) rfl rfl)<|Qb<|fq_ hO ?_
  exact QmC hS hO1 (by omega)
 ·have hb3':=ab hb3
  iterate 6 refine w_ ?_
  obtain ⟨x,hx5⟩:∃z,left[0]? =some z:=⟨_,aa (by omega)⟩
  have hx0:=hx5
  have hxS:=hL.2 x (aj hx5)
  refine w_ ?_
  refine alI 21 fun hi6=> ?_
  refine lc (dBs 5 (e:= .int) ZL) ?_
  refine lc (xal 6 (.sl 3 .int) YW) ?_
  iterate 7 refine w_ ?_
  refine QK (fun m_ s_=>∃(k:Nat) (part:List Int),k≤zs.length∧m_=zs.length - k∧(ClI (edL c.2.2 zs) (-1) (fun u=>u=x) k part)∧s_=⟨[(1,lf (.dat (.sl 3 .int) zs)),(2,lP 0 0),(4,lf (.val (.slice none 0 0))),(5,lR 4),(6,lR 3),(7,lP 6 0),(8,lI (k:Int)),(16,lR 3),(17,lI (left.length:Int)),(18,lB true),(19,lR 3),(20,lf (.ept 3 1 0 0)),(21,lI x)],[bx 0 27 [.dat (.sl 44 (.pr .str .int)) c.1, .dat (.sl 9 .str) c.2.1, .dat (.sl 46 (.pr .int (.pr .int (.pr .bool .int)))) c.2.2],(3,some (.arr 3 .int left)),(4,some (.fz 32 (.sl 3 .int) out)),bx 6 32 [.ref 7],(7,some (.arr 3 .int part))]⟩) ⟨0,[x],aU _,rfl,(ClI.zero (S:=[x]) (by simp) (fun v=>by simp)),rfl⟩ ?_ ?_
  · exact Wk.of [(7,5)] rfl ⟨rfl,rfl,rfl,rfl,rfl,rfl,rfl,rfl,rfl,rfl,rfl,rfl,rfl,trivial⟩ ⟨rfl,rfl,rfl,rfl,(Qj (by first | rfl | simp)),trivial⟩ rfl rfl
  rintro m_ s_ ⟨k,part,hk7,hm8,hC,rfl⟩
  have hpf:=Qnd hS hxS hC
  iterate 7 refine w_ ?_
  cases hb9:(decide ((k:Int) < (part.length:Int)))
  ·have hb9':=ae hb9
   refine w_ ?_
   refine Qh ?_
   refine (?_:AC _ _ _ _ _)
   iterate 3 refine w_ ?_
   refine lc (dP 8 [(0,7)] (QhL part (by omega) hC.nod) Kz) ?_
   refine AL.wk (QhD (i:=81) (p:=6) (off:=0) (q:=7) rfl rfl rfl rfl)<|lc (Jl 9 Xp Yt YW (Ql rfl) (by (exact List.length_pos_of_mem ((Xb Zo _).2 (hC.bas _ rfl)))) rfl (Fresh.of rfl) (nlr rfl))<|lc (UZ 10 (Qa rfl) rfl (Qa rfl) rfl Xp Kg (by first | omega | (simp only[ao,aN,aw,ax,aK]; omega) | (simp only[ao,bu,aw,ax,aK]; omega)) rfl (Fresh.of rfl) (nlr rfl)) ?_
   iterate 4 refine w_ ?_
   refine lc (YP ⟨_,_,rfl,(Qa rfl),rfl,rfl⟩ rfl) ?_
   refine lc (dP 11 [(0,6),(1,3)] (K8 left (ofG ltI part) (by omega)) QfO) ?_
   refine w_ ?_
   refine Qc<|Zq ⟨(f - 1),(left.filter (fun v:Int=> !((ofG ltI part).any (fun y=>decide (v=y))))),(out++([ofG ltI part])),rfl,⟨hL.1.filter _,fun v hv=>hL.2 v (be.1 hv).1⟩,(by have:=Qfn hx0 (hC.bas _ rfl); omega),(Qj5 hS hx0 hL.2 hf hO1 (hC.end_ (by omega))),rfl⟩ (by (rw[hm2]; exact Qfn hx0 (hC.bas _ rfl))) ?_
   exact Wk.of [(3,13),(4,10)] rfl ⟨rfl,rfl,rfl,rfl,rfl,trivial⟩ ⟨rfl,(Qj (by first | rfl | simp)),(Qkx (by first | rfl | simp)),trivial⟩ rfl rfl
  ·have hb9':=ab hb9
   iterate 4 refine w_ ?_
   refine Zv ?_
   obtain ⟨u,hu⟩:∃z,part[k]? =some z:=⟨_,aa (by omega)⟩
   iterate 3 refine w_ ?_
   refine alL 30 fun hl10=> ?_
   iterate 4 refine w_ ?_
   refine lp0 c.2.2.length (fun i=>⟨[(1,lf (.dat (.sl 3 .int) zs)),(2,lP 0 0),(4,lf (.val (.slice none 0 0))),(5,lR 4),(6,lR 3),(7,lP 6 0),(8,lI (k:Int)),(16,lR 3),(17,lI (left.length:Int)),(18,lB true),(19,lR 3),(20,lf (.ept 3 1 0 0)),(21,lI x),(23,lI (k:Int)),(25,lI (part.length:Int)),(26,lB true),(29,lP 0 2),(30,lf (.dat (.sl 46 (.pr .int (.pr .int (.pr .bool .int)))) c.2.2)),(31,lI (c.2.2.length:Int)),(32,lI (i:Int))],[bx 0 27 [.dat (.sl 44 (.pr .str .int)) c.1, .dat (.sl 9 .str) c.2.1, .dat (.sl 46 (.pr .int (.pr .int (.pr .bool .int)))) c.2.2],(3,some (.arr 3 .int left)),(4,some (.fz 32 (.sl 3 .int) out)),bx 6 32 [.ref 14],(14,some (.arr 3 .int ((c.2.2.take i).foldl (pA zs u) part)))]⟩) ?_ fun i hk11=> ?_
   · exact Wk.of [(14,7)] rfl ⟨rfl,rfl,rfl,rfl,rfl,rfl,rfl,rfl,rfl,rfl,rfl,rfl,rfl,rfl,rfl,rfl,rfl,rfl,rfl,rfl,trivial⟩ ⟨rfl,rfl,rfl,rfl,(Qj (rfl)),trivial⟩ rfl rfl
   have hpl:=Qmh (S:=zs) (u:=u) (l:=c.2.2.take i) (out:=part)
   have hft:(c.2.2.take i).length≤c.2.2.length:=by simp only[aw]; omega
   iterate 4 refine w_ ?_
   cases hb12:(decide ((i:Int) < (c.2.2.length:Int)))
   ·have hb12':=ae hb12
    refine w_ ?_
    refine Qh ?_
    refine (?_:AC _ _ _ _ _)
    iterate 4 refine w_ ?_
    refine Qc<|Zq ⟨k+1,((c.2.2.take i).foldl (pA zs u) part),by omega,rfl,(by rw[QO (by omega),QrH]; exact hC.step hu),rfl⟩ (by omega) ?_
    exact Wk.of [(7,14)] rfl ⟨rfl,rfl,rfl,rfl,rfl,rfl,rfl,rfl,rfl,rfl,rfl,rfl,rfl,trivial⟩ ⟨rfl,rfl,rfl,rfl,(Qj (by first | rfl | simp)),trivial⟩ rfl rfl
   ·have hb12':=ab hb12
    iterate 5 refine w_ ?_
    obtain ⟨ar,hx14⟩:∃z,c.2.2[i]? =some z:=⟨_,aa (by omega)⟩
    have har:=hx14
    have h2l:([(ar.1,ar.2.2.2),(ar.2.2.2,ar.1)]:List (Int×Int)).length=2:=rfl
    iterate 2 refine w_ ?_
    refine lc (xal 15 (.pr .int (.pr .int (.pr .bool .int))) ZJ) ?_
    iterate 5 refine w_ ?_
    refine alI 37 fun hi15=> ?_
    iterate 2 refine w_ ?_
    refine alI 39 fun hi16=> ?_
    refine lc (Qm Qdy ⟨_,_,rfl,(Ql rfl),⟨_,_,rfl,(Ql rfl),rfl⟩⟩ (aA.1 rfl) rfl rfl) ?_
    iterate 4 refine w_ ?_
    refine lc (Qm Qdy ⟨_,_,rfl,(Ql rfl),⟨_,_,rfl,(Ql rfl),rfl⟩⟩ (aA.1 rfl) rfl rfl) ?_
    refine lc (dBs 16 (e:=(.pr .int .int)) Us (hab:=by exact ⟨_,_,_,_,rfl,⟨[dI ar.1],[dI ar.2.2.2],_,_,_,_,rfl,rfl,⟨rfl,rfl⟩,⟨rfl,rfl⟩,rfl⟩,⟨_,_,_,_,rfl,⟨[dI ar.2.2.2],[dI ar.1],_,_,_,_,rfl,rfl,⟨rfl,rfl⟩,⟨rfl,rfl⟩,rfl⟩,⟨rfl,rfl⟩,rfl⟩,rfl⟩)) ?_
    iterate 4 refine w_ ?_
    refine lp0 2 (fun j=>⟨[(1,lf (.dat (.sl 3 .int) zs)),(2,lP 0 0),(4,lf (.val (.slice none 0 0))),(5,lR 4),(6,lR 3),(7,lP 6 0),(8,lI (k:Int)),(10,lP 15 0),(16,lR 3),(17,lI (left.length:Int)),(18,lB true),(19,lR 3),(20,lf (.ept 3 1 0 0)),(21,lI x),(23,lI (k:Int)),(25,lI (part.length:Int)),(26,lB true),(29,lP 0 2),(30,lf (.dat (.sl 46 (.pr .int (.pr .int (.pr .bool .int)))) c.2.2)),(31,lI (c.2.2.length:Int)),(32,lI (i:Int)),(33,lB true),(34,lf (.elt (.pr .int (.pr .int (.pr .bool .int))) ar 0)),(35,ag [dI ar.1,dI ar.2.1,dB ar.2.2.1,dI ar.2.2.2]),(36,lP 15 0),(37,lI ar.1),(38,lP 15 3),(39,lI ar.2.2.2),(40,ag [dI ar.1,dI ar.2.2.2]),(41,lP 15 3),(42,lI ar.2.2.2),(43,lP 15 0),(44,lI ar.1),(45,ag [dI ar.2.2.2,dI ar.1]),(46,lR 16),(47,lI (([(ar.1,ar.2.2.2),(ar.2.2.2,ar.1)]).length:Int)),(48,lI (j:Int))],[bx 0 27 [.dat (.sl 44 (.pr .str .int)) c.1, .dat (.sl 9 .str) c.2.1, .dat (.sl 46 (.pr .int (.pr .int (.pr .bool .int)))) c.2.2],(3,some (.arr 3 .int left)),(4,some (.fz 32 (.sl 3 .int) out)),bx 6 32 [.ref 17],bx 15 46 [dI ar.1,dI ar.2.1,dB ar.2.2.1,dI ar.2.2.2],(16,some (.arr 295 (.pr .int .int) ([(ar.1,ar.2.2.2),(ar.2.2.2,ar.1)]))),(17,some (.arr 3 .int ((([(ar.1,ar.2.2.2),(ar.2.2.2,ar.1)]:List (Int×Int)).take j).foldl (pE zs u) ((c.2.2.take i).foldl (pA zs u) part))))]⟩) ?_ fun j hk17=> ?_
    · exact Wk.of [(17,14)] rfl ⟨rfl,rfl,rfl,rfl,rfl,rfl,rfl,rfl,rfl,rfl,rfl,rfl,rfl,rfl,rfl,rfl,rfl,rfl,rfl,rfl,rfl,rfl,rfl,rfl,rfl,rfl,rfl,rfl,rfl,rfl,rfl,rfl,rfl,rfl,rfl,rfl,rfl,trivial⟩ ⟨rfl,rfl,rfl,rfl,rfl,rfl,(Qj (rfl)),trivial⟩ rfl rfl
    have hel:=QhY (S:=zs) (u:=u) (l:=([(ar.1,ar.2.2.2),(ar.2.2.2,ar.1)]:List (Int×Int)).take j) (out:=(c.2.2.take i).foldl (pA zs u) part)
    have hlt:(([(ar.1,ar.2.2.2),(ar.2.2.2,ar.1)]:List (Int×Int)).take j).length≤2:=by simp only[aw]; omega
    have hpu:((([(ar.1,ar.2.2.2),(ar.2.2.2,ar.1)]:List (Int×Int)).take j).foldl (pE zs u) ((c.2.2.take i).foldl (pA zs u) part))[k]? =some u:=QsP hu _ _
    have hkl:=(ah.1 hpu).1
    iterate 4 refine w_ ?_
    cases hb18:(decide ((j:Int) < (([(ar.1,ar.2.2.2),(ar.2.2.2,ar.1)]).length:Int)))
    ·have hb18':=ae hb18
     refine w_ ?_
     refine Qh ?_
     refine (?_:AC _ _ _ _ _)
     iterate 3 refine w_ ?_
     refine Qc ?_
     refine l0_ ?_
     exact Wk.of [(14,17)] rfl ⟨rfl,rfl,rfl,rfl,rfl,rfl,rfl,rfl,rfl,rfl,rfl,rfl,rfl,rfl,rfl,rfl,rfl,rfl,rfl,rfl,trivial⟩ ⟨rfl,rfl,rfl,rfl,(Qj (QnN hx14 (show 2≤j by omega))),trivial⟩ rfl rfl
    ·have hb18':=ab hb18
     iterate 6 refine w_ ?_
     obtain ⟨e,hx20⟩:∃z,([(ar.1,ar.2.2.2),(ar.2.2.2,ar.1)])[j]? =some z:=⟨_,aa (by omega)⟩
     have he:=hx20
     refine w_ ?_
     refine lc (xal 18 (.pr .int .int) Us) ?_
     iterate 2 refine w_ ?_
     cases hb21:(decide (e.1=u))
     ·have hb21':=ae hb21
      apply dW (i4 52 _ _ _ _ (io 56 (lf (.ept 17 1 k 0)) :: io 57 (lI u) :: io 58 (lB false) :: i9 59 _ _ _ _ _ _ _ _ _ (i4 68 _ _ _ _ []))) [0,0,3,7,3,3,0,0,0,256,256,0,0,0,0,16384,16384,0,0,0]
      iterate 4 refine z_ ?_
      refine zz (fun _ h_=>ac (QF (e:= .int) (h_.v rfl) (h_.en 17 rfl) (h_.v rfl) Q9 Zn rfl (by omega) (by first | omega | (simp only[ay]; omega))) rfl)<|zz (fun _ h_=>ac (Q4 (e:= .int) (h_.v rfl) (h_.n 17 rfl) hpu rfl Zn rfl rfl) rfl)<|zz (fun _ h_=>ac (Q8 (hb21) (V6 (h_.v rfl) (h_.v rfl) rfl)) rfl) ?_
      iterate 13 refine z_ ?_
      exact zN
      refine w_ ?_
      refine AC.skip ?_
      refine (?_:AC _ _ _ _ _)
      iterate 3 refine w_ ?_
      refine Qc ?_
      refine l0_ ?_
      exact Wk.of [] rfl ⟨rfl,rfl,rfl,rfl,rfl,rfl,rfl,rfl,rfl,rfl,rfl,rfl,rfl,rfl,rfl,rfl,rfl,rfl,rfl,rfl,rfl,rfl,rfl,rfl,rfl,rfl,rfl,rfl,rfl,rfl,rfl,rfl,rfl,rfl,rfl,rfl,rfl,trivial⟩ ⟨rfl,rfl,rfl,rfl,rfl,rfl,(Qj (by first | exact Qes he (by assumption) (by assumption) (by assumption) | exact VF he (fun g=>absurd g.1 (by assumption)) | exact VF he (fun g=>WJ (by assumption) g.2.1) | exact VF he (fun g=>g.2.2 (JI (by assumption))))),trivial⟩ rfl rfl
     ·have hb21':=ab hb21
      cases hb22:(zs.any (fun y=>decide (e.2=y)))
      ·apply dW (i4 52 _ _ _ _ (io 56 (lf (.ept 17 1 k 0)) :: io 57 (lI u) :: io 58 (lB true) :: i4 59 _ _ _ _ (io 63 (lB false) :: i8 64 _ _ _ _ _ _ _ _ []))) [0,0,3,7,3,3,0,0,0,256,256,0,0,0,0,16384,16384,0,0,0]
       iterate 4 refine z_ ?_
       refine zz (fun _ h_=>ac (QF (e:= .int) (h_.v rfl) (h_.en 17 rfl) (h_.v rfl) Q9 Zn rfl (by omega) (by first | omega | (simp only[ay]; omega))) rfl)<|zz (fun _ h_=>ac (Q4 (e:= .int) (h_.v rfl) (h_.n 17 rfl) hpu rfl Zn rfl rfl) rfl)<|zz (fun _ h_=>ac (Q8 (hb21) (V6 (h_.v rfl) (h_.v rfl) rfl)) rfl) ?_
       iterate 4 refine z_ ?_
       refine zz (fun _ h_=>day rfl (h_.k rfl) (Q8 (hb22) (dK (QM zs e.2) YV)) rfl) ?_
       iterate 8 refine z_ ?_
       exact zN
       refine w_ ?_
       refine AC.skip ?_
       refine (?_:AC _ _ _ _ _)
       iterate 3 refine w_ ?_
       refine Qc ?_
       refine l0_ ?_
       exact Wk.of [] rfl ⟨rfl,rfl,rfl,rfl,rfl,rfl,rfl,rfl,rfl,rfl,rfl,rfl,rfl,rfl,rfl,rfl,rfl,rfl,rfl,rfl,rfl,rfl,rfl,rfl,rfl,rfl,rfl,rfl,rfl,rfl,rfl,rfl,rfl,rfl,rfl,rfl,rfl,trivial⟩ ⟨rfl,rfl,rfl,rfl,rfl,rfl,(Qj (by first | exact Qes he (by assumption) (by assumption) (by assumption) | exact VF he (fun g=>absurd g.1 (by assumption)) | exact VF he (fun g=>WJ (by assumption) g.2.1) | exact VF he (fun g=>g.2.2 (JI (by assumption))))),trivial⟩ rfl rfl
      ·apply dW (i4 52 _ _ _ _ (io 56 (lf (.ept 17 1 k 0)) :: io 57 (lI u) :: io 58 (lB true) :: i4 59 _ _ _ _ (io 63 (lB true) :: i5 64 _ _ _ _ _ (io 69 (lB (((([(ar.1,ar.2.2.2),(ar.2.2.2,ar.1)]:List (Int×Int)).take j).foldl (pE zs u) ((c.2.2.take i).foldl (pA zs u) part)).any (fun y=>decide (e.2=y)))) :: i2 70 _ _ [])))) [0,0,3,7,3,3,0,0,0,256,256,0,0,0,0,16384,16384,0,0,0]
       iterate 4 refine z_ ?_
       refine zz (fun _ h_=>ac (QF (e:= .int) (h_.v rfl) (h_.en 17 rfl) (h_.v rfl) Q9 Zn rfl (by omega) (by first | omega | (simp only[ay]; omega))) rfl)<|zz (fun _ h_=>ac (Q4 (e:= .int) (h_.v rfl) (h_.n 17 rfl) hpu rfl Zn rfl rfl) rfl)<|zz (fun _ h_=>ac (Q8 (hb21) (V6 (h_.v rfl) (h_.v rfl) rfl)) rfl) ?_
       iterate 4 refine z_ ?_
       refine zz (fun _ h_=>day rfl (h_.k rfl) (Q8 (hb22) (dK (QM zs e.2) YV)) rfl) ?_
       iterate 5 refine z_ ?_
       refine zz (fun _ h_=>day rfl (h_.k rfl) (dB_ (QM ((([(ar.1,ar.2.2.2),(ar.2.2.2,ar.1)]:List (Int×Int)).take j).foldl (pE zs u) ((c.2.2.take i).foldl (pA zs u) part)) e.2) YV) rfl) ?_
       iterate 2 refine z_ ?_
       exact zN
       cases hb23:(((([(ar.1,ar.2.2.2),(ar.2.2.2,ar.1)]:List (Int×Int)).take j).foldl (pE zs u) ((c.2.2.take i).foldl (pA zs u) part)).any (fun y=>decide (e.2=y)))
       ·iterate 5 refine w_ ?_
        refine alI 74 fun hi24=> ?_
        refine lc (dBs 19 (e:= .int) ZL) ?_
        refine lc (dA 20 YO) ?_
        refine w_ ?_
        refine Qc ?_
        refine (?_:AC _ _ _ _ _)
        iterate 3 refine w_ ?_
        refine Qc ?_
        refine l0_ ?_
        exact Wk.of [(17,20)] rfl ⟨rfl,rfl,rfl,rfl,rfl,rfl,rfl,rfl,rfl,rfl,rfl,rfl,rfl,rfl,rfl,rfl,rfl,rfl,rfl,rfl,rfl,rfl,rfl,rfl,rfl,rfl,rfl,rfl,rfl,rfl,rfl,rfl,rfl,rfl,rfl,rfl,rfl,trivial⟩ ⟨rfl,rfl,rfl,rfl,rfl,rfl,(Qj (by first | exact Qes he (by assumption) (by assumption) (by assumption) | exact VF he (fun g=>absurd g.1 (by assumption)) | exact VF he (fun g=>WJ (by assumption) g.2.1) | exact VF he (fun g=>g.2.2 (JI (by assumption))))),trivial⟩ rfl rfl
       ·refine w_ ?_
        refine AC.skip ?_
        refine (?_:AC _ _ _ _ _)
        iterate 3 refine w_ ?_
        refine Qc ?_
        refine l0_ ?_
        exact Wk.of [] rfl ⟨rfl,rfl,rfl,rfl,rfl,rfl,rfl,rfl,rfl,rfl,rfl,rfl,rfl,rfl,rfl,rfl,rfl,rfl,rfl,rfl,rfl,rfl,rfl,rfl,rfl,rfl,rfl,rfl,rfl,rfl,rfl,rfl,rfl,rfl,rfl,rfl,rfl,trivial⟩ ⟨rfl,rfl,rfl,rfl,rfl,rfl,(Qj (by first | exact Qes he (by assumption) (by assumption) (by assumption) | exact VF he (fun g=>absurd g.1 (by assumption)) | exact VF he (fun g=>WJ (by assumption) g.2.1) | exact VF he (fun g=>g.2.2 (JI (by assumption))))),trivial⟩ rfl rfl
end Go.Proofs.YtgpdhgadmjfokaaGreat
