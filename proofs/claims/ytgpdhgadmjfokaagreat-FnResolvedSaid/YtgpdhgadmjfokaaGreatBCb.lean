/- Walks over abstract states: the best candidate as memory of one's own; conflicts resolved by insertions, both sides. -/
import Derived.Test.YtgpdhgadmjfokaaGreatBEb
import Derived.Test.YtgpdhgadmjfokaaGreatBBe
import Derived.Test.YtgpdhgadmjfokaaGreatBUa
import Derived.Test.YtgpdhgadmjfokaaGreatBWw
import Derived.Test.YtgpdhgadmjfokaaGreatBWp
import Derived.Test.YtgpdhgadmjfokaaGreatBVa
set_option linter.unusedSimpArgs false
set_option linter.unusedVariables false
set_option linter.unusedSectionVars false
namespace Go.Proofs.YtgpdhgadmjfokaaGreat
open Go.RowKit
set_option maxRecDepth 100000
set_option maxHeartbeats 4000000
section
variable {I S C A:Type}
@[reducible] def dC (g1:Hdr→S) (g2:Hdr→C) (g3:Hdr→A) (y:I×Hdr×Hdr×Hdr):I×S×C×A:=(y.1,g1 y.2.1,g2 y.2.2.1,g3 y.2.2.2)
variable {xs:List (I×S×C×A)}{y1:List (I×Hdr×C×A)}{y2:List (I×Hdr×Hdr×A)}{y3:List (I×Hdr×Hdr×Hdr)}{g1:Hdr→S}{g2:Hdr→C}{g3:Hdr→A}{v1 v2 v3:List Hdr}
theorem QvY (a:(y1.map fun y=>(y.1,g1 y.2.1,y.2.2))=xs)(b:(y2.map fun y=>(y.1,y.2.1,g2 y.2.2.1,y.2.2.2))=y1)(d:(y3.map fun y=>(y.1,y.2.1,y.2.2.1,g3 y.2.2.2))=y2):y3.map (dC g1 g2 g3)=xs:=by
 subst a b d
 simp[dE,Function.comp_def]
theorem Qqs (a:(y1.map fun y=>(y.1,g1 y.2.1,y.2.2))=xs)(b:(y2.map fun y=>(y.1,y.2.1,g2 y.2.2.1,y.2.2.2))=y1)(d:(y3.map fun y=>(y.1,y.2.1,y.2.2.1,g3 y.2.2.2))=y2):y3.length=xs.length:=by
 rw[← QvY a b d,aC]
theorem Quc (f:(y2.map fun y=>(y.1,y.2.1,g2 y.2.2.1,y.2.2.2))=y1)(g:(y3.map fun y=>(y.1,y.2.1,y.2.2.1,g3 y.2.2.2))=y2)(b:v1=none :: y1.map fun y=>y.2.1)(d:v2=none :: y2.map fun y=>y.2.2.1)(e:v3=none :: y3.map fun y=>y.2.2.2):
 ∀y∈y3,y.2.1∈v1∧y.2.2.1∈v2∧y.2.2.2∈v3:=by
 subst f g b d e
 intro y a
 refine ⟨aw _ ?_,aw _ ?_,aw _ ?_⟩
 ·exact aR.2 ⟨_,aR.2 ⟨_,aR.2 ⟨y,a,rfl⟩,rfl⟩,rfl⟩
 ·exact aR.2 ⟨_,aR.2 ⟨y,a,rfl⟩,rfl⟩
 ·exact aR.2 ⟨y,a,rfl⟩
theorem Qvt {a b c:List Hdr}(d:v1=none :: a)(e:v2=none :: b)(f:v3=none :: c):(none:Hdr)∈v1∧(none:Hdr)∈v2∧(none:Hdr)∈v3:=by
 subst d e f; exact ⟨ax ..,ax ..,ax ..⟩
theorem Qrs {k:Nat}{y:I×Hdr×Hdr×Hdr}(h:y3.map (dC g1 g2 g3)=xs)(a:y3[k]? =some y):xs[k]? =some (dC g1 g2 g3 y):=by rw[← h,bc,a]; rfl
end
section
variable [∀c,Decidable (SgOk c)][∀s,Decidable (Zx s)]
def Xa:Nat→DSg→List Z0→DSg×List Z0
 | 0,c,l=>(c,l)
 | f+1,c,l=>if 0 < (Zt c).length∧(QZ c (QF c)).isSome=true∧Xc c (QF c) < ((Zt c).length:Int) then Xa f (QX c (QF c)).2 (l++[Zi c (QF c)]) else (c,l)
def ZT (c:DSg):DSg×List Z0×Bool:=if SgOk c∧(Zt (Xa 2 c []).1).length=0 then ((Xa 2 c []).1,(Xa 2 c []).2,true) else (X4,[],false)
variable {c og:DSg}{il:List Z0}{n:Nat}{x:Z0}
theorem J8 (h:(QZ c (QF c)).isSome=true):∃y∈QF c,QZ c (QF c)=some y∧Zi c (QF c)=y∧Xc c (QF c)=HE c y∧QX c (QF c)=(y,(Zo c y).1):=by
 obtain ⟨y,b⟩:=bg.1 h
 obtain ⟨d,f,g,_,_⟩:=JP b
 refine ⟨y, ?_,b,d,g,f⟩
 have i:∀(l:List Z0) (m:Option Z0) (z:Z0),l.foldl (QjL c) m=some z→m=some z∨z∈l:=fun l=>by
  induction l with
  | nil=>intro m z h; exact .inl h
  | cons a l j=>
   intro m z h
   rw[aT] at h
   rcases j _ _ h with h | h
   ·have:QjL c m a=m∨QjL c m a=some a:=by
     cases m with
     | none=>exact .inr rfl
     | some u=>simp only[QjL]; split <;> simp
    rcases this with e | e
    ·rw[e] at h; exact .inl h
    ·rw[e] at h; cases h; exact .inr (ax ..)
   ·exact .inr (aw _ h)
 rcases i (QF c) none y b with h | h
 ·cases h
 ·exact h
theorem QaN (d:SgOk c)(h:(QZ c (QF c)).isSome=true):SgOk (QX c (QF c)).2:=by
 obtain ⟨y,a,_,_,_,b⟩:=J8 h
 rw[b]; exact QgR d a
theorem W6 (h:¬SgOk c):ZT c=(X4,[],false):=if_neg fun g=>h g.1
theorem Q1 (h:Xa 2 c []=(og,il))(a:¬(Zt og).length=0):ZT c=(X4,[],false):=if_neg fun g=>a (by rw[h] at g; exact g.2)
theorem YY (b:SgOk c)(h:Xa 2 c []=(og,il))(a:(Zt og).length=0):ZT c=(og,il,true):=by unfold ZT; rw[h]; exact if_pos ⟨b,a⟩
theorem ZZ (h:¬(0 < (Zt og).length∧(QZ og (QF og)).isSome=true∧Xc og (QF og) < ((Zt og).length:Int))):Xa n og il=(og,il):=by
 cases n with
 | zero=>rfl
 | succ n=>rw[Xa,if_neg h]
theorem Qvf (a:il.length < 2)(h:0 < (Zt og).length∧(QZ og (QF og)).isSome=true∧Xc og (QF og) < ((Zt og).length:Int)):Xa (2 - il.length) og il=Xa (2 - (il++[(QX og (QF og)).1]).length) (QX og (QF og)).2 (il++[(QX og (QF og)).1]):=by
 rw[ae,Qun]
 show _=Xa (2 - (il.length+1)) _ _
 rw[show 2 - il.length=(2 - (il.length+1))+1 by omega,Xa,if_pos h]
theorem Qcb (f:SgOk c)(h:(QZ c (QF c)).isSome=true):XG c (Zi c (QF c))=Xc c (QF c)∧(Zo c (Zi c (QF c))).1=(QX c (QF c)).2:=by
 obtain ⟨y,a,_,b,d,e⟩:=J8 h
 rw[b,d,e,(Qd8 f a).1]; exact ⟨rfl,rfl⟩
theorem QsW (a:SgOk c)(h:(QZ c (QF c)).isSome=true):SgOk (Zo c (Zi c (QF c))).1:=by
 rw[(Qcb a h).2]; exact QaN a h
theorem Qtg {k:Nat}(f:SgOk og)(g:k < 2)(h0:0 < ((Zt og).length:Int))(a:(QZ og (QF og)).isSome=true)(b:XG og (Zi og (QF og)) < ((Zt og).length:Int)):
 Xa (2 - k) og il=Xa (2 - (k+1)) (Zo og (Zi og (QF og))).1 (il++[Zi og (QF og)]):=by
 obtain ⟨d,e⟩:=Qcb f a
 rw[d] at b
 rw[e,show 2 - k=(2 - (k+1))+1 by omega,Xa,if_pos ⟨by omega,a,b⟩]
theorem ZH (a:SgOk og)(h:((Zt og).length:Int)=0∨(QZ og (QF og)).isSome=false∨((Zt og).length:Int)≤XG og (Zi og (QF og))):Xa n og il=(og,il):=by
 refine ZZ fun g=> ?_
 obtain ⟨g1,g2,g3⟩:=g
 rcases h with h | h | h
 ·omega
 ·rw[h] at g2; cases g2
 ·rw[(Qcb a g2).1] at h; omega
end
theorem QjF (c:ZB)[∀c,Decidable (SgOk c)][∀s,Decidable (Zx s)](hs:SgOk c):FC Tryz.prog 115 [(true,[.dat Ql c.1, .dat Qm c.2.1, .dat Qu c.2.2])] [] 0 (Is (PV.tup [(true,[dI ((((QX c (QF c)).1).1).1),dB ((((QX c (QF c)).1).1).2),dI ((((QX c (QF c)).1).2).1),dB ((((QX c (QF c)).1).2).2), .ref 0, .ref 1, .ref 2]),(false,[dI (Xc c (QF c))]),(false,[dB ((QZ c (QF c)).isSome)])]) [ar 0 44 Qz (((QX c (QF c)).2).1),ar 1 9 .str (((QX c (QF c)).2).2.1),ar 2 46 Qs (((QX c (QF c)).2).2.2)]):=by
 have a0:=hs.sigs.2.2
 have a9:=WX (k:=c.1.length)
 have Y:=Qdm (c:=c) a0
 have a7:(QF c).length≤256:=Y (Q0 c.1.length) (by omega)
 have b1:=Qb4 (c:=c) (QF c)
 refine Qt Tryz.func115 rfl rfl Tryz.ntmps115 fun O_ hO b4 a4 X_ a6 a5=> ?_
 refine w_ ?_
 refine xbx 0 ?_
 refine lc (xal 1 QhR KM) ?_
 refine w4 ?_
 refine lc (Qg QnV rfl (au.1 rfl) rfl rfl)<|lc (xal 2 QhR KM) ?_
 refine w7 ?_
 refine lc (dO 3 (Qam c hs) Qk3) ?_
 refine w4 ?_
 refine AC.openS (q:=3) 4 (VO Ys (QgP (.pr (.sl 9 .str) (.sl 46 (.pr .int (.pr .int (.pr .bool .int))))) (QaB 44 Qz))) rfl (Fresh.of rfl) (nlr rfl) fun b5 V h D R Q=>AC.openS (q:=3) 5 (VO Ys (VO .vl (QgP Qu (QaB 9 .str)))) rfl (Fresh.of rfl) (nlr rfl) fun b6 W d E T K=>AC.openS (q:=3) 6 (VO Ys (VO .vl (VO .vl (QaB 46 Qs)))) rfl (Fresh.of rfl) (nlr rfl) fun t X i F U L=> ?_
 have Z:=QvY Q K L
 have b2:=Qqs Q K L
 have a2:=Quc K L D E F
 refine AC.wk (Quk (p:=2) [dI 0,dB false,dI 0,dB false, .dat .vl none, .dat .vl none, .dat .vl none] rfl ⟨_,_,rfl, .inl rfl,⟨_,_,rfl, .inl rfl,⟨_,_,rfl, .inl rfl,⟨_,_,rfl, .inl rfl,⟨_,_,rfl, .inr ⟨rfl,rfl⟩,⟨_,_,rfl, .inr ⟨rfl,rfl⟩,⟨_,_,rfl, .inr ⟨rfl,rfl⟩,rfl⟩⟩⟩⟩⟩⟩⟩) ?_
 refine QL (fun m_ s_=>∃(k:Nat) (a:((Int×Bool)×(Int×Bool))×(Hdr×Hdr×Hdr)) (j:Int) (o:Bool),k≤t.length∧m_=t.length - k∧(dC h d i a=QX c ((QF c).take k)∧j=Xc c ((QF c).take k)∧o=(QZ c ((QF c).take k)).isSome)∧(a.2.1∈V∧a.2.2.1∈W∧a.2.2.2∈X)∧s_=⟨[(2,lP 1 0),(3,lI 0),(4,lB false),(5,lP 2 0),(6,lI j),(7,lB o),(13,lR 3),(14,lI ((V7 c (QF c)).length:Int)),(15,lI (k:Int))],[bx 1 143 [dI 0,dB false,dI 0,dB false, .val (.slice none 0 0), .val (.slice none 0 0), .val (.slice none 0 0)],bx 2 143 [dI a.1.1.1,dB a.1.1.2,dI a.1.2.1,dB a.1.2.2, .dat .vl a.2.1, .dat .vl a.2.2.1, .dat .vl a.2.2.2],ar 3 143 Qxi t,(4,some (.pl true Ql V h)),(5,some (.pl true Qm W d)),(6,some (.pl true Qu X i))]⟩) ⟨0,((((0,false),(0,false)),(none,none,none)):((Int×Bool)×(Int×Bool))×(Hdr×Hdr×Hdr)),0,false,aS _,rfl,⟨by simp only[dC,R,T,U]; rfl,rfl,rfl⟩,(Qvt D E F),rfl⟩ ?_ ?_
 exact wo []
 rintro m_ s_ ⟨k,a,j,o,a8,b0,b,M,rfl⟩
 refine w4 ?_
 cases N:(decide ((k:Int) < ((V7 c (QF c)).length:Int)))
 have O:=aa N
 refine w11 ?_
 refine AC.wk (Qex 7 (p:=4) (v:=1) (off:=4) rfl rfl rfl M.1 (Fresh.of rfl) (nlr rfl))<|AC.wk (Qex 8 (p:=5) (v:=1) (off:=5) rfl rfl rfl M.2.1 (Fresh.of rfl) (nlr rfl))<|AC.wk (Qex 9 (p:=6) (v:=1) (off:=6) rfl rfl rfl M.2.2 (Fresh.of rfl) (nlr rfl))<|Qd ?_
 have e4:(a.1.1.1:Int)=((((QX c (QF c)).1).1).1):=by
  (rw[QH (by omega)] at b; first | rw[← b.1] | rw[b.2.1] | rw[b.2.2])
 have e5:(a.1.1.2:Bool)=((((QX c (QF c)).1).1).2):=by
  (rw[QH (by omega)] at b; first | rw[← b.1] | rw[b.2.1] | rw[b.2.2])
 have e6:(a.1.2.1:Int)=((((QX c (QF c)).1).2).1):=by
  (rw[QH (by omega)] at b; first | rw[← b.1] | rw[b.2.1] | rw[b.2.2])
 have e7:(a.1.2.2:Bool)=((((QX c (QF c)).1).2).2):=by
  (rw[QH (by omega)] at b; first | rw[← b.1] | rw[b.2.1] | rw[b.2.2])
 have e8:(j:Int)=(Xc c (QF c)):=by
  (rw[QH (by omega)] at b; first | rw[← b.1] | rw[b.2.1] | rw[b.2.2])
 have e9:(o:Bool)=((QZ c (QF c)).isSome):=by
  (rw[QH (by omega)] at b; first | rw[← b.1] | rw[b.2.1] | rw[b.2.2])
 exact fi_ [(0,7),(1,8),(2,9)] hO ⟨(Qe (by (rw[QH (by omega)] at b; first | rw[← b.1] | rw[b.2.1] | rw[b.2.2]))),(Qe (by (rw[QH (by omega)] at b; first | rw[← b.1] | rw[b.2.1] | rw[b.2.2]))),(Qe (by (rw[QH (by omega)] at b; first | rw[← b.1] | rw[b.2.1] | rw[b.2.2]))),trivial⟩ (h0:=by rw[e4,e5,e6,e7,← e8,← e9] <;> rfl)
 have O:=ab N
 refine w5 ?_
 refine lc (QE (e:=Qxi) (Qa rfl) rfl (Qa rfl) QuV Qn4 rfl (by omega) (by first | omega | (simp only[az]; omega))) ?_
 obtain ⟨y,r⟩:=gx t k
 have a1:=Qrs Z r
 obtain ⟨xk,l,m⟩:=Qtn a1
 have f:=a2 _ (ah r)
 refine lc (Vn (e:=Qxi) (Qa rfl) rfl r rfl Qn4 rfl rfl)<|lc (xal 10 QhR KM) ?_
 refine w5 ?_
 refine QgI (Wr ((h y.2.1),(d y.2.2.1),(i y.2.2.2)) (by show SgW (dC h d i y).2; rw[m]; exact SgOk.w (QgR hs (ah l)))).lens Qaw ⟨_,_,rfl,(Qxy (Qo rfl) ⟨_,_,rfl, .inr (.inr ⟨4,_,_,_,_,_,rfl,rfl,f.1,rfl⟩),⟨_,_,rfl, .inr (.inr ⟨5,_,_,_,_,_,rfl,rfl,f.2.1,rfl⟩),⟨_,_,rfl, .inr (.inr ⟨6,_,_,_,_,_,rfl,rfl,f.2.2,rfl⟩),rfl⟩⟩⟩),rfl⟩ (fun _=>rfl) (fun _=>rfl) rfl fun b3 P=>lc (Qg6 (Qa rfl) P rfl V9) ?_
 refine w6 ?_
 cases a3:(o)
 refine w9 ?_
 refine Qi rfl rfl rfl ?_ rfl
 refine Qi rfl rfl rfl ?_ rfl
 refine Qi rfl rfl rfl ?_ rfl
 refine Qi rfl rfl rfl ?_ rfl
 refine Qi rfl rfl rfl ?_ rfl
 refine Qi rfl rfl rfl ?_ rfl
 refine Qi rfl rfl rfl ?_ rfl
 refine Qi rfl rfl rfl ?_ rfl
 refine Qi rfl rfl rfl ?_ rfl
 refine w10 ?_
 refine Qb ?_
 refine w4 ?_
 refine Qb<|Q2 ⟨k+1,y,((Zt ((h y.2.1),(d y.2.2.1),(i y.2.2.2))).length:Int),true,by omega,rfl,(by exact Qis l m b (.inl ‹_›)),(by exact f),rfl⟩ (by omega) ?_
 exact wo []
 refine w5 ?_
 cases u:(decide (((Zt ((h y.2.1),(d y.2.2.1),(i y.2.2.2))).length:Int) < j))
 have G:=aa u
 refine w4 ?_
 cases z:(decide (((Zt ((h y.2.1),(d y.2.2.1),(i y.2.2.2))).length:Int)=j))
 have H:=aa z
 refine w16 ?_
 refine w2 ?_
 refine Qb<|Q2 ⟨k+1,a,j,true,by omega,rfl,(by exact Qnj l m b ‹_› ‹_› (fun g=>absurd g.1 ‹_›)),(by exact M),rfl⟩ (by omega) ?_
 exact wo []
 have H:=ab z
 refine w3 ?_
 refine lgy rfl rfl (Qgn (p:=5) (Qa rfl) rfl f.2.1 rfl UF) ?_
 refine w3 ?_
 refine lgy rfl rfl (Qgn (p:=5) (Qa rfl) rfl M.2.1 rfl UF) ?_
 refine w4 ?_
 cases B:(decide (((d y.2.2.1).length:Int) < ((d a.2.2.1).length:Int)))
 have J:=aa B
 refine w6 ?_
 refine Qb<|Q2 ⟨k+1,a,j,true,by omega,rfl,(by exact Qnj l m b ‹_› ‹_› (fun g=>absurd g.2 ‹_›)),(by exact M),rfl⟩ (by omega) ?_
 exact wo []
 have J:=ab B
 refine w7 ?_
 refine Qb ?_
 refine w4 ?_
 refine Qb<|Q2 ⟨k+1,y,((Zt ((h y.2.1),(d y.2.2.1),(i y.2.2.2))).length:Int),true,by omega,rfl,(by exact Qis l m b (.inr (.inr ⟨by assumption,by assumption⟩))),(by exact f),rfl⟩ (by omega) ?_
 exact wo []
 have G:=ab u
 refine w4 ?_
 refine Qi rfl rfl rfl ?_ rfl
 refine Qi rfl rfl rfl ?_ rfl
 refine Qi rfl rfl rfl ?_ rfl
 refine Qi rfl rfl rfl ?_ rfl
 refine Qi rfl rfl rfl ?_ rfl
 refine Qi rfl rfl rfl ?_ rfl
 refine Qi rfl rfl rfl ?_ rfl
 refine Qi rfl rfl rfl ?_ rfl
 refine Qi rfl rfl rfl ?_ rfl
 refine w10 ?_
 refine Qb ?_
 refine w4 ?_
 refine Qb<|Q2 ⟨k+1,y,((Zt ((h y.2.1),(d y.2.2.1),(i y.2.2.2))).length:Int),true,by omega,rfl,(by exact Qis l m b (.inr (.inl ‹_›))),(by exact f),rfl⟩ (by omega) ?_
 exact wo []
theorem K8 (c:ZB)(b:SgOk c):FC Tryz.prog 113 [(true,[.dat Ql c.1, .dat Qm c.2.1, .dat Qu c.2.2])] [] 0 (Is (ag [.ref 0, .ref 1, .ref 2]) [ar 0 44 Qz c.1,ar 1 9 .str c.2.1,ar 2 46 Qs c.2.2]):=by
 have k:=b.sigs.2.2
 have j:=b.some_
 have i:=b.few
 refine Qt Tryz.func113 rfl rfl Tryz.ntmps113 fun m h l d o g f=> ?_
 refine w_ ?_
 refine xbx 0 ?_
 refine lc (xal 1 X2 ZC) ?_
 refine w_ ?_
 apply dW [⟨some 3,lR 2,[ar 2 44 Qz ([])]⟩,io 4 (lP 0 0),io 5 (lf (.dat Ql c.1)),⟨some 6,lR 3,[ar 3 44 Qz (([])++c.1),(2,none)]⟩,⟨some 7,lR 4,[ar 4 9 .str ([])]⟩,io 8 (lP 0 1),io 9 (lf (.dat Qm c.2.1)),⟨some 10,lR 5,[ar 5 9 .str (([])++c.2.1),(4,none)]⟩,⟨some 11,lR 6,[ar 6 46 Qs ([])]⟩,io 12 (lP 0 2),io 13 (lf (.dat Qu c.2.2)),⟨some 14,lR 7,[ar 7 46 Qs (([])++c.2.2),(6,none)]⟩,io 15 (ag [.ref 3, .ref 5, .ref 7]),⟨none,lf (.val undef),[bx 1 27 [.ref 3, .ref 5, .ref 7]]⟩] [0,1,1,0,15,31,31,0,255,511,511,0,0,0]
 refine zz (fun _ a=>ac (dBs 2 (e:=Qz) WA) rfl) ?_
 refine z2 ?_
 refine zz (fun _ a=>ac (QU 3 (a.v rfl) (a.en 2 rfl) (Evl.rep (a.v rfl)) rfl JT UG (by first | omega | (simp only[ae,aC,ap,aj,aA]; omega) | (simp only[ae,bo,ap,aj,aA]; omega)) rfl (a.fr 3 rfl) (nlr rfl)) rfl) ?_
 refine zz (fun _ a=>ac (dBs 4 (e:= .str) Va) rfl) ?_
 refine z2 ?_
 refine zz (fun _ a=>ac (QU 5 (a.v rfl) (a.en 4 rfl) (Evl.rep (a.v rfl)) rfl UF Js (by first | omega | (simp only[ae,aC,ap,aj,aA]; omega) | (simp only[ae,bo,ap,aj,aA]; omega)) rfl (a.fr 5 rfl) (nlr rfl)) rfl) ?_
 refine zz (fun _ a=>ac (dBs 6 (e:=Qs) Zg) rfl) ?_
 refine z2 ?_
 refine zz (fun _ a=>ac (QU 7 (a.v rfl) (a.en 6 rfl) (Evl.rep (a.v rfl)) rfl WM UM (by first | omega | (simp only[ae,aC,ap,aj,aA]; omega) | (simp only[ae,bo,ap,aj,aA]; omega)) rfl (a.fr 7 rfl) (nlr rfl)) rfl)<|zz (fun _ a=>ac (Qg ZU ⟨_,_,rfl,(a.w rfl),⟨_,_,rfl,(a.w rfl),⟨_,_,rfl,(a.w rfl),rfl⟩⟩⟩ (au.1 (by show ((QQ _ [.ref 3]&&(QQ _ [.ref 5]&&(QQ _ [.ref 7]&&true))))=true; simp only[QQ,Xz,aY,br]; rw[(a.en 3 rfl),(a.en 5 rfl),(a.en 7 rfl)]; rfl)) rfl rfl) rfl)<|zz (fun _ a=>ac (QO (a.v rfl) (a.en 1 rfl) (a.w rfl) (by show QQ _ [.ref 3, .ref 5, .ref 7]=true; simp only[QQ,Xz,aY,br]; rw[(a.en 3 rfl),(a.en 5 rfl),(a.en 7 rfl)]; rfl) YL rfl) rfl) ?_
 exact zN
 refine w_ ?_
 exact fi_ [(0,3),(1,5),(2,7)] h ⟨(Qe (by rfl)),(Qe (by rfl)),(Qe (by rfl)),trivial⟩
theorem QfX (c:ZB)(b:SgOk c):FC Tryz.prog 116 [(true,[.dat Ql c.1, .dat Qm c.2.1, .dat Qu c.2.2])] [] 0 (Is (ag [.ref 0, .ref 1, .ref 2]) [ar 0 44 Qz c.1,ar 1 9 .str c.2.1,ar 2 46 Qs c.2.2]):=by
 have k:=b.sigs.2.2
 have j:=b.some_
 have i:=b.few
 refine Qt Tryz.func116 rfl rfl Tryz.ntmps116 fun m h l d o g f=> ?_
 refine w_ ?_
 refine xbx 0 ?_
 refine lc (xal 1 X2 ZC) ?_
 refine w_ ?_
 apply dW [⟨some 3,lR 2,[ar 2 44 Qz ([])]⟩,io 4 (lP 0 0),io 5 (lf (.dat Ql c.1)),⟨some 6,lR 3,[ar 3 44 Qz (([])++c.1),(2,none)]⟩,io 7 (lP 0 1),io 8 (lf (.dat Qm c.2.1)),⟨some 9,lR 4,[ar 4 9 .str c.2.1]⟩,⟨some 10,lR 5,[ar 5 46 Qs ([])]⟩,io 11 (lP 0 2),io 12 (lf (.dat Qu c.2.2)),⟨some 13,lR 6,[ar 6 46 Qs (([])++c.2.2),(5,none)]⟩,io 14 (ag [.ref 3, .ref 4, .ref 6]),⟨none,lf (.val undef),[bx 1 27 [.ref 3, .ref 4, .ref 6]]⟩] [0,1,1,0,15,15,0,127,255,255,0,0,0]
 refine zz (fun _ a=>ac (dBs 2 (e:=Qz) WA) rfl) ?_
 refine z2 ?_
 refine zz (fun _ a=>ac (QU 3 (a.v rfl) (a.en 2 rfl) (Evl.rep (a.v rfl)) rfl JT UG (by first | omega | (simp only[ae,aC,ap,aj,aA]; omega) | (simp only[ae,bo,ap,aj,aA]; omega)) rfl (a.fr 3 rfl) (nlr rfl)) rfl) ?_
 refine z2 ?_
 refine zz (fun _ a=>ac (dO 4 (Qfp c.2.1 (by omega)) Qlu) rfl) ?_
 refine zz (fun _ a=>ac (dBs 5 (e:=Qs) Zg) rfl) ?_
 refine z2 ?_
 refine zz (fun _ a=>ac (QU 6 (a.v rfl) (a.en 5 rfl) (Evl.rep (a.v rfl)) rfl WM UM (by first | omega | (simp only[ae,aC,ap,aj,aA]; omega) | (simp only[ae,bo,ap,aj,aA]; omega)) rfl (a.fr 6 rfl) (nlr rfl)) rfl)<|zz (fun _ a=>ac (Qg ZU ⟨_,_,rfl,(a.w rfl),⟨_,_,rfl,(a.w rfl),⟨_,_,rfl,(a.w rfl),rfl⟩⟩⟩ (au.1 (by show ((QQ _ [.ref 3]&&(QQ _ [.ref 4]&&(QQ _ [.ref 6]&&true))))=true; simp only[QQ,Xz,aY,br]; rw[(a.en 3 rfl),(a.en 4 rfl),(a.en 6 rfl)]; rfl)) rfl rfl) rfl)<|zz (fun _ a=>ac (QO (a.v rfl) (a.en 1 rfl) (a.w rfl) (by show QQ _ [.ref 3, .ref 4, .ref 6]=true; simp only[QQ,Xz,aY,br]; rw[(a.en 3 rfl),(a.en 4 rfl),(a.en 6 rfl)]; rfl) YL rfl) rfl) ?_
 exact zN
 refine w_ ?_
 exact fi_ [(0,3),(1,4),(2,6)] h ⟨(Qe (by rfl)),rfl,(Qe (by rfl)),trivial⟩
theorem UC (c:ZB)[∀c,Decidable (SgOk c)][∀s,Decidable (Zx s)]:FC Tryz.prog 27 [(true,[.dat Ql c.1, .dat Qm c.2.1, .dat Qu c.2.2])] [] 0 (Is (PV.tup [(true,[.ref 0, .ref 1, .ref 2]),(false,[.ref 3]),(false,[dB ((ZT c).2.2)])]) [ar 0 44 Qz (((ZT c).1).1),ar 1 9 .str (((ZT c).1).2.1),ar 2 46 Qs (((ZT c).1).2.2),ar 3 141 Ys ((ZT c).2.1)]):=by
 refine Qt Tryz.func27 rfl rfl Tryz.ntmps27 fun P k O G Q L K=> ?_
 refine w_ ?_
 refine xbx 0 ?_
 refine lc (xal 1 X2 ZC) ?_
 refine w6 ?_
 refine lc (dK (Zw c) V4) ?_
 refine w2 ?_
 cases l:(decide (SgOk c))
 have m:=aa l
 refine w2 ?_
 refine lc (Qg ZU rfl (au.1 rfl) rfl rfl) ?_
 refine w4 ?_
 refine AC.wk (Qn 2 (p:=1) (off:=0) 44 Qz rfl rfl (Fresh.of rfl) (nlr rfl))<|AC.wk (Qn 3 (p:=1) (off:=1) 9 .str rfl rfl (Fresh.of rfl) (nlr rfl))<|AC.wk (Qn 4 (p:=1) (off:=2) 46 Qs rfl rfl (Fresh.of rfl) (nlr rfl))<|AC.wk (Wk.nilS 5 3 141 Ys rfl (Fresh.of rfl) (nlr rfl))<|Qd ?_
 have H:(false:Bool)=((ZT c).2.2):=by
  (rw[W6 ‹_›]; done)
 exact fi_ [(0,2),(1,3),(2,4),(3,5)] k ⟨(Qe (by (rw[W6 ‹_›]; rfl))),(Qe (by (rw[W6 ‹_›]; rfl))),(Qe (by (rw[W6 ‹_›]; rfl))),(Qe (by (rw[W6 ‹_›]; done))),trivial⟩ (h0:=by rw[← H] <;> rfl)
 have m:=ab l
 refine w4 ?_
 refine lc (dG 6 (K8 c ‹_›) QkH) ?_
 refine lc (dBs 9 (e:=Ys) VE) ?_
 refine lc (xal 10 X2 ZC) ?_
 refine w6 ?_
 refine QgI (Wr c (SgOk.w ‹_›)).lens Qaw ⟨_,_,rfl,(XI (Qo rfl) ⟨_,_,rfl, .inr ⟨_,_,_,_,rfl,rfl,rfl⟩,⟨_,_,rfl, .inr ⟨_,_,_,_,rfl,rfl,rfl⟩,⟨_,_,rfl, .inr ⟨_,_,_,_,rfl,rfl,rfl⟩,rfl⟩⟩⟩),rfl⟩ (fun _=>rfl) (fun _=>rfl) rfl fun v3 B=>lc (Qg6 (Qa rfl) B rfl V9) ?_
 refine w3 ?_
 refine QL (fun E F=>∃(og:(List (ByteArray×Int))×List ByteArray×(List (Int×Int×Bool×Int))) (il:List ((Int×Bool)×(Int×Bool))) (b:Int),E=2 - il.length∧(SgOk og)∧(il.length≤2)∧(Xa 2 c []=Xa (2 - il.length) og il)∧(b=((Zt og).length:Int))∧F=⟨[(2,lP 1 0),(5,lP 10 0),(6,lR 14),(7,lI b)],[bx 1 27 [.val (.slice none 0 0), .val (.slice none 0 0), .val (.slice none 0 0)],bx 10 27 [.ref 11, .ref 12, .ref 13],ar 11 44 Qz og.1,ar 12 9 .str og.2.1,ar 13 46 Qs og.2.2,ar 14 141 Ys il]⟩) ⟨c,([]:(Qk5:Ty).Den),((Zt c).length:Int),rfl,‹_›,(by simp),rfl,rfl,rfl⟩ ?_ ?_
 exact wp [(11,6),(12,7),(13,8),(14,9)] ⟨rfl,rfl,rfl,rfl,rfl,(Qe (by first | rfl | simp)),trivial⟩
 rintro E F ⟨og,il,b,N,D,T,a,R,rfl⟩
 refine w5 ?_
 cases o:(decide (0 < b))
 have q:=aa o
 refine w11 ?_
 have J:(true:Bool)=((ZT c).2.2):=by
  (rw[YY (og:=og) (il:=il) ‹_› (a.trans (ZZ (fun g=>absurd g.1 (by omega)))) (by omega)]; done)
 exact fi_ [(0,11),(1,12),(2,13),(3,14)] k ⟨(Qe (by (rw[YY (og:=og) (il:=il) ‹_› (a.trans (ZZ (fun g=>absurd g.1 (by omega)))) (by omega)]; done))),(Qe (by (rw[YY (og:=og) (il:=il) ‹_› (a.trans (ZZ (fun g=>absurd g.1 (by omega)))) (by omega)]; done))),(Qe (by (rw[YY (og:=og) (il:=il) ‹_› (a.trans (ZZ (fun g=>absurd g.1 (by omega)))) (by omega)]; done))),(Qe (by (rw[YY (og:=og) (il:=il) ‹_› (a.trans (ZZ (fun g=>absurd g.1 (by omega)))) (by omega)]; done))),trivial⟩ (h0:=by rw[← J] <;> rfl)
 have q:=ab o
 refine w5 ?_
 refine lc (Uk 15 (QjF og D) QmJ ⟨_,_,rfl,(XI (Qo rfl) ⟨_,_,rfl, .inr ⟨_,_,_,_,rfl,rfl,rfl⟩,⟨_,_,rfl, .inr ⟨_,_,_,_,rfl,rfl,rfl⟩,⟨_,_,rfl, .inr ⟨_,_,_,_,rfl,rfl,rfl⟩,rfl⟩⟩⟩),rfl⟩ rfl rfl rfl ⟨Fresh.of rfl,Fresh.of rfl,Fresh.of rfl,trivial⟩ (nlr rfl)) ?_
 refine w4 ?_
 refine lc (xal 18 QhR KM) ?_
 refine w9 ?_
 cases M:((QZ og (QF og)).isSome)
 refine w12 ?_
 refine lc (Qg ZU rfl (au.1 rfl) rfl rfl) ?_
 refine w4 ?_
 refine AC.wk (Qn 19 (p:=1) (off:=0) 44 Qz rfl rfl (Fresh.of rfl) (nlr rfl))<|AC.wk (Qn 20 (p:=1) (off:=1) 9 .str rfl rfl (Fresh.of rfl) (nlr rfl))<|AC.wk (Qn 21 (p:=1) (off:=2) 46 Qs rfl rfl (Fresh.of rfl) (nlr rfl))<|AC.wk (Wk.nilS 22 3 141 Ys rfl (Fresh.of rfl) (nlr rfl))<|Qd ?_
 have r:(false:Bool)=((ZT c).2.2):=by
  (rw[Q1 (og:=og) (il:=il) (a.trans (ZZ (fun g=>Bool.noConfusion (g.2.1.symm.trans (show (QZ og (QF og)).isSome=false by assumption))))) (by omega)]; done)
 exact fi_ [(0,19),(1,20),(2,21),(3,22)] k ⟨(Qe (by (rw[Q1 (og:=og) (il:=il) (a.trans (ZZ (fun g=>Bool.noConfusion (g.2.1.symm.trans (show (QZ og (QF og)).isSome=false by assumption))))) (by omega)]; rfl))),(Qe (by (rw[Q1 (og:=og) (il:=il) (a.trans (ZZ (fun g=>Bool.noConfusion (g.2.1.symm.trans (show (QZ og (QF og)).isSome=false by assumption))))) (by omega)]; rfl))),(Qe (by (rw[Q1 (og:=og) (il:=il) (a.trans (ZZ (fun g=>Bool.noConfusion (g.2.1.symm.trans (show (QZ og (QF og)).isSome=false by assumption))))) (by omega)]; rfl))),(Qe (by (rw[Q1 (og:=og) (il:=il) (a.trans (ZZ (fun g=>Bool.noConfusion (g.2.1.symm.trans (show (QZ og (QF og)).isSome=false by assumption))))) (by omega)]; done))),trivial⟩ (h0:=by rw[← r] <;> rfl)
 refine w5 ?_
 cases f:(decide (b≤(Xc og (QF og))))
 have i:=aa f
 refine w5 ?_
 cases h:(decide ((il.length:Int)=2))
 have j:=aa h
 refine w2 ?_
 apply dV (i5 42 _ _ _ _ _ (⟨some 47,lR 23,[ar 23 141 Ys ([(((((QX og (QF og)).1).1).1,(((QX og (QF og)).1).1).2),((((QX og (QF og)).1).2).1,(((QX og (QF og)).1).2).2))])]⟩ :: ⟨some 48,lR 24,[ar 24 141 Ys (il++([(((((QX og (QF og)).1).1).1,(((QX og (QF og)).1).1).2),((((QX og (QF og)).1).2).1,(((QX og (QF og)).1).2).2))])),(14,none),(23,none)]⟩ :: io 49 (lI (Xc og (QF og))) :: ⟨none,lf (.val undef),[bx 10 27 [.ref 15, .ref 16, .ref 17]]⟩ :: i2 6 _ _ [])) [0,0,3,7,7,7,3,127,128,128,0]
 refine z5 ?_
 refine zz (fun _ d=>ac (dBs 23 (e:=Ys) VE (hab:=by exact ⟨_,_,_,_,rfl,⟨[dI ((((QX og (QF og)).1).1).1),dB ((((QX og (QF og)).1).1).2)],[dI ((((QX og (QF og)).1).2).1),dB ((((QX og (QF og)).1).2).2)],_,_,_,_,rfl,rfl,⟨[dI ((((QX og (QF og)).1).1).1)],[dB ((((QX og (QF og)).1).1).2)],_,_,_,_,rfl,rfl,⟨rfl,rfl⟩,⟨rfl,rfl⟩,rfl⟩,⟨[dI ((((QX og (QF og)).1).2).1)],[dB ((((QX og (QF og)).1).2).2)],_,_,_,_,rfl,rfl,⟨rfl,rfl⟩,⟨rfl,rfl⟩,rfl⟩,rfl⟩,⟨rfl,rfl⟩,rfl⟩)) rfl) ?_
 refine zz (fun _ d=>ac (dA 24 QhX) rfl) ?_
 refine z_ ?_
 refine zz (fun _ d=>ac (QO (d.v rfl) (d.en 10 rfl) (d.w rfl) (by show QQ _ [.ref 15, .ref 16, .ref 17]=true; simp only[QQ,Xz,aY,br]; rw[(d.en 15 rfl),(d.en 16 rfl),(d.en 17 rfl)]; rfl) YL rfl) rfl) ?_
 exact y2
 refine Q2 ⟨((QX og (QF og)).2),(il++([(((((QX og (QF og)).1).1).1,(((QX og (QF og)).1).1).2),((((QX og (QF og)).1).2).1,(((QX og (QF og)).1).2).2))])),(Xc og (QF og)),rfl,(QaN D ‹_›),(by simp only[ae,aj,aA]; omega),(a.trans (Qvf (by omega) ⟨by omega,by assumption,by omega⟩)),(by (obtain ⟨U,_,_,_,y,z⟩:=J8 ‹_›; rw[y,z]; rfl)),rfl⟩ (by simp only[ae,aj,aA]; omega) ?_
 exact wp [(11,15),(12,16),(13,17),(14,24)] ⟨rfl,rfl,rfl,rfl,rfl,(Qe (by first | rfl | simp)),trivial⟩
 have j:=ab h
 refine w2 ?_
 refine lc (Qg ZU rfl (au.1 rfl) rfl rfl) ?_
 refine w4 ?_
 refine AC.wk (Qn 25 (p:=1) (off:=0) 44 Qz rfl rfl (Fresh.of rfl) (nlr rfl))<|AC.wk (Qn 26 (p:=1) (off:=1) 9 .str rfl rfl (Fresh.of rfl) (nlr rfl))<|AC.wk (Qn 27 (p:=1) (off:=2) 46 Qs rfl rfl (Fresh.of rfl) (nlr rfl))<|AC.wk (Wk.nilS 28 3 141 Ys rfl (Fresh.of rfl) (nlr rfl))<|Qd ?_
 have t:(false:Bool)=((ZT c).2.2):=by
  (rw[Q1 (og:=og) (il:=il) (a.trans (by rw[show 2 - il.length=0 by omega]; rfl)) (by omega)]; done)
 exact fi_ [(0,25),(1,26),(2,27),(3,28)] k ⟨(Qe (by (rw[Q1 (og:=og) (il:=il) (a.trans (by rw[show 2 - il.length=0 by omega]; rfl)) (by omega)]; rfl))),(Qe (by (rw[Q1 (og:=og) (il:=il) (a.trans (by rw[show 2 - il.length=0 by omega]; rfl)) (by omega)]; rfl))),(Qe (by (rw[Q1 (og:=og) (il:=il) (a.trans (by rw[show 2 - il.length=0 by omega]; rfl)) (by omega)]; rfl))),(Qe (by (rw[Q1 (og:=og) (il:=il) (a.trans (by rw[show 2 - il.length=0 by omega]; rfl)) (by omega)]; done))),trivial⟩ (h0:=by rw[← t] <;> rfl)
 have i:=ab f
 refine w7 ?_
 refine lc (Qg ZU rfl (au.1 rfl) rfl rfl) ?_
 refine w4 ?_
 refine AC.wk (Qn 29 (p:=1) (off:=0) 44 Qz rfl rfl (Fresh.of rfl) (nlr rfl))<|AC.wk (Qn 30 (p:=1) (off:=1) 9 .str rfl rfl (Fresh.of rfl) (nlr rfl))<|AC.wk (Qn 31 (p:=1) (off:=2) 46 Qs rfl rfl (Fresh.of rfl) (nlr rfl))<|AC.wk (Wk.nilS 32 3 141 Ys rfl (Fresh.of rfl) (nlr rfl))<|Qd ?_
 have u:(false:Bool)=((ZT c).2.2):=by
  (rw[Q1 (og:=og) (il:=il) (a.trans (ZZ (fun g=>absurd g.2.2 (by omega)))) (by omega)]; done)
 exact fi_ [(0,29),(1,30),(2,31),(3,32)] k ⟨(Qe (by (rw[Q1 (og:=og) (il:=il) (a.trans (ZZ (fun g=>absurd g.2.2 (by omega)))) (by omega)]; rfl))),(Qe (by (rw[Q1 (og:=og) (il:=il) (a.trans (ZZ (fun g=>absurd g.2.2 (by omega)))) (by omega)]; rfl))),(Qe (by (rw[Q1 (og:=og) (il:=il) (a.trans (ZZ (fun g=>absurd g.2.2 (by omega)))) (by omega)]; rfl))),(Qe (by (rw[Q1 (og:=og) (il:=il) (a.trans (ZZ (fun g=>absurd g.2.2 (by omega)))) (by omega)]; done))),trivial⟩ (h0:=by rw[← u] <;> rfl)
theorem UE (c:ZB)[∀c,Decidable (SgOk c)][∀s,Decidable (Zx s)]:FC Tryz.prog 28 [(true,[.dat Ql c.1, .dat Qm c.2.1, .dat Qu c.2.2])] [] 0 (Is (PV.tup [(true,[.ref 0, .ref 1, .ref 2]),(false,[.ref 3]),(false,[dB ((ZT c).2.2)])]) [ar 0 44 Qz (((ZT c).1).1),ar 1 9 .str (((ZT c).1).2.1),ar 2 46 Qs (((ZT c).1).2.2),ar 3 141 Ys ((ZT c).2.1)]):=by
 refine Qt Tryz.func28 rfl rfl Tryz.ntmps28 fun P i O F Q L K=> ?_
 refine w_ ?_
 refine xbx 0 ?_
 refine lc (xal 1 X2 ZC) ?_
 refine w6 ?_
 refine lc (dK (YO c) WZ) ?_
 refine w2 ?_
 cases j:(decide (SgOk c))
 have l:=aa j
 refine w2 ?_
 refine lc (Qg ZU rfl (au.1 rfl) rfl rfl) ?_
 refine w4 ?_
 refine AC.wk (Qn 2 (p:=1) (off:=0) 44 Qz rfl rfl (Fresh.of rfl) (nlr rfl))<|AC.wk (Qn 3 (p:=1) (off:=1) 9 .str rfl rfl (Fresh.of rfl) (nlr rfl))<|AC.wk (Qn 4 (p:=1) (off:=2) 46 Qs rfl rfl (Fresh.of rfl) (nlr rfl))<|AC.wk (Wk.nilS 5 3 141 Ys rfl (Fresh.of rfl) (nlr rfl))<|Qd ?_
 have G:(false:Bool)=((ZT c).2.2):=by
  (rw[W6 ‹_›]; done)
 exact fi_ [(0,2),(1,3),(2,4),(3,5)] i ⟨(Qe (by (rw[W6 ‹_›]; rfl))),(Qe (by (rw[W6 ‹_›]; rfl))),(Qe (by (rw[W6 ‹_›]; rfl))),(Qe (by (rw[W6 ‹_›]; done))),trivial⟩ (h0:=by rw[← G] <;> rfl)
 have l:=ab j
 refine w4 ?_
 refine lc (dG 6 (QfX c ‹_›) QmL) ?_
 refine lc (xal 9 X2 ZC) ?_
 refine w10 ?_
 refine AC.wk (Wk.nilS 13 6 141 Ys rfl (Fresh.of rfl) (nlr rfl)) ?_
 refine QL (fun D E=>∃(k:Nat) (og:(List (ByteArray×Int))×List ByteArray×(List (Int×Int×Bool×Int))) (il:List ((Int×Bool)×(Int×Bool))),k≤2∧D=2 - k∧(SgOk og)∧(il.length=k)∧(Xa 2 c []=Xa (2 - k) og il)∧E=⟨[(2,lP 1 0),(3,lf (.val (.slice none 0 0))),(4,lB false),(5,lP 9 0),(6,lR 14),(7,lI (k:Int))],[bx 1 27 [.val (.slice none 0 0), .val (.slice none 0 0), .val (.slice none 0 0)],bx 9 27 [.ref 10, .ref 11, .ref 12],ar 10 44 Qz og.1,ar 11 9 .str og.2.1,ar 12 46 Qs og.2.2,ar 14 141 Ys il]⟩) ⟨0,c,([]:(Qk5:Ty).Den),aS _,rfl,‹_›,rfl,rfl,rfl⟩ ?_ ?_
 exact wp [(10,6),(11,7),(12,8),(14,13)] ⟨rfl,rfl,rfl,rfl,rfl,(Qe (by first | rfl | simp)),trivial⟩
 rintro D E ⟨k,og,il,M,N,d,R,a,rfl⟩
 refine w5 ?_
 cases r:(decide ((k:Int) < 2))
 have t:=aa r
 refine w12 ?_
 refine lc (Yr 15 (ZF og (SgOk.w d)) Wb ⟨_,_,rfl,(XI (Qo rfl) ⟨_,_,rfl, .inr ⟨_,_,_,_,rfl,rfl,rfl⟩,⟨_,_,rfl, .inr ⟨_,_,_,_,rfl,rfl,rfl⟩,⟨_,_,rfl, .inr ⟨_,_,_,_,rfl,rfl,rfl⟩,rfl⟩⟩⟩),rfl⟩ rfl (Fresh.of rfl) (nlr rfl)) ?_
 refine w3 ?_
 refine cd_ (fun _ _=> ?_) fun _ _=> ?_
 refine w9 ?_
 have H:(true:Bool)=((ZT c).2.2):=by
  (rw[YY (og:=og) (il:=il) ‹_› (a.trans (by rw[show 2 - k=0 by omega]; rfl)) (by omega)]; done)
 exact fi_ [(0,10),(1,11),(2,12),(3,14)] i ⟨(Qe (by (rw[YY (og:=og) (il:=il) ‹_› (a.trans (by rw[show 2 - k=0 by omega]; rfl)) (by omega)]; done))),(Qe (by (rw[YY (og:=og) (il:=il) ‹_› (a.trans (by rw[show 2 - k=0 by omega]; rfl)) (by omega)]; done))),(Qe (by (rw[YY (og:=og) (il:=il) ‹_› (a.trans (by rw[show 2 - k=0 by omega]; rfl)) (by omega)]; done))),(Qe (by (rw[YY (og:=og) (il:=il) ‹_› (a.trans (by rw[show 2 - k=0 by omega]; rfl)) (by omega)]; done))),trivial⟩ (h0:=by rw[← H] <;> rfl)
 refine w_ ?_
 refine lc (Qg ZU rfl (au.1 rfl) rfl rfl) ?_
 refine w4 ?_
 refine AC.wk (Qn 16 (p:=1) (off:=0) 44 Qz rfl rfl (Fresh.of rfl) (nlr rfl))<|AC.wk (Qn 17 (p:=1) (off:=1) 9 .str rfl rfl (Fresh.of rfl) (nlr rfl))<|AC.wk (Qn 18 (p:=1) (off:=2) 46 Qs rfl rfl (Fresh.of rfl) (nlr rfl))<|AC.wk (Wk.nilS 19 3 141 Ys rfl (Fresh.of rfl) (nlr rfl))<|Qd ?_
 have J:(false:Bool)=((ZT c).2.2):=by
  (rw[Q1 (og:=og) (il:=il) (a.trans (by rw[show 2 - k=0 by omega]; rfl)) (by omega)]; done)
 exact fi_ [(0,16),(1,17),(2,18),(3,19)] i ⟨(Qe (by (rw[Q1 (og:=og) (il:=il) (a.trans (by rw[show 2 - k=0 by omega]; rfl)) (by omega)]; rfl))),(Qe (by (rw[Q1 (og:=og) (il:=il) (a.trans (by rw[show 2 - k=0 by omega]; rfl)) (by omega)]; rfl))),(Qe (by (rw[Q1 (og:=og) (il:=il) (a.trans (by rw[show 2 - k=0 by omega]; rfl)) (by omega)]; rfl))),(Qe (by (rw[Q1 (og:=og) (il:=il) (a.trans (by rw[show 2 - k=0 by omega]; rfl)) (by omega)]; done))),trivial⟩ (h0:=by rw[← J] <;> rfl)
 have t:=ab r
 refine w_ ?_
 refine lgy rfl rfl (Yr 20 (ZF og (SgOk.w d)) Wb ⟨_,_,rfl,(XI (Qo rfl) ⟨_,_,rfl, .inr ⟨_,_,_,_,rfl,rfl,rfl⟩,⟨_,_,rfl, .inr ⟨_,_,_,_,rfl,rfl,rfl⟩,⟨_,_,rfl, .inr ⟨_,_,_,_,rfl,rfl,rfl⟩,rfl⟩⟩⟩),rfl⟩ rfl (Fresh.of rfl) (nlr rfl)) ?_
 refine w4 ?_
 cases f:(decide (0 < ((Zt og).length:Int)))
 have u:=aa f
 refine w6 ?_
 refine lc (Yr 21 (ZF og (SgOk.w d)) Wb ⟨_,_,rfl,(XI (Qo rfl) ⟨_,_,rfl, .inr ⟨_,_,_,_,rfl,rfl,rfl⟩,⟨_,_,rfl, .inr ⟨_,_,_,_,rfl,rfl,rfl⟩,⟨_,_,rfl, .inr ⟨_,_,_,_,rfl,rfl,rfl⟩,rfl⟩⟩⟩),rfl⟩ rfl (Fresh.of rfl) (nlr rfl)) ?_
 refine w3 ?_
 have m:(decide (0 < ((Zt og).length:Int)))=false:=f
 try rw[m]
 refine w10 ?_
 have v:(true:Bool)=((ZT c).2.2):=by
  (rw[YY (og:=og) (il:=il) ‹_› (a.trans (ZH d (.inl (by omega)))) (by omega)]; done)
 exact fi_ [(0,10),(1,11),(2,12),(3,14)] i ⟨(Qe (by (rw[YY (og:=og) (il:=il) ‹_› (a.trans (ZH d (.inl (by omega)))) (by omega)]; done))),(Qe (by (rw[YY (og:=og) (il:=il) ‹_› (a.trans (ZH d (.inl (by omega)))) (by omega)]; done))),(Qe (by (rw[YY (og:=og) (il:=il) ‹_› (a.trans (ZH d (.inl (by omega)))) (by omega)]; done))),(Qe (by (rw[YY (og:=og) (il:=il) ‹_› (a.trans (ZH d (.inl (by omega)))) (by omega)]; done))),trivial⟩ (h0:=by rw[← v] <;> rfl)
 have u:=ab f
 refine w6 ?_
 refine lc (YF (Qdc og d) QmF ⟨_,_,rfl,(XI (Qo rfl) ⟨_,_,rfl, .inr ⟨_,_,_,_,rfl,rfl,rfl⟩,⟨_,_,rfl, .inr ⟨_,_,_,_,rfl,rfl,rfl⟩,⟨_,_,rfl, .inr ⟨_,_,_,_,rfl,rfl,rfl⟩,rfl⟩⟩⟩),rfl⟩ rfl rfl rfl) ?_
 refine w3 ?_
 refine lc (xal 22 Ys VE) ?_
 refine w6 ?_
 refine lc (YF (WK og (Zi og (QF og))) Qe4 ⟨_,_,rfl,(XI (Qo rfl) ⟨_,_,rfl, .inr ⟨_,_,_,_,rfl,rfl,rfl⟩,⟨_,_,rfl, .inr ⟨_,_,_,_,rfl,rfl,rfl⟩,⟨_,_,rfl, .inr ⟨_,_,_,_,rfl,rfl,rfl⟩,rfl⟩⟩⟩),⟨_,_,rfl,(Ev.b (Qo rfl)),rfl⟩⟩ rfl rfl rfl) ?_
 refine w13 ?_
 cases B:((QZ og (QF og)).isSome)
 refine w13 ?_
 refine lc (Yr 23 (ZF og (SgOk.w d)) Wb ⟨_,_,rfl,(XI (Qo rfl) ⟨_,_,rfl, .inr ⟨_,_,_,_,rfl,rfl,rfl⟩,⟨_,_,rfl, .inr ⟨_,_,_,_,rfl,rfl,rfl⟩,⟨_,_,rfl, .inr ⟨_,_,_,_,rfl,rfl,rfl⟩,rfl⟩⟩⟩),rfl⟩ rfl (Fresh.of rfl) (nlr rfl)) ?_
 refine w3 ?_
 have o:(decide (0 < ((Zt og).length:Int)))=true:=f
 try rw[o]
 refine w2 ?_
 refine lc (Qg ZU rfl (au.1 rfl) rfl rfl) ?_
 refine w4 ?_
 refine AC.wk (Qn 24 (p:=1) (off:=0) 44 Qz rfl rfl (Fresh.of rfl) (nlr rfl))<|AC.wk (Qn 25 (p:=1) (off:=1) 9 .str rfl rfl (Fresh.of rfl) (nlr rfl))<|AC.wk (Qn 26 (p:=1) (off:=2) 46 Qs rfl rfl (Fresh.of rfl) (nlr rfl))<|AC.wk (Wk.nilS 27 3 141 Ys rfl (Fresh.of rfl) (nlr rfl))<|Qd ?_
 have y:(false:Bool)=((ZT c).2.2):=by
  (rw[Q1 (og:=og) (il:=il) (a.trans (ZH d (.inr (.inl ‹_›)))) (by omega)]; done)
 exact fi_ [(0,24),(1,25),(2,26),(3,27)] i ⟨(Qe (by (rw[Q1 (og:=og) (il:=il) (a.trans (ZH d (.inr (.inl ‹_›)))) (by omega)]; rfl))),(Qe (by (rw[Q1 (og:=og) (il:=il) (a.trans (ZH d (.inr (.inl ‹_›)))) (by omega)]; rfl))),(Qe (by (rw[Q1 (og:=og) (il:=il) (a.trans (ZH d (.inr (.inl ‹_›)))) (by omega)]; rfl))),(Qe (by (rw[Q1 (og:=og) (il:=il) (a.trans (ZH d (.inr (.inl ‹_›)))) (by omega)]; done))),trivial⟩ (h0:=by rw[← y] <;> rfl)
 refine w2 ?_
 refine lgy rfl rfl (Yr 28 (ZF og (SgOk.w d)) Wb ⟨_,_,rfl,(XI (Qo rfl) ⟨_,_,rfl, .inr ⟨_,_,_,_,rfl,rfl,rfl⟩,⟨_,_,rfl, .inr ⟨_,_,_,_,rfl,rfl,rfl⟩,⟨_,_,rfl, .inr ⟨_,_,_,_,rfl,rfl,rfl⟩,rfl⟩⟩⟩),rfl⟩ rfl (Fresh.of rfl) (nlr rfl)) ?_
 refine w4 ?_
 cases g:(decide (((Zt og).length:Int)≤(XG og (Zi og (QF og)))))
 have h:=aa g
 refine w5 ?_
 refine lc (Uk 29 (Vr og (Zi og (QF og)) d) Qaz ⟨_,_,rfl,(XI (Qo rfl) ⟨_,_,rfl, .inr ⟨_,_,_,_,rfl,rfl,rfl⟩,⟨_,_,rfl, .inr ⟨_,_,_,_,rfl,rfl,rfl⟩,⟨_,_,rfl, .inr ⟨_,_,_,_,rfl,rfl,rfl⟩,rfl⟩⟩⟩),⟨_,_,rfl,(Ev.b (Qo rfl)),rfl⟩⟩ rfl rfl rfl ⟨Fresh.of rfl,Fresh.of rfl,Fresh.of rfl,trivial⟩ (nlr rfl)) ?_
 refine w8 ?_
 refine lc (dBs 32 (e:=Ys) VE (hab:=by exact ⟨_,_,_,_,rfl,⟨[dI (((Zi og (QF og)).1).1),dB (((Zi og (QF og)).1).2)],[dI (((Zi og (QF og)).2).1),dB (((Zi og (QF og)).2).2)],_,_,_,_,rfl,rfl,⟨[dI (((Zi og (QF og)).1).1)],[dB (((Zi og (QF og)).1).2)],_,_,_,_,rfl,rfl,⟨rfl,rfl⟩,⟨rfl,rfl⟩,rfl⟩,⟨[dI (((Zi og (QF og)).2).1)],[dB (((Zi og (QF og)).2).2)],_,_,_,_,rfl,rfl,⟨rfl,rfl⟩,⟨rfl,rfl⟩,rfl⟩,rfl⟩,⟨rfl,rfl⟩,rfl⟩)) ?_
 refine lc (dA 33 QhX) ?_
 refine w_ ?_
 refine Qb ?_
 refine w5 ?_
 refine Qb<|Q2 ⟨k+1,((Zo og (Zi og (QF og))).1),(il++([((((Zi og (QF og)).1).1,((Zi og (QF og)).1).2),(((Zi og (QF og)).2).1,((Zi og (QF og)).2).2))])),by omega,rfl,(QsW d ‹_›),(by simp only[ae,aj,aA]; omega),(a.trans (Qtg d (by omega) (by omega) ‹_› (by omega))),rfl⟩ (by omega) ?_
 exact wp [(10,29),(11,30),(12,31),(14,33)] ⟨rfl,rfl,rfl,rfl,rfl,(Qe (by first | rfl | simp)),trivial⟩
 have h:=ab g
 refine w6 ?_
 refine lc (Yr 34 (ZF og (SgOk.w d)) Wb ⟨_,_,rfl,(XI (Qo rfl) ⟨_,_,rfl, .inr ⟨_,_,_,_,rfl,rfl,rfl⟩,⟨_,_,rfl, .inr ⟨_,_,_,_,rfl,rfl,rfl⟩,⟨_,_,rfl, .inr ⟨_,_,_,_,rfl,rfl,rfl⟩,rfl⟩⟩⟩),rfl⟩ rfl (Fresh.of rfl) (nlr rfl)) ?_
 refine w3 ?_
 have q:(decide (0 < ((Zt og).length:Int)))=true:=f
 try rw[q]
 refine w2 ?_
 refine lc (Qg ZU rfl (au.1 rfl) rfl rfl) ?_
 refine w4 ?_
 refine AC.wk (Qn 35 (p:=1) (off:=0) 44 Qz rfl rfl (Fresh.of rfl) (nlr rfl))<|AC.wk (Qn 36 (p:=1) (off:=1) 9 .str rfl rfl (Fresh.of rfl) (nlr rfl))<|AC.wk (Qn 37 (p:=1) (off:=2) 46 Qs rfl rfl (Fresh.of rfl) (nlr rfl))<|AC.wk (Wk.nilS 38 3 141 Ys rfl (Fresh.of rfl) (nlr rfl))<|Qd ?_
 have z:(false:Bool)=((ZT c).2.2):=by
  (rw[Q1 (og:=og) (il:=il) (a.trans (ZH d (.inr (.inr (by omega))))) (by omega)]; done)
 exact fi_ [(0,35),(1,36),(2,37),(3,38)] i ⟨(Qe (by (rw[Q1 (og:=og) (il:=il) (a.trans (ZH d (.inr (.inr (by omega))))) (by omega)]; rfl))),(Qe (by (rw[Q1 (og:=og) (il:=il) (a.trans (ZH d (.inr (.inr (by omega))))) (by omega)]; rfl))),(Qe (by (rw[Q1 (og:=og) (il:=il) (a.trans (ZH d (.inr (.inr (by omega))))) (by omega)]; rfl))),(Qe (by (rw[Q1 (og:=og) (il:=il) (a.trans (ZH d (.inr (.inr (by omega))))) (by omega)]; done))),trivial⟩ (h0:=by rw[← z] <;> rfl)
end Go.Proofs.YtgpdhgadmjfokaaGreat
namespace Go.Proofs.YtgpdhgadmjfokaaGreat
open Go.RowKit
set_option maxRecDepth 100000
set_option maxHeartbeats 4000000
section
variable [∀c,Decidable (SgOk c)][∀s,Decidable (Zx s)]{c:DSg}{x:Z0}{l:List Z0}{f:Nat}
theorem QtJ (h:(Zo c x).2=true):∃name s,SignsOk c s∧Xg c s=true∧(Zo c x).1=Xs c name (QR c s):=by
 unfold Zo at h ⊢
 split at h
 ·rename_i e
  rw[if_pos e]
  rw[aL] at h
  obtain ⟨a,_⟩:=h
  unfold Qda Yz at a ⊢
  split at a
  ·rename_i d
   rw[if_pos d]
   have b:=d.1
   unfold Ko at b
   rw[aL,aL,aL] at b
   obtain ⟨g,i⟩:=QdF.1 b.1.1.1
   exact ⟨_,_,g,i,rfl⟩
  ·cases a
 ·cases h
theorem QfH (a:SgOk c)(h:(QZ c (QF c)).isSome=true):SgOk (QX c (QF c)).2∧∃name s,SignsOk c s∧Xg c s=true∧(QX c (QF c)).2=Xs c name (QR c s):=by
 obtain ⟨y,b,_,_,_,d⟩:=J8 h
 refine ⟨QaN a h, ?_⟩
 rw[d]
 exact QtJ (Qhn a b).2
theorem Qsv {name:ByteArray}{st:Ins}:(Xs c name st).1.length=c.1.length+1:=by unfold Xs; rw[ae]; rfl
theorem Qcp:∀(f:Nat) (c:DSg) (l:List Z0),SgOk c→SgOk (Xa f c l).1∧(Xa f c l).1.1.length+l.length=c.1.length+(Xa f c l).2.length∧(Xa f c l).2.length≤l.length+f∧l.length≤(Xa f c l).2.length:=fun f=>by
 induction f with
 | zero=>intro c l h; exact ⟨h,rfl,aO _,aO _⟩
 | succ f b=>
  intro c l h
  rw[Xa]
  split
  ·rename_i g
   obtain ⟨d,j,s,_,_,i⟩:=QfH h g.2.1
   obtain ⟨a,i2,i3,i4⟩:=b (QX c (QF c)).2 (l++[Zi c (QF c)]) d
   have e:(QX c (QF c)).2.1.length=c.1.length+1:=by rw[i]; exact Qsv
   rw[ae,aj,aA] at i2 i3 i4
   exact ⟨a,by omega,by omega,by omega⟩
  ·exact ⟨h,rfl,Nat.le_add_right _ _,aO _⟩
theorem QuB (d:SgOk c)(h:(Xa 2 c []).2.length=1):trV (Xa 2 c []).1 (c.1.length:Int) 4=trV c (-1) 4:=by
 rw[Xa] at h ⊢
 split at h
 ·rename_i g
  rw[if_pos g]
  obtain ⟨b,n,s,j,k,i⟩:=QfH d g.2.1
  have h:(Xa 1 (QX c (QF c)).2 ([]++[Zi c (QF c)])).2.length=1:=h
  show trV (Xa 1 (QX c (QF c)).2 ([]++[Zi c (QF c)])).1 _ _=_
  have e:(Xa 1 (QX c (QF c)).2 ([]++[Zi c (QF c)])).1=(QX c (QF c)).2:=by
   rw[Xa] at h ⊢
   split at h
   ·rename_i a
    obtain ⟨m,_⟩:=QfH b a.2.1
    have:=(Qcp 0 (QX (QX c (QF c)).2 (QF (QX c (QF c)).2)).2 ([]++[Zi c (QF c)]++[Zi (QX c (QF c)).2 (QF (QX c (QF c)).2)]) m).2.2.2
    rw[h] at this
    simp at this
   ·rename_i a; rw[if_neg a]
  rw[e]
  rw[i] at b ⊢
  exact Qvl j k b
 ·cases h
theorem QtE (h:(Xa 2 c []).2.length=0)(a:SgOk c):trV (Xa 2 c []).1 (-1) 4=trV c (-1) 4:=by
 rw[Xa] at h ⊢
 split at h
 ·rename_i g
  have:=(Qcp 1 (QX c (QF c)).2 ([]++[Zi c (QF c)]) (QaN a g.2.1)).2.2.2
  have h:(Xa 1 (QX c (QF c)).2 ([]++[Zi c (QF c)])).2.length=0:=h
  rw[h] at this
  simp at this
 ·rename_i g; rw[if_neg g]
theorem Qus (h:(ZT c).2.2=true):SgOk c∧SgOk (ZT c).1∧(Zt (ZT c).1).length=0∧(ZT c).1.1.length=c.1.length+(ZT c).2.1.length∧(ZT c).2.1.length≤2∧((ZT c).2.1.length=1→trV (ZT c).1 (c.1.length:Int) 4=trV c (-1) 4)∧((ZT c).2.1.length=0→trV (ZT c).1 (-1) 4=trV c (-1) 4):=by
 unfold ZT at h ⊢
 split at h
 ·rename_i g
  obtain ⟨a,b,d,_⟩:=Qcp 2 c [] g.1
  rw[if_pos g]
  simp only[aA] at b d
  exact ⟨g.1,a,g.2,by show _=_+_; omega,by show List.length _≤2; omega,fun e=>QuB g.1 e,fun e=>QtE e g.1⟩
 ·cases h
end
end Go.Proofs.YtgpdhgadmjfokaaGreat
namespace Go.Proofs.YtgpdhgadmjfokaaGreat
open Go.RowKit
set_option maxRecDepth 100000
set_option maxHeartbeats 4000000
def Qyq (f:Hdr→List Int):Option (List Int)→List Hdr→List Hdr
 | _,[]=>[]
 | p,y :: l=>if p=some (f y) then Qyq f p l else y :: Qyq f (some (f y)) l
section
variable {f:Hdr→List Int}{vs zs:List Hdr}{m k:Nat}{x y:Hdr}{l:List (List Int)}{i j n:Int}
end
end Go.Proofs.YtgpdhgadmjfokaaGreat
namespace Go.Proofs.YtgpdhgadmjfokaaGreat
open Go.RowKit
set_option maxRecDepth 100000
set_option maxHeartbeats 4000000
theorem Qe2 {α:Type _}[DecidableEq α]{lt:α→α→Bool}(x:α):∀l:List α,(Z9 lt x l).length≤l.length+1
 | []=>aO _
 | y :: l=>by
  unfold Z9
  have:=Qe2 (lt:=lt) x l
  split
  ·simp only[aj]; omega
  ·split <;> simp
def shV (n:Xr)(t u:Int):Bool:=((n.2[t.toNat]?).getD ([],[])).1.any fun z=>decide (z∈((n.2[u.toNat]?).getD ([],[])).1)
def QzE (n:Xr)(t:Int)(l:List Int):List (List Int):=(l.filter fun u=>decide (t < u)&& !shV n t u).map fun u=>[t,u]
def Qzo (n:Xr)(t:Int)(l:List Int):List (List Int):=(l.filter fun u=> !shV n t u).map fun u=>[t,u]
def Qzg (n:Xr)(on l:List Int):List (List Int):=l.flatMap fun t=>QzE n t on
def QzU (n:Xr)(on:List Int)(k:Nat):List (List Int):=(List.range k).flatMap fun i=>Qzo n ((on[i]?).getD 0) (on.drop (i+1))
def Qzq (n:Xr)(ms:List ByteArray):List (List Int):=ms.flatMap fun mk=>Qzg n (Jj n mk) (Jj n mk)
section
variable {n:Xr}{k f i j:Nat}{mk:ByteArray}{t u:Int}{ts on l:List Int}{st:RS}{s:Q5}{xt xu:QV}{ms:List ByteArray}{as_ bs:List (List Int)}
end
section
variable {vs vs2:List Hdr}{gf gf2 gj:Hdr→List Int}{l:List (List Int)}{m:Int}{x:List Int}
end
end Go.Proofs.YtgpdhgadmjfokaaGreat
