/- Walks over abstract states: the best candidate as memory of one's own; conflicts resolved by insertions, both sides. -/
import Derived.Test.YtndabgcpnmeeoaaGreatPBo
set_option linter.unusedSimpArgs false
set_option linter.unusedVariables false
set_option linter.unusedSectionVars false
namespace Go.Proofs.YtndabgcpnmeeoaaGreat
open Go.RowKit
set_option maxRecDepth 100000
set_option maxHeartbeats 4000000
section
variable {I S C A:Type}
@[reducible] def dC (g1:Hdr→S) (g2:Hdr→C) (g3:Hdr→A) (y:I×Hdr×Hdr×Hdr):I×S×C×A:=(y.1,g1 y.2.1,g2 y.2.2.1,g3 y.2.2.2)
variable {xs:List (I×S×C×A)}{y1:List (I×Hdr×C×A)}{y2:List (I×Hdr×Hdr×A)}{y3:List (I×Hdr×Hdr×Hdr)}{g1:Hdr→S}{g2:Hdr→C}{g3:Hdr→A}{v1 v2 v3:List Hdr}
theorem Qvr (a:(y1.map fun y=>(y.1,g1 y.2.1,y.2.2))=xs)(b:(y2.map fun y=>(y.1,y.2.1,g2 y.2.2.1,y.2.2.2))=y1)(d:(y3.map fun y=>(y.1,y.2.1,y.2.2.1,g3 y.2.2.2))=y2):y3.map (dC g1 g2 g3)=xs:=by
 subst a b d
 simp[List.map_map,Function.comp_def]
theorem QqH (a:(y1.map fun y=>(y.1,g1 y.2.1,y.2.2))=xs)(b:(y2.map fun y=>(y.1,y.2.1,g2 y.2.2.1,y.2.2.2))=y1)(d:(y3.map fun y=>(y.1,y.2.1,y.2.2.1,g3 y.2.2.2))=y2):y3.length=xs.length:=by
 rw[← Qvr a b d,aF]
theorem QuQ (f:(y2.map fun y=>(y.1,y.2.1,g2 y.2.2.1,y.2.2.2))=y1)(g:(y3.map fun y=>(y.1,y.2.1,y.2.2.1,g3 y.2.2.2))=y2)(b:v1=none :: y1.map fun y=>y.2.1)(d:v2=none :: y2.map fun y=>y.2.2.1)(e:v3=none :: y3.map fun y=>y.2.2.2):
 ∀y∈y3,y.2.1∈v1∧y.2.2.1∈v2∧y.2.2.2∈v3:=by
 subst f g b d e
 intro y a
 refine ⟨ay _ ?_,ay _ ?_,ay _ ?_⟩
 ·exact bF.2 ⟨_,bF.2 ⟨_,bF.2 ⟨y,a,rfl⟩,rfl⟩,rfl⟩
 ·exact bF.2 ⟨_,bF.2 ⟨y,a,rfl⟩,rfl⟩
 ·exact bF.2 ⟨y,a,rfl⟩
theorem QuP {a b c:List Hdr}(d:v1=none :: a)(e:v2=none :: b)(f:v3=none :: c):(none:Hdr)∈v1∧(none:Hdr)∈v2∧(none:Hdr)∈v3:=by
 subst d e f; exact ⟨az ..,az ..,az ..⟩
theorem Qs3 {k:Nat}{y:I×Hdr×Hdr×Hdr}(h:y3.map (dC g1 g2 g3)=xs)(a:y3[k]? =some y):xs[k]? =some (dC g1 g2 g3 y):=by rw[← h,bf,a]; rfl
end
section
variable [∀c,Decidable (SgOk c)][∀s,Decidable (Zo s)]
def VH:Nat→DSg→List Z3→DSg×List Z3
 | 0,c,l=>(c,l)
 | f+1,c,l=>if 0 < (Zt c).length∧(Q1 c (QQ c)).isSome=true∧Xe c (QQ c) < ((Zt c).length:Int) then VH f (Zg c (QQ c)).2 (l++[Zu c (QQ c)]) else (c,l)
def ZW (c:DSg):DSg×List Z3×Bool:=if SgOk c∧(Zt (VH 2 c []).1).length=0 then ((VH 2 c []).1,(VH 2 c []).2,true) else (YL,[],false)
variable {c og:DSg}{il:List Z3}{n:Nat}{x:Z3}
theorem QcU (h:(Q1 c (QQ c)).isSome=true):∃y∈QQ c,Q1 c (QQ c)=some y∧Zu c (QQ c)=y∧Xe c (QQ c)=Qd4 c y∧Zg c (QQ c)=(y,(Zp c y).1):=by
 obtain ⟨y,b⟩:=be.1 h
 obtain ⟨d,f,g,_,_⟩:=Hk b
 refine ⟨y, ?_,b,d,g,f⟩
 have i:∀(l:List Z3) (m:Option Z3) (z:Z3),l.foldl (Qp4 c) m=some z→m=some z∨z∈l:=fun l=>by
  induction l with
  | nil=>intro m z h; exact .inl h
  | cons a l j=>
   intro m z h
   rw[aW] at h
   rcases j _ _ h with h | h
   ·have:Qp4 c m a=m∨Qp4 c m a=some a:=by
     cases m with
     | none=>exact .inr rfl
     | some u=>simp only[Qp4]; split <;> simp
    rcases this with e | e
    ·rw[e] at h; exact .inl h
    ·rw[e] at h; cases h; exact .inr (az ..)
   ·exact .inr (ay _ h)
 rcases i (QQ c) none y b with h | h
 ·cases h
 ·exact h
theorem QbK (d:SgOk c)(h:(Q1 c (QQ c)).isSome=true):SgOk (Zg c (QQ c)).2:=by
 obtain ⟨y,a,_,_,_,b⟩:=QcU h
 rw[b]; exact QhL d a
theorem Vh (h:¬SgOk c):ZW c=(YL,[],false):=if_neg fun g=>h g.1
theorem Q3 (h:VH 2 c []=(og,il))(a:¬(Zt og).length=0):ZW c=(YL,[],false):=if_neg fun g=>a (by rw[h] at g; exact g.2)
theorem Y4 (b:SgOk c)(h:VH 2 c []=(og,il))(a:(Zt og).length=0):ZW c=(og,il,true):=by unfold ZW; rw[h]; exact if_pos ⟨b,a⟩
theorem ZO (h:¬(0 < (Zt og).length∧(Q1 og (QQ og)).isSome=true∧Xe og (QQ og) < ((Zt og).length:Int))):VH n og il=(og,il):=by
 cases n with
 | zero=>rfl
 | succ n=>rw[VH,if_neg h]
theorem QuW (a:il.length < 2)(h:0 < (Zt og).length∧(Q1 og (QQ og)).isSome=true∧Xe og (QQ og) < ((Zt og).length:Int)):VH (2 - il.length) og il=VH (2 - (il++[(Zg og (QQ og)).1]).length) (Zg og (QQ og)).2 (il++[(Zg og (QQ og)).1]):=by
 rw[aj,Qt5]
 show _=VH (2 - (il.length+1)) _ _
 rw[show 2 - il.length=(2 - (il.length+1))+1 by omega,VH,if_pos h]
theorem QcW (f:SgOk c)(h:(Q1 c (QQ c)).isSome=true):XJ c (Zu c (QQ c))=Xe c (QQ c)∧(Zp c (Zu c (QQ c))).1=(Zg c (QQ c)).2:=by
 obtain ⟨y,a,_,b,d,e⟩:=QcU h
 rw[b,d,e,(Qfu f a).1]; exact ⟨rfl,rfl⟩
theorem QtB (a:SgOk c)(h:(Q1 c (QQ c)).isSome=true):SgOk (Zp c (Zu c (QQ c))).1:=by
 rw[(QcW a h).2]; exact QbK a h
theorem Qtb {k:Nat}(f:SgOk og)(g:k < 2)(h0:0 < ((Zt og).length:Int))(a:(Q1 og (QQ og)).isSome=true)(b:XJ og (Zu og (QQ og)) < ((Zt og).length:Int)):
 VH (2 - k) og il=VH (2 - (k+1)) (Zp og (Zu og (QQ og))).1 (il++[Zu og (QQ og)]):=by
 obtain ⟨d,e⟩:=QcW f a
 rw[d] at b
 rw[e,show 2 - k=(2 - (k+1))+1 by omega,VH,if_pos ⟨by omega,a,b⟩]
theorem Zz (a:SgOk og)(h:((Zt og).length:Int)=0∨(Q1 og (QQ og)).isSome=false∨((Zt og).length:Int)≤XJ og (Zu og (QQ og))):VH n og il=(og,il):=by
 refine ZO fun g=> ?_
 obtain ⟨g1,g2,g3⟩:=g
 rcases h with h | h | h
 ·omega
 ·rw[h] at g2; cases g2
 ·rw[(QcW a g2).1] at h; omega
end
theorem QkG (c:Zi)[∀c,Decidable (SgOk c)][∀s,Decidable (Zo s)](hs:SgOk c):FC Tryz.prog 295 [(true,[.dat Ql c.1, .dat Qo c.2.1, .dat Qw c.2.2])] [] 0 (Is (PV.tup [(true,[dI ((((Zg c (QQ c)).1).1).1),dB ((((Zg c (QQ c)).1).1).2),dI ((((Zg c (QQ c)).1).2).1),dB ((((Zg c (QQ c)).1).2).2), .ref 0, .ref 1, .ref 2]),(false,[dI (Xe c (QQ c))]),(false,[dB ((Q1 c (QQ c)).isSome)])]) [ar 0 77 QE (((Zg c (QQ c)).2).1),ar 1 9 .str (((Zg c (QQ c)).2).2.1),ar 2 154 QD (((Zg c (QQ c)).2).2.2)]):=by
 have a0:=hs.sigs.2.2
 have a9:=WZ (k:=c.1.length)
 have Y:=QeA (c:=c) a0
 have a7:(QQ c).length≤256:=Y (Q2 c.1.length) (by omega)
 have b1:=QdH (c:=c) (QQ c)
 refine Qv Tryz.func295 rfl rfl Tryz.ntmps295 fun O_ hO b4 a4 X_ a6 a5=> ?_
 refine w_ ?_
 refine xbx 0 ?_
 refine lc (xal 1 QjN JM) ?_
 refine w4 ?_
 refine lc (Qi QoL rfl (ak.1 rfl) rfl rfl)<|lc (xal 2 QjN JM) ?_
 refine w7 ?_
 refine lc (dO 3 (Qbh c hs) Qm7) ?_
 refine w4 ?_
 refine AC.openS (q:=3) 4 (V1 Ws (QhC (.pr (.sl 9 .str) (.sl 154 (.pr .int (.pr .int (.pr .bool .int))))) (QaO 77 QE))) rfl (Fresh.of rfl) (nlr rfl) fun b5 V h D R Q=>AC.openS (q:=3) 5 (V1 Ws (V1 .vl (QhC Qw (QaO 9 .str)))) rfl (Fresh.of rfl) (nlr rfl) fun b6 W d E T K=>AC.openS (q:=3) 6 (V1 Ws (V1 .vl (V1 .vl (QaO 154 QD)))) rfl (Fresh.of rfl) (nlr rfl) fun t X i F U L=> ?_
 have Z:=Qvr Q K L
 have b2:=QqH Q K L
 have a2:=QuQ K L D E F
 refine AC.wk (QtW (p:=2) [dI 0,dB false,dI 0,dB false, .dat .vl none, .dat .vl none, .dat .vl none] rfl ⟨_,_,rfl, .inl rfl,⟨_,_,rfl, .inl rfl,⟨_,_,rfl, .inl rfl,⟨_,_,rfl, .inl rfl,⟨_,_,rfl, .inr ⟨rfl,rfl⟩,⟨_,_,rfl, .inr ⟨rfl,rfl⟩,⟨_,_,rfl, .inr ⟨rfl,rfl⟩,rfl⟩⟩⟩⟩⟩⟩⟩) ?_
 refine QP (fun m_ s_=>∃(k:Nat) (a:((Int×Bool)×(Int×Bool))×(Hdr×Hdr×Hdr)) (j:Int) (o:Bool),k≤t.length∧m_=t.length - k∧(dC h d i a=Zg c ((QQ c).take k)∧j=Xe c ((QQ c).take k)∧o=(Q1 c ((QQ c).take k)).isSome)∧(a.2.1∈V∧a.2.2.1∈W∧a.2.2.2∈X)∧s_=⟨[(2,lP 1 0),(3,lI 0),(4,lB false),(5,lP 2 0),(6,lI j),(7,lB o),(13,lR 3),(14,lI ((UB c (QQ c)).length:Int)),(15,lI (k:Int))],[bx 1 325 [dI 0,dB false,dI 0,dB false, .val (.slice none 0 0), .val (.slice none 0 0), .val (.slice none 0 0)],bx 2 325 [dI a.1.1.1,dB a.1.1.2,dI a.1.2.1,dB a.1.2.2, .dat .vl a.2.1, .dat .vl a.2.2.1, .dat .vl a.2.2.2],ar 3 325 QwG t,(4,some (.pl true Ql V h)),(5,some (.pl true Qo W d)),(6,some (.pl true Qw X i))]⟩) ⟨0,((((0,false),(0,false)),(none,none,none)):((Int×Bool)×(Int×Bool))×(Hdr×Hdr×Hdr)),0,false,aG _,rfl,⟨by simp only[dC,R,T,U]; rfl,rfl,rfl⟩,(QuP D E F),rfl⟩ ?_ ?_
 exact wo []
 rintro m_ s_ ⟨k,a,j,o,a8,b0,b,M,rfl⟩
 refine w4 ?_
 cases N:(decide ((k:Int) < ((UB c (QQ c)).length:Int)))
 have O:=aa N
 refine w11 ?_
 refine AC.wk (Qfi 7 (p:=4) (v:=1) (off:=4) rfl rfl rfl M.1 (Fresh.of rfl) (nlr rfl))<|AC.wk (Qfi 8 (p:=5) (v:=1) (off:=5) rfl rfl rfl M.2.1 (Fresh.of rfl) (nlr rfl))<|AC.wk (Qfi 9 (p:=6) (v:=1) (off:=6) rfl rfl rfl M.2.2 (Fresh.of rfl) (nlr rfl))<|Qd ?_
 have e4:(a.1.1.1:Int)=((((Zg c (QQ c)).1).1).1):=by
  (rw[QT (by omega)] at b; first | rw[← b.1] | rw[b.2.1] | rw[b.2.2])
 have e5:(a.1.1.2:Bool)=((((Zg c (QQ c)).1).1).2):=by
  (rw[QT (by omega)] at b; first | rw[← b.1] | rw[b.2.1] | rw[b.2.2])
 have e6:(a.1.2.1:Int)=((((Zg c (QQ c)).1).2).1):=by
  (rw[QT (by omega)] at b; first | rw[← b.1] | rw[b.2.1] | rw[b.2.2])
 have e7:(a.1.2.2:Bool)=((((Zg c (QQ c)).1).2).2):=by
  (rw[QT (by omega)] at b; first | rw[← b.1] | rw[b.2.1] | rw[b.2.2])
 have e8:(j:Int)=(Xe c (QQ c)):=by
  (rw[QT (by omega)] at b; first | rw[← b.1] | rw[b.2.1] | rw[b.2.2])
 have e9:(o:Bool)=((Q1 c (QQ c)).isSome):=by
  (rw[QT (by omega)] at b; first | rw[← b.1] | rw[b.2.1] | rw[b.2.2])
 exact fi_ [(0,7),(1,8),(2,9)] hO ⟨(Qe (by (rw[QT (by omega)] at b; first | rw[← b.1] | rw[b.2.1] | rw[b.2.2]))),(Qe (by (rw[QT (by omega)] at b; first | rw[← b.1] | rw[b.2.1] | rw[b.2.2]))),(Qe (by (rw[QT (by omega)] at b; first | rw[← b.1] | rw[b.2.1] | rw[b.2.2]))),trivial⟩ (h0:=by rw[e4,e5,e6,e7,← e8,← e9] <;> rfl)
 have O:=ab N
 refine w5 ?_
 refine lc (QI (e:=QwG) (Qa rfl) rfl (Qa rfl) Qvb QpQ rfl (by omega) (by first | omega | (simp only[ap]; omega))) ?_
 obtain ⟨y,r⟩:=gx t k
 have a1:=Qs3 Z r
 obtain ⟨xk,l,m⟩:=QtK a1
 have f:=a2 _ (ah r)
 refine lc (Vk (e:=QwG) (Qa rfl) rfl r rfl QpQ rfl rfl)<|lc (xal 10 QjN JM) ?_
 refine w5 ?_
 refine Qht (Wy ((h y.2.1),(d y.2.2.1),(i y.2.2.2)) (by show SgW (dC h d i y).2; rw[m]; exact SgOk.w (QhL hs (ah l)))).lens QaZ ⟨_,_,rfl,(Qvx (Qk rfl) ⟨_,_,rfl, .inr (.inr ⟨4,_,_,_,_,_,rfl,rfl,f.1,rfl⟩),⟨_,_,rfl, .inr (.inr ⟨5,_,_,_,_,_,rfl,rfl,f.2.1,rfl⟩),⟨_,_,rfl, .inr (.inr ⟨6,_,_,_,_,_,rfl,rfl,f.2.2,rfl⟩),rfl⟩⟩⟩),rfl⟩ (fun _=>rfl) (fun _=>rfl) rfl fun b3 P=>lc (Qhy (Qa rfl) P rfl W5) ?_
 refine w6 ?_
 cases a3:(o)
 refine w9 ?_
 refine Qf rfl rfl rfl ?_ rfl
 refine Qf rfl rfl rfl ?_ rfl
 refine Qf rfl rfl rfl ?_ rfl
 refine Qf rfl rfl rfl ?_ rfl
 refine Qf rfl rfl rfl ?_ rfl
 refine Qf rfl rfl rfl ?_ rfl
 refine Qf rfl rfl rfl ?_ rfl
 refine Qf rfl rfl rfl ?_ rfl
 refine Qf rfl rfl rfl ?_ rfl
 refine w10 ?_
 refine Qb ?_
 refine w4 ?_
 refine Qb<|QW ⟨k+1,y,((Zt ((h y.2.1),(d y.2.2.1),(i y.2.2.2))).length:Int),true,by omega,rfl,(by exact QiL l m b (.inl ‹_›)),(by exact f),rfl⟩ (by omega) ?_
 exact wo []
 refine w5 ?_
 cases u:(decide (((Zt ((h y.2.1),(d y.2.2.1),(i y.2.2.2))).length:Int) < j))
 have G:=aa u
 refine w4 ?_
 cases z:(decide (((Zt ((h y.2.1),(d y.2.2.1),(i y.2.2.2))).length:Int)=j))
 have H:=aa z
 refine w16 ?_
 refine w2 ?_
 refine Qb<|QW ⟨k+1,a,j,true,by omega,rfl,(by exact QoI l m b ‹_› ‹_› (fun g=>absurd g.1 ‹_›)),(by exact M),rfl⟩ (by omega) ?_
 exact wo []
 have H:=ab z
 refine w3 ?_
 refine lgy rfl rfl (Qhx (p:=5) (Qa rfl) rfl f.2.1 rfl VJ) ?_
 refine w3 ?_
 refine lgy rfl rfl (Qhx (p:=5) (Qa rfl) rfl M.2.1 rfl VJ) ?_
 refine w4 ?_
 cases B:(decide (((d y.2.2.1).length:Int) < ((d a.2.2.1).length:Int)))
 have J:=aa B
 refine w6 ?_
 refine Qb<|QW ⟨k+1,a,j,true,by omega,rfl,(by exact QoI l m b ‹_› ‹_› (fun g=>absurd g.2 ‹_›)),(by exact M),rfl⟩ (by omega) ?_
 exact wo []
 have J:=ab B
 refine w7 ?_
 refine Qb ?_
 refine w4 ?_
 refine Qb<|QW ⟨k+1,y,((Zt ((h y.2.1),(d y.2.2.1),(i y.2.2.2))).length:Int),true,by omega,rfl,(by exact QiL l m b (.inr (.inr ⟨by assumption,by assumption⟩))),(by exact f),rfl⟩ (by omega) ?_
 exact wo []
 have G:=ab u
 refine w4 ?_
 refine Qf rfl rfl rfl ?_ rfl
 refine Qf rfl rfl rfl ?_ rfl
 refine Qf rfl rfl rfl ?_ rfl
 refine Qf rfl rfl rfl ?_ rfl
 refine Qf rfl rfl rfl ?_ rfl
 refine Qf rfl rfl rfl ?_ rfl
 refine Qf rfl rfl rfl ?_ rfl
 refine Qf rfl rfl rfl ?_ rfl
 refine Qf rfl rfl rfl ?_ rfl
 refine w10 ?_
 refine Qb ?_
 refine w4 ?_
 refine Qb<|QW ⟨k+1,y,((Zt ((h y.2.1),(d y.2.2.1),(i y.2.2.2))).length:Int),true,by omega,rfl,(by exact QiL l m b (.inr (.inl ‹_›))),(by exact f),rfl⟩ (by omega) ?_
 exact wo []
theorem Jp (c:Zi)(b:SgOk c):FC Tryz.prog 294 [(true,[.dat Ql c.1, .dat Qo c.2.1, .dat Qw c.2.2])] [] 0 (Is (ag [.ref 0, .ref 1, .ref 2]) [ar 0 77 QE c.1,ar 1 9 .str c.2.1,ar 2 154 QD c.2.2]):=by
 have k:=b.sigs.2.2
 have j:=b.some_
 have i:=b.few
 refine Qv Tryz.func294 rfl rfl Tryz.ntmps294 fun m h l d o g f=> ?_
 refine w_ ?_
 refine xbx 0 ?_
 refine lc (xal 1 XU Zr) ?_
 refine w_ ?_
 apply dW [⟨some 3,lR 2,[ar 2 77 QE ([])]⟩,io 4 (lP 0 0),io 5 (lf (.dat Ql c.1)),⟨some 6,lR 3,[ar 3 77 QE (([])++c.1),(2,none)]⟩,⟨some 7,lR 4,[ar 4 9 .str ([])]⟩,io 8 (lP 0 1),io 9 (lf (.dat Qo c.2.1)),⟨some 10,lR 5,[ar 5 9 .str (([])++c.2.1),(4,none)]⟩,⟨some 11,lR 6,[ar 6 154 QD ([])]⟩,io 12 (lP 0 2),io 13 (lf (.dat Qw c.2.2)),⟨some 14,lR 7,[ar 7 154 QD (([])++c.2.2),(6,none)]⟩,io 15 (ag [.ref 3, .ref 5, .ref 7]),⟨none,lf (.val undef),[bx 1 28 [.ref 3, .ref 5, .ref 7]]⟩] [0,1,1,0,15,31,31,0,255,511,511,0,0,0]
 refine zz (fun _ a=>ac (dBs 2 (e:=QE) VL) rfl) ?_
 refine z2 ?_
 refine zz (fun _ a=>ac (Zj 3 (a.v rfl) (a.en 2 rfl) (Evl.rep (a.v rfl)) rfl QdE QaU (by first | omega | (simp only[aj,aF,ao,au,aH]; omega) | (simp only[aj,bh,ao,au,aH]; omega)) rfl (a.fr 3 rfl) (nlr rfl)) rfl) ?_
 refine zz (fun _ a=>ac (dBs 4 (e:= .str) HQ) rfl) ?_
 refine z2 ?_
 refine zz (fun _ a=>ac (Zj 5 (a.v rfl) (a.en 4 rfl) (Evl.rep (a.v rfl)) rfl VJ QhM (by first | omega | (simp only[aj,aF,ao,au,aH]; omega) | (simp only[aj,bh,ao,au,aH]; omega)) rfl (a.fr 5 rfl) (nlr rfl)) rfl) ?_
 refine zz (fun _ a=>ac (dBs 6 (e:=QD) QU) rfl) ?_
 refine z2 ?_
 refine zz (fun _ a=>ac (Zj 7 (a.v rfl) (a.en 6 rfl) (Evl.rep (a.v rfl)) rfl WF Ww (by first | omega | (simp only[aj,aF,ao,au,aH]; omega) | (simp only[aj,bh,ao,au,aH]; omega)) rfl (a.fr 7 rfl) (nlr rfl)) rfl)<|zz (fun _ a=>ac (Qi Q8 ⟨_,_,rfl,(a.w rfl),⟨_,_,rfl,(a.w rfl),⟨_,_,rfl,(a.w rfl),rfl⟩⟩⟩ (ak.1 (by show ((Q4 _ [.ref 3]&&(Q4 _ [.ref 5]&&(Q4 _ [.ref 7]&&true))))=true; simp only[Q4,Vu,ba,bA]; rw[(a.en 3 rfl),(a.en 5 rfl),(a.en 7 rfl)]; rfl)) rfl rfl) rfl)<|zz (fun _ a=>ac (Q0 (a.v rfl) (a.en 1 rfl) (a.w rfl) (by show Q4 _ [.ref 3, .ref 5, .ref 7]=true; simp only[Q4,Vu,ba,bA]; rw[(a.en 3 rfl),(a.en 5 rfl),(a.en 7 rfl)]; rfl) Kl rfl) rfl) ?_
 exact zN
 refine w_ ?_
 exact fi_ [(0,3),(1,5),(2,7)] h ⟨(Qe (by rfl)),(Qe (by rfl)),(Qe (by rfl)),trivial⟩
theorem Qhc (c:Zi)(b:SgOk c):FC Tryz.prog 283 [(true,[.dat Ql c.1, .dat Qo c.2.1, .dat Qw c.2.2])] [] 0 (Is (ag [.ref 0, .ref 1, .ref 2]) [ar 0 77 QE c.1,ar 1 9 .str c.2.1,ar 2 154 QD c.2.2]):=by
 have k:=b.sigs.2.2
 have j:=b.some_
 have i:=b.few
 refine Qv Tryz.func283 rfl rfl Tryz.ntmps283 fun m h l d o g f=> ?_
 refine w_ ?_
 refine xbx 0 ?_
 refine lc (xal 1 XU Zr) ?_
 refine w_ ?_
 apply dW [⟨some 3,lR 2,[ar 2 77 QE ([])]⟩,io 4 (lP 0 0),io 5 (lf (.dat Ql c.1)),⟨some 6,lR 3,[ar 3 77 QE (([])++c.1),(2,none)]⟩,io 7 (lP 0 1),io 8 (lf (.dat Qo c.2.1)),⟨some 9,lR 4,[ar 4 9 .str c.2.1]⟩,⟨some 10,lR 5,[ar 5 154 QD ([])]⟩,io 11 (lP 0 2),io 12 (lf (.dat Qw c.2.2)),⟨some 13,lR 6,[ar 6 154 QD (([])++c.2.2),(5,none)]⟩,io 14 (ag [.ref 3, .ref 4, .ref 6]),⟨none,lf (.val undef),[bx 1 28 [.ref 3, .ref 4, .ref 6]]⟩] [0,1,1,0,15,15,0,127,255,255,0,0,0]
 refine zz (fun _ a=>ac (dBs 2 (e:=QE) VL) rfl) ?_
 refine z2 ?_
 refine zz (fun _ a=>ac (Zj 3 (a.v rfl) (a.en 2 rfl) (Evl.rep (a.v rfl)) rfl QdE QaU (by first | omega | (simp only[aj,aF,ao,au,aH]; omega) | (simp only[aj,bh,ao,au,aH]; omega)) rfl (a.fr 3 rfl) (nlr rfl)) rfl) ?_
 refine z2 ?_
 refine zz (fun _ a=>ac (dO 4 (Qf7 c.2.1 (by omega)) QmX) rfl) ?_
 refine zz (fun _ a=>ac (dBs 5 (e:=QD) QU) rfl) ?_
 refine z2 ?_
 refine zz (fun _ a=>ac (Zj 6 (a.v rfl) (a.en 5 rfl) (Evl.rep (a.v rfl)) rfl WF Ww (by first | omega | (simp only[aj,aF,ao,au,aH]; omega) | (simp only[aj,bh,ao,au,aH]; omega)) rfl (a.fr 6 rfl) (nlr rfl)) rfl)<|zz (fun _ a=>ac (Qi Q8 ⟨_,_,rfl,(a.w rfl),⟨_,_,rfl,(a.w rfl),⟨_,_,rfl,(a.w rfl),rfl⟩⟩⟩ (ak.1 (by show ((Q4 _ [.ref 3]&&(Q4 _ [.ref 4]&&(Q4 _ [.ref 6]&&true))))=true; simp only[Q4,Vu,ba,bA]; rw[(a.en 3 rfl),(a.en 4 rfl),(a.en 6 rfl)]; rfl)) rfl rfl) rfl)<|zz (fun _ a=>ac (Q0 (a.v rfl) (a.en 1 rfl) (a.w rfl) (by show Q4 _ [.ref 3, .ref 4, .ref 6]=true; simp only[Q4,Vu,ba,bA]; rw[(a.en 3 rfl),(a.en 4 rfl),(a.en 6 rfl)]; rfl) Kl rfl) rfl) ?_
 exact zN
 refine w_ ?_
 exact fi_ [(0,3),(1,4),(2,6)] h ⟨(Qe (by rfl)),rfl,(Qe (by rfl)),trivial⟩
theorem Ka (c:Zi)[∀c,Decidable (SgOk c)][∀s,Decidable (Zo s)]:FC Tryz.prog 153 [(true,[.dat Ql c.1, .dat Qo c.2.1, .dat Qw c.2.2])] [] 0 (Is (PV.tup [(true,[.ref 0, .ref 1, .ref 2]),(false,[.ref 3]),(false,[dB ((ZW c).2.2)])]) [ar 0 77 QE (((ZW c).1).1),ar 1 9 .str (((ZW c).1).2.1),ar 2 154 QD (((ZW c).1).2.2),ar 3 314 Ws ((ZW c).2.1)]):=by
 refine Qv Tryz.func153 rfl rfl Tryz.ntmps153 fun P k O G Q L K=> ?_
 refine w_ ?_
 refine xbx 0 ?_
 refine lc (xal 1 XU Zr) ?_
 refine w6 ?_
 refine lc (dK (ZR c) Jg) ?_
 refine w2 ?_
 cases l:(decide (SgOk c))
 have m:=aa l
 refine w2 ?_
 refine lc (Qi Q8 rfl (ak.1 rfl) rfl rfl) ?_
 refine w4 ?_
 refine AC.wk (Qp 2 (p:=1) (off:=0) 77 QE rfl rfl (Fresh.of rfl) (nlr rfl))<|AC.wk (Qp 3 (p:=1) (off:=1) 9 .str rfl rfl (Fresh.of rfl) (nlr rfl))<|AC.wk (Qp 4 (p:=1) (off:=2) 154 QD rfl rfl (Fresh.of rfl) (nlr rfl))<|AC.wk (Wk.nilS 5 3 314 Ws rfl (Fresh.of rfl) (nlr rfl))<|Qd ?_
 have H:(false:Bool)=((ZW c).2.2):=by
  (rw[Vh ‹_›]; done)
 exact fi_ [(0,2),(1,3),(2,4),(3,5)] k ⟨(Qe (by (rw[Vh ‹_›]; rfl))),(Qe (by (rw[Vh ‹_›]; rfl))),(Qe (by (rw[Vh ‹_›]; rfl))),(Qe (by (rw[Vh ‹_›]; done))),trivial⟩ (h0:=by rw[← H] <;> rfl)
 have m:=ab l
 refine w4 ?_
 refine lc (dG 6 (Jp c ‹_›) QmE) ?_
 refine lc (dBs 9 (e:=Ws) VY) ?_
 refine lc (xal 10 XU Zr) ?_
 refine w6 ?_
 refine Qht (Wy c (SgOk.w ‹_›)).lens QaZ ⟨_,_,rfl,(ZJ (Qk rfl) ⟨_,_,rfl, .inr ⟨_,_,_,_,rfl,rfl,rfl⟩,⟨_,_,rfl, .inr ⟨_,_,_,_,rfl,rfl,rfl⟩,⟨_,_,rfl, .inr ⟨_,_,_,_,rfl,rfl,rfl⟩,rfl⟩⟩⟩),rfl⟩ (fun _=>rfl) (fun _=>rfl) rfl fun v3 B=>lc (Qhy (Qa rfl) B rfl W5) ?_
 refine w3 ?_
 refine QP (fun E F=>∃(og:(List (ByteArray×Int))×List ByteArray×(List (Int×Int×Bool×Int))) (il:List ((Int×Bool)×(Int×Bool))) (b:Int),E=2 - il.length∧(SgOk og)∧(il.length≤2)∧(VH 2 c []=VH (2 - il.length) og il)∧(b=((Zt og).length:Int))∧F=⟨[(2,lP 1 0),(5,lP 10 0),(6,lR 14),(7,lI b)],[bx 1 28 [.val (.slice none 0 0), .val (.slice none 0 0), .val (.slice none 0 0)],bx 10 28 [.ref 11, .ref 12, .ref 13],ar 11 77 QE og.1,ar 12 9 .str og.2.1,ar 13 154 QD og.2.2,ar 14 314 Ws il]⟩) ⟨c,([]:(QwH:Ty).Den),((Zt c).length:Int),rfl,‹_›,(by simp),rfl,rfl,rfl⟩ ?_ ?_
 exact wp [(11,6),(12,7),(13,8),(14,9)] ⟨rfl,rfl,rfl,rfl,rfl,(Qe (by first | rfl | simp)),trivial⟩
 rintro E F ⟨og,il,b,N,D,T,a,R,rfl⟩
 refine w5 ?_
 cases o:(decide (0 < b))
 have q:=aa o
 refine w11 ?_
 have J:(true:Bool)=((ZW c).2.2):=by
  (rw[Y4 (og:=og) (il:=il) ‹_› (a.trans (ZO (fun g=>absurd g.1 (by omega)))) (by omega)]; done)
 exact fi_ [(0,11),(1,12),(2,13),(3,14)] k ⟨(Qe (by (rw[Y4 (og:=og) (il:=il) ‹_› (a.trans (ZO (fun g=>absurd g.1 (by omega)))) (by omega)]; done))),(Qe (by (rw[Y4 (og:=og) (il:=il) ‹_› (a.trans (ZO (fun g=>absurd g.1 (by omega)))) (by omega)]; done))),(Qe (by (rw[Y4 (og:=og) (il:=il) ‹_› (a.trans (ZO (fun g=>absurd g.1 (by omega)))) (by omega)]; done))),(Qe (by (rw[Y4 (og:=og) (il:=il) ‹_› (a.trans (ZO (fun g=>absurd g.1 (by omega)))) (by omega)]; done))),trivial⟩ (h0:=by rw[← J] <;> rfl)
 have q:=ab o
 refine w5 ?_
 refine lc (YX 15 (QkG og D) QmF ⟨_,_,rfl,(ZJ (Qk rfl) ⟨_,_,rfl, .inr ⟨_,_,_,_,rfl,rfl,rfl⟩,⟨_,_,rfl, .inr ⟨_,_,_,_,rfl,rfl,rfl⟩,⟨_,_,rfl, .inr ⟨_,_,_,_,rfl,rfl,rfl⟩,rfl⟩⟩⟩),rfl⟩ rfl rfl rfl ⟨Fresh.of rfl,Fresh.of rfl,Fresh.of rfl,trivial⟩ (nlr rfl)) ?_
 refine w4 ?_
 refine lc (xal 18 QjN JM) ?_
 refine w9 ?_
 cases M:((Q1 og (QQ og)).isSome)
 refine w12 ?_
 refine lc (Qi Q8 rfl (ak.1 rfl) rfl rfl) ?_
 refine w4 ?_
 refine AC.wk (Qp 19 (p:=1) (off:=0) 77 QE rfl rfl (Fresh.of rfl) (nlr rfl))<|AC.wk (Qp 20 (p:=1) (off:=1) 9 .str rfl rfl (Fresh.of rfl) (nlr rfl))<|AC.wk (Qp 21 (p:=1) (off:=2) 154 QD rfl rfl (Fresh.of rfl) (nlr rfl))<|AC.wk (Wk.nilS 22 3 314 Ws rfl (Fresh.of rfl) (nlr rfl))<|Qd ?_
 have r:(false:Bool)=((ZW c).2.2):=by
  (rw[Q3 (og:=og) (il:=il) (a.trans (ZO (fun g=>Bool.noConfusion (g.2.1.symm.trans (show (Q1 og (QQ og)).isSome=false by assumption))))) (by omega)]; done)
 exact fi_ [(0,19),(1,20),(2,21),(3,22)] k ⟨(Qe (by (rw[Q3 (og:=og) (il:=il) (a.trans (ZO (fun g=>Bool.noConfusion (g.2.1.symm.trans (show (Q1 og (QQ og)).isSome=false by assumption))))) (by omega)]; rfl))),(Qe (by (rw[Q3 (og:=og) (il:=il) (a.trans (ZO (fun g=>Bool.noConfusion (g.2.1.symm.trans (show (Q1 og (QQ og)).isSome=false by assumption))))) (by omega)]; rfl))),(Qe (by (rw[Q3 (og:=og) (il:=il) (a.trans (ZO (fun g=>Bool.noConfusion (g.2.1.symm.trans (show (Q1 og (QQ og)).isSome=false by assumption))))) (by omega)]; rfl))),(Qe (by (rw[Q3 (og:=og) (il:=il) (a.trans (ZO (fun g=>Bool.noConfusion (g.2.1.symm.trans (show (Q1 og (QQ og)).isSome=false by assumption))))) (by omega)]; done))),trivial⟩ (h0:=by rw[← r] <;> rfl)
 refine w5 ?_
 cases f:(decide (b≤(Xe og (QQ og))))
 have i:=aa f
 refine w5 ?_
 cases h:(decide ((il.length:Int)=2))
 have j:=aa h
 refine w2 ?_
 apply dV (i5 42 _ _ _ _ _ (⟨some 47,lR 23,[ar 23 314 Ws ([(((((Zg og (QQ og)).1).1).1,(((Zg og (QQ og)).1).1).2),((((Zg og (QQ og)).1).2).1,(((Zg og (QQ og)).1).2).2))])]⟩ :: ⟨some 48,lR 24,[ar 24 314 Ws (il++([(((((Zg og (QQ og)).1).1).1,(((Zg og (QQ og)).1).1).2),((((Zg og (QQ og)).1).2).1,(((Zg og (QQ og)).1).2).2))])),(14,none),(23,none)]⟩ :: io 49 (lI (Xe og (QQ og))) :: ⟨none,lf (.val undef),[bx 10 28 [.ref 15, .ref 16, .ref 17]]⟩ :: i2 6 _ _ [])) [0,0,3,7,7,7,3,127,128,128,0]
 refine z5 ?_
 refine zz (fun _ d=>ac (dBs 23 (e:=Ws) VY (hab:=by exact ⟨_,_,_,_,rfl,⟨[dI ((((Zg og (QQ og)).1).1).1),dB ((((Zg og (QQ og)).1).1).2)],[dI ((((Zg og (QQ og)).1).2).1),dB ((((Zg og (QQ og)).1).2).2)],_,_,_,_,rfl,rfl,⟨[dI ((((Zg og (QQ og)).1).1).1)],[dB ((((Zg og (QQ og)).1).1).2)],_,_,_,_,rfl,rfl,⟨rfl,rfl⟩,⟨rfl,rfl⟩,rfl⟩,⟨[dI ((((Zg og (QQ og)).1).2).1)],[dB ((((Zg og (QQ og)).1).2).2)],_,_,_,_,rfl,rfl,⟨rfl,rfl⟩,⟨rfl,rfl⟩,rfl⟩,rfl⟩,⟨rfl,rfl⟩,rfl⟩)) rfl) ?_
 refine zz (fun _ d=>ac (dA 24 Qi3) rfl) ?_
 refine z_ ?_
 refine zz (fun _ d=>ac (Q0 (d.v rfl) (d.en 10 rfl) (d.w rfl) (by show Q4 _ [.ref 15, .ref 16, .ref 17]=true; simp only[Q4,Vu,ba,bA]; rw[(d.en 15 rfl),(d.en 16 rfl),(d.en 17 rfl)]; rfl) Kl rfl) rfl) ?_
 exact y2
 refine QW ⟨((Zg og (QQ og)).2),(il++([(((((Zg og (QQ og)).1).1).1,(((Zg og (QQ og)).1).1).2),((((Zg og (QQ og)).1).2).1,(((Zg og (QQ og)).1).2).2))])),(Xe og (QQ og)),rfl,(QbK D ‹_›),(by simp only[aj,au,aH]; omega),(a.trans (QuW (by omega) ⟨by omega,by assumption,by omega⟩)),(by (obtain ⟨U,_,_,_,y,z⟩:=QcU ‹_›; rw[y,z]; rfl)),rfl⟩ (by simp only[aj,au,aH]; omega) ?_
 exact wp [(11,15),(12,16),(13,17),(14,24)] ⟨rfl,rfl,rfl,rfl,rfl,(Qe (by first | rfl | simp)),trivial⟩
 have j:=ab h
 refine w2 ?_
 refine lc (Qi Q8 rfl (ak.1 rfl) rfl rfl) ?_
 refine w4 ?_
 refine AC.wk (Qp 25 (p:=1) (off:=0) 77 QE rfl rfl (Fresh.of rfl) (nlr rfl))<|AC.wk (Qp 26 (p:=1) (off:=1) 9 .str rfl rfl (Fresh.of rfl) (nlr rfl))<|AC.wk (Qp 27 (p:=1) (off:=2) 154 QD rfl rfl (Fresh.of rfl) (nlr rfl))<|AC.wk (Wk.nilS 28 3 314 Ws rfl (Fresh.of rfl) (nlr rfl))<|Qd ?_
 have t:(false:Bool)=((ZW c).2.2):=by
  (rw[Q3 (og:=og) (il:=il) (a.trans (by rw[show 2 - il.length=0 by omega]; rfl)) (by omega)]; done)
 exact fi_ [(0,25),(1,26),(2,27),(3,28)] k ⟨(Qe (by (rw[Q3 (og:=og) (il:=il) (a.trans (by rw[show 2 - il.length=0 by omega]; rfl)) (by omega)]; rfl))),(Qe (by (rw[Q3 (og:=og) (il:=il) (a.trans (by rw[show 2 - il.length=0 by omega]; rfl)) (by omega)]; rfl))),(Qe (by (rw[Q3 (og:=og) (il:=il) (a.trans (by rw[show 2 - il.length=0 by omega]; rfl)) (by omega)]; rfl))),(Qe (by (rw[Q3 (og:=og) (il:=il) (a.trans (by rw[show 2 - il.length=0 by omega]; rfl)) (by omega)]; done))),trivial⟩ (h0:=by rw[← t] <;> rfl)
 have i:=ab f
 refine w7 ?_
 refine lc (Qi Q8 rfl (ak.1 rfl) rfl rfl) ?_
 refine w4 ?_
 refine AC.wk (Qp 29 (p:=1) (off:=0) 77 QE rfl rfl (Fresh.of rfl) (nlr rfl))<|AC.wk (Qp 30 (p:=1) (off:=1) 9 .str rfl rfl (Fresh.of rfl) (nlr rfl))<|AC.wk (Qp 31 (p:=1) (off:=2) 154 QD rfl rfl (Fresh.of rfl) (nlr rfl))<|AC.wk (Wk.nilS 32 3 314 Ws rfl (Fresh.of rfl) (nlr rfl))<|Qd ?_
 have u:(false:Bool)=((ZW c).2.2):=by
  (rw[Q3 (og:=og) (il:=il) (a.trans (ZO (fun g=>absurd g.2.2 (by omega)))) (by omega)]; done)
 exact fi_ [(0,29),(1,30),(2,31),(3,32)] k ⟨(Qe (by (rw[Q3 (og:=og) (il:=il) (a.trans (ZO (fun g=>absurd g.2.2 (by omega)))) (by omega)]; rfl))),(Qe (by (rw[Q3 (og:=og) (il:=il) (a.trans (ZO (fun g=>absurd g.2.2 (by omega)))) (by omega)]; rfl))),(Qe (by (rw[Q3 (og:=og) (il:=il) (a.trans (ZO (fun g=>absurd g.2.2 (by omega)))) (by omega)]; rfl))),(Qe (by (rw[Q3 (og:=og) (il:=il) (a.trans (ZO (fun g=>absurd g.2.2 (by omega)))) (by omega)]; done))),trivial⟩ (h0:=by rw[← u] <;> rfl)
theorem Kd (c:Zi)[∀c,Decidable (SgOk c)][∀s,Decidable (Zo s)]:FC Tryz.prog 148 [(true,[.dat Ql c.1, .dat Qo c.2.1, .dat Qw c.2.2])] [] 0 (Is (PV.tup [(true,[.ref 0, .ref 1, .ref 2]),(false,[.ref 3]),(false,[dB ((ZW c).2.2)])]) [ar 0 77 QE (((ZW c).1).1),ar 1 9 .str (((ZW c).1).2.1),ar 2 154 QD (((ZW c).1).2.2),ar 3 314 Ws ((ZW c).2.1)]):=by
 refine Qv Tryz.func148 rfl rfl Tryz.ntmps148 fun P i O F Q L K=> ?_
 refine w_ ?_
 refine xbx 0 ?_
 refine lc (xal 1 XU Zr) ?_
 refine w6 ?_
 refine lc (dK (YR c) V4) ?_
 refine w2 ?_
 cases j:(decide (SgOk c))
 have l:=aa j
 refine w2 ?_
 refine lc (Qi Q8 rfl (ak.1 rfl) rfl rfl) ?_
 refine w4 ?_
 refine AC.wk (Qp 2 (p:=1) (off:=0) 77 QE rfl rfl (Fresh.of rfl) (nlr rfl))<|AC.wk (Qp 3 (p:=1) (off:=1) 9 .str rfl rfl (Fresh.of rfl) (nlr rfl))<|AC.wk (Qp 4 (p:=1) (off:=2) 154 QD rfl rfl (Fresh.of rfl) (nlr rfl))<|AC.wk (Wk.nilS 5 3 314 Ws rfl (Fresh.of rfl) (nlr rfl))<|Qd ?_
 have G:(false:Bool)=((ZW c).2.2):=by
  (rw[Vh ‹_›]; done)
 exact fi_ [(0,2),(1,3),(2,4),(3,5)] i ⟨(Qe (by (rw[Vh ‹_›]; rfl))),(Qe (by (rw[Vh ‹_›]; rfl))),(Qe (by (rw[Vh ‹_›]; rfl))),(Qe (by (rw[Vh ‹_›]; done))),trivial⟩ (h0:=by rw[← G] <;> rfl)
 have l:=ab j
 refine w4 ?_
 refine lc (dG 6 (Qhc c ‹_›) QmA) ?_
 refine lc (xal 9 XU Zr) ?_
 refine w10 ?_
 refine AC.wk (Wk.nilS 13 6 314 Ws rfl (Fresh.of rfl) (nlr rfl)) ?_
 refine QP (fun D E=>∃(k:Nat) (og:(List (ByteArray×Int))×List ByteArray×(List (Int×Int×Bool×Int))) (il:List ((Int×Bool)×(Int×Bool))),k≤2∧D=2 - k∧(SgOk og)∧(il.length=k)∧(VH 2 c []=VH (2 - k) og il)∧E=⟨[(2,lP 1 0),(3,lf (.val (.slice none 0 0))),(4,lB false),(5,lP 9 0),(6,lR 14),(7,lI (k:Int))],[bx 1 28 [.val (.slice none 0 0), .val (.slice none 0 0), .val (.slice none 0 0)],bx 9 28 [.ref 10, .ref 11, .ref 12],ar 10 77 QE og.1,ar 11 9 .str og.2.1,ar 12 154 QD og.2.2,ar 14 314 Ws il]⟩) ⟨0,c,([]:(QwH:Ty).Den),aG _,rfl,‹_›,rfl,rfl,rfl⟩ ?_ ?_
 exact wp [(10,6),(11,7),(12,8),(14,13)] ⟨rfl,rfl,rfl,rfl,rfl,(Qe (by first | rfl | simp)),trivial⟩
 rintro D E ⟨k,og,il,M,N,d,R,a,rfl⟩
 refine w5 ?_
 cases r:(decide ((k:Int) < 2))
 have t:=aa r
 refine w12 ?_
 refine lc (Yg 15 (Zy og (SgOk.w d)) X4 ⟨_,_,rfl,(ZJ (Qk rfl) ⟨_,_,rfl, .inr ⟨_,_,_,_,rfl,rfl,rfl⟩,⟨_,_,rfl, .inr ⟨_,_,_,_,rfl,rfl,rfl⟩,⟨_,_,rfl, .inr ⟨_,_,_,_,rfl,rfl,rfl⟩,rfl⟩⟩⟩),rfl⟩ rfl (Fresh.of rfl) (nlr rfl)) ?_
 refine w3 ?_
 refine cd_ (fun _ _=> ?_) fun _ _=> ?_
 refine w9 ?_
 have H:(true:Bool)=((ZW c).2.2):=by
  (rw[Y4 (og:=og) (il:=il) ‹_› (a.trans (by rw[show 2 - k=0 by omega]; rfl)) (by omega)]; done)
 exact fi_ [(0,10),(1,11),(2,12),(3,14)] i ⟨(Qe (by (rw[Y4 (og:=og) (il:=il) ‹_› (a.trans (by rw[show 2 - k=0 by omega]; rfl)) (by omega)]; done))),(Qe (by (rw[Y4 (og:=og) (il:=il) ‹_› (a.trans (by rw[show 2 - k=0 by omega]; rfl)) (by omega)]; done))),(Qe (by (rw[Y4 (og:=og) (il:=il) ‹_› (a.trans (by rw[show 2 - k=0 by omega]; rfl)) (by omega)]; done))),(Qe (by (rw[Y4 (og:=og) (il:=il) ‹_› (a.trans (by rw[show 2 - k=0 by omega]; rfl)) (by omega)]; done))),trivial⟩ (h0:=by rw[← H] <;> rfl)
 refine w_ ?_
 refine lc (Qi Q8 rfl (ak.1 rfl) rfl rfl) ?_
 refine w4 ?_
 refine AC.wk (Qp 16 (p:=1) (off:=0) 77 QE rfl rfl (Fresh.of rfl) (nlr rfl))<|AC.wk (Qp 17 (p:=1) (off:=1) 9 .str rfl rfl (Fresh.of rfl) (nlr rfl))<|AC.wk (Qp 18 (p:=1) (off:=2) 154 QD rfl rfl (Fresh.of rfl) (nlr rfl))<|AC.wk (Wk.nilS 19 3 314 Ws rfl (Fresh.of rfl) (nlr rfl))<|Qd ?_
 have J:(false:Bool)=((ZW c).2.2):=by
  (rw[Q3 (og:=og) (il:=il) (a.trans (by rw[show 2 - k=0 by omega]; rfl)) (by omega)]; done)
 exact fi_ [(0,16),(1,17),(2,18),(3,19)] i ⟨(Qe (by (rw[Q3 (og:=og) (il:=il) (a.trans (by rw[show 2 - k=0 by omega]; rfl)) (by omega)]; rfl))),(Qe (by (rw[Q3 (og:=og) (il:=il) (a.trans (by rw[show 2 - k=0 by omega]; rfl)) (by omega)]; rfl))),(Qe (by (rw[Q3 (og:=og) (il:=il) (a.trans (by rw[show 2 - k=0 by omega]; rfl)) (by omega)]; rfl))),(Qe (by (rw[Q3 (og:=og) (il:=il) (a.trans (by rw[show 2 - k=0 by omega]; rfl)) (by omega)]; done))),trivial⟩ (h0:=by rw[← J] <;> rfl)
 have t:=ab r
 refine w_ ?_
 refine lgy rfl rfl (Yg 20 (Zy og (SgOk.w d)) X4 ⟨_,_,rfl,(ZJ (Qk rfl) ⟨_,_,rfl, .inr ⟨_,_,_,_,rfl,rfl,rfl⟩,⟨_,_,rfl, .inr ⟨_,_,_,_,rfl,rfl,rfl⟩,⟨_,_,rfl, .inr ⟨_,_,_,_,rfl,rfl,rfl⟩,rfl⟩⟩⟩),rfl⟩ rfl (Fresh.of rfl) (nlr rfl)) ?_
 refine w4 ?_
 cases f:(decide (0 < ((Zt og).length:Int)))
 have u:=aa f
 refine w6 ?_
 refine lc (Yg 21 (Zy og (SgOk.w d)) X4 ⟨_,_,rfl,(ZJ (Qk rfl) ⟨_,_,rfl, .inr ⟨_,_,_,_,rfl,rfl,rfl⟩,⟨_,_,rfl, .inr ⟨_,_,_,_,rfl,rfl,rfl⟩,⟨_,_,rfl, .inr ⟨_,_,_,_,rfl,rfl,rfl⟩,rfl⟩⟩⟩),rfl⟩ rfl (Fresh.of rfl) (nlr rfl)) ?_
 refine w3 ?_
 have m:(decide (0 < ((Zt og).length:Int)))=false:=f
 try rw[m]
 refine w10 ?_
 have v:(true:Bool)=((ZW c).2.2):=by
  (rw[Y4 (og:=og) (il:=il) ‹_› (a.trans (Zz d (.inl (by omega)))) (by omega)]; done)
 exact fi_ [(0,10),(1,11),(2,12),(3,14)] i ⟨(Qe (by (rw[Y4 (og:=og) (il:=il) ‹_› (a.trans (Zz d (.inl (by omega)))) (by omega)]; done))),(Qe (by (rw[Y4 (og:=og) (il:=il) ‹_› (a.trans (Zz d (.inl (by omega)))) (by omega)]; done))),(Qe (by (rw[Y4 (og:=og) (il:=il) ‹_› (a.trans (Zz d (.inl (by omega)))) (by omega)]; done))),(Qe (by (rw[Y4 (og:=og) (il:=il) ‹_› (a.trans (Zz d (.inl (by omega)))) (by omega)]; done))),trivial⟩ (h0:=by rw[← v] <;> rfl)
 have u:=ab f
 refine w6 ?_
 refine lc (Ze (Qeg og d) QmB ⟨_,_,rfl,(ZJ (Qk rfl) ⟨_,_,rfl, .inr ⟨_,_,_,_,rfl,rfl,rfl⟩,⟨_,_,rfl, .inr ⟨_,_,_,_,rfl,rfl,rfl⟩,⟨_,_,rfl, .inr ⟨_,_,_,_,rfl,rfl,rfl⟩,rfl⟩⟩⟩),rfl⟩ rfl rfl rfl) ?_
 refine w3 ?_
 refine lc (xal 22 Ws VY) ?_
 refine w6 ?_
 refine lc (Ze (WL og (Zu og (QQ og))) QfI ⟨_,_,rfl,(ZJ (Qk rfl) ⟨_,_,rfl, .inr ⟨_,_,_,_,rfl,rfl,rfl⟩,⟨_,_,rfl, .inr ⟨_,_,_,_,rfl,rfl,rfl⟩,⟨_,_,rfl, .inr ⟨_,_,_,_,rfl,rfl,rfl⟩,rfl⟩⟩⟩),⟨_,_,rfl,(Ev.b (Qk rfl)),rfl⟩⟩ rfl rfl rfl) ?_
 refine w13 ?_
 cases B:((Q1 og (QQ og)).isSome)
 refine w13 ?_
 refine lc (Yg 23 (Zy og (SgOk.w d)) X4 ⟨_,_,rfl,(ZJ (Qk rfl) ⟨_,_,rfl, .inr ⟨_,_,_,_,rfl,rfl,rfl⟩,⟨_,_,rfl, .inr ⟨_,_,_,_,rfl,rfl,rfl⟩,⟨_,_,rfl, .inr ⟨_,_,_,_,rfl,rfl,rfl⟩,rfl⟩⟩⟩),rfl⟩ rfl (Fresh.of rfl) (nlr rfl)) ?_
 refine w3 ?_
 have o:(decide (0 < ((Zt og).length:Int)))=true:=f
 try rw[o]
 refine w2 ?_
 refine lc (Qi Q8 rfl (ak.1 rfl) rfl rfl) ?_
 refine w4 ?_
 refine AC.wk (Qp 24 (p:=1) (off:=0) 77 QE rfl rfl (Fresh.of rfl) (nlr rfl))<|AC.wk (Qp 25 (p:=1) (off:=1) 9 .str rfl rfl (Fresh.of rfl) (nlr rfl))<|AC.wk (Qp 26 (p:=1) (off:=2) 154 QD rfl rfl (Fresh.of rfl) (nlr rfl))<|AC.wk (Wk.nilS 27 3 314 Ws rfl (Fresh.of rfl) (nlr rfl))<|Qd ?_
 have y:(false:Bool)=((ZW c).2.2):=by
  (rw[Q3 (og:=og) (il:=il) (a.trans (Zz d (.inr (.inl ‹_›)))) (by omega)]; done)
 exact fi_ [(0,24),(1,25),(2,26),(3,27)] i ⟨(Qe (by (rw[Q3 (og:=og) (il:=il) (a.trans (Zz d (.inr (.inl ‹_›)))) (by omega)]; rfl))),(Qe (by (rw[Q3 (og:=og) (il:=il) (a.trans (Zz d (.inr (.inl ‹_›)))) (by omega)]; rfl))),(Qe (by (rw[Q3 (og:=og) (il:=il) (a.trans (Zz d (.inr (.inl ‹_›)))) (by omega)]; rfl))),(Qe (by (rw[Q3 (og:=og) (il:=il) (a.trans (Zz d (.inr (.inl ‹_›)))) (by omega)]; done))),trivial⟩ (h0:=by rw[← y] <;> rfl)
 refine w2 ?_
 refine lgy rfl rfl (Yg 28 (Zy og (SgOk.w d)) X4 ⟨_,_,rfl,(ZJ (Qk rfl) ⟨_,_,rfl, .inr ⟨_,_,_,_,rfl,rfl,rfl⟩,⟨_,_,rfl, .inr ⟨_,_,_,_,rfl,rfl,rfl⟩,⟨_,_,rfl, .inr ⟨_,_,_,_,rfl,rfl,rfl⟩,rfl⟩⟩⟩),rfl⟩ rfl (Fresh.of rfl) (nlr rfl)) ?_
 refine w4 ?_
 cases g:(decide (((Zt og).length:Int)≤(XJ og (Zu og (QQ og)))))
 have h:=aa g
 refine w5 ?_
 refine lc (YX 29 (VE og (Zu og (QQ og)) d) QaY ⟨_,_,rfl,(ZJ (Qk rfl) ⟨_,_,rfl, .inr ⟨_,_,_,_,rfl,rfl,rfl⟩,⟨_,_,rfl, .inr ⟨_,_,_,_,rfl,rfl,rfl⟩,⟨_,_,rfl, .inr ⟨_,_,_,_,rfl,rfl,rfl⟩,rfl⟩⟩⟩),⟨_,_,rfl,(Ev.b (Qk rfl)),rfl⟩⟩ rfl rfl rfl ⟨Fresh.of rfl,Fresh.of rfl,Fresh.of rfl,trivial⟩ (nlr rfl)) ?_
 refine w8 ?_
 refine lc (dBs 32 (e:=Ws) VY (hab:=by exact ⟨_,_,_,_,rfl,⟨[dI (((Zu og (QQ og)).1).1),dB (((Zu og (QQ og)).1).2)],[dI (((Zu og (QQ og)).2).1),dB (((Zu og (QQ og)).2).2)],_,_,_,_,rfl,rfl,⟨[dI (((Zu og (QQ og)).1).1)],[dB (((Zu og (QQ og)).1).2)],_,_,_,_,rfl,rfl,⟨rfl,rfl⟩,⟨rfl,rfl⟩,rfl⟩,⟨[dI (((Zu og (QQ og)).2).1)],[dB (((Zu og (QQ og)).2).2)],_,_,_,_,rfl,rfl,⟨rfl,rfl⟩,⟨rfl,rfl⟩,rfl⟩,rfl⟩,⟨rfl,rfl⟩,rfl⟩)) ?_
 refine lc (dA 33 Qi3) ?_
 refine w_ ?_
 refine Qb ?_
 refine w5 ?_
 refine Qb<|QW ⟨k+1,((Zp og (Zu og (QQ og))).1),(il++([((((Zu og (QQ og)).1).1,((Zu og (QQ og)).1).2),(((Zu og (QQ og)).2).1,((Zu og (QQ og)).2).2))])),by omega,rfl,(QtB d ‹_›),(by simp only[aj,au,aH]; omega),(a.trans (Qtb d (by omega) (by omega) ‹_› (by omega))),rfl⟩ (by omega) ?_
 exact wp [(10,29),(11,30),(12,31),(14,33)] ⟨rfl,rfl,rfl,rfl,rfl,(Qe (by first | rfl | simp)),trivial⟩
 have h:=ab g
 refine w6 ?_
 refine lc (Yg 34 (Zy og (SgOk.w d)) X4 ⟨_,_,rfl,(ZJ (Qk rfl) ⟨_,_,rfl, .inr ⟨_,_,_,_,rfl,rfl,rfl⟩,⟨_,_,rfl, .inr ⟨_,_,_,_,rfl,rfl,rfl⟩,⟨_,_,rfl, .inr ⟨_,_,_,_,rfl,rfl,rfl⟩,rfl⟩⟩⟩),rfl⟩ rfl (Fresh.of rfl) (nlr rfl)) ?_
 refine w3 ?_
 have q:(decide (0 < ((Zt og).length:Int)))=true:=f
 try rw[q]
 refine w2 ?_
 refine lc (Qi Q8 rfl (ak.1 rfl) rfl rfl) ?_
 refine w4 ?_
 refine AC.wk (Qp 35 (p:=1) (off:=0) 77 QE rfl rfl (Fresh.of rfl) (nlr rfl))<|AC.wk (Qp 36 (p:=1) (off:=1) 9 .str rfl rfl (Fresh.of rfl) (nlr rfl))<|AC.wk (Qp 37 (p:=1) (off:=2) 154 QD rfl rfl (Fresh.of rfl) (nlr rfl))<|AC.wk (Wk.nilS 38 3 314 Ws rfl (Fresh.of rfl) (nlr rfl))<|Qd ?_
 have z:(false:Bool)=((ZW c).2.2):=by
  (rw[Q3 (og:=og) (il:=il) (a.trans (Zz d (.inr (.inr (by omega))))) (by omega)]; done)
 exact fi_ [(0,35),(1,36),(2,37),(3,38)] i ⟨(Qe (by (rw[Q3 (og:=og) (il:=il) (a.trans (Zz d (.inr (.inr (by omega))))) (by omega)]; rfl))),(Qe (by (rw[Q3 (og:=og) (il:=il) (a.trans (Zz d (.inr (.inr (by omega))))) (by omega)]; rfl))),(Qe (by (rw[Q3 (og:=og) (il:=il) (a.trans (Zz d (.inr (.inr (by omega))))) (by omega)]; rfl))),(Qe (by (rw[Q3 (og:=og) (il:=il) (a.trans (Zz d (.inr (.inr (by omega))))) (by omega)]; done))),trivial⟩ (h0:=by rw[← z] <;> rfl)
theorem Qoh [∀c,Decidable (SgOk c)][∀s,Decidable (Zo s)](c:DSg):((ZW c).1.1.length≤8∧(ZW c).1.2.1.length≤300∧(ZW c).1.2.2.length≤4000)∧(ZW c).2.1.length≤2:=by
 unfold ZW
 split
 ·rename_i h
  have d:∀(f:Nat) (c:DSg) (l:List Z3),SgOk c→SgOk (VH f c l).1∧(VH f c l).2.length≤l.length+f:=fun f=>by
   induction f with
   | zero=>intro c l h; exact ⟨h,aJ _⟩
   | succ f e=>
    intro c l h
    rw[VH]
    split
    ·rename_i g
     obtain ⟨a,b⟩:=e (Zg c (QQ c)).2 (l++[Zu c (QQ c)]) (QbK h g.2.1)
     refine ⟨a,aU b ?_⟩
     rw[aj,au,aH]; omega
    ·exact ⟨h,Nat.le_add_right _ _⟩
  obtain ⟨a,b⟩:=d 2 c [] h.1
  exact ⟨⟨a.sigs.2.2,a.some_.2,a.few⟩,b⟩
 ·exact ⟨⟨aG _,aG _,aG _⟩,aG _⟩
end Go.Proofs.YtndabgcpnmeeoaaGreat
