/- Walks over abstract states: the state graph, both sides. -/
import Derived.Test.YtndabgcpnmeeoaaGreatOWp
set_option linter.unusedSimpArgs false
set_option linter.unusedVariables false
set_option linter.unusedSectionVars false
namespace Go.Proofs.YtndabgcpnmeeoaaGreat
open Go.RowKit
set_option maxRecDepth 100000
set_option maxHeartbeats 4000000
def JJ:Nat→List ByteArray→List UInt8→List ByteArray
 | _,c,[]=>c
 | i,c,v :: vs=>JJ (i+1) (c.set i ((c[i]?).getD ByteArray.empty++⟨#[v]⟩)) vs
def goS (n:Nat)(arcs:List DAr):Nat→Nat→List ByteArray→Option (List ByteArray)
 | 0,_,c=>some c
 | f+1,k,c=>if (Z9 n arcs (k:Int)).2=true then goS n arcs f (k+1) (JJ 0 c (Z9 n arcs (k:Int)).1) else none
section
variable {n f k i m:Nat}{arcs:List DAr}{c codes:List ByteArray}{vs us:List UInt8}{v:UInt8}{x:ByteArray}
theorem Qb1 (hv:vs[i]? =some v)(a:c[i]? =some x):JJ i c (vs.drop i)=JJ (i+1) (c.set i (x++⟨#[v]⟩)) (vs.drop (i+1)):=by
 rw[ZA hv,JJ,a]
 rfl
theorem Qjf (h:vs.length≤i):JJ i c (vs.drop i)=c:=by rw[bz h,JJ]
theorem QrO (a:k < m)(h:(Z9 n arcs (k:Int)).2=true):goS n arcs (m - k) k c=goS n arcs (m - (k+1)) (k+1) (JJ 0 c (Z9 n arcs (k:Int)).1):=by
 rw[show m - k=(m - (k+1))+1 by omega,goS,if_pos h]
theorem QdL (a:k < m)(h:(Z9 n arcs (k:Int)).2=false):goS n arcs (m - k) k c=none:=by
 rw[show m - k=(m - (k+1))+1 by omega,goS,if_neg (by rw[h]; decide)]
theorem UK (a:m≤k):goS n arcs (m - k) k c=some c:=by rw[show m - k=0 by omega,goS]
theorem QrN {j:Nat}(h:(Z9 n arcs (j:Int)).2=false)(d:k≤j)(b:j < k+f):goS n arcs f k c=none:=by
 induction f generalizing k c with
 | zero=>omega
 | succ f a=>
  rw[goS]
  by_cases e:j=k
  ·subst e; rw[if_neg (by rw[h]; decide)]
  ·split
   ·exact a (by omega) (by omega)
   ·rfl
theorem QmY (e:∀a∈arcs,InR n a)(sig:Int):(Z9 n arcs sig).2=(l5V n arcs sig).2:=by
 rcases Qfn (sig:=sig) e with ⟨b,d,_⟩ | ⟨us,b,_,d⟩
 ·rw[b,d]
 ·rw[b,d]
theorem QkY (h:¬0 < ((WJ n arcs m).length:Int))(d:k < m):(l5V n arcs (k:Int)).2=true:=by
 induction m with
 | zero=>omega
 | succ m b=>
  simp only[WJ,ae] at h
  by_cases e:k=m
  ·subst e
   cases a:(l5V n arcs (k:Int)).2 with
   | true=>rfl
   | false=>rw[a] at h; simp at h
  ·exact b (by omega) (by omega)
theorem KP (e:∀a∈arcs,InR n a)(h:0 < ((WJ n arcs m).length:Int)):goS n arcs m 0 c=none:=by
 have:∃j,j < m∧(l5V n arcs (j:Int)).2=false:=by
  induction m with
  | zero=>simp[WJ] at h
  | succ m g=>
   simp only[WJ,ae] at h
   cases b:(l5V n arcs (m:Int)).2 with
   | false=>exact ⟨m,by omega,b⟩
   | true=>
    rw[b] at h
    obtain ⟨j,o,d⟩:=g (by simpa using h)
    exact ⟨j,by omega,d⟩
 obtain ⟨j,l,b⟩:=this
 exact QrN ((QmY e _).trans b) (aP _) (by omega)
theorem Qkx (e:∀a∈arcs,InR n a)(sig:Int):(Z9 n arcs sig).1.length≤n:=by
 rcases Qfn (sig:=sig) e with ⟨_,_,_,b⟩ | ⟨us,_,d,b⟩
 ·rw[b]; exact aP _
 ·rw[b,aB,d]; exact aL _
theorem QfR {b:Nat}{y:ByteArray}(h:∀z∈c,z.size≤b)(d:c[i]? =some x)(g:y.size≤x.size+1):∀z∈c.set i y,z.size≤b+1:=fun z e=>by
 rcases cR e with a | a
 ·exact dD (h z a)
 ·rw[a]; have:=h x (ai d); omega
theorem U5 {ls:List Q9}{ms:List DMv}{q:Nat}(h:∀v∈ms,MvOk n q v):∀a∈QA ls ms,InR n a:=fun a e=>by
 obtain ⟨v,g,rfl⟩:=aR.1 e
 obtain ⟨b,_,d⟩:=h v g
 exact ⟨b,d⟩
theorem Qwd {sig:Int}(g:∀a∈arcs,InR n a)(h:(l5V n arcs sig).2=true):∃us:List UInt8,(l5V n arcs sig).1=⟨us.toArray⟩∧us.length=n∧(l5V n arcs sig).1.size=n∧Z9 n arcs sig=(us.map q0,true):=by
 rcases Qfn (sig:=sig) g with ⟨b,_⟩ | ⟨us,b,d,e⟩
 ·rw[b] at h; cases h
 ·exact ⟨us,by rw[b],d,by rw[b,← d]; rfl,e⟩
theorem QdJ (b:ByteArray)(i:Nat):(b.extract i (i+1)).size≤1:=by simp only[ba]; omega
theorem QxP (d:us[i]? =some v):(⟨us.toArray⟩:ByteArray).extract i (i+1)=⟨#[v]⟩:=by
 apply ByteArray.ext
 simp only[ByteArray.data_extract]
 obtain ⟨e,a⟩:=ah.1 d
 apply Array.ext
 ·simp; omega
 ·intro j g b
  have:j=0:=by simp at b; omega
  subst this
  simp[a]
theorem Qvr (a:us[i]? =some v):(us.map q0)[i]? =some (q0 v):=by rw[bo,a]; rfl
theorem QqL {b:ByteArray}(hb:b=⟨us.toArray⟩)(hi:i < us.length)(g:decide (b.extract i (i+1)=⟨#[63]⟩)=true)(h:c[i]? =some x):JJ i c ((us.map q0).drop i)=JJ (i+1) (c.set i (x++⟨#[48]⟩)) ((us.map q0).drop (i+1)):=by
 have d:=ap hi
 have a:=ab g
 rw[hb,QxP d] at a
 have e:us[i]=63:=by
  have:=congrArg (fun b:ByteArray=>b.data[0]?) a
  simpa using this
 have:=Qb1 (Qvr d) h
 rwa [show q0 us[i]=48 by rw[e]; rfl] at this
theorem QqK {b:ByteArray}(hb:b=⟨us.toArray⟩)(hi:i < us.length)(g:decide (b.extract i (i+1)=⟨#[63]⟩)=false)(h:c[i]? =some x):JJ i c ((us.map q0).drop i)=JJ (i+1) (c.set i (x++b.extract i (i+1))) ((us.map q0).drop (i+1)):=by
 have d:=ap hi
 have a:=aa g
 rw[hb,QxP d] at a ⊢
 have:=Qb1 (Qvr d) h
 rwa [show q0 us[i]=us[i] by unfold q0; rw[if_neg]; intro e; exact a (by rw[e])] at this
theorem QqJ (h:us.length≤i):JJ i c ((us.map q0).drop i)=c:=Qjf (by simpa using h)
end
section
variable [∀s,Decidable (StgOk s)]{s:Qy}{c:List ByteArray}
def QaW:List (ByteArray×Int)×List ByteArray×List DAr:=([],[],[])
def sgV (s:Qy):(List (ByteArray×Int)×List ByteArray×List DAr)×Bool:=
 if (Qb s).2=true∧¬4000 < (Qb s).1.2.length then
  (match goS (Qb s).1.1.length (QA s.2.2.1 (Qb s).1.2) s.2.1.length 0 (List.replicate (Qb s).1.1.length ByteArray.empty) with
  | some c=>((s.2.1,c,QA s.2.2.1 (Qb s).1.2),true)
  | none=>(QaW,false))
 else (QaW,false)
theorem VR (h:(Qb s).2=false):sgV s=(QaW,false):=if_neg fun a=>by rw[h] at a; cases a.1
theorem UP (h:(4000:Int) < ((Qb s).1.2.length:Int)):sgV s=(QaW,false):=if_neg fun a=>a.2 (by omega)
theorem UQ (h:goS (Qb s).1.1.length (QA s.2.2.1 (Qb s).1.2) s.2.1.length 0 (List.replicate (Qb s).1.1.length ByteArray.empty)=none):sgV s=(QaW,false):=by
 unfold sgV
 rw[h]
 split <;> rfl
theorem UR (a:(Qb s).2=true)(b:¬(4000:Int) < ((Qb s).1.2.length:Int))(h:goS (Qb s).1.1.length (QA s.2.2.1 (Qb s).1.2) s.2.1.length 0 (List.replicate (Qb s).1.1.length ByteArray.empty)=some c):
 sgV s=((s.2.1,c,QA s.2.2.1 (Qb s).1.2),true):=by
 unfold sgV
 rw[if_pos ⟨a,by omega⟩,h]
end
theorem Z2 (s:YA)[∀s,Decidable (StgOk s)]:FC Tryz.prog 111 [(true,[dI s.1.1, .dat QF s.1.2, .dat Qo s.2.1, .dat Qw s.2.2.1,dS s.2.2.2])] [] 0 (Is (PV.tup [(true,[.ref 0, .ref 1, .ref 2]),(false,[dB ((sgV s).2)])]) [ar 0 77 QE (((sgV s).1).1),ar 1 9 .str (((sgV s).1).2.1),ar 2 154 W8 (((sgV s).1).2.2)]):=by
 refine Qn Tryz.func111 rfl rfl Tryz.ntmps111 fun O_ F a4 P X_ T S=> ?_
 refine acG 0 0 fun _=> ?_
 refine w_ ?_
 refine xbx 0 ?_
 refine lc (xal 1 Qf1 VB) ?_
 refine w4 ?_
 refine lc (dG 2 (Vw s) Qaz) ?_
 refine w3 ?_
 refine lc (xal 4 Qdu XI) ?_
 refine w8 ?_
 cases a0:((Qb s).2)
 refine w8 ?_
 refine lc (Qj JL rfl (av.1 rfl) rfl rfl) ?_
 refine w3 ?_
 refine AC.wk (Qq 5 (p:=1) (off:=0) 77 QE rfl rfl (Fresh.of rfl) (nlr rfl))<|AC.wk (Qq 6 (p:=1) (off:=1) 9 .str rfl rfl (Fresh.of rfl) (nlr rfl))<|AC.wk (Qq 7 (p:=1) (off:=2) 154 W8 rfl rfl (Fresh.of rfl) (nlr rfl))<|Qe ?_
 have Q:(false:Bool)=((sgV s).2):=by
  (rw[VR ‹_›]; done)
 exact fi_ [(0,5),(1,6),(2,7)] F ⟨(Qh (by (rw[VR ‹_›]; rfl))),(Qh (by (rw[VR ‹_›]; rfl))),(Qh (by (rw[VR ‹_›]; rfl))),trivial⟩ (h0:=by rw[← Q] <;> rfl)
 refine w6 ?_
 refine cd_ (fun _ _=> ?_) fun _ _=> ?_
 refine w_ ?_
 obtain ⟨K,W,X,Y,z,V⟩:=Zs (s:=s) ‹_›
 have t:=U5 (ls:=s.2.2.1) z
 have a3:=QfQ K.sigs
 apply dW (i2 26 _ _ [⟨some 28,lR 8,[ar 8 77 QE s.2.1]⟩,io 29 (lP 4 0),io 30 (lR 2),io 31 (lI ((((Qb s).1).1).length:Int)),⟨some 32,lR 9,[ar 9 9 .str (List.replicate ((((Qb s).1).1).length) (Ty.zero .str))]⟩,io 33 (ag [dI s.1.1, .dat QF s.1.2, .dat Qo s.2.1, .dat Qw s.2.2.1,dS s.2.2.2]),io 34 (ag [.ref 2, .ref 3]),⟨some 35,lR 10,[ar 10 154 W8 (QA s.2.2.1 ((Qb s).1).2)]⟩,io 36 (ag [.ref 8, .ref 9, .ref 10]),⟨some 6,lP 11 0,[bx 11 28 [.val (.slice none 0 0), .val (.slice none 0 0), .val (.slice none 0 0)]]⟩,⟨none,lf (.val undef),[bx 11 28 [.ref 8, .ref 9, .ref 10]]⟩]) [0,0,0,7,7,7,7,127,255,120,0,2047,0]
 refine z2 ?_
 refine zz (fun _ d=>ac (dO 8 (Xf s.2.1 (by omega)) Qlr) rfl) ?_
 refine z3 ?_
 refine zz (fun _ d=>ac (U0 9 (e:= .str) (n:=(((Qb s).1).1).length) (d.v rfl) (d.v rfl) XQ Qvn rfl (by omega) (by omega) rfl (d.fr 9 rfl) (nlr rfl)) rfl) ?_
 refine z2 ?_
 refine zz (fun _ d=>ac (UC 10 (JX s ((Qb s).1) (fun m hm=>(z m hm).2.1) (by omega)) Qls ⟨_,_,rfl,(Ev.b (d.w rfl)),⟨_,_,rfl,(Jl (d.w rfl) ⟨_,_,rfl, .inr ⟨_,_,_,_,rfl,(d.en 2 rfl),rfl⟩,⟨_,_,rfl, .inr ⟨_,_,_,_,rfl,(d.en 3 rfl),rfl⟩,rfl⟩⟩),rfl⟩⟩ rfl (d.fr 10 rfl) (nlr rfl)) rfl)<|zz (fun _ d=>ac (Qj JL ⟨_,_,rfl,(d.w rfl),⟨_,_,rfl,(d.w rfl),⟨_,_,rfl,(d.w rfl),rfl⟩⟩⟩ (av.1 (by simp only[QW,XG,bd,bt]; rw[(d.en 8 rfl),(d.en 9 rfl),(d.en 10 rfl)]; rfl)) rfl rfl) rfl)<|zz (fun _ d=>ac (YP 11 Qf1 VB rfl rfl (d.fr 11 rfl) (nlr rfl)) rfl)<|zz (fun _ d=>ac (Q6 (d.v rfl) (d.en 11 rfl) (d.w rfl) (by simp only[QW,XG,bd,bt]; rw[(d.en 8 rfl),(d.en 9 rfl),(d.en 10 rfl)]; rfl) Qtc rfl) rfl) ?_
 exact zN
 refine w4 ?_
 refine alL 38 fun _=> ?_
 refine w4 ?_
 refine QH (fun D E=>∃(k:Nat) (codes:List ByteArray),k≤s.2.1.length∧D=s.2.1.length - k∧(goS (Qb s).1.1.length (QA s.2.2.1 (Qb s).1.2) s.2.1.length 0 (List.replicate (Qb s).1.1.length ByteArray.empty)=goS (Qb s).1.1.length (QA s.2.2.1 (Qb s).1.2) (s.2.1.length - k) k codes)∧(codes.length=(Qb s).1.1.length)∧(∀c∈codes,c.size≤300*k)∧E=⟨[(2,lP 1 0),(4,lP 4 0),(6,lP 11 0),(39,lI (s.2.1.length:Int)),(40,lI (k:Int))],[bx 1 28 [.val (.slice none 0 0), .val (.slice none 0 0), .val (.slice none 0 0)],ar 2 9 .str (((Qb s).1).1),ar 3 301 Zx (((Qb s).1).2),bx 4 178 [.ref 2, .ref 3],ar 8 77 QE s.2.1,ar 10 154 W8 (QA s.2.2.1 ((Qb s).1).2),bx 11 28 [.ref 8, .ref 12, .ref 10],ar 12 9 .str codes]⟩) ⟨0,List.replicate ((((Qb s).1).1).length) (Ty.zero .str),aP _,rfl,rfl,(by simp),(fun c J=>by rw[cW J]; exact aP _),rfl⟩ ?_ ?_
 exact wp [(12,9)] ⟨rfl,rfl,rfl,rfl,rfl,rfl,rfl,(Qh (by first | rfl | simp)),trivial⟩
 rintro D E ⟨k,codes,a1,a2,l,U,Z,rfl⟩
 refine w4 ?_
 cases A:(decide ((k:Int) < (s.2.1.length:Int)))
 have B:=aa A
 refine w9 ?_
 have R:(true:Bool)=((sgV s).2):=by
  (rw[UR ‹_› ‹_› (l.trans (UK (by omega)))]; done)
 exact fi_ [(0,8),(1,12),(2,10)] F ⟨(Qh (by (rw[UR ‹_› ‹_› (l.trans (UK (by omega)))]; done))),(Qh (by (rw[UR ‹_› ‹_› (l.trans (UK (by omega)))]; done))),(Qh (by (rw[UR ‹_› ‹_› (l.trans (UK (by omega)))]; done))),trivial⟩ (h0:=by rw[← R] <;> rfl)
 have B:=ab A
 refine w15 ?_
 refine lc (Ve 13 (Qcl ((((Qb s).1).1).length:Int) (QA s.2.2.1 ((Qb s).1).2) (k:Int) (by omega) t) Qlt ⟨_,_,rfl,(Ev.b (Ql rfl)),⟨_,_,rfl,(KI (Qa rfl) rfl),⟨_,_,rfl,(Ev.b (Ql rfl)),rfl⟩⟩⟩ rfl rfl rfl ⟨Fresh.of rfl,trivial⟩ (nlr rfl)) ?_
 refine w11 ?_
 cases M:((Z9 ((((Qb s).1).1).length:Int).toNat (QA s.2.2.1 ((Qb s).1).2) (k:Int)).2)
 refine w2 ?_
 refine lc (Qj JL rfl (av.1 rfl) rfl rfl) ?_
 refine w3 ?_
 refine AC.wk (Qq 14 (p:=1) (off:=0) 77 QE rfl rfl (Fresh.of rfl) (nlr rfl))<|AC.wk (Qq 15 (p:=1) (off:=1) 9 .str rfl rfl (Fresh.of rfl) (nlr rfl))<|AC.wk (Qq 16 (p:=1) (off:=2) 154 W8 rfl rfl (Fresh.of rfl) (nlr rfl))<|Qe ?_
 have H:(false:Bool)=((sgV s).2):=by
  (rw[UQ (l.trans (QdL (by omega) ‹_›))]; done)
 exact fi_ [(0,14),(1,15),(2,16)] F ⟨(Qh (by (rw[UQ (l.trans (QdL (by omega) ‹_›))]; rfl))),(Qh (by (rw[UQ (l.trans (QdL (by omega) ‹_›))]; rfl))),(Qh (by (rw[UQ (l.trans (QdL (by omega) ‹_›))]; rfl))),trivial⟩ (h0:=by rw[← H] <;> rfl)
 refine w8 ?_
 refine QH (fun D E=>∃(i:Nat) (a:List ByteArray),i≤(Z9 (((Qb s).1.1.length:Int)).toNat (QA s.2.2.1 (Qb s).1.2) (k:Int)).1.length∧D=(Z9 (((Qb s).1.1.length:Int)).toNat (QA s.2.2.1 (Qb s).1.2) (k:Int)).1.length - i∧(JJ 0 codes (Z9 (((Qb s).1.1.length:Int)).toNat (QA s.2.2.1 (Qb s).1.2) (k:Int)).1=JJ i a ((Z9 (((Qb s).1.1.length:Int)).toNat (QA s.2.2.1 (Qb s).1.2) (k:Int)).1.drop i))∧(a.length=(Qb s).1.1.length)∧(∀c∈a,c.size≤300*k+i)∧E=⟨[(2,lP 1 0),(4,lP 4 0),(6,lP 11 0),(7,lI (k:Int)),(8,lR 13),(9,lB true),(39,lI (s.2.1.length:Int)),(40,lI (k:Int)),(41,lB true),(42,lI (k:Int)),(43,PV.tup [(false,[.ref 13]),(false,[dB true])]),(44,lP 4 0),(45,lR 2),(46,lI ((((Qb s).1).1).length:Int)),(47,lP 11 2),(48,lR 10),(49,lI (k:Int)),(50,PV.tup [(false,[.ref 13]),(false,[dB true])]),(51,lR 13),(52,lB true),(53,lB true),(54,lB (!true)),(56,lR 13),(57,lI (((Z9 ((((Qb s).1).1).length:Int).toNat (QA s.2.2.1 ((Qb s).1).2) (k:Int)).1).length:Int)),(58,lI (i:Int))],[bx 1 28 [.val (.slice none 0 0), .val (.slice none 0 0), .val (.slice none 0 0)],ar 2 9 .str (((Qb s).1).1),ar 3 301 Zx (((Qb s).1).2),bx 4 178 [.ref 2, .ref 3],ar 8 77 QE s.2.1,ar 10 154 W8 (QA s.2.2.1 ((Qb s).1).2),bx 11 28 [.ref 8, .ref 17, .ref 10],ar 13 5 .u8 ((Z9 ((((Qb s).1).1).length:Int).toNat (QA s.2.2.1 ((Qb s).1).2) (k:Int)).1),ar 17 9 .str a]⟩) ⟨0,codes,aP _,rfl,rfl,U,Z,rfl⟩ ?_ ?_
 exact wo [(17,12)]
 rintro D E ⟨i,a,N,O,u,y,q,rfl⟩
 have L:(Z9 (((Qb s).1.1.length:Int)).toNat (QA s.2.2.1 (Qb s).1.2) (k:Int)).1.length≤(Qb s).1.1.length:=Qkx t (k:Int)
 refine w4 ?_
 cases o:(decide ((i:Int) < (((Z9 ((((Qb s).1).1).length:Int).toNat (QA s.2.2.1 ((Qb s).1).2) (k:Int)).1).length:Int)))
 have r:=aa o
 refine w6 ?_
 refine Qf<|ZF ⟨k+1,a,by omega,rfl,(by rw[l,QrO (by omega) ‹_›]; exact congrArg _ (u.trans (Qjf (by omega)))),y,(fun c J=>bn (q c J) (by have L:(Z9 (((Qb s).1.1.length:Int)).toNat (QA s.2.2.1 (Qb s).1.2) (k:Int)).1.length≤(Qb s).1.1.length:=Qkx t (k:Int); omega)),rfl⟩ (by omega) ?_
 exact wo [(12,17)]
 have r:=ab o
 refine w7 ?_
 obtain ⟨h,C⟩:=gx ((Z9 ((((Qb s).1).1).length:Int).toNat (QA s.2.2.1 ((Qb s).1).2) (k:Int)).1) i
 refine w4 ?_
 obtain ⟨j,g⟩:=gx a i
 have G:=q _ (ai g)
 apply dV (i3 63 _ _ _ [io 66 (lf (.ept 17 1 i 0)),io 67 (lf (dS j)),io 68 _,⟨some 69,lR 18,[ar 18 5 .u8 ([h])]⟩,io 70 (lf (dS (⟨#[h]⟩:ByteArray))),io 71 (lf (dS (j++(⟨#[h]⟩:ByteArray)))),io 72 (lf (.ept 17 1 i 0)),⟨none,lf (.val undef),[ar 17 9 .str (a.set i (j++(⟨#[h]⟩:ByteArray)))]⟩]) [0,0,3,0,0,31,31,31,0,0,0]
 refine z3 ?_
 refine zz (fun _ d=>ac (QU (e:= .str) (d.v rfl) (d.en 17 rfl) (d.v rfl) XQ Xw rfl (by omega) (by first | omega | (simp only[au]; omega))) rfl)<|zz (fun _ d=>ac (Zi (e:= .str) (d.v rfl) (d.n 17 rfl) g rfl Xw rfl rfl) rfl) ?_
 refine z_ ?_
 refine zz (fun _ d=>ac (dBs 18 (e:= .u8) Qkz) rfl) ?_
 refine zz (fun _ d=>ac (XA (ys:=[h]) (U1 (d.v rfl) (d.n 18 rfl)) YN QbT ZN rfl) rfl)<|zz (fun _ d=>ac (Q7 (d.v rfl) (d.v rfl) rfl (by simp only[Yy]; omega)) rfl)<|zz (fun _ d=>ac (QU (e:= .str) (d.v rfl) (d.en 17 rfl) (d.v rfl) XQ Xw rfl (by omega) (by first | omega | (simp only[au]; omega))) rfl)<|zz (fun _ d=>ac (Qz (e:= .str) (z':=j++(⟨#[h]⟩:ByteArray)) (d.v rfl) (d.n 17 rfl) g rfl (d.w rfl) rfl Xw rfl rfl) rfl) ?_
 exact zN
 refine w4 ?_
 refine Qf<|ZF ⟨i+1,(a.set i (j++(⟨#[h]⟩:ByteArray))),by omega,rfl,u.trans (Qb1 C g),(by rw[au]; exact y),(QfR q g (by rw[bc]; exact aL _)),rfl⟩ (by omega) ?_
 exact wp [] ⟨rfl,rfl,rfl,rfl,rfl,rfl,rfl,rfl,(Qh (by first | rfl | simp)),trivial⟩
 refine w_ ?_
 refine lc (Qj JL rfl (av.1 rfl) rfl rfl) ?_
 refine w3 ?_
 refine AC.wk (Qq 19 (p:=1) (off:=0) 77 QE rfl rfl (Fresh.of rfl) (nlr rfl))<|AC.wk (Qq 20 (p:=1) (off:=1) 9 .str rfl rfl (Fresh.of rfl) (nlr rfl))<|AC.wk (Qq 21 (p:=1) (off:=2) 154 W8 rfl rfl (Fresh.of rfl) (nlr rfl))<|Qe ?_
 have I:(false:Bool)=((sgV s).2):=by
  (rw[UP ‹_›]; done)
 exact fi_ [(0,19),(1,20),(2,21)] F ⟨(Qh (by (rw[UP ‹_›]; rfl))),(Qh (by (rw[UP ‹_›]; rfl))),(Qh (by (rw[UP ‹_›]; rfl))),trivial⟩ (h0:=by rw[← I] <;> rfl)
theorem YJ (s:YA)[∀s,Decidable (StgOk s)]:FC Tryz.prog 132 [(true,[dI s.1.1, .dat QF s.1.2, .dat Qo s.2.1, .dat Qw s.2.2.1,dS s.2.2.2])] [] 0 (Is (PV.tup [(true,[.ref 0, .ref 1, .ref 2]),(false,[dB ((sgV s).2)])]) [ar 0 77 QE (((sgV s).1).1),ar 1 9 .str (((sgV s).1).2.1),ar 2 154 W8 (((sgV s).1).2.2)]):=by
 refine Qn Tryz.func132 rfl rfl Tryz.ntmps132 fun O_ T b9 a5 X_ a7 a6=> ?_
 refine acG 0 0 fun _=> ?_
 refine w_ ?_
 refine xbx 0 ?_
 refine lc (xal 1 Qf1 VB) ?_
 refine w4 ?_
 refine lc (dG 2 (XY s) KT) ?_
 refine w3 ?_
 refine lc (xal 4 Qdu XI) ?_
 refine w8 ?_
 cases b2:((Qb s).2)
 refine w15 ?_
 refine lc (Qj JL rfl (av.1 rfl) rfl rfl) ?_
 refine w3 ?_
 refine AC.wk (Qq 5 (p:=1) (off:=0) 77 QE rfl rfl (Fresh.of rfl) (nlr rfl))<|AC.wk (Qq 6 (p:=1) (off:=1) 9 .str rfl rfl (Fresh.of rfl) (nlr rfl))<|AC.wk (Qq 7 (p:=1) (off:=2) 154 W8 rfl rfl (Fresh.of rfl) (nlr rfl))<|Qe ?_
 have e3:(false:Bool)=((sgV s).2):=by
  (rw[VR ‹_›]; done)
 exact fi_ [(0,5),(1,6),(2,7)] T ⟨(Qh (by (rw[VR ‹_›]; rfl))),(Qh (by (rw[VR ‹_›]; rfl))),(Qh (by (rw[VR ‹_›]; rfl))),trivial⟩ (h0:=by rw[← e3] <;> rfl)
 refine w2 ?_
 refine lgy rfl rfl (UC 8 (Qdn s ((Qb s).1) (Zs (s:=s) ‹_›).2.2.2.2.1 (by have:=(Zs (s:=s) ‹_›).2.2.1; omega) (by have:=QfQ (Zs (s:=s) ‹_›).1.sigs; omega)) QlJ ⟨_,_,rfl,(Ev.b (Ql rfl)),⟨_,_,rfl,(Jl (Ql rfl) ⟨_,_,rfl, .inr ⟨_,_,_,_,rfl,rfl,rfl⟩,⟨_,_,rfl, .inr ⟨_,_,_,_,rfl,rfl,rfl⟩,rfl⟩⟩),rfl⟩⟩ rfl (Fresh.of rfl) (nlr rfl)) ?_
 refine w4 ?_
 cases I:(decide (0 < ((WJ ((Qb s).1).1.length (QA s.2.2.1 ((Qb s).1).2) s.2.1.length).length:Int)))
 have J:=aa I
 refine w6 ?_
 refine cd_ (fun _ _=> ?_) fun _ _=> ?_
 refine w_ ?_
 obtain ⟨a2,a9,b0,b1,D,a8⟩:=Zs (s:=s) ‹_›
 have a0:=U5 (ls:=s.2.2.1) D
 have b6:=QfQ a2.sigs
 apply dW [⟨some 36,lR 9,[ar 9 77 QE ([])]⟩,io 37 (lP 0 2),io 38 (lf (.dat Qo s.2.1)),⟨some 39,lR 10,[ar 10 77 QE (([])++s.2.1),(9,none)]⟩,io 40 (lP 4 0),io 41 (lR 2),io 42 (lI ((((Qb s).1).1).length:Int)),⟨some 43,lR 11,[ar 11 9 .str (List.replicate ((((Qb s).1).1).length) (Ty.zero .str))]⟩,io 44 (ag [.ref 10, .ref 11, .val (.slice none 0 0)]),⟨some 6,lP 12 0,[bx 12 28 [.val (.slice none 0 0), .val (.slice none 0 0), .val (.slice none 0 0)]]⟩,⟨none,lf (.val undef),[bx 12 28 [.ref 10, .ref 11, .val (.slice none 0 0)]]⟩] [0,1,1,0,15,15,15,15,0,511,0]
 refine zz (fun _ d=>ac (dBs 9 (e:=QE) Hg) rfl) ?_
 refine z2 ?_
 refine zz (fun _ d=>ac (QI 10 (d.v rfl) (d.en 9 rfl) (Evl.rep (d.v rfl)) rfl Jf Qau (by first | omega | (simp only[ae,aB,ao,aq,az]; omega) | (simp only[ae,aW,ao,aq,az]; omega)) rfl (d.fr 10 rfl) (nlr rfl)) rfl) ?_
 refine z3 ?_
 refine zz (fun _ d=>ac (U0 11 (e:= .str) (n:=(((Qb s).1).1).length) (d.v rfl) (d.v rfl) XQ Qvn rfl (by omega) (by omega) rfl (d.fr 11 rfl) (nlr rfl)) rfl)<|zz (fun _ d=>ac (Qj JL ⟨_,_,rfl,(d.w rfl),⟨_,_,rfl,(d.w rfl),rfl⟩⟩ (av.1 (by simp only[QW,XG,bd,bt]; rw[(d.en 10 rfl),(d.en 11 rfl)]; rfl)) rfl rfl) rfl)<|zz (fun _ d=>ac (YP 12 Qf1 VB rfl rfl (d.fr 12 rfl) (nlr rfl)) rfl)<|zz (fun _ d=>ac (Q6 (d.v rfl) (d.en 12 rfl) (d.w rfl) (by simp only[QW,XG,bd,bt]; rw[(d.en 10 rfl),(d.en 11 rfl)]; rfl) Qtc rfl) rfl) ?_
 exact zN
 refine w4 ?_
 refine alL 46 fun _=> ?_
 refine w4 ?_
 refine QH (fun O Q=>∃(k:Nat) (codes:List ByteArray),k≤s.2.1.length∧O=s.2.1.length - k∧(goS (Qb s).1.1.length (QA s.2.2.1 (Qb s).1.2) s.2.1.length 0 (List.replicate (Qb s).1.1.length ByteArray.empty)=goS (Qb s).1.1.length (QA s.2.2.1 (Qb s).1.2) (s.2.1.length - k) k codes)∧(codes.length=(Qb s).1.1.length)∧(∀c∈codes,c.size≤300*k)∧Q=⟨[(1,lP 0 0),(2,lP 1 0),(3,lB false),(4,lP 4 0),(6,lP 12 0),(47,lI (s.2.1.length:Int)),(48,lI (k:Int))],[bx 0 51 [dI s.1.1, .dat QF s.1.2, .dat Qo s.2.1, .dat Qw s.2.2.1,dS s.2.2.2],bx 1 28 [.val (.slice none 0 0), .val (.slice none 0 0), .val (.slice none 0 0)],ar 2 9 .str (((Qb s).1).1),ar 3 301 Zx (((Qb s).1).2),bx 4 178 [.ref 2, .ref 3],ar 10 77 QE (([])++s.2.1),bx 12 28 [.ref 10, .ref 13, .val (.slice none 0 0)],ar 13 9 .str codes]⟩) ⟨0,List.replicate ((((Qb s).1).1).length) (Ty.zero .str),aP _,rfl,rfl,(by simp),(fun c Z=>by rw[cW Z]; exact aP _),rfl⟩ ?_ ?_
 exact wp [(13,11)] ⟨rfl,rfl,rfl,rfl,rfl,rfl,rfl,(Qh (by first | rfl | simp)),trivial⟩
 rintro O Q ⟨k,codes,b3,b4,H,hL,hZ,rfl⟩
 refine w4 ?_
 cases K:(decide ((k:Int) < (s.2.1.length:Int)))
 have L:=aa K
 refine w11 ?_
 refine AC.wk (Qq 14 (p:=12) (off:=2) 154 W8 rfl rfl (Fresh.of rfl) (nlr rfl)) ?_
 refine lp0 ((((Qb s).1).2).length) (fun j=>⟨[(1,lP 0 0),(2,lP 1 0),(3,lB false),(6,lP 12 0),(82,lR 3),(83,lI ((((Qb s).1).2).length:Int)),(84,lI (j:Int))],[bx 0 51 [dI s.1.1, .dat QF s.1.2, .dat Qo s.2.1, .dat Qw s.2.2.1,dS s.2.2.2],bx 1 28 [.val (.slice none 0 0), .val (.slice none 0 0), .val (.slice none 0 0)],ar 3 301 Zx (((Qb s).1).2),ar 10 77 QE (([])++s.2.1),bx 12 28 [.ref 10, .ref 13, .ref 15],ar 13 9 .str codes,ar 15 154 W8 ((((Qb s).1).2.take j).map (QgB s.2.2.1))]⟩) ?_ fun j _=> ?_
 exact wp [(15,14)] ⟨rfl,rfl,rfl,rfl,rfl,rfl,(Qh (by first | rfl | simp)),trivial⟩
 refine w4 ?_
 cases y:(decide ((j:Int) < ((((Qb s).1).2).length:Int)))
 have E:=aa y
 refine w9 ?_
 have W:(true:Bool)=((sgV s).2):=by
  (rw[UR ‹_› ‹_› (H.trans (UK (by omega)))]; done)
 exact fi_ [(0,10),(1,13),(2,15)] T ⟨(Qh (by (rw[UR ‹_› ‹_› (H.trans (UK (by omega)))]; rfl))),(Qh (by (rw[UR ‹_› ‹_› (H.trans (UK (by omega)))]; done))),(Qh (by (rw[UR ‹_› ‹_› (H.trans (UK (by omega))),Q8 (by omega)]; rfl))),trivial⟩ (h0:=by rw[← W] <;> rfl)
 have E:=ab y
 refine w6 ?_
 obtain ⟨P,B⟩:=gx (((Qb s).1).2) j
 have b5:=(D _ (ai B)).2.1
 refine w_ ?_
 refine lc (xal 16 Zx YX) ?_
 refine w7 ?_
 refine alI 91 fun _=> ?_
 obtain ⟨t,N⟩:=gx s.2.2.1 ((P.2.1).toNat)
 have a1:=Qh7 N
 refine w2 ?_
 refine lc (xal 17 QL Xy) ?_
 refine w7 ?_
 refine alI 97 fun _=> ?_
 refine w2 ?_
 refine alI 99 fun _=> ?_
 refine w4 ?_
 refine alI 103 fun _=> ?_
 refine lc (Qj Qnm ⟨_,_,rfl,(Ql rfl),⟨_,_,rfl,(Ql rfl),⟨_,_,rfl,(Ql rfl),⟨_,_,rfl,(Ql rfl),rfl⟩⟩⟩⟩ (av.1 rfl) rfl rfl) ?_
 refine lc (dBs 18 (e:=W8) XH (hab:=by exact ⟨_,_,_,_,rfl,⟨[dI P.1],[dI t.1,dB t.2,dI P.2.2],_,_,_,_,rfl,rfl,⟨rfl,rfl⟩,⟨[dI t.1],[dB t.2,dI P.2.2],_,_,_,_,rfl,rfl,⟨rfl,rfl⟩,⟨[dB t.2],[dI P.2.2],_,_,_,_,rfl,rfl,⟨rfl,rfl⟩,⟨rfl,rfl⟩,rfl⟩,rfl⟩,rfl⟩,⟨rfl,rfl⟩,rfl⟩)) ?_
 refine lc (dA 19 Qnz) ?_
 refine w2 ?_
 refine Qf ?_
 refine w4 ?_
 refine Qf ?_
 refine l0_ ?_
 exact wp [(15,19)] ⟨rfl,rfl,rfl,rfl,rfl,rfl,(Qh (by rw[Qs B]; simp[QgB,a1])),trivial⟩
 have L:=ab K
 refine w12 ?_
 refine lc (YQ (Ko s ((Qb s).1) (k:Int) D (by omega)) QeN ⟨_,_,rfl,(Ev.b (Ql rfl)),⟨_,_,rfl,(Jl (Ql rfl) ⟨_,_,rfl, .inr ⟨_,_,_,_,rfl,rfl,rfl⟩,⟨_,_,rfl, .inr ⟨_,_,_,_,rfl,rfl,rfl⟩,rfl⟩⟩),⟨_,_,rfl,(Ev.b (Ql rfl)),rfl⟩⟩⟩ rfl rfl rfl) ?_
 refine w6 ?_
 refine Yg ?_
 obtain ⟨us,u,b7,b8,M⟩:=Qwd (sig:=(k:Int)) a0 (QkY (m:=s.2.1.length) ‹_› (by omega))
 refine w7 ?_
 refine QH (fun O Q=>∃(i:Nat) (a:List ByteArray),i≤codes.length∧O=codes.length - i∧(JJ 0 codes (us.map q0)=JJ i a ((us.map q0).drop i))∧(a.length=(Qb s).1.1.length)∧(∀c∈a,c.size≤300*k+i)∧Q=⟨[(1,lP 0 0),(2,lP 1 0),(3,lB false),(4,lP 4 0),(6,lP 12 0),(7,lI (k:Int)),(8,lf (dS ((l5V ((Qb s).1).1.length (QA s.2.2.1 ((Qb s).1).2) (k:Int)).1))),(47,lI (s.2.1.length:Int)),(48,lI (k:Int)),(49,lB true),(50,lI (k:Int)),(51,PV.tup [(false,[dS ((l5V ((Qb s).1).1.length (QA s.2.2.1 ((Qb s).1).2) (k:Int)).1)]),(false,[dB ((l5V ((Qb s).1).1.length (QA s.2.2.1 ((Qb s).1).2) (k:Int)).2)])]),(52,ag [dI s.1.1, .dat QF s.1.2, .dat Qo s.2.1, .dat Qw s.2.2.1,dS s.2.2.2]),(53,ag [.ref 2, .ref 3]),(54,lI (k:Int)),(55,PV.tup [(false,[dS ((l5V ((Qb s).1).1.length (QA s.2.2.1 ((Qb s).1).2) (k:Int)).1)]),(false,[dB ((l5V ((Qb s).1).1.length (QA s.2.2.1 ((Qb s).1).2) (k:Int)).2)])]),(56,lf (dS ((l5V ((Qb s).1).1.length (QA s.2.2.1 ((Qb s).1).2) (k:Int)).1))),(57,lB ((l5V ((Qb s).1).1.length (QA s.2.2.1 ((Qb s).1).2) (k:Int)).2)),(58,lP 12 1),(60,lI (codes.length:Int)),(61,lI (i:Int))],[bx 0 51 [dI s.1.1, .dat QF s.1.2, .dat Qo s.2.1, .dat Qw s.2.2.1,dS s.2.2.2],bx 1 28 [.val (.slice none 0 0), .val (.slice none 0 0), .val (.slice none 0 0)],ar 2 9 .str (((Qb s).1).1),ar 3 301 Zx (((Qb s).1).2),bx 4 178 [.ref 2, .ref 3],ar 10 77 QE (([])++s.2.1),bx 12 28 [.ref 10, .ref 20, .val (.slice none 0 0)],ar 20 9 .str a]⟩) ⟨0,codes,aP _,rfl,rfl,hL,hZ,rfl⟩ ?_ ?_
 exact wo [(20,13)]
 rintro O Q ⟨i,a,a3,a4,q,C,r,rfl⟩
 refine w4 ?_
 cases z:(decide ((i:Int) < (codes.length:Int)))
 have F:=aa z
 refine w6 ?_
 refine Qf<|ZF ⟨k+1,a,by omega,rfl,(by rw[H,QrO (by omega) (by rw[M])]; exact congrArg _ (by rw[M]; exact q.trans (QqJ (by omega)))),C,(fun c Z=>bn (r c Z) (by omega)),rfl⟩ (by omega) ?_
 exact wo [(13,20)]
 have F:=ab z
 refine w13 ?_
 refine lc (show Does _ _ _ _ (St.put _ 68 (lf (dS (((l5V ((Qb s).1).1.length (QA s.2.2.1 ((Qb s).1).2) (k:Int)).1).extract ((i:Int)).toNat ((i:Int)+1).toNat)))) from Zd (l:=(some (i:Int))) (h:=(some ((i:Int)+1))) (Qa rfl) (by exact (Qa rfl)) (by exact (Qa rfl)) ZN rfl (by first | omega | (simp only[ak,aj]; omega)) (by first | omega | (simp only[ak,aj]; omega)) (by first | omega | (simp only[ak,aj]; omega))) ?_
 refine w7 ?_
 cases A:(decide ((((l5V ((Qb s).1).1.length (QA s.2.2.1 ((Qb s).1).2) (k:Int)).1).extract ((i:Int)).toNat ((i:Int)+1).toNat)=(⟨#[63]⟩:ByteArray)))
 have G:=aa A
 refine w7 ?_
 obtain ⟨R,g⟩:=gx a i
 have U:=r _ (ai g)
 refine w2 ?_
 refine lc (Q7 (Qa rfl) (Qa rfl) rfl (by first | (simp only[Yy]; omega) | (refine bn (Nat.add_le_add_left (QdJ _ i) _) ?_; omega))) ?_
 refine w_ ?_
 refine lc (Qz (e:= .str) (z':=R++(((l5V ((Qb s).1).1.length (QA s.2.2.1 ((Qb s).1).2) (k:Int)).1).extract ((i:Int)).toNat ((i:Int)+1).toNat)) (Qa rfl) rfl g rfl (Ql rfl) rfl Xw rfl rfl)<|Qf ?_
 refine w4 ?_
 refine Qf<|ZF ⟨i+1,(a.set i (R++(((l5V ((Qb s).1).1.length (QA s.2.2.1 ((Qb s).1).2) (k:Int)).1).extract ((i:Int)).toNat ((i:Int)+1).toNat))),by omega,rfl,by first | exact q.trans (QqL u (by omega) ‹_› g) | exact q.trans (QqK u (by omega) ‹_› g),(by rw[au]; exact C),(QfR r g (by rw[bc]; first | exact aL _ | exact Nat.add_le_add_left (QdJ _ _) _)),rfl⟩ (by omega) ?_
 exact wp [] ⟨rfl,rfl,rfl,rfl,rfl,rfl,rfl,(Qh (by first | rfl | simp)),trivial⟩
 have G:=ab A
 refine w9 ?_
 obtain ⟨S,o⟩:=gx a i
 have V:=r _ (ai o)
 refine w2 ?_
 refine lc (Q7 (Qa rfl) (Qa rfl) rfl (by first | (simp only[Yy]; omega) | (refine bn (Nat.add_le_add_left (QdJ _ i) _) ?_; omega))) ?_
 refine w_ ?_
 refine lc (Qz (e:= .str) (z':=S++(⟨#[48]⟩:ByteArray)) (Qa rfl) rfl o rfl (Ql rfl) rfl Xw rfl rfl)<|Qf ?_
 refine w4 ?_
 refine Qf<|ZF ⟨i+1,(a.set i (S++(⟨#[48]⟩:ByteArray))),by omega,rfl,by first | exact q.trans (QqL u (by omega) ‹_› o) | exact q.trans (QqK u (by omega) ‹_› o),(by rw[au]; exact C),(QfR r o (by rw[bc]; first | exact aL _ | exact Nat.add_le_add_left (QdJ _ _) _)),rfl⟩ (by omega) ?_
 exact wp [] ⟨rfl,rfl,rfl,rfl,rfl,rfl,rfl,(Qh (by first | rfl | simp)),trivial⟩
 refine w_ ?_
 refine lc (Qj JL rfl (av.1 rfl) rfl rfl) ?_
 refine w3 ?_
 refine AC.wk (Qq 21 (p:=1) (off:=0) 77 QE rfl rfl (Fresh.of rfl) (nlr rfl))<|AC.wk (Qq 22 (p:=1) (off:=1) 9 .str rfl rfl (Fresh.of rfl) (nlr rfl))<|AC.wk (Qq 23 (p:=1) (off:=2) 154 W8 rfl rfl (Fresh.of rfl) (nlr rfl))<|Qe ?_
 have X:(false:Bool)=((sgV s).2):=by
  (rw[UP ‹_›]; done)
 exact fi_ [(0,21),(1,22),(2,23)] T ⟨(Qh (by (rw[UP ‹_›]; rfl))),(Qh (by (rw[UP ‹_›]; rfl))),(Qh (by (rw[UP ‹_›]; rfl))),trivial⟩ (h0:=by rw[← X] <;> rfl)
 have J:=ab I
 refine w8 ?_
 refine lc (Qj JL rfl (av.1 rfl) rfl rfl) ?_
 refine w3 ?_
 refine AC.wk (Qq 24 (p:=1) (off:=0) 77 QE rfl rfl (Fresh.of rfl) (nlr rfl))<|AC.wk (Qq 25 (p:=1) (off:=1) 9 .str rfl rfl (Fresh.of rfl) (nlr rfl))<|AC.wk (Qq 26 (p:=1) (off:=2) 154 W8 rfl rfl (Fresh.of rfl) (nlr rfl))<|Qe ?_
 have Y:(false:Bool)=((sgV s).2):=by
  (rw[UQ (KP (U5 (Zs ‹_›).2.2.2.2.1) ‹_›)]; done)
 exact fi_ [(0,24),(1,25),(2,26)] T ⟨(Qh (by (rw[UQ (KP (U5 (Zs ‹_›).2.2.2.2.1) ‹_›)]; rfl))),(Qh (by (rw[UQ (KP (U5 (Zs ‹_›).2.2.2.2.1) ‹_›)]; rfl))),(Qh (by (rw[UQ (KP (U5 (Zs ‹_›).2.2.2.2.1) ‹_›)]; rfl))),trivial⟩ (h0:=by rw[← Y] <;> rfl)
end Go.Proofs.YtndabgcpnmeeoaaGreat
