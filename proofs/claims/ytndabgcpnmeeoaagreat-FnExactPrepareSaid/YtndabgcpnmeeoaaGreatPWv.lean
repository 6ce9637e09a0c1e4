/- Walks over abstract states: the state graph, both sides. -/
import Derived.Test.YtndabgcpnmeeoaaGreatPWp
set_option linter.unusedSimpArgs false
set_option linter.unusedVariables false
set_option linter.unusedSectionVars false
namespace Go.Proofs.YtndabgcpnmeeoaaGreat
open Go.RowKit
set_option maxRecDepth 100000
set_option maxHeartbeats 4000000
def Ko:Nat→List ByteArray→List UInt8→List ByteArray
 | _,c,[]=>c
 | i,c,v :: vs=>Ko (i+1) (c.set i ((c[i]?).getD ByteArray.empty++⟨#[v]⟩)) vs
def goS (n:Nat)(arcs:List DAr):Nat→Nat→List ByteArray→Option (List ByteArray)
 | 0,_,c=>some c
 | f+1,k,c=>if (Ya n arcs (k:Int)).2=true then goS n arcs f (k+1) (Ko 0 c (Ya n arcs (k:Int)).1) else none
section
variable {n f k i m:Nat}{arcs:List DAr}{c codes:List ByteArray}{vs us:List UInt8}{v:UInt8}{x:ByteArray}
theorem QcQ (hv:vs[i]? =some v)(a:c[i]? =some x):Ko i c (vs.drop i)=Ko (i+1) (c.set i (x++⟨#[v]⟩)) (vs.drop (i+1)):=by
 rw[ZB hv,Ko,a]
 rfl
theorem Qkf (h:vs.length≤i):Ko i c (vs.drop i)=c:=by rw[bn h,Ko]
theorem Qkg:∀(i:Nat) (c:List ByteArray) (vs:List UInt8),(Ko i c vs).length=c.length
 | _,_,[]=>by rw[Ko]
 | i,c,v :: vs=>by rw[Ko,Qkg]; simp
theorem Qsw (a:k < m)(h:(Ya n arcs (k:Int)).2=true):goS n arcs (m - k) k c=goS n arcs (m - (k+1)) (k+1) (Ko 0 c (Ya n arcs (k:Int)).1):=by
 rw[show m - k=(m - (k+1))+1 by omega,goS,if_pos h]
theorem QeE (a:k < m)(h:(Ya n arcs (k:Int)).2=false):goS n arcs (m - k) k c=none:=by
 rw[show m - k=(m - (k+1))+1 by omega,goS,if_neg (by rw[h]; decide)]
theorem UQ (a:m≤k):goS n arcs (m - k) k c=some c:=by rw[show m - k=0 by omega,goS]
theorem Qsv {j:Nat}(h:(Ya n arcs (j:Int)).2=false)(d:k≤j)(b:j < k+f):goS n arcs f k c=none:=by
 induction f generalizing k c with
 | zero=>omega
 | succ f a=>
  rw[goS]
  by_cases e:j=k
  ·subst e; rw[if_neg (by rw[h]; decide)]
  ·split
   ·exact a (by omega) (by omega)
   ·rfl
theorem Qot (e:∀a∈arcs,InR n a)(sig:Int):(Ya n arcs sig).2=(l5V n arcs sig).2:=by
 rcases Qgw (sig:=sig) e with ⟨b,d,_⟩ | ⟨us,b,_,d⟩
 ·rw[b,d]
 ·rw[b,d]
theorem QlX (h:¬0 < ((WK n arcs m).length:Int))(d:k < m):(l5V n arcs (k:Int)).2=true:=by
 induction m with
 | zero=>omega
 | succ m b=>
  simp only[WK,aj] at h
  by_cases e:k=m
  ·subst e
   cases a:(l5V n arcs (k:Int)).2 with
   | true=>rfl
   | false=>rw[a] at h; simp at h
  ·exact b (by omega) (by omega)
theorem Jd (e:∀a∈arcs,InR n a)(h:0 < ((WK n arcs m).length:Int)):goS n arcs m 0 c=none:=by
 have:∃j,j < m∧(l5V n arcs (j:Int)).2=false:=by
  induction m with
  | zero=>simp[WK] at h
  | succ m g=>
   simp only[WK,aj] at h
   cases b:(l5V n arcs (m:Int)).2 with
   | false=>exact ⟨m,by omega,b⟩
   | true=>
    rw[b] at h
    obtain ⟨j,o,d⟩:=g (by simpa using h)
    exact ⟨j,by omega,d⟩
 obtain ⟨j,l,b⟩:=this
 exact Qsv ((Qot e _).trans b) (aG _) (by omega)
theorem QlC (e:∀a∈arcs,InR n a)(sig:Int):(Ya n arcs sig).1.length≤n:=by
 rcases Qgw (sig:=sig) e with ⟨_,_,_,b⟩ | ⟨us,_,d,b⟩
 ·rw[b]; exact aG _
 ·rw[b,aF,d]; exact aJ _
theorem QgR {b:Nat}{y:ByteArray}(h:∀z∈c,z.size≤b)(d:c[i]? =some x)(g:y.size≤x.size+1):∀z∈c.set i y,z.size≤b+1:=fun z e=>by
 rcases cr e with a | a
 ·exact Nat.le_succ_of_le (h z a)
 ·rw[a]; have:=h x (ah d); omega
theorem Uc {ls:List Zl}{b:List DMv}{q:Nat}(h:∀v∈b,MvOk n q v):∀a∈QL ls b,InR n a:=fun a g=>by
 obtain ⟨v,j,rfl⟩:=bF.1 g
 obtain ⟨d,_,e⟩:=h v j
 exact ⟨d,e⟩
theorem Qv3 {sig:Int}(g:∀a∈arcs,InR n a)(h:(l5V n arcs sig).2=true):∃us:List UInt8,(l5V n arcs sig).1=⟨us.toArray⟩∧us.length=n∧(l5V n arcs sig).1.size=n∧Ya n arcs sig=(us.map q0,true):=by
 rcases Qgw (sig:=sig) g with ⟨b,_⟩ | ⟨us,b,d,e⟩
 ·rw[b] at h; cases h
 ·exact ⟨us,by rw[b],d,by rw[b,← d]; rfl,e⟩
theorem QeD (b:ByteArray)(i:Nat):(b.extract i (i+1)).size≤1:=by simp only[ByteArray.size_extract]; omega
theorem Qw6 (d:us[i]? =some v):(⟨us.toArray⟩:ByteArray).extract i (i+1)=⟨#[v]⟩:=by
 apply ByteArray.ext
 simp only[ByteArray.data_extract]
 obtain ⟨e,a⟩:=ai.1 d
 apply Array.ext
 ·simp; omega
 ·intro j g b
  have:j=0:=by simp at b; omega
  subst this
  simp[a]
theorem Qvs (a:us[i]? =some v):(us.map q0)[i]? =some (q0 v):=by rw[bf,a]; rfl
theorem QrM {b:ByteArray}(g:b=⟨us.toArray⟩)(hi:i < us.length)(h:decide (b.extract i (i+1)=⟨#[63]⟩)=true)(j:c[i]? =some x):Ko i c ((us.map q0).drop i)=Ko (i+1) (c.set i (x++⟨#[48]⟩)) ((us.map q0).drop (i+1)):=by
 have d:=ae hi
 have a:=ab h
 rw[g,Qw6 d] at a
 have e:us[i]=63:=by
  have:=congrArg (fun b:ByteArray=>b.data[0]?) a
  simpa using this
 have:=QcQ (Qvs d) j
 rwa [show q0 us[i]=48 by rw[e]; rfl] at this
theorem QrL {b:ByteArray}(g:b=⟨us.toArray⟩)(hi:i < us.length)(h:decide (b.extract i (i+1)=⟨#[63]⟩)=false)(j:c[i]? =some x):Ko i c ((us.map q0).drop i)=Ko (i+1) (c.set i (x++b.extract i (i+1))) ((us.map q0).drop (i+1)):=by
 have d:=ae hi
 have a:=aa h
 rw[g,Qw6 d] at a ⊢
 have:=QcQ (Qvs d) j
 rwa [show q0 us[i]=us[i] by unfold q0; rw[if_neg]; intro e; exact a (by rw[e])] at this
theorem QrK (h:us.length≤i):Ko i c ((us.map q0).drop i)=c:=Qkf (by simpa using h)
end
section
variable [∀s,Decidable (StgOk s)]{s:Yz}{c:List ByteArray}
def YL:List (ByteArray×Int)×List ByteArray×List DAr:=([],[],[])
def sgV (s:Yz):(List (ByteArray×Int)×List ByteArray×List DAr)×Bool:=
 if (Qg s).2=true∧¬4000 < (Qg s).1.2.length then
  (match goS (Qg s).1.1.length (QL s.2.2.1 (Qg s).1.2) s.2.1.length 0 (List.replicate (Qg s).1.1.length ByteArray.empty) with
  | some c=>((s.2.1,c,QL s.2.2.1 (Qg s).1.2),true)
  | none=>(YL,false))
 else (YL,false)
theorem UW (h:(Qg s).2=false):sgV s=(YL,false):=if_neg fun a=>by rw[h] at a; cases a.1
theorem UX (h:(4000:Int) < ((Qg s).1.2.length:Int)):sgV s=(YL,false):=if_neg fun a=>a.2 (by omega)
theorem UY (h:goS (Qg s).1.1.length (QL s.2.2.1 (Qg s).1.2) s.2.1.length 0 (List.replicate (Qg s).1.1.length ByteArray.empty)=none):sgV s=(YL,false):=by
 unfold sgV
 rw[h]
 split <;> rfl
theorem UZ (a:(Qg s).2=true)(b:¬(4000:Int) < ((Qg s).1.2.length:Int))(h:goS (Qg s).1.1.length (QL s.2.2.1 (Qg s).1.2) s.2.1.length 0 (List.replicate (Qg s).1.1.length ByteArray.empty)=some c):
 sgV s=((s.2.1,c,QL s.2.2.1 (Qg s).1.2),true):=by
 unfold sgV
 rw[if_pos ⟨a,by omega⟩,h]
end
theorem Kv (s:QcY)[∀s,Decidable (StgOk s)]:FC Tryz.prog 111 [(true,[dI s.1.1, .dat Xk s.1.2, .dat Ql s.2.1, .dat Yq s.2.2.1,dS s.2.2.2])] [] 0 (Is (PV.tup [(true,[.ref 0, .ref 1, .ref 2]),(false,[dB ((sgV s).2)])]) [ar 0 77 QE (((sgV s).1).1),ar 1 9 .str (((sgV s).1).2.1),ar 2 154 QD (((sgV s).1).2.2)]):=by
 refine Qv Tryz.func111 rfl rfl Tryz.ntmps111 fun O_ F a4 P X_ T S=> ?_
 refine acG 0 0 fun _=> ?_
 refine w_ ?_
 refine xbx 0 ?_
 refine lc (xal 1 XU Zr) ?_
 refine w4 ?_
 refine lc (dG 2 (Qd5 s) Qms) ?_
 refine w3 ?_
 refine lc (xal 4 Qoq U4) ?_
 refine w8 ?_
 cases a0:((Qg s).2)
 refine w8 ?_
 refine lc (Qi Q8 rfl (ak.1 rfl) rfl rfl) ?_
 refine w3 ?_
 refine AC.wk (Qp 5 (p:=1) (off:=0) 77 QE rfl rfl (Fresh.of rfl) (nlr rfl))<|AC.wk (Qp 6 (p:=1) (off:=1) 9 .str rfl rfl (Fresh.of rfl) (nlr rfl))<|AC.wk (Qp 7 (p:=1) (off:=2) 154 QD rfl rfl (Fresh.of rfl) (nlr rfl))<|Qd ?_
 have Q:(false:Bool)=((sgV s).2):=by
  (rw[UW ‹_›]; done)
 exact fi_ [(0,5),(1,6),(2,7)] F ⟨(Qe (by (rw[UW ‹_›]; rfl))),(Qe (by (rw[UW ‹_›]; rfl))),(Qe (by (rw[UW ‹_›]; rfl))),trivial⟩ (h0:=by rw[← Q] <;> rfl)
 refine w6 ?_
 refine cd_ (fun _ _=> ?_) fun _ _=> ?_
 refine w_ ?_
 obtain ⟨K,W,X,Y,z,V⟩:=Yj (s:=s) ‹_›
 have t:=Uc (ls:=s.2.2.1) z
 have a3:=UA K.sigs
 apply dW (i2 26 _ _ [⟨some 28,lR 8,[ar 8 77 QE s.2.1]⟩,io 29 (lP 4 0),io 30 (lR 2),io 31 (lI ((((Qg s).1).1).length:Int)),⟨some 32,lR 9,[ar 9 9 .str (List.replicate ((((Qg s).1).1).length) (Ty.zero .str))]⟩,io 33 (ag [dI s.1.1, .dat Xk s.1.2, .dat Ql s.2.1, .dat Yq s.2.2.1,dS s.2.2.2]),io 34 (ag [.ref 2, .ref 3]),⟨some 35,lR 10,[ar 10 154 QD (QL s.2.2.1 ((Qg s).1).2)]⟩,io 36 (ag [.ref 8, .ref 9, .ref 10]),⟨some 6,lP 11 0,[bx 11 28 [.val (.slice none 0 0), .val (.slice none 0 0), .val (.slice none 0 0)]]⟩,⟨none,lf (.val undef),[bx 11 28 [.ref 8, .ref 9, .ref 10]]⟩]) [0,0,0,7,7,7,7,127,255,120,0,2047,0]
 refine z2 ?_
 refine zz (fun _ d=>ac (dO 8 (ZY s.2.1 (by omega)) QfE) rfl) ?_
 refine z3 ?_
 refine zz (fun _ d=>ac (XB 9 (e:= .str) (n:=(((Qg s).1).1).length) (d.v rfl) (d.v rfl) VJ Qvn rfl (by omega) (by omega) rfl (d.fr 9 rfl) (nlr rfl)) rfl) ?_
 refine z2 ?_
 refine zz (fun _ d=>ac (Yg 10 (Hv s ((Qg s).1) (fun m hm=>(z m hm).2.1) (by omega)) Qmt ⟨_,_,rfl,(Ev.b (d.w rfl)),⟨_,_,rfl,(ZJ (d.w rfl) ⟨_,_,rfl, .inr ⟨_,_,_,_,rfl,(d.en 2 rfl),rfl⟩,⟨_,_,rfl, .inr ⟨_,_,_,_,rfl,(d.en 3 rfl),rfl⟩,rfl⟩⟩),rfl⟩⟩ rfl (d.fr 10 rfl) (nlr rfl)) rfl)<|zz (fun _ d=>ac (Qi Q8 ⟨_,_,rfl,(d.w rfl),⟨_,_,rfl,(d.w rfl),⟨_,_,rfl,(d.w rfl),rfl⟩⟩⟩ (ak.1 (by simp only[Q4,Vu,ba,bA]; rw[(d.en 8 rfl),(d.en 9 rfl),(d.en 10 rfl)]; rfl)) rfl rfl) rfl)<|zz (fun _ d=>ac (Yl 11 XU Zr rfl rfl (d.fr 11 rfl) (nlr rfl)) rfl)<|zz (fun _ d=>ac (Q0 (d.v rfl) (d.en 11 rfl) (d.w rfl) (by simp only[Q4,Vu,ba,bA]; rw[(d.en 8 rfl),(d.en 9 rfl),(d.en 10 rfl)]; rfl) Kl rfl) rfl) ?_
 exact zN
 refine w4 ?_
 refine alL 38 fun _=> ?_
 refine w4 ?_
 refine QP (fun D E=>∃(k:Nat) (codes:List ByteArray),k≤s.2.1.length∧D=s.2.1.length - k∧(goS (Qg s).1.1.length (QL s.2.2.1 (Qg s).1.2) s.2.1.length 0 (List.replicate (Qg s).1.1.length ByteArray.empty)=goS (Qg s).1.1.length (QL s.2.2.1 (Qg s).1.2) (s.2.1.length - k) k codes)∧(codes.length=(Qg s).1.1.length)∧(∀c∈codes,c.size≤300*k)∧E=⟨[(2,lP 1 0),(4,lP 4 0),(6,lP 11 0),(39,lI (s.2.1.length:Int)),(40,lI (k:Int))],[bx 1 28 [.val (.slice none 0 0), .val (.slice none 0 0), .val (.slice none 0 0)],ar 2 9 .str (((Qg s).1).1),ar 3 301 Zn (((Qg s).1).2),bx 4 178 [.ref 2, .ref 3],ar 8 77 QE s.2.1,ar 10 154 QD (QL s.2.2.1 ((Qg s).1).2),bx 11 28 [.ref 8, .ref 12, .ref 10],ar 12 9 .str codes]⟩) ⟨0,List.replicate ((((Qg s).1).1).length) (Ty.zero .str),aG _,rfl,rfl,(by simp),(fun c J=>by rw[cJ J]; exact aG _),rfl⟩ ?_ ?_
 exact wp [(12,9)] ⟨rfl,rfl,rfl,rfl,rfl,rfl,rfl,(Qe (by first | rfl | simp)),trivial⟩
 rintro D E ⟨k,codes,a1,a2,l,U,Z,rfl⟩
 refine w4 ?_
 cases A:(decide ((k:Int) < (s.2.1.length:Int)))
 have B:=aa A
 refine w9 ?_
 have R:(true:Bool)=((sgV s).2):=by
  (rw[UZ ‹_› ‹_› (l.trans (UQ (by omega)))]; done)
 exact fi_ [(0,8),(1,12),(2,10)] F ⟨(Qe (by (rw[UZ ‹_› ‹_› (l.trans (UQ (by omega)))]; done))),(Qe (by (rw[UZ ‹_› ‹_› (l.trans (UQ (by omega)))]; done))),(Qe (by (rw[UZ ‹_› ‹_› (l.trans (UQ (by omega)))]; done))),trivial⟩ (h0:=by rw[← R] <;> rfl)
 have B:=ab A
 refine w15 ?_
 refine lc (YX 13 (Qc9 ((((Qg s).1).1).length:Int) (QL s.2.2.1 ((Qg s).1).2) (k:Int) (by omega) t) Qmu ⟨_,_,rfl,(Ev.b (Qk rfl)),⟨_,_,rfl,(Qe9 (Qa rfl) rfl),⟨_,_,rfl,(Ev.b (Qk rfl)),rfl⟩⟩⟩ rfl rfl rfl ⟨Fresh.of rfl,trivial⟩ (nlr rfl)) ?_
 refine w11 ?_
 cases M:((Ya ((((Qg s).1).1).length:Int).toNat (QL s.2.2.1 ((Qg s).1).2) (k:Int)).2)
 refine w2 ?_
 refine lc (Qi Q8 rfl (ak.1 rfl) rfl rfl) ?_
 refine w3 ?_
 refine AC.wk (Qp 14 (p:=1) (off:=0) 77 QE rfl rfl (Fresh.of rfl) (nlr rfl))<|AC.wk (Qp 15 (p:=1) (off:=1) 9 .str rfl rfl (Fresh.of rfl) (nlr rfl))<|AC.wk (Qp 16 (p:=1) (off:=2) 154 QD rfl rfl (Fresh.of rfl) (nlr rfl))<|Qd ?_
 have H:(false:Bool)=((sgV s).2):=by
  (rw[UY (l.trans (QeE (by omega) ‹_›))]; done)
 exact fi_ [(0,14),(1,15),(2,16)] F ⟨(Qe (by (rw[UY (l.trans (QeE (by omega) ‹_›))]; rfl))),(Qe (by (rw[UY (l.trans (QeE (by omega) ‹_›))]; rfl))),(Qe (by (rw[UY (l.trans (QeE (by omega) ‹_›))]; rfl))),trivial⟩ (h0:=by rw[← H] <;> rfl)
 refine w8 ?_
 refine QP (fun D E=>∃(i:Nat) (a:List ByteArray),i≤(Ya (((Qg s).1.1.length:Int)).toNat (QL s.2.2.1 (Qg s).1.2) (k:Int)).1.length∧D=(Ya (((Qg s).1.1.length:Int)).toNat (QL s.2.2.1 (Qg s).1.2) (k:Int)).1.length - i∧(Ko 0 codes (Ya (((Qg s).1.1.length:Int)).toNat (QL s.2.2.1 (Qg s).1.2) (k:Int)).1=Ko i a ((Ya (((Qg s).1.1.length:Int)).toNat (QL s.2.2.1 (Qg s).1.2) (k:Int)).1.drop i))∧(a.length=(Qg s).1.1.length)∧(∀c∈a,c.size≤300*k+i)∧E=⟨[(2,lP 1 0),(4,lP 4 0),(6,lP 11 0),(7,lI (k:Int)),(8,lR 13),(9,lB true),(39,lI (s.2.1.length:Int)),(40,lI (k:Int)),(41,lB true),(42,lI (k:Int)),(43,PV.tup [(false,[.ref 13]),(false,[dB true])]),(44,lP 4 0),(45,lR 2),(46,lI ((((Qg s).1).1).length:Int)),(47,lP 11 2),(48,lR 10),(49,lI (k:Int)),(50,PV.tup [(false,[.ref 13]),(false,[dB true])]),(51,lR 13),(52,lB true),(53,lB true),(54,lB (!true)),(56,lR 13),(57,lI (((Ya ((((Qg s).1).1).length:Int).toNat (QL s.2.2.1 ((Qg s).1).2) (k:Int)).1).length:Int)),(58,lI (i:Int))],[bx 1 28 [.val (.slice none 0 0), .val (.slice none 0 0), .val (.slice none 0 0)],ar 2 9 .str (((Qg s).1).1),ar 3 301 Zn (((Qg s).1).2),bx 4 178 [.ref 2, .ref 3],ar 8 77 QE s.2.1,ar 10 154 QD (QL s.2.2.1 ((Qg s).1).2),bx 11 28 [.ref 8, .ref 17, .ref 10],ar 13 5 .u8 ((Ya ((((Qg s).1).1).length:Int).toNat (QL s.2.2.1 ((Qg s).1).2) (k:Int)).1),ar 17 9 .str a]⟩) ⟨0,codes,aG _,rfl,rfl,U,Z,rfl⟩ ?_ ?_
 exact wo [(17,12)]
 rintro D E ⟨i,a,N,O,u,y,q,rfl⟩
 have L:(Ya (((Qg s).1.1.length:Int)).toNat (QL s.2.2.1 (Qg s).1.2) (k:Int)).1.length≤(Qg s).1.1.length:=QlC t (k:Int)
 refine w4 ?_
 cases o:(decide ((i:Int) < (((Ya ((((Qg s).1).1).length:Int).toNat (QL s.2.2.1 ((Qg s).1).2) (k:Int)).1).length:Int)))
 have r:=aa o
 refine w6 ?_
 refine Qb<|QW ⟨k+1,a,by omega,rfl,(by rw[l,Qsw (by omega) ‹_›]; exact congrArg _ (u.trans (Qkf (by omega)))),y,(fun c J=>aU (q c J) (by have L:(Ya (((Qg s).1.1.length:Int)).toNat (QL s.2.2.1 (Qg s).1.2) (k:Int)).1.length≤(Qg s).1.1.length:=QlC t (k:Int); omega)),rfl⟩ (by omega) ?_
 exact wo [(12,17)]
 have r:=ab o
 refine w7 ?_
 obtain ⟨h,C⟩:=gx ((Ya ((((Qg s).1).1).length:Int).toNat (QL s.2.2.1 ((Qg s).1).2) (k:Int)).1) i
 refine w4 ?_
 obtain ⟨j,g⟩:=gx a i
 have G:=q _ (ah g)
 apply dV (i3 63 _ _ _ [io 66 (lf (.ept 17 1 i 0)),io 67 (lf (dS j)),io 68 _,⟨some 69,lR 18,[ar 18 5 .u8 ([h])]⟩,io 70 (lf (dS (⟨#[h]⟩:ByteArray))),io 71 (lf (dS (j++(⟨#[h]⟩:ByteArray)))),io 72 (lf (.ept 17 1 i 0)),⟨none,lf (.val undef),[ar 17 9 .str (a.set i (j++(⟨#[h]⟩:ByteArray)))]⟩]) [0,0,3,0,0,31,31,31,0,0,0]
 refine z3 ?_
 refine zz (fun _ d=>ac (QI (e:= .str) (d.v rfl) (d.en 17 rfl) (d.v rfl) VJ VS rfl (by omega) (by first | omega | (simp only[ap]; omega))) rfl)<|zz (fun _ d=>ac (Q5 (e:= .str) (d.v rfl) (d.n 17 rfl) g rfl VS rfl rfl) rfl) ?_
 refine z_ ?_
 refine zz (fun _ d=>ac (dBs 18 (e:= .u8) QaL) rfl) ?_
 refine zz (fun _ d=>ac (Q7 (ys:=[h]) (YA (d.v rfl) (d.n 18 rfl)) Za Wq Z7 rfl) rfl)<|zz (fun _ d=>ac (YN (d.v rfl) (d.v rfl) rfl (by simp only[Jc]; omega)) rfl)<|zz (fun _ d=>ac (QI (e:= .str) (d.v rfl) (d.en 17 rfl) (d.v rfl) VJ VS rfl (by omega) (by first | omega | (simp only[ap]; omega))) rfl)<|zz (fun _ d=>ac (QA (e:= .str) (z':=j++(⟨#[h]⟩:ByteArray)) (d.v rfl) (d.n 17 rfl) g rfl (d.w rfl) rfl VS rfl rfl) rfl) ?_
 exact zN
 refine w4 ?_
 refine Qb<|QW ⟨i+1,(a.set i (j++(⟨#[h]⟩:ByteArray))),by omega,rfl,u.trans (QcQ C g),(by rw[ap]; exact y),(QgR q g (by rw[cw]; exact aJ _)),rfl⟩ (by omega) ?_
 exact wp [] ⟨rfl,rfl,rfl,rfl,rfl,rfl,rfl,rfl,(Qe (by first | rfl | simp)),trivial⟩
 refine w_ ?_
 refine lc (Qi Q8 rfl (ak.1 rfl) rfl rfl) ?_
 refine w3 ?_
 refine AC.wk (Qp 19 (p:=1) (off:=0) 77 QE rfl rfl (Fresh.of rfl) (nlr rfl))<|AC.wk (Qp 20 (p:=1) (off:=1) 9 .str rfl rfl (Fresh.of rfl) (nlr rfl))<|AC.wk (Qp 21 (p:=1) (off:=2) 154 QD rfl rfl (Fresh.of rfl) (nlr rfl))<|Qd ?_
 have I:(false:Bool)=((sgV s).2):=by
  (rw[UX ‹_›]; done)
 exact fi_ [(0,19),(1,20),(2,21)] F ⟨(Qe (by (rw[UX ‹_›]; rfl))),(Qe (by (rw[UX ‹_›]; rfl))),(Qe (by (rw[UX ‹_›]; rfl))),trivial⟩ (h0:=by rw[← I] <;> rfl)
theorem KE (s:QcY)[∀s,Decidable (StgOk s)]:FC Tryz.prog 132 [(true,[dI s.1.1, .dat Xk s.1.2, .dat Ql s.2.1, .dat Yq s.2.2.1,dS s.2.2.2])] [] 0 (Is (PV.tup [(true,[.ref 0, .ref 1, .ref 2]),(false,[dB ((sgV s).2)])]) [ar 0 77 QE (((sgV s).1).1),ar 1 9 .str (((sgV s).1).2.1),ar 2 154 QD (((sgV s).1).2.2)]):=by
 refine Qv Tryz.func132 rfl rfl Tryz.ntmps132 fun O_ T b9 a5 X_ a7 a6=> ?_
 refine acG 0 0 fun _=> ?_
 refine w_ ?_
 refine xbx 0 ?_
 refine lc (xal 1 XU Zr) ?_
 refine w4 ?_
 refine lc (dG 2 (Qeb s) Ql5) ?_
 refine w3 ?_
 refine lc (xal 4 Qoq U4) ?_
 refine w8 ?_
 cases b2:((Qg s).2)
 refine w15 ?_
 refine lc (Qi Q8 rfl (ak.1 rfl) rfl rfl) ?_
 refine w3 ?_
 refine AC.wk (Qp 5 (p:=1) (off:=0) 77 QE rfl rfl (Fresh.of rfl) (nlr rfl))<|AC.wk (Qp 6 (p:=1) (off:=1) 9 .str rfl rfl (Fresh.of rfl) (nlr rfl))<|AC.wk (Qp 7 (p:=1) (off:=2) 154 QD rfl rfl (Fresh.of rfl) (nlr rfl))<|Qd ?_
 have e3:(false:Bool)=((sgV s).2):=by
  (rw[UW ‹_›]; done)
 exact fi_ [(0,5),(1,6),(2,7)] T ⟨(Qe (by (rw[UW ‹_›]; rfl))),(Qe (by (rw[UW ‹_›]; rfl))),(Qe (by (rw[UW ‹_›]; rfl))),trivial⟩ (h0:=by rw[← e3] <;> rfl)
 refine w2 ?_
 refine lgy rfl rfl (Yg 8 (Qel s ((Qg s).1) (Yj (s:=s) ‹_›).2.2.2.2.1 (by have:=(Yj (s:=s) ‹_›).2.2.1; omega) (by have:=UA (Yj (s:=s) ‹_›).1.sigs; omega)) Qmz ⟨_,_,rfl,(Ev.b (Qk rfl)),⟨_,_,rfl,(ZJ (Qk rfl) ⟨_,_,rfl, .inr ⟨_,_,_,_,rfl,rfl,rfl⟩,⟨_,_,rfl, .inr ⟨_,_,_,_,rfl,rfl,rfl⟩,rfl⟩⟩),rfl⟩⟩ rfl (Fresh.of rfl) (nlr rfl)) ?_
 refine w4 ?_
 cases I:(decide (0 < ((WK ((Qg s).1).1.length (QL s.2.2.1 ((Qg s).1).2) s.2.1.length).length:Int)))
 have J:=aa I
 refine w6 ?_
 refine cd_ (fun _ _=> ?_) fun _ _=> ?_
 refine w_ ?_
 obtain ⟨a2,a9,b0,b1,D,a8⟩:=Yj (s:=s) ‹_›
 have a0:=Uc (ls:=s.2.2.1) D
 have b6:=UA a2.sigs
 apply dW [⟨some 36,lR 9,[ar 9 77 QE ([])]⟩,io 37 (lP 0 2),io 38 (lf (.dat Ql s.2.1)),⟨some 39,lR 10,[ar 10 77 QE (([])++s.2.1),(9,none)]⟩,io 40 (lP 4 0),io 41 (lR 2),io 42 (lI ((((Qg s).1).1).length:Int)),⟨some 43,lR 11,[ar 11 9 .str (List.replicate ((((Qg s).1).1).length) (Ty.zero .str))]⟩,io 44 (ag [.ref 10, .ref 11, .val (.slice none 0 0)]),⟨some 6,lP 12 0,[bx 12 28 [.val (.slice none 0 0), .val (.slice none 0 0), .val (.slice none 0 0)]]⟩,⟨none,lf (.val undef),[bx 12 28 [.ref 10, .ref 11, .val (.slice none 0 0)]]⟩] [0,1,1,0,15,15,15,15,0,511,0]
 refine zz (fun _ d=>ac (dBs 9 (e:=QE) VL) rfl) ?_
 refine z2 ?_
 refine zz (fun _ d=>ac (Zj 10 (d.v rfl) (d.en 9 rfl) (Evl.rep (d.v rfl)) rfl QdE QaU (by first | omega | (simp only[aj,aF,ao,au,aH]; omega) | (simp only[aj,bh,ao,au,aH]; omega)) rfl (d.fr 10 rfl) (nlr rfl)) rfl) ?_
 refine z3 ?_
 refine zz (fun _ d=>ac (XB 11 (e:= .str) (n:=(((Qg s).1).1).length) (d.v rfl) (d.v rfl) VJ Qvn rfl (by omega) (by omega) rfl (d.fr 11 rfl) (nlr rfl)) rfl)<|zz (fun _ d=>ac (Qi Q8 ⟨_,_,rfl,(d.w rfl),⟨_,_,rfl,(d.w rfl),rfl⟩⟩ (ak.1 (by simp only[Q4,Vu,ba,bA]; rw[(d.en 10 rfl),(d.en 11 rfl)]; rfl)) rfl rfl) rfl)<|zz (fun _ d=>ac (Yl 12 XU Zr rfl rfl (d.fr 12 rfl) (nlr rfl)) rfl)<|zz (fun _ d=>ac (Q0 (d.v rfl) (d.en 12 rfl) (d.w rfl) (by simp only[Q4,Vu,ba,bA]; rw[(d.en 10 rfl),(d.en 11 rfl)]; rfl) Kl rfl) rfl) ?_
 exact zN
 refine w4 ?_
 refine alL 46 fun _=> ?_
 refine w4 ?_
 refine QP (fun O Q=>∃(k:Nat) (codes:List ByteArray),k≤s.2.1.length∧O=s.2.1.length - k∧(goS (Qg s).1.1.length (QL s.2.2.1 (Qg s).1.2) s.2.1.length 0 (List.replicate (Qg s).1.1.length ByteArray.empty)=goS (Qg s).1.1.length (QL s.2.2.1 (Qg s).1.2) (s.2.1.length - k) k codes)∧(codes.length=(Qg s).1.1.length)∧(∀c∈codes,c.size≤300*k)∧Q=⟨[(1,lP 0 0),(2,lP 1 0),(3,lB false),(4,lP 4 0),(6,lP 12 0),(47,lI (s.2.1.length:Int)),(48,lI (k:Int))],[bx 0 51 [dI s.1.1, .dat Xk s.1.2, .dat Ql s.2.1, .dat Yq s.2.2.1,dS s.2.2.2],bx 1 28 [.val (.slice none 0 0), .val (.slice none 0 0), .val (.slice none 0 0)],ar 2 9 .str (((Qg s).1).1),ar 3 301 Zn (((Qg s).1).2),bx 4 178 [.ref 2, .ref 3],ar 10 77 QE (([])++s.2.1),bx 12 28 [.ref 10, .ref 13, .val (.slice none 0 0)],ar 13 9 .str codes]⟩) ⟨0,List.replicate ((((Qg s).1).1).length) (Ty.zero .str),aG _,rfl,rfl,(by simp),(fun c Z=>by rw[cJ Z]; exact aG _),rfl⟩ ?_ ?_
 exact wp [(13,11)] ⟨rfl,rfl,rfl,rfl,rfl,rfl,rfl,(Qe (by first | rfl | simp)),trivial⟩
 rintro O Q ⟨k,codes,b3,b4,H,hL,hZ,rfl⟩
 refine w4 ?_
 cases K:(decide ((k:Int) < (s.2.1.length:Int)))
 have L:=aa K
 refine w11 ?_
 refine AC.wk (Qp 14 (p:=12) (off:=2) 154 QD rfl rfl (Fresh.of rfl) (nlr rfl)) ?_
 refine lp0 ((((Qg s).1).2).length) (fun j=>⟨[(1,lP 0 0),(2,lP 1 0),(3,lB false),(6,lP 12 0),(82,lR 3),(83,lI ((((Qg s).1).2).length:Int)),(84,lI (j:Int))],[bx 0 51 [dI s.1.1, .dat Xk s.1.2, .dat Ql s.2.1, .dat Yq s.2.2.1,dS s.2.2.2],bx 1 28 [.val (.slice none 0 0), .val (.slice none 0 0), .val (.slice none 0 0)],ar 3 301 Zn (((Qg s).1).2),ar 10 77 QE (([])++s.2.1),bx 12 28 [.ref 10, .ref 13, .ref 15],ar 13 9 .str codes,ar 15 154 QD ((((Qg s).1).2.take j).map (QhE s.2.2.1))]⟩) ?_ fun j _=> ?_
 exact wp [(15,14)] ⟨rfl,rfl,rfl,rfl,rfl,rfl,(Qe (by first | rfl | simp)),trivial⟩
 refine w4 ?_
 cases y:(decide ((j:Int) < ((((Qg s).1).2).length:Int)))
 have E:=aa y
 refine w9 ?_
 have W:(true:Bool)=((sgV s).2):=by
  (rw[UZ ‹_› ‹_› (H.trans (UQ (by omega)))]; done)
 exact fi_ [(0,10),(1,13),(2,15)] T ⟨(Qe (by (rw[UZ ‹_› ‹_› (H.trans (UQ (by omega)))]; rfl))),(Qe (by (rw[UZ ‹_› ‹_› (H.trans (UQ (by omega)))]; done))),(Qe (by (rw[UZ ‹_› ‹_› (H.trans (UQ (by omega))),QT (by omega)]; rfl))),trivial⟩ (h0:=by rw[← W] <;> rfl)
 have E:=ab y
 refine w6 ?_
 obtain ⟨P,B⟩:=gx (((Qg s).1).2) j
 have b5:=(D _ (ah B)).2.1
 refine w_ ?_
 refine lc (xal 16 Zn Vj) ?_
 refine w7 ?_
 refine alI 91 fun _=> ?_
 obtain ⟨t,N⟩:=gx s.2.2.1 ((P.2.1).toNat)
 have a1:=QeI N
 refine w2 ?_
 refine lc (xal 17 QF VK) ?_
 refine w7 ?_
 refine alI 97 fun _=> ?_
 refine w2 ?_
 refine alI 99 fun _=> ?_
 refine w4 ?_
 refine alI 103 fun _=> ?_
 refine lc (Qi K9 ⟨_,_,rfl,(Qk rfl),⟨_,_,rfl,(Qk rfl),⟨_,_,rfl,(Qk rfl),⟨_,_,rfl,(Qk rfl),rfl⟩⟩⟩⟩ (ak.1 rfl) rfl rfl) ?_
 refine lc (dBs 18 (e:=QD) QU (hab:=by exact ⟨_,_,_,_,rfl,⟨[dI P.1],[dI t.1,dB t.2,dI P.2.2],_,_,_,_,rfl,rfl,⟨rfl,rfl⟩,⟨[dI t.1],[dB t.2,dI P.2.2],_,_,_,_,rfl,rfl,⟨rfl,rfl⟩,⟨[dB t.2],[dI P.2.2],_,_,_,_,rfl,rfl,⟨rfl,rfl⟩,⟨rfl,rfl⟩,rfl⟩,rfl⟩,rfl⟩,⟨rfl,rfl⟩,rfl⟩)) ?_
 refine lc (dA 19 Ww) ?_
 refine w2 ?_
 refine Qb ?_
 refine w4 ?_
 refine Qb ?_
 refine l0_ ?_
 exact wp [(15,19)] ⟨rfl,rfl,rfl,rfl,rfl,rfl,(Qe (by rw[QO B]; simp[QhE,a1])),trivial⟩
 have L:=ab K
 refine w12 ?_
 refine lc (Ze (KI s ((Qg s).1) (k:Int) D (by omega)) QfH ⟨_,_,rfl,(Ev.b (Qk rfl)),⟨_,_,rfl,(ZJ (Qk rfl) ⟨_,_,rfl, .inr ⟨_,_,_,_,rfl,rfl,rfl⟩,⟨_,_,rfl, .inr ⟨_,_,_,_,rfl,rfl,rfl⟩,rfl⟩⟩),⟨_,_,rfl,(Ev.b (Qk rfl)),rfl⟩⟩⟩ rfl rfl rfl) ?_
 refine w6 ?_
 refine XM ?_
 obtain ⟨us,u,b7,b8,M⟩:=Qv3 (sig:=(k:Int)) a0 (QlX (m:=s.2.1.length) ‹_› (by omega))
 refine w7 ?_
 refine QP (fun O Q=>∃(i:Nat) (a:List ByteArray),i≤codes.length∧O=codes.length - i∧(Ko 0 codes (us.map q0)=Ko i a ((us.map q0).drop i))∧(a.length=(Qg s).1.1.length)∧(∀c∈a,c.size≤300*k+i)∧Q=⟨[(1,lP 0 0),(2,lP 1 0),(3,lB false),(4,lP 4 0),(6,lP 12 0),(7,lI (k:Int)),(8,lf (dS ((l5V ((Qg s).1).1.length (QL s.2.2.1 ((Qg s).1).2) (k:Int)).1))),(47,lI (s.2.1.length:Int)),(48,lI (k:Int)),(49,lB true),(50,lI (k:Int)),(51,PV.tup [(false,[dS ((l5V ((Qg s).1).1.length (QL s.2.2.1 ((Qg s).1).2) (k:Int)).1)]),(false,[dB ((l5V ((Qg s).1).1.length (QL s.2.2.1 ((Qg s).1).2) (k:Int)).2)])]),(52,ag [dI s.1.1, .dat Xk s.1.2, .dat Ql s.2.1, .dat Yq s.2.2.1,dS s.2.2.2]),(53,ag [.ref 2, .ref 3]),(54,lI (k:Int)),(55,PV.tup [(false,[dS ((l5V ((Qg s).1).1.length (QL s.2.2.1 ((Qg s).1).2) (k:Int)).1)]),(false,[dB ((l5V ((Qg s).1).1.length (QL s.2.2.1 ((Qg s).1).2) (k:Int)).2)])]),(56,lf (dS ((l5V ((Qg s).1).1.length (QL s.2.2.1 ((Qg s).1).2) (k:Int)).1))),(57,lB ((l5V ((Qg s).1).1.length (QL s.2.2.1 ((Qg s).1).2) (k:Int)).2)),(58,lP 12 1),(60,lI (codes.length:Int)),(61,lI (i:Int))],[bx 0 51 [dI s.1.1, .dat Xk s.1.2, .dat Ql s.2.1, .dat Yq s.2.2.1,dS s.2.2.2],bx 1 28 [.val (.slice none 0 0), .val (.slice none 0 0), .val (.slice none 0 0)],ar 2 9 .str (((Qg s).1).1),ar 3 301 Zn (((Qg s).1).2),bx 4 178 [.ref 2, .ref 3],ar 10 77 QE (([])++s.2.1),bx 12 28 [.ref 10, .ref 20, .val (.slice none 0 0)],ar 20 9 .str a]⟩) ⟨0,codes,aG _,rfl,rfl,hL,hZ,rfl⟩ ?_ ?_
 exact wo [(20,13)]
 rintro O Q ⟨i,a,a3,a4,q,C,r,rfl⟩
 refine w4 ?_
 cases z:(decide ((i:Int) < (codes.length:Int)))
 have F:=aa z
 refine w6 ?_
 refine Qb<|QW ⟨k+1,a,by omega,rfl,(by rw[H,Qsw (by omega) (by rw[M])]; exact congrArg _ (by rw[M]; exact q.trans (QrK (by omega)))),C,(fun c Z=>aU (r c Z) (by omega)),rfl⟩ (by omega) ?_
 exact wo [(13,20)]
 have F:=ab z
 refine w13 ?_
 refine lc (show Does _ _ _ _ (St.put _ 68 (lf (dS (((l5V ((Qg s).1).1.length (QL s.2.2.1 ((Qg s).1).2) (k:Int)).1).extract ((i:Int)).toNat ((i:Int)+1).toNat)))) from Hb (l:=(some (i:Int))) (h:=(some ((i:Int)+1))) (Qa rfl) (by exact (Qa rfl)) (by exact (Qa rfl)) Z7 rfl (by first | omega | (simp only[ax,aw]; omega)) (by first | omega | (simp only[ax,aw]; omega)) (by first | omega | (simp only[ax,aw]; omega))) ?_
 refine w7 ?_
 cases A:(decide ((((l5V ((Qg s).1).1.length (QL s.2.2.1 ((Qg s).1).2) (k:Int)).1).extract ((i:Int)).toNat ((i:Int)+1).toNat)=(⟨#[63]⟩:ByteArray)))
 have G:=aa A
 refine w7 ?_
 obtain ⟨R,g⟩:=gx a i
 have U:=r _ (ah g)
 refine w2 ?_
 refine lc (YN (Qa rfl) (Qa rfl) rfl (by first | (simp only[Jc]; omega) | (refine aU (Nat.add_le_add_left (QeD _ i) _) ?_; omega))) ?_
 refine w_ ?_
 refine lc (QA (e:= .str) (z':=R++(((l5V ((Qg s).1).1.length (QL s.2.2.1 ((Qg s).1).2) (k:Int)).1).extract ((i:Int)).toNat ((i:Int)+1).toNat)) (Qa rfl) rfl g rfl (Qk rfl) rfl VS rfl rfl)<|Qb ?_
 refine w4 ?_
 refine Qb<|QW ⟨i+1,(a.set i (R++(((l5V ((Qg s).1).1.length (QL s.2.2.1 ((Qg s).1).2) (k:Int)).1).extract ((i:Int)).toNat ((i:Int)+1).toNat))),by omega,rfl,by first | exact q.trans (QrM u (by omega) ‹_› g) | exact q.trans (QrL u (by omega) ‹_› g),(by rw[ap]; exact C),(QgR r g (by rw[cw]; first | exact aJ _ | exact Nat.add_le_add_left (QeD _ _) _)),rfl⟩ (by omega) ?_
 exact wp [] ⟨rfl,rfl,rfl,rfl,rfl,rfl,rfl,(Qe (by first | rfl | simp)),trivial⟩
 have G:=ab A
 refine w9 ?_
 obtain ⟨S,o⟩:=gx a i
 have V:=r _ (ah o)
 refine w2 ?_
 refine lc (YN (Qa rfl) (Qa rfl) rfl (by first | (simp only[Jc]; omega) | (refine aU (Nat.add_le_add_left (QeD _ i) _) ?_; omega))) ?_
 refine w_ ?_
 refine lc (QA (e:= .str) (z':=S++(⟨#[48]⟩:ByteArray)) (Qa rfl) rfl o rfl (Qk rfl) rfl VS rfl rfl)<|Qb ?_
 refine w4 ?_
 refine Qb<|QW ⟨i+1,(a.set i (S++(⟨#[48]⟩:ByteArray))),by omega,rfl,by first | exact q.trans (QrM u (by omega) ‹_› o) | exact q.trans (QrL u (by omega) ‹_› o),(by rw[ap]; exact C),(QgR r o (by rw[cw]; first | exact aJ _ | exact Nat.add_le_add_left (QeD _ _) _)),rfl⟩ (by omega) ?_
 exact wp [] ⟨rfl,rfl,rfl,rfl,rfl,rfl,rfl,(Qe (by first | rfl | simp)),trivial⟩
 refine w_ ?_
 refine lc (Qi Q8 rfl (ak.1 rfl) rfl rfl) ?_
 refine w3 ?_
 refine AC.wk (Qp 21 (p:=1) (off:=0) 77 QE rfl rfl (Fresh.of rfl) (nlr rfl))<|AC.wk (Qp 22 (p:=1) (off:=1) 9 .str rfl rfl (Fresh.of rfl) (nlr rfl))<|AC.wk (Qp 23 (p:=1) (off:=2) 154 QD rfl rfl (Fresh.of rfl) (nlr rfl))<|Qd ?_
 have X:(false:Bool)=((sgV s).2):=by
  (rw[UX ‹_›]; done)
 exact fi_ [(0,21),(1,22),(2,23)] T ⟨(Qe (by (rw[UX ‹_›]; rfl))),(Qe (by (rw[UX ‹_›]; rfl))),(Qe (by (rw[UX ‹_›]; rfl))),trivial⟩ (h0:=by rw[← X] <;> rfl)
 have J:=ab I
 refine w8 ?_
 refine lc (Qi Q8 rfl (ak.1 rfl) rfl rfl) ?_
 refine w3 ?_
 refine AC.wk (Qp 24 (p:=1) (off:=0) 77 QE rfl rfl (Fresh.of rfl) (nlr rfl))<|AC.wk (Qp 25 (p:=1) (off:=1) 9 .str rfl rfl (Fresh.of rfl) (nlr rfl))<|AC.wk (Qp 26 (p:=1) (off:=2) 154 QD rfl rfl (Fresh.of rfl) (nlr rfl))<|Qd ?_
 have Y:(false:Bool)=((sgV s).2):=by
  (rw[UY (Jd (Uc (Yj ‹_›).2.2.2.2.1) ‹_›)]; done)
 exact fi_ [(0,24),(1,25),(2,26)] T ⟨(Qe (by (rw[UY (Jd (Uc (Yj ‹_›).2.2.2.2.1) ‹_›)]; rfl))),(Qe (by (rw[UY (Jd (Uc (Yj ‹_›).2.2.2.2.1) ‹_›)]; rfl))),(Qe (by (rw[UY (Jd (Uc (Yj ‹_›).2.2.2.2.1) ‹_›)]; rfl))),trivial⟩ (h0:=by rw[← Y] <;> rfl)
end Go.Proofs.YtndabgcpnmeeoaaGreat
namespace Go.Proofs.YtndabgcpnmeeoaaGreat
open Go.RowKit
set_option maxRecDepth 100000
set_option maxHeartbeats 4000000
abbrev DRg:=List ByteArray×List DMv
instance (n m:Nat) (v:DMv):Decidable (MvOk n m v):=inferInstanceAs (Decidable (_∧_))
def Qov (r:DRg):Prop:=(1≤r.1.length∧r.1.length≤300)∧r.2.length≤4000∧r.1.Nodup∧∀v∈r.2,MvOk r.1.length 24 v
instance (r:DRg):Decidable (Qov r):=inferInstanceAs (Decidable (_∧_))
def QxS (l:List ByteArray):List (ByteArray×Bool):=l.foldl (fun m x=>WC .str m x true) []
section
variable {r:DRg}{k:Nat}{x y:ByteArray}{v:DMv}{l:List ByteArray}{m:List (ByteArray×Bool)}
end
def Qst (f:Int→Bool):Nat→List Int
 | 0=>[]
 | k+1=>Qst f k++(if f (k:Int)=true then [] else [(k:Int)])
section
variable {f:Int→Bool}{k n:Nat}{α:Type _}{l:List α}{p:α→Bool}{x:α}
end
def byT (r:DRg)(t:Int):Bool:=r.2.any fun v=>decide (v.2.1=t)
def Qxa (r:DRg)(t:Int):Bool:=r.2.any fun v=>decide (v.1=t)
def mfV (r:DRg)(k:Int):List DMv×Bool:=if Qov r∧0≤k∧k < r.1.length then (r.2.filter fun v=>decide (v.1=k),true) else ([],false)
def dlV (r:DRg):List Int×Bool:=if Qov r then (Qst (Qxa r) r.1.length,true) else ([],false)
section
variable [∀s,Decidable (StgOk s)]
def dtV (s:Yz)(r:DRg):List Int×Bool:=if StgOk s∧Qov r then (Qst (byT r) s.2.2.1.length,true) else ([],false)
end
def QxR (k:Int)(ms:List DMv):List DMv:=ms.filter fun v=>decide (v.1=k)
end Go.Proofs.YtndabgcpnmeeoaaGreat
namespace Go.Proofs.YtndabgcpnmeeoaaGreat
open Go.RowKit
set_option maxRecDepth 100000
set_option maxHeartbeats 4000000
theorem QH {A:Amb}{P:Program}{o:Oper}{s:St}{d:Nat}{b f:Bool}(e:b=f)(h:Does A P o s (s.put d (lf (dB b)))):Does A P o s (s.put d (lf (dB f))):=e▸h
abbrev DSg:=List (ByteArray×Int)×List ByteArray×List DAr
theorem Qbf (ss:List QM)[Decidable (XN ss)]:FC Tryz.prog 176 [(false,[.dat (.sl 77 ZG) ss])] [] 0 (QY (lf (dB (decide (XN ss))))):=QcM fun e w f h=>by
 obtain ⟨v,rfl,b⟩:=h.leaf1
 exact (Hi v ss w b).mono fun _ _ h=>K3 h
theorem Qb9 (ss:List QM)[Decidable (XN ss)]:FC Tryz.prog 214 [(false,[.dat (.sl 77 ZG) ss])] [] 0 (QY (lf (dB (decide (XN ss))))):=QcM fun e w f h=>by
 obtain ⟨v,rfl,b⟩:=h.leaf1
 exact (QaF v ss w b).mono fun _ _ h=>K3 h
def U7 (n:Int)(l:Zl):Prop:=(0≤l.1∧l.1≤n - 1)∨(l.1= -1∧l.2=false)
instance (n:Int) (l:Zl):Decidable (U7 n l):=inferInstanceAs (Decidable (_∨_))
def Xc (s:ByteArray)(n:Int):Prop:=(∀c∈s.toList,c=48∨c=49)∧(s.size:Int)=n
instance (s:ByteArray) (n:Int):Decidable (Xc s n):=inferInstanceAs (Decidable (_∧_))
section
variable {n:Int}{l:Zl}{s x y:ByteArray}{k:Nat}{c d:UInt8}{a:DAr}
theorem Qpg (h:0≤l.1∧l.1≤n - 1):true=decide (U7 n l):=(aL (.inl h)).symm
theorem QsH (h:¬(0≤l.1∧l.1≤n - 1)):Ty.beq Yv l (-1,false)=decide (U7 n l):=by
 rw[bP,Ty.beq_iff,aQ]
 constructor
 ·rintro rfl; exact .inr ⟨rfl,rfl⟩
 ·rintro (b | b)
  ·exact absurd b h
  ·exact Prod.ext b.1 b.2
theorem Qv5 (h:¬(0≤l.1∧l.1≤n - 1))(e:l.1= -1):(!l.2)=decide (U7 n l):=by
 rw[bP,aQ]
 constructor
 ·intro b; exact .inr ⟨e,by simpa using b⟩
 ·rintro (b | b)
  ·exact absurd b h
  ·simp[b.2]
theorem Qv6 (h:¬(0≤l.1∧l.1≤n - 1))(e:¬l.1= -1):false=decide (U7 n l):=(aB (by rintro (b | b); exact h b; exact e b.1)).symm
theorem Qcp (h:s[((k:Int)).toNat]? =some c):s.toList[k]? =some c:=by
 have h:s[k]? =some c:=h
 rw[bw]
 obtain ⟨b,e⟩:∃b:k < s.size,s[k]=c:=by
  by_cases b:k < s.size
  ·rw[dr s k b] at h; exact ⟨b,cC h⟩
  ·rw[getElem?_neg s k b] at h; cases h
 rw[ae (by simpa using b)]
 rw[← e]; simp; rfl
theorem H1 (f:∀j,j < k→∀c,s.toList[j]? =some c→c=48∨c=49)(g:s[((k:Int)).toNat]? =some c)(h:c=48∨c=49):∀j,j < k+1→∀c,s.toList[j]? =some c→c=48∨c=49:=fun j i d b=>by
 by_cases e:j=k
 ·subst e; rw[Qcp g] at b; cases b; exact h
 ·exact f j (by omega) d b
theorem QoK (f:s[((k:Int)).toNat]? =some c)(b:¬c=48)(e:¬c=49):false=decide (Xc s n):=(aB fun h=>by
 rcases h.1 c (ah (Qcp f)) with h | h
 ·exact b h
 ·exact e h).symm
theorem Qkk (e:∀j,j < k→∀c,s.toList[j]? =some c→c=48∨c=49)(g:s.size≤k):decide ((s.size:Int)=n)=decide (Xc s n):=cN.2 ⟨fun h=>⟨fun c f=>by
 obtain ⟨j,b⟩:=aN.1 f
 have:=(ai.1 b).1
 rw[XO] at this
 exact e j (by omega) c b,h⟩,fun h=>h.2⟩
def Xm (a:DAr)(x y:ByteArray)(j:Nat):Prop:=if (j:Int)=a.2.1 then (decide (bAt x j=49)= !a.2.2.1∧decide (bAt y j=49)=a.2.2.1) else bAt x j=bAt y j
instance (a:DAr) (x y:ByteArray) (j:Nat):Decidable (Xm a x y j):=by unfold Xm; exact inferInstance
def Fit (a:DAr)(x y:ByteArray):Prop:=∀j,j < x.size→Xm a x y j
instance (a:DAr) (x y:ByteArray):Decidable (Fit a x y):=by unfold Fit; exact inferInstance
theorem QkJ (b:∀j,j < k→Xm a x y j)(h:Xm a x y k):∀j,j < k+1→Xm a x y j:=fun j f=>by
 by_cases e:j=k
 ·subst e; exact h
 ·exact b j (by omega)
theorem QnM (e:k < x.size)(h:¬Xm a x y k):false=decide (Fit a x y):=(aB fun b=>h (b k e)).symm
theorem QuA (b:∀j,j < k→Xm a x y j)(f:x.size≤k):true=decide (Fit a x y):=(aL fun j e=>b j (by omega)).symm
theorem Hx (h:¬(k:Int)=a.2.1)(b:x[((k:Int)).toNat]? =some c)(e:y[((k:Int)).toNat]? =some d):Xm a x y k↔c=d:=by
 unfold Xm; rw[if_neg h,QB b,QB e]
theorem Qsr (h:(k:Int)=a.2.1)(b:x[((k:Int)).toNat]? =some c)(e:y[((k:Int)).toNat]? =some d):Xm a x y k↔(decide (c=49)= !a.2.2.1∧decide (d=49)=a.2.2.1):=by
 unfold Xm; rw[if_pos h,QB b,QB e]
theorem Qdj (h:(k:Int)=a.2.1)(g:x[((k:Int)).toNat]? =some c)(b:(decide (c=49)==a.2.2.1)=true):¬Xm a x y k:=by
 unfold Xm; rw[if_pos h,QB g]
 rintro ⟨e,_⟩
 rw[e] at b
 cases f:a.2.2.1 <;> rw[f] at b <;> cases b
theorem Qdk (h:(k:Int)=a.2.1)(g:y[((k:Int)).toNat]? =some d)(b:(decide (d=49)==a.2.2.1)=false):¬Xm a x y k:=by
 unfold Xm; rw[if_pos h,QB g]
 rintro ⟨_,e⟩
 rw[e] at b
 cases f:a.2.2.1 <;> rw[f] at b <;> cases b
theorem QhW (h:(k:Int)=a.2.1)(j:x[((k:Int)).toNat]? =some c)(m:y[((k:Int)).toNat]? =some d)(b:(decide (c=49)==a.2.2.1)=false)(e:(decide (d=49)==a.2.2.1)=true):Xm a x y k:=by
 rw[Qsr h j m]
 cases f:a.2.2.1 <;> rw[f] at b e <;> cases g:decide (c=49) <;> rw[g] at b <;> cases i:decide (d=49) <;> rw[i] at e <;> first | exact ⟨rfl,rfl⟩ | exact absurd b (by decide) | exact absurd e (by decide)
def QcF (code:ByteArray)(sig:Int)(b:ByteArray):ByteArray:=(code.extract 0 sig.toNat++b)++code.extract (sig+1).toNat code.size
end
theorem Hu (l:JY)(n:Int)(r:0≤n∧n≤1000000):FC Tryz.prog 263 [(true,[dI l.1,dB l.2]),(false,[dI n])] [] 0 (QY (lB (decide (U7 n l)))):=by
 refine Qv Tryz.func263 rfl rfl Tryz.ntmps263 fun m f j g o i h=> ?_
 refine acG 0 0 fun _=> ?_
 refine acI 1 fun _=> ?_
 refine w_ ?_
 refine xbx 0 ?_
 refine w7 ?_
 refine lc (dK (Zm l.1 0 (n - 1)) Ym) ?_
 refine w_ ?_
 cases b:(decide (0≤l.1∧l.1≤(n - 1)))
 have e:=aa b
 refine w_ ?_
 refine lgy rfl rfl (Qi VB ⟨_,_,rfl,(Evl.ev (Qy rfl)),rfl⟩ (ak.1 rfl) rfl rfl)<|lgy rfl rfl (HT Qbc Qbb (Qk rfl) (Qk rfl) (p:=l) (q:=((-1),false)) rfl rfl rfl) ?_
 refine w3 ?_
 refine Qd<|fqB f ?_
 exact QsH ‹_›
 have e:=ab b
 refine w6 ?_
 refine Qd<|fqB f ?_
 exact Qpg ‹_›
theorem Qej (l:JY)(n:Int)(r:0≤n∧n≤1000000):FC Tryz.prog 350 [(true,[dI l.1,dB l.2]),(false,[dI n])] [] 0 (QY (lB (decide (U7 n l)))):=by
 refine Qv Tryz.func350 rfl rfl Tryz.ntmps350 fun p h o i q m j=> ?_
 refine acG 0 0 fun _=> ?_
 refine acI 1 fun _=> ?_
 refine w_ ?_
 refine xbx 0 ?_
 refine w7 ?_
 refine lc (dK (XG l.1 0 (n - 1)) WU) ?_
 refine w_ ?_
 cases b:(decide (0≤l.1∧l.1≤(n - 1)))
 have e:=aa b
 refine w4 ?_
 cases f:(decide (l.1=(-1)))
 have g:=aa f
 refine w7 ?_
 refine Qd<|fqB h ?_
 exact Qv6 ‹_› ‹_›
 have g:=ab f
 refine w7 ?_
 refine Qd<|fqB h ?_
 exact Qv5 ‹_› ‹_›
 have e:=ab b
 refine w4 ?_
 refine Qf rfl rfl rfl ?_ rfl
 refine Qf rfl rfl rfl ?_ rfl
 refine Qf rfl rfl rfl ?_ rfl
 refine w4 ?_
 refine Qd<|fqB h ?_
 exact Qpg ‹_›
theorem Qf3 (s:ByteArray)(n:Int):FC Tryz.prog 316 [(false,[dS s]),(false,[dI n])] [] 0 (QY (lB (decide (Xc s n)))):=by
 refine Qv Tryz.func316 rfl rfl Tryz.ntmps316 fun z p w q A t r=> ?_
 refine acI 1 fun _=> ?_
 refine w8 ?_
 refine lpK s.size (fun k=>∀j,j < k→∀c,s.toList[j]? =some c→c=48∨c=49) (fun k=>⟨[(0,lf (dS s)),(1,lI n),(5,lI (k:Int))],[]⟩) ((fun j v=>absurd v (bg j))) ?_ fun k _ o=> ?_
 exact wo []
 refine w4 ?_
 refine alS 7 fun _=> ?_
 refine lc (Y7 (Qa rfl) rfl Z7) ?_
 refine w2 ?_
 cases e:(decide ((k:Int) < (s.size:Int)))
 have f:=aa e
 refine w5 ?_
 refine alS 22 fun _=> ?_
 refine lc (Y7 (Qa rfl) rfl Z7) ?_
 refine w4 ?_
 refine Qd<|fqB p ?_
 exact Qkk o (by omega)
 have f:=ab e
 refine w7 ?_
 obtain ⟨b,u⟩:=gs s (((k:Int)).toNat)
 refine w_ ?_
 refine lc (Zd (Qa rfl) (QC 48 rfl) rfl) ?_
 refine w_ ?_
 cases g:(!decide (b=48))
 have h:(b=48):=QK g
 refine w13 ?_
 refine Qb ?_
 refine lK_ ((H1 o ‹_› (by first | exact .inl ‹_› | exact .inr ‹_›))) ?_
 exact wo []
 have h:¬(b=48):=QR g
 refine w3 ?_
 refine lgy rfl rfl (Zd (Qa rfl) (QC 49 rfl) rfl) ?_
 refine w2 ?_
 cases i:(!decide (b=49))
 have m:(b=49):=QK i
 refine w7 ?_
 refine Qb ?_
 refine lK_ ((H1 o ‹_› (by first | exact .inl ‹_› | exact .inr ‹_›))) ?_
 exact wo []
 have m:¬(b=49):=QR i
 refine w4 ?_
 refine Qd<|fqB p ?_
 exact QoK (k:=k) ‹_› ‹_› ‹_›
theorem Qgb (s:ByteArray)(n:Int):FC Tryz.prog 216 [(false,[dS s]),(false,[dI n])] [] 0 (QY (lB (decide (Xc s n)))):=by
 refine Qv Tryz.func216 rfl rfl Tryz.ntmps216 fun z p w q A t r=> ?_
 refine acI 1 fun _=> ?_
 refine w8 ?_
 refine lpK s.size (fun k=>∀j,j < k→∀c,s.toList[j]? =some c→c=48∨c=49) (fun k=>⟨[(0,lf (dS s)),(1,lI n),(5,lI (k:Int))],[]⟩) ((fun j v=>absurd v (bg j))) ?_ fun k _ o=> ?_
 exact wo []
 refine w4 ?_
 refine alS 7 fun _=> ?_
 refine lc (Y7 (Qa rfl) rfl Z7) ?_
 refine w2 ?_
 cases e:(decide ((k:Int) < (s.size:Int)))
 have f:=aa e
 refine w5 ?_
 refine alS 22 fun _=> ?_
 refine lc (Y7 (Qa rfl) rfl Z7) ?_
 refine w4 ?_
 refine Qd<|fqB p ?_
 exact Qkk o (by omega)
 have f:=ab e
 refine w7 ?_
 obtain ⟨b,u⟩:=gs s (((k:Int)).toNat)
 refine w_ ?_
 refine lc (Zd (Qa rfl) (QC 48 rfl) rfl) ?_
 refine w_ ?_
 cases g:(!decide (b=48))
 have h:(b=48):=QK g
 refine w13 ?_
 refine Qb ?_
 refine lK_ ((H1 o ‹_› (by first | exact .inl ‹_› | exact .inr ‹_›))) ?_
 exact wo []
 have h:¬(b=48):=QR g
 refine w3 ?_
 refine lgy rfl rfl (Zd (Qa rfl) (QC 49 rfl) rfl) ?_
 refine w2 ?_
 cases i:(!decide (b=49))
 have m:(b=49):=QK i
 refine w7 ?_
 refine Qb ?_
 refine lK_ ((H1 o ‹_› (by first | exact .inl ‹_› | exact .inr ‹_›))) ?_
 exact wo []
 have m:¬(b=49):=QR i
 refine w4 ?_
 refine Qd<|fqB p ?_
 exact QoK (k:=k) ‹_› ‹_› ‹_›
theorem Qb1 (a:Qfy)(x:ByteArray)(y:ByteArray)(J:x.size≤y.size):FC Tryz.prog 317 [(true,[dI a.1,dI a.2.1,dB a.2.2.1,dI a.2.2.2]),(false,[dS x]),(false,[dS y])] [] 0 (QY (lB (decide (Fit a x y)))):=by
 refine Qv Tryz.func317 rfl rfl Tryz.ntmps317 fun L u K E M G F=> ?_
 refine acG 0 0 fun _=> ?_
 refine acG 0 1 fun _=> ?_
 refine acG 0 3 fun _=> ?_
 refine w_ ?_
 refine xbx 0 ?_
 refine w5 ?_
 refine alS 8 fun _=> ?_
 refine lc (Y7 (Qa rfl) rfl Z7) ?_
 refine w3 ?_
 refine lpK x.size (fun k=>∀j,j < k→Xm a x y j) (fun k=>⟨[(1,lf (dS x)),(2,lf (dS y)),(3,lP 0 0),(9,lI (x.size:Int)),(10,lI (k:Int))],[bx 0 154 [dI a.1,dI a.2.1,dB a.2.2.1,dI a.2.2.2]]⟩) ((fun j I=>absurd I (bg j))) ?_ fun k _ z=> ?_
 exact wo []
 refine w4 ?_
 cases p:(decide ((k:Int) < (x.size:Int)))
 have q:=aa p
 refine w6 ?_
 refine Qd<|fqB u ?_
 exact QuA z (by omega)
 have q:=ab p
 refine w16 ?_
 cases r:(!decide ((k:Int)=a.2.1))
 have t:((k:Int)=a.2.1):=QK r
 refine w_ ?_
 obtain ⟨w,H⟩:=gs x (((k:Int)).toNat)
 cases e:((decide (w=49))==a.2.2.1)
 obtain ⟨g,B⟩:=gs y (((k:Int)).toNat)
 apply dW (i3 26 _ _ _ (io 29 (lB (decide (w=49))) :: i2 30 _ _ (io 32 (lB false) :: i4 33 _ _ _ _ (io 37 (lB (decide (g=49))) :: i2 38 _ _ [io 40 (lB (!((decide (g=49))==a.2.2.1))),io 41 _,io 25 _])))) [0,1,0,0,15,15,0,0,0,256,0,0,3840,3840,0,0,0]
 refine z3 ?_
 refine zz (fun _ b=>ac (Qu (b.v rfl) (QC 49 rfl) rfl) rfl) ?_
 refine z2 ?_
 refine zz (fun _ b=>ac (QH (e) (HS (b.v rfl) (b.v rfl) rfl JU)) rfl) ?_
 refine z4 ?_
 refine zz (fun _ b=>day rfl (b.k rfl) (Qu (b.v rfl) (QC 49 rfl) rfl) rfl) ?_
 refine z2 ?_
 refine zz (fun _ b=>day rfl (b.k rfl) (WQ (b.v rfl) (b.v rfl) rfl JU) rfl) ?_
 exact y2
 cases A:((decide (g=49))==a.2.2.1)
 refine w4 ?_
 refine Qd<|fqB u ?_
 exact QnM (k:=k) (by omega) (fun h=>by first | exact absurd ((Hx ‹_› ‹_› ‹_›).1 h) ‹_› | exact Qdj ‹_› ‹_› ‹_› h | exact Qdk ‹_› ‹_› ‹_› h)
 refine w6 ?_
 refine Qb ?_
 refine lK_ ((QkJ z (by first | exact (Hx ‹_› ‹_› ‹_›).2 ‹_› | exact QhW ‹_› ‹_› ‹_› ‹_› ‹_›))) ?_
 exact wo []
 apply dW (i3 26 _ _ _ (io 29 (lB (decide (w=49))) :: i2 30 _ _ (io 32 (lB true) :: i9 33 _ _ _ _ _ _ _ _ _ [io 25 _]))) [0,1,0,0,15,15,0,0,0,256,0,0,3840,3840,0,0,0]
 refine z3 ?_
 refine zz (fun _ b=>ac (Qu (b.v rfl) (QC 49 rfl) rfl) rfl) ?_
 refine z2 ?_
 refine zz (fun _ b=>ac (QH (e) (HS (b.v rfl) (b.v rfl) rfl JU)) rfl) ?_
 exact y10
 refine w4 ?_
 refine Qd<|fqB u ?_
 exact QnM (k:=k) (by omega) (fun h=>by first | exact absurd ((Hx ‹_› ‹_› ‹_›).1 h) ‹_› | exact Qdj ‹_› ‹_› ‹_› h | exact Qdk ‹_› ‹_› ‹_› h)
 have t:¬((k:Int)=a.2.1):=QR r
 refine w_ ?_
 obtain ⟨i,C⟩:=gs x (((k:Int)).toNat)
 obtain ⟨m,D⟩:=gs y (((k:Int)).toNat)
 apply dW (i7 18 _ _ _ _ _ _ _ []) [0,1,0,7,15,7,0]
 exact y7
 cases f:(!decide (i=m))
 have o:(i=m):=QK f
 refine w6 ?_
 refine Qb ?_
 refine lK_ ((QkJ z (by first | exact (Hx ‹_› ‹_› ‹_›).2 ‹_› | exact QhW ‹_› ‹_› ‹_› ‹_› ‹_›))) ?_
 exact wo []
 have o:¬(i=m):=QR f
 refine w4 ?_
 refine Qd<|fqB u ?_
 exact QnM (k:=k) (by omega) (fun h=>by first | exact absurd ((Hx ‹_› ‹_› ‹_›).1 h) ‹_› | exact Qdj ‹_› ‹_› ‹_› h | exact Qdk ‹_› ‹_› ‹_› h)
theorem Kf (code:ByteArray)(sig:Int)(b:ByteArray)(r:0≤sig∧sig < (code.size:Int))(q:code.size≤1000000∧b.size≤1000000):FC Tryz.prog 351 [(false,[dS code]),(false,[dI sig]),(false,[dS b])] [] 0 (QY (lf (dS (QcF code sig b)))):=by
 refine Qv Tryz.func351 rfl rfl Tryz.ntmps351 fun o j m f p i g=> ?_
 refine acI 1 fun _=> ?_
 refine w3 ?_
 apply dW (i2 7 _ _ (io 9 (lf (dS (code.extract 0 (sig).toNat))) :: io 10 _ :: io 11 (lf (dS ((code.extract 0 (sig).toNat)++b))) :: i3 12 _ _ _ [io 15 (lf (dS (code.extract (sig+1).toNat code.size))),io 16 (lf (dS (((code.extract 0 (sig).toNat)++b)++(code.extract (sig+1).toNat code.size)))),io 6 _])) [0,1,0,7,0,31,63,63,31,0,0]
 refine z2 ?_
 refine zz (fun _ e=>ac (show Does _ _ _ _ (St.put _ 9 (lf (dS (code.extract 0 (sig).toNat)))) from Hb (l:=none) (h:=(some sig)) (e.v rfl) (by exact trivial) (by exact (e.v rfl)) Z7 rfl (by first | omega | (simp only[ax,aw]; omega)) (by first | omega | (simp only[ax,aw]; omega)) (by first | omega | (simp only[ax,aw]; omega))) rfl) ?_
 refine z_ ?_
 refine zz (fun _ e=>ac (YN (e.v rfl) (e.v rfl) rfl (by first | omega | (simp only[cw,ByteArray.size_extract]; omega))) rfl) ?_
 refine z3 ?_
 refine zz (fun _ e=>ac (show Does _ _ _ _ (St.put _ 15 (lf (dS (code.extract (sig+1).toNat code.size)))) from Hb (l:=(some (sig+1))) (h:=none) (e.v rfl) (by exact (e.v rfl)) (by exact trivial) Z7 rfl (by first | omega | (simp only[ax,aw]; omega)) (by first | omega | (simp only[ax,aw]; omega)) (by first | omega | (simp only[ax,aw]; omega))) rfl)<|zz (fun _ e=>ac (YN (e.v rfl) (e.v rfl) rfl (by first | omega | (simp only[cw,ByteArray.size_extract]; omega))) rfl) ?_
 exact y1
 refine Qd<|fqS j ?_
 rfl
end Go.Proofs.YtndabgcpnmeeoaaGreat
