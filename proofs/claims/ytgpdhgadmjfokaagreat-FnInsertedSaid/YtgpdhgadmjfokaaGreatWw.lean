/- Walks over abstract states: the state graph, both sides. -/
import Derived.Test.YtgpdhgadmjfokaaGreatWp
set_option linter.unusedSimpArgs false
set_option linter.unusedVariables false
set_option linter.unusedSectionVars false
namespace Go.Proofs.YtgpdhgadmjfokaaGreat
open Go.RowKit
set_option maxRecDepth 100000
set_option maxHeartbeats 4000000
def VE:Nat→List ByteArray→List UInt8→List ByteArray
 | _,c,[]=>c
 | i,c,v :: vs=>VE (i+1) (c.set i ((c[i]?).getD ByteArray.empty++⟨#[v]⟩)) vs
def goS (n:Nat)(arcs:List DAr):Nat→Nat→List ByteArray→Option (List ByteArray)
 | 0,_,c=>some c
 | f+1,k,c=>if (WX n arcs (k:Int)).2=true then goS n arcs f (k+1) (VE 0 c (WX n arcs (k:Int)).1) else none
section
variable {n f k i m:Nat}{arcs:List DAr}{c codes:List ByteArray}{vs us:List UInt8}{v:UInt8}{x:ByteArray}
theorem QdT (hv:vs[i]? =some v)(a:c[i]? =some x):VE i c (vs.drop i)=VE (i+1) (c.set i (x++⟨#[v]⟩)) (vs.drop (i+1)):=by
 rw[ZS hv,VE,a]
 rfl
theorem Qng (h:vs.length≤i):VE i c (vs.drop i)=c:=by rw[bD h,VE]
theorem Qf3:∀(i:Nat) (c:List ByteArray) (vs:List UInt8),(VE i c vs).length=c.length
 | _,_,[]=>by rw[VE]
 | i,c,v :: vs=>by rw[VE,Qf3]; simp
theorem QsK (a:k < m)(h:(WX n arcs (k:Int)).2=true):goS n arcs (m - k) k c=goS n arcs (m - (k+1)) (k+1) (VE 0 c (WX n arcs (k:Int)).1):=by
 rw[show m - k=(m - (k+1))+1 by omega,goS,if_pos h]
theorem Qbv (a:m≤k):goS n arcs (m - k) k c=some c:=by rw[show m - k=0 by omega,goS]
theorem Qow {j:Nat}(h:(WX n arcs (j:Int)).2=false)(d:k≤j)(b:j < k+f):goS n arcs f k c=none:=by
 induction f generalizing k c with
 | zero=>omega
 | succ f a=>
  rw[goS]
  by_cases e:j=k
  ·subst e; rw[if_neg (by rw[h]; decide)]
  ·split
   ·exact a (by omega) (by omega)
   ·rfl
theorem Qhx (e:∀a∈arcs,InR n a)(sig:Int):(WX n arcs sig).2=(l5V n arcs sig).2:=by
 rcases QcA (sig:=sig) e with ⟨b,d,_⟩ | ⟨us,b,_,d⟩
 ·rw[b,d]
 ·rw[b,d]
theorem QhV (h:¬0 < ((X1 n arcs m).length:Int))(d:k < m):(l5V n arcs (k:Int)).2=true:=by
 induction m with
 | zero=>omega
 | succ m b=>
  simp only[X1,ah] at h
  by_cases e:k=m
  ·subst e
   cases a:(l5V n arcs (k:Int)).2 with
   | true=>rfl
   | false=>rw[a] at h; simp at h
  ·exact b (by omega) (by omega)
theorem Un (e:∀a∈arcs,InR n a)(h:0 < ((X1 n arcs m).length:Int)):goS n arcs m 0 c=none:=by
 have:∃j,j < m∧(l5V n arcs (j:Int)).2=false:=by
  induction m with
  | zero=>simp[X1] at h
  | succ m g=>
   simp only[X1,ah] at h
   cases b:(l5V n arcs (m:Int)).2 with
   | false=>exact ⟨m,by omega,b⟩
   | true=>
    rw[b] at h
    obtain ⟨j,o,d⟩:=g (by simpa using h)
    exact ⟨j,by omega,d⟩
 obtain ⟨j,l,b⟩:=this
 exact Qow ((Qhx e _).trans b) (aP _) (by omega)
theorem Qna (e:∀a∈arcs,InR n a)(sig:Int):(WX n arcs sig).1.length≤n:=by
 rcases QcA (sig:=sig) e with ⟨_,_,_,b⟩ | ⟨us,_,d,b⟩
 ·rw[b]; exact aP _
 ·rw[b,aE,d]; exact aM _
theorem Qgc {b:Nat}{y:ByteArray}(h:∀z∈c,z.size≤b)(d:c[i]? =some x)(g:y.size≤x.size+1):∀z∈c.set i y,z.size≤b+1:=fun z e=>by
 rcases cj e with a | a
 ·exact cP (h z a)
 ·rw[a]; have:=h x (ai d); omega
theorem W5 {ls:List QZ}{b:List DMv}{q:Nat}(h:∀v∈b,MvOk n q v):∀a∈QL ls b,InR n a:=fun a g=>by
 obtain ⟨v,j,rfl⟩:=aR.1 g
 obtain ⟨d,_,e⟩:=h v j
 exact ⟨d,e⟩
theorem Qrw {sig:Int}(g:∀a∈arcs,InR n a)(h:(l5V n arcs sig).2=true):∃us:List UInt8,(l5V n arcs sig).1=⟨us.toArray⟩∧us.length=n∧(l5V n arcs sig).1.size=n∧WX n arcs sig=(us.map q0,true):=by
 rcases QcA (sig:=sig) g with ⟨b,_⟩ | ⟨us,b,d,e⟩
 ·rw[b] at h; cases h
 ·exact ⟨us,by rw[b],d,by rw[b,← d]; rfl,e⟩
theorem QbK (b:ByteArray)(i:Nat):(b.extract i (i+1)).size≤1:=by simp only[aS]; omega
theorem QuS (d:us[i]? =some v):(⟨us.toArray⟩:ByteArray).extract i (i+1)=⟨#[v]⟩:=by
 apply ByteArray.ext
 simp only[ByteArray.data_extract]
 obtain ⟨e,a⟩:=ae.1 d
 apply Array.ext
 ·simp; omega
 ·intro j g b
  have:j=0:=by simp at b; omega
  subst this
  simp[a]
theorem Qri (a:us[i]? =some v):(us.map q0)[i]? =some (q0 v):=by rw[aW,a]; rfl
theorem QoM {b:ByteArray}(hb:b=⟨us.toArray⟩)(hi:i < us.length)(g:decide (b.extract i (i+1)=⟨#[63]⟩)=true)(h:c[i]? =some x):VE i c ((us.map q0).drop i)=VE (i+1) (c.set i (x++⟨#[48]⟩)) ((us.map q0).drop (i+1)):=by
 have d:=aj hi
 have a:=ab g
 rw[hb,QuS d] at a
 have e:us[i]=63:=by
  have:=congrArg (fun b:ByteArray=>b.data[0]?) a
  simpa using this
 have:=QdT (Qri d) h
 rwa [show q0 us[i]=48 by rw[e]; rfl] at this
theorem QoL {b:ByteArray}(hb:b=⟨us.toArray⟩)(hi:i < us.length)(g:decide (b.extract i (i+1)=⟨#[63]⟩)=false)(h:c[i]? =some x):VE i c ((us.map q0).drop i)=VE (i+1) (c.set i (x++b.extract i (i+1))) ((us.map q0).drop (i+1)):=by
 have d:=aj hi
 have a:=aa g
 rw[hb,QuS d] at a ⊢
 have:=QdT (Qri d) h
 rwa [show q0 us[i]=us[i] by unfold q0; rw[if_neg]; intro e; exact a (by rw[e])] at this
theorem Qm1 (h:us.length≤i):VE i c ((us.map q0).drop i)=c:=Qng (by simpa using h)
end
section
variable [∀s,Decidable (StgOk s)]{s:QV}{c:List ByteArray}
def KC:List (ByteArray×Int)×List ByteArray×List DAr:=([],[],[])
def sgV (s:QV):(List (ByteArray×Int)×List ByteArray×List DAr)×Bool:=
 if (Ql s).2=true∧¬4000 < (Ql s).1.2.length then
  (match goS (Ql s).1.1.length (QL s.2.2.1 (Ql s).1.2) s.2.1.length 0 (List.replicate (Ql s).1.1.length ByteArray.empty) with
  | some c=>((s.2.1,c,QL s.2.2.1 (Ql s).1.2),true)
  | none=>(KC,false))
 else (KC,false)
theorem Qbu (h:(Ql s).2=false):sgV s=(KC,false):=if_neg fun a=>by rw[h] at a; cases a.1
theorem Qbw (h:(4000:Int) < ((Ql s).1.2.length:Int)):sgV s=(KC,false):=if_neg fun a=>a.2 (by omega)
theorem QbJ (h:goS (Ql s).1.1.length (QL s.2.2.1 (Ql s).1.2) s.2.1.length 0 (List.replicate (Ql s).1.1.length ByteArray.empty)=none):sgV s=(KC,false):=by
 unfold sgV
 rw[h]
 split <;> rfl
theorem Hi (a:(Ql s).2=true)(b:¬(4000:Int) < ((Ql s).1.2.length:Int))(h:goS (Ql s).1.1.length (QL s.2.2.1 (Ql s).1.2) s.2.1.length 0 (List.replicate (Ql s).1.1.length ByteArray.empty)=some c):
 sgV s=((s.2.1,c,QL s.2.2.1 (Ql s).1.2),true):=by
 unfold sgV
 rw[if_pos ⟨a,by omega⟩,h]
end
theorem Xv (s:QhK)[∀s,Decidable (StgOk s)]:FC Tryz.prog 143 [(true,[dI s.1.1, .dat Xr s.1.2, .dat Qj s.2.1, .dat YI s.2.2.1,dS s.2.2.2])] [] 0 (Is (PV.tup [(true,[.ref 0, .ref 1, .ref 2]),(false,[dB ((sgV s).2)])]) [ar 0 44 Qz (((sgV s).1).1),ar 1 9 .str (((sgV s).1).2.1),ar 2 46 QG (((sgV s).1).2.2)]):=by
 refine Qu Tryz.func143 rfl rfl Tryz.ntmps143 fun O_ T b9 a5 X_ a7 a6=> ?_
 refine acG 0 0 fun _=> ?_
 refine w_ ?_
 refine xbx 0 ?_
 refine lc (xal 1 Wm ZI) ?_
 refine w4 ?_
 refine lc (dG 2 (Qbe s) Qjd) ?_
 refine w3 ?_
 refine lc (xal 4 QtR QfV) ?_
 refine w8 ?_
 cases b2:((Ql s).2)
 refine w15 ?_
 refine lc (Qi Xq rfl (aq.1 rfl) rfl rfl) ?_
 refine w3 ?_
 refine AC.wk (Qt 5 (p:=1) (off:=0) 44 Qz rfl rfl (Fresh.of rfl) (nlr rfl))<|AC.wk (Qt 6 (p:=1) (off:=1) 9 .str rfl rfl (Fresh.of rfl) (nlr rfl))<|AC.wk (Qt 7 (p:=1) (off:=2) 46 QG rfl rfl (Fresh.of rfl) (nlr rfl))<|Qe ?_
 have e3:(false:Bool)=((sgV s).2):=by
  (rw[Qbu ‹_›]; done)
 exact fi_ [(0,5),(1,6),(2,7)] T ⟨(Qh (by (rw[Qbu ‹_›]; rfl))),(Qh (by (rw[Qbu ‹_›]; rfl))),(Qh (by (rw[Qbu ‹_›]; rfl))),trivial⟩ (h0:=by rw[← e3] <;> rfl)
 refine w2 ?_
 refine lgy rfl rfl (Ke 8 (Qa4 s ((Ql s).1) (Z0 (s:=s) ‹_›).2.2.2.2.1 (by have:=(Z0 (s:=s) ‹_›).2.2.1; omega) (by have:=VY (Z0 (s:=s) ‹_›).1.sigs; omega)) Qh6 ⟨_,_,rfl,(Ev.b (Qr rfl)),⟨_,_,rfl,(QaR (Qr rfl) ⟨_,_,rfl, .inr ⟨_,_,_,_,rfl,rfl,rfl⟩,⟨_,_,rfl, .inr ⟨_,_,_,_,rfl,rfl,rfl⟩,rfl⟩⟩),rfl⟩⟩ rfl (Fresh.of rfl) (nlr rfl)) ?_
 refine w4 ?_
 cases I:(decide (0 < ((X1 ((Ql s).1).1.length (QL s.2.2.1 ((Ql s).1).2) s.2.1.length).length:Int)))
 have J:=aa I
 refine w6 ?_
 refine cd_ (fun _ _=> ?_) fun _ _=> ?_
 refine w_ ?_
 obtain ⟨a2,a9,b0,b1,D,a8⟩:=Z0 (s:=s) ‹_›
 have a0:=W5 (ls:=s.2.2.1) D
 have b6:=VY a2.sigs
 apply dW [⟨some 36,lR 9,[ar 9 44 Qz ([])]⟩,io 37 (lP 0 2),io 38 (lf (.dat Qj s.2.1)),⟨some 39,lR 10,[ar 10 44 Qz (([])++s.2.1),(9,none)]⟩,io 40 (lP 4 0),io 41 (lR 2),io 42 (lI ((((Ql s).1).1).length:Int)),⟨some 43,lR 11,[ar 11 9 .str (List.replicate ((((Ql s).1).1).length) (Ty.zero .str))]⟩,io 44 (ag [.ref 10, .ref 11, .val (.slice none 0 0)]),⟨some 6,lP 12 0,[bx 12 27 [.val (.slice none 0 0), .val (.slice none 0 0), .val (.slice none 0 0)]]⟩,⟨none,lf (.val undef),[bx 12 27 [.ref 10, .ref 11, .val (.slice none 0 0)]]⟩] [0,1,1,0,15,15,15,15,0,511,0]
 refine zz (fun _ d=>ac (dBs 9 (e:=Qz) Ux) rfl) ?_
 refine z2 ?_
 refine zz (fun _ d=>ac (Zf 10 (d.v rfl) (d.en 9 rfl) (Evl.rep (d.v rfl)) rfl Qax U2 (by first | omega | (simp only[ah,aE,au,ap,aD]; omega) | (simp only[ah,bw,au,ap,aD]; omega)) rfl (d.fr 10 rfl) (nlr rfl)) rfl) ?_
 refine z3 ?_
 refine zz (fun _ d=>ac (VU 11 (e:= .str) (n:=(((Ql s).1).1).length) (d.v rfl) (d.v rfl) QaE QuJ rfl (by omega) (by omega) rfl (d.fr 11 rfl) (nlr rfl)) rfl)<|zz (fun _ d=>ac (Qi Xq ⟨_,_,rfl,(d.w rfl),⟨_,_,rfl,(d.w rfl),rfl⟩⟩ (aq.1 (by simp only[Q2,WB,bj,bz]; rw[(d.en 10 rfl),(d.en 11 rfl)]; rfl)) rfl rfl) rfl)<|zz (fun _ d=>ac (UB 12 Wm ZI rfl rfl (d.fr 12 rfl) (nlr rfl)) rfl)<|zz (fun _ d=>ac (QX (d.v rfl) (d.en 12 rfl) (d.w rfl) (by simp only[Q2,WB,bj,bz]; rw[(d.en 10 rfl),(d.en 11 rfl)]; rfl) XQ rfl) rfl) ?_
 exact zN
 refine w4 ?_
 refine alL 46 fun _=> ?_
 refine w4 ?_
 refine QQ (fun O Q=>∃(k:Nat) (codes:List ByteArray),k≤s.2.1.length∧O=s.2.1.length - k∧(goS (Ql s).1.1.length (QL s.2.2.1 (Ql s).1.2) s.2.1.length 0 (List.replicate (Ql s).1.1.length ByteArray.empty)=goS (Ql s).1.1.length (QL s.2.2.1 (Ql s).1.2) (s.2.1.length - k) k codes)∧(codes.length=(Ql s).1.1.length)∧(∀c∈codes,c.size≤300*k)∧Q=⟨[(1,lP 0 0),(2,lP 1 0),(3,lB false),(4,lP 4 0),(6,lP 12 0),(47,lI (s.2.1.length:Int)),(48,lI (k:Int))],[bx 0 62 [dI s.1.1, .dat Xr s.1.2, .dat Qj s.2.1, .dat YI s.2.2.1,dS s.2.2.2],bx 1 27 [.val (.slice none 0 0), .val (.slice none 0 0), .val (.slice none 0 0)],ar 2 9 .str (((Ql s).1).1),ar 3 263 Xt (((Ql s).1).2),bx 4 160 [.ref 2, .ref 3],ar 10 44 Qz (([])++s.2.1),bx 12 27 [.ref 10, .ref 13, .val (.slice none 0 0)],ar 13 9 .str codes]⟩) ⟨0,List.replicate ((((Ql s).1).1).length) (Ty.zero .str),aP _,rfl,rfl,(by simp),(fun c Z=>by rw[cH Z]; exact aP _),rfl⟩ ?_ ?_
 exact wp [(13,11)] ⟨rfl,rfl,rfl,rfl,rfl,rfl,rfl,(Qh (by first | rfl | simp)),trivial⟩
 rintro O Q ⟨k,codes,b3,b4,H,hL,hZ,rfl⟩
 refine w4 ?_
 cases K:(decide ((k:Int) < (s.2.1.length:Int)))
 have L:=aa K
 refine w11 ?_
 refine AC.wk (Qt 14 (p:=12) (off:=2) 46 QG rfl rfl (Fresh.of rfl) (nlr rfl)) ?_
 refine lp0 ((((Ql s).1).2).length) (fun j=>⟨[(1,lP 0 0),(2,lP 1 0),(3,lB false),(6,lP 12 0),(82,lR 3),(83,lI ((((Ql s).1).2).length:Int)),(84,lI (j:Int))],[bx 0 62 [dI s.1.1, .dat Xr s.1.2, .dat Qj s.2.1, .dat YI s.2.2.1,dS s.2.2.2],bx 1 27 [.val (.slice none 0 0), .val (.slice none 0 0), .val (.slice none 0 0)],ar 3 263 Xt (((Ql s).1).2),ar 10 44 Qz (([])++s.2.1),bx 12 27 [.ref 10, .ref 13, .ref 15],ar 13 9 .str codes,ar 15 46 QG ((((Ql s).1).2.take j).map (Qky s.2.2.1))]⟩) ?_ fun j _=> ?_
 exact wp [(15,14)] ⟨rfl,rfl,rfl,rfl,rfl,rfl,(Qh (by first | rfl | simp)),trivial⟩
 refine w4 ?_
 cases y:(decide ((j:Int) < ((((Ql s).1).2).length:Int)))
 have E:=aa y
 refine w9 ?_
 have W:(true:Bool)=((sgV s).2):=by
  (rw[Hi ‹_› ‹_› (H.trans (Qbv (by omega)))]; done)
 exact fi_ [(0,10),(1,13),(2,15)] T ⟨(Qh (by (rw[Hi ‹_› ‹_› (H.trans (Qbv (by omega)))]; rfl))),(Qh (by (rw[Hi ‹_› ‹_› (H.trans (Qbv (by omega)))]; done))),(Qh (by (rw[Hi ‹_› ‹_› (H.trans (Qbv (by omega))),Q5 (by omega)]; rfl))),trivial⟩ (h0:=by rw[← W] <;> rfl)
 have E:=ab y
 refine w6 ?_
 obtain ⟨P,B⟩:=gx (((Ql s).1).2) j
 have b5:=(D _ (ai B)).2.1
 refine w_ ?_
 refine lc (xal 16 Xt Ut) ?_
 refine w7 ?_
 refine alI 91 fun _=> ?_
 obtain ⟨t,N⟩:=gx s.2.2.1 ((P.2.1).toNat)
 have a1:=Qfn N
 refine w2 ?_
 refine lc (xal 17 Qv XN) ?_
 refine w7 ?_
 refine alI 97 fun _=> ?_
 refine w2 ?_
 refine alI 99 fun _=> ?_
 refine w4 ?_
 refine alI 103 fun _=> ?_
 refine lc (Qi Qaz ⟨_,_,rfl,(Qr rfl),⟨_,_,rfl,(Qr rfl),⟨_,_,rfl,(Qr rfl),⟨_,_,rfl,(Qr rfl),rfl⟩⟩⟩⟩ (aq.1 rfl) rfl rfl) ?_
 refine lc (dBs 18 (e:=QG) Zu (hab:=by exact ⟨_,_,_,_,rfl,⟨[dI P.1],[dI t.1,dB t.2,dI P.2.2],_,_,_,_,rfl,rfl,⟨rfl,rfl⟩,⟨[dI t.1],[dB t.2,dI P.2.2],_,_,_,_,rfl,rfl,⟨rfl,rfl⟩,⟨[dB t.2],[dI P.2.2],_,_,_,_,rfl,rfl,⟨rfl,rfl⟩,⟨rfl,rfl⟩,rfl⟩,rfl⟩,rfl⟩,⟨rfl,rfl⟩,rfl⟩)) ?_
 refine lc (dA 19 UZ) ?_
 refine w2 ?_
 refine Qc ?_
 refine w4 ?_
 refine Qc ?_
 refine l0_ ?_
 exact wp [(15,19)] ⟨rfl,rfl,rfl,rfl,rfl,rfl,(Qh (by rw[QI B]; simp[Qky,a1])),trivial⟩
 have L:=ab K
 refine w12 ?_
 refine lc (X8 (Ub s ((Ql s).1) (k:Int) D (by omega)) Qcs ⟨_,_,rfl,(Ev.b (Qr rfl)),⟨_,_,rfl,(QaR (Qr rfl) ⟨_,_,rfl, .inr ⟨_,_,_,_,rfl,rfl,rfl⟩,⟨_,_,rfl, .inr ⟨_,_,_,_,rfl,rfl,rfl⟩,rfl⟩⟩),⟨_,_,rfl,(Ev.b (Qr rfl)),rfl⟩⟩⟩ rfl rfl rfl) ?_
 refine w6 ?_
 refine Z6 ?_
 obtain ⟨us,u,b7,b8,M⟩:=Qrw (sig:=(k:Int)) a0 (QhV (m:=s.2.1.length) ‹_› (by omega))
 refine w7 ?_
 refine QQ (fun O Q=>∃(i:Nat) (a:List ByteArray),i≤codes.length∧O=codes.length - i∧(VE 0 codes (us.map q0)=VE i a ((us.map q0).drop i))∧(a.length=(Ql s).1.1.length)∧(∀c∈a,c.size≤300*k+i)∧Q=⟨[(1,lP 0 0),(2,lP 1 0),(3,lB false),(4,lP 4 0),(6,lP 12 0),(7,lI (k:Int)),(8,lf (dS ((l5V ((Ql s).1).1.length (QL s.2.2.1 ((Ql s).1).2) (k:Int)).1))),(47,lI (s.2.1.length:Int)),(48,lI (k:Int)),(49,lB true),(50,lI (k:Int)),(51,PV.tup [(false,[dS ((l5V ((Ql s).1).1.length (QL s.2.2.1 ((Ql s).1).2) (k:Int)).1)]),(false,[dB ((l5V ((Ql s).1).1.length (QL s.2.2.1 ((Ql s).1).2) (k:Int)).2)])]),(52,ag [dI s.1.1, .dat Xr s.1.2, .dat Qj s.2.1, .dat YI s.2.2.1,dS s.2.2.2]),(53,ag [.ref 2, .ref 3]),(54,lI (k:Int)),(55,PV.tup [(false,[dS ((l5V ((Ql s).1).1.length (QL s.2.2.1 ((Ql s).1).2) (k:Int)).1)]),(false,[dB ((l5V ((Ql s).1).1.length (QL s.2.2.1 ((Ql s).1).2) (k:Int)).2)])]),(56,lf (dS ((l5V ((Ql s).1).1.length (QL s.2.2.1 ((Ql s).1).2) (k:Int)).1))),(57,lB ((l5V ((Ql s).1).1.length (QL s.2.2.1 ((Ql s).1).2) (k:Int)).2)),(58,lP 12 1),(60,lI (codes.length:Int)),(61,lI (i:Int))],[bx 0 62 [dI s.1.1, .dat Xr s.1.2, .dat Qj s.2.1, .dat YI s.2.2.1,dS s.2.2.2],bx 1 27 [.val (.slice none 0 0), .val (.slice none 0 0), .val (.slice none 0 0)],ar 2 9 .str (((Ql s).1).1),ar 3 263 Xt (((Ql s).1).2),bx 4 160 [.ref 2, .ref 3],ar 10 44 Qz (([])++s.2.1),bx 12 27 [.ref 10, .ref 20, .val (.slice none 0 0)],ar 20 9 .str a]⟩) ⟨0,codes,aP _,rfl,rfl,hL,hZ,rfl⟩ ?_ ?_
 exact wo [(20,13)]
 rintro O Q ⟨i,a,a3,a4,q,C,r,rfl⟩
 refine w4 ?_
 cases z:(decide ((i:Int) < (codes.length:Int)))
 have F:=aa z
 refine w6 ?_
 refine Qc<|Zs ⟨k+1,a,by omega,rfl,(by rw[H,QsK (by omega) (by rw[M])]; exact congrArg _ (by rw[M]; exact q.trans (Qm1 (by omega)))),C,(fun c Z=>bg (r c Z) (by omega)),rfl⟩ (by omega) ?_
 exact wo [(13,20)]
 have F:=ab z
 refine w13 ?_
 refine lc (show Does _ _ _ _ (St.put _ 68 (lf (dS (((l5V ((Ql s).1).1.length (QL s.2.2.1 ((Ql s).1).2) (k:Int)).1).extract ((i:Int)).toNat ((i:Int)+1).toNat)))) from Q0 (l:=(some (i:Int))) (h:=(some ((i:Int)+1))) (Qa rfl) (by exact (Qa rfl)) (by exact (Qa rfl)) Q9 rfl (by first | omega | (simp only[ao,ak]; omega)) (by first | omega | (simp only[ao,ak]; omega)) (by first | omega | (simp only[ao,ak]; omega))) ?_
 refine w7 ?_
 cases A:(decide ((((l5V ((Ql s).1).1.length (QL s.2.2.1 ((Ql s).1).2) (k:Int)).1).extract ((i:Int)).toNat ((i:Int)+1).toNat)=(⟨#[63]⟩:ByteArray)))
 have G:=aa A
 refine w7 ?_
 obtain ⟨R,g⟩:=gx a i
 have U:=r _ (ai g)
 refine w2 ?_
 refine lc (Q8 (Qa rfl) (Qa rfl) rfl (by first | (simp only[YO]; omega) | (refine bg (Nat.add_le_add_left (QbK _ i) _) ?_; omega))) ?_
 refine w_ ?_
 refine lc (QA (e:= .str) (z':=R++(((l5V ((Ql s).1).1.length (QL s.2.2.1 ((Ql s).1).2) (k:Int)).1).extract ((i:Int)).toNat ((i:Int)+1).toNat)) (Qa rfl) rfl g rfl (Qr rfl) rfl VX rfl rfl)<|Qc ?_
 refine w4 ?_
 refine Qc<|Zs ⟨i+1,(a.set i (R++(((l5V ((Ql s).1).1.length (QL s.2.2.1 ((Ql s).1).2) (k:Int)).1).extract ((i:Int)).toNat ((i:Int)+1).toNat))),by omega,rfl,by first | exact q.trans (QoM u (by omega) ‹_› g) | exact q.trans (QoL u (by omega) ‹_› g),(by rw[ay]; exact C),(Qgc r g (by rw[aQ]; first | exact aM _ | exact Nat.add_le_add_left (QbK _ _) _)),rfl⟩ (by omega) ?_
 exact wp [] ⟨rfl,rfl,rfl,rfl,rfl,rfl,rfl,(Qh (by first | rfl | simp)),trivial⟩
 have G:=ab A
 refine w9 ?_
 obtain ⟨S,o⟩:=gx a i
 have V:=r _ (ai o)
 refine w2 ?_
 refine lc (Q8 (Qa rfl) (Qa rfl) rfl (by first | (simp only[YO]; omega) | (refine bg (Nat.add_le_add_left (QbK _ i) _) ?_; omega))) ?_
 refine w_ ?_
 refine lc (QA (e:= .str) (z':=S++(⟨#[48]⟩:ByteArray)) (Qa rfl) rfl o rfl (Qr rfl) rfl VX rfl rfl)<|Qc ?_
 refine w4 ?_
 refine Qc<|Zs ⟨i+1,(a.set i (S++(⟨#[48]⟩:ByteArray))),by omega,rfl,by first | exact q.trans (QoM u (by omega) ‹_› o) | exact q.trans (QoL u (by omega) ‹_› o),(by rw[ay]; exact C),(Qgc r o (by rw[aQ]; first | exact aM _ | exact Nat.add_le_add_left (QbK _ _) _)),rfl⟩ (by omega) ?_
 exact wp [] ⟨rfl,rfl,rfl,rfl,rfl,rfl,rfl,(Qh (by first | rfl | simp)),trivial⟩
 refine w_ ?_
 refine lc (Qi Xq rfl (aq.1 rfl) rfl rfl) ?_
 refine w3 ?_
 refine AC.wk (Qt 21 (p:=1) (off:=0) 44 Qz rfl rfl (Fresh.of rfl) (nlr rfl))<|AC.wk (Qt 22 (p:=1) (off:=1) 9 .str rfl rfl (Fresh.of rfl) (nlr rfl))<|AC.wk (Qt 23 (p:=1) (off:=2) 46 QG rfl rfl (Fresh.of rfl) (nlr rfl))<|Qe ?_
 have X:(false:Bool)=((sgV s).2):=by
  (rw[Qbw ‹_›]; done)
 exact fi_ [(0,21),(1,22),(2,23)] T ⟨(Qh (by (rw[Qbw ‹_›]; rfl))),(Qh (by (rw[Qbw ‹_›]; rfl))),(Qh (by (rw[Qbw ‹_›]; rfl))),trivial⟩ (h0:=by rw[← X] <;> rfl)
 have J:=ab I
 refine w8 ?_
 refine lc (Qi Xq rfl (aq.1 rfl) rfl rfl) ?_
 refine w3 ?_
 refine AC.wk (Qt 24 (p:=1) (off:=0) 44 Qz rfl rfl (Fresh.of rfl) (nlr rfl))<|AC.wk (Qt 25 (p:=1) (off:=1) 9 .str rfl rfl (Fresh.of rfl) (nlr rfl))<|AC.wk (Qt 26 (p:=1) (off:=2) 46 QG rfl rfl (Fresh.of rfl) (nlr rfl))<|Qe ?_
 have Y:(false:Bool)=((sgV s).2):=by
  (rw[QbJ (Un (W5 (Z0 ‹_›).2.2.2.2.1) ‹_›)]; done)
 exact fi_ [(0,24),(1,25),(2,26)] T ⟨(Qh (by (rw[QbJ (Un (W5 (Z0 ‹_›).2.2.2.2.1) ‹_›)]; rfl))),(Qh (by (rw[QbJ (Un (W5 (Z0 ‹_›).2.2.2.2.1) ‹_›)]; rfl))),(Qh (by (rw[QbJ (Un (W5 (Z0 ‹_›).2.2.2.2.1) ‹_›)]; rfl))),trivial⟩ (h0:=by rw[← Y] <;> rfl)
end Go.Proofs.YtgpdhgadmjfokaaGreat
namespace Go.Proofs.YtgpdhgadmjfokaaGreat
open Go.RowKit
set_option maxRecDepth 100000
set_option maxHeartbeats 4000000
abbrev DRg:=List ByteArray×List DMv
instance (n m:Nat) (v:DMv):Decidable (MvOk n m v):=inferInstanceAs (Decidable (_∧_))
def QkA (r:DRg):Prop:=(1≤r.1.length∧r.1.length≤300)∧r.2.length≤4000∧r.1.Nodup∧∀v∈r.2,MvOk r.1.length 24 v
instance (r:DRg):Decidable (QkA r):=inferInstanceAs (Decidable (_∧_))
def QvW (l:List ByteArray):List (ByteArray×Bool):=l.foldl (fun m x=>Yx .str m x true) []
section
variable {r:DRg}{k:Nat}{x y:ByteArray}{v:DMv}{l:List ByteArray}{m:List (ByteArray×Bool)}
end
def Qm6 (f:Int→Bool):Nat→List Int
 | 0=>[]
 | k+1=>Qm6 f k++(if f (k:Int)=true then [] else [(k:Int)])
section
variable {f:Int→Bool}{k n:Nat}{α:Type _}{l:List α}{p:α→Bool}{x:α}
end
def byT (r:DRg)(t:Int):Bool:=r.2.any fun v=>decide (v.2.1=t)
def Qud (r:DRg)(t:Int):Bool:=r.2.any fun v=>decide (v.1=t)
def mfV (r:DRg)(k:Int):List DMv×Bool:=if QkA r∧0≤k∧k < r.1.length then (r.2.filter fun v=>decide (v.1=k),true) else ([],false)
def dlV (r:DRg):List Int×Bool:=if QkA r then (Qm6 (Qud r) r.1.length,true) else ([],false)
section
variable [∀s,Decidable (StgOk s)]
def dtV (s:QV)(r:DRg):List Int×Bool:=if StgOk s∧QkA r then (Qm6 (byT r) s.2.2.1.length,true) else ([],false)
end
def Qv4 (k:Int)(ms:List DMv):List DMv:=ms.filter fun v=>decide (v.1=k)
end Go.Proofs.YtgpdhgadmjfokaaGreat
namespace Go.Proofs.YtgpdhgadmjfokaaGreat
open Go.RowKit
set_option maxRecDepth 100000
set_option maxHeartbeats 4000000
section
variable {α:Type}[DecidableEq α]{a b:List α}{k:Nat}{x y:α}
theorem Qh3 (h:¬(a.length:Int)=(b.length:Int)):false=decide (a=b):=(aI fun e=>h (by rw[e])).symm
theorem Qlm (c:a[k]? =some x)(d:b[k]? =some y)(h:x≠y):false=decide (a=b):=(aI fun e=>h (by rw[e,d] at c; exact (cG c).symm)).symm
theorem Qm3 {α:Type}{a b:List α}{k:Nat}{x y:α}(c:∀j,j < k→a[j]? =b[j]?)(d:a[k]? =some x)(f:b[k]? =some y)(h:x=y):∀j,j < k+1→a[j]? =b[j]? :=fun j g=>by
 by_cases e:j=k
 ·rw[e,d,f,h]
 ·exact c j (by omega)
theorem QpY (e:(a.length:Int)=(b.length:Int))(c:∀j,j < k→a[j]? =b[j]?)(d:a.length≤k):true=decide (a=b):=(aT (bF fun j=>by
 by_cases h:j < k
 ·exact c j h
 ·rw[bu (by omega),bu (by omega)])).symm
theorem Qs1 {t:Ty}{x y:t.Den}(h:Ty.beq t x y=false):x≠y:=fun e=>by rw[(Ty.beq_iff t x y).2 e] at h; cases h
end
section
variable [∀s,Decidable (StgOk s)]
def Qn5 (s:QV):List Int:=(dtV s (Ql s).1).1
def Qoe (s:QV):Bool:=decide ((0:Int) < ((dlV (Ql s).1).1.length:Int))
def frV (s:QV):List Int×Bool×Bool:=if (sgV s).2=true then (Qn5 s,Qoe s,true) else ([],false,false)
def pfI (a b:QV):Bool×Bool:=if (frV a).2.2=true∧(frV b).2.2=true∧a.2.1=b.2.1∧a.2.2.1=b.2.2.1 then (decide ((frV a).1=(frV b).1)&&(!(frV b).2.1||(frV a).2.1),true) else (false,false)
def pfV (a b:QV):Bool×Bool:=if (sgV a).2=true∧(sgV b).2=true∧a.2.1=b.2.1∧a.2.2.1=b.2.2.1 then (decide (Qn5 a=Qn5 b)&&(Qoe a|| !Qoe b),true) else (false,false)
section
variable {a b:QV}
end
end
theorem UW (a:QiO)(b:QiO):FC Tryz.prog 103 [(false,[.dat Qj a]),(false,[.dat Qj b])] [] 0 (Q7 (lB (decide (a=b)))):=by
 refine Qu Tryz.func103 rfl rfl Tryz.ntmps103 fun v g u o z s r=> ?_
 refine w6 ?_
 refine alL 6 fun _=> ?_
 refine w2 ?_
 refine alL 8 fun _=> ?_
 refine w3 ?_
 refine cn_ (fun _ _=> ?_) fun _ _=> ?_
 refine w4 ?_
 refine alL 11 fun _=> ?_
 refine w4 ?_
 refine lpK a.length (fun k=>∀j,j < k→a[j]? =b[j]?) (fun k=>⟨[(0,lf (.dat Qj a)),(1,lf (.dat Qj b)),(12,lI (a.length:Int)),(13,lI (k:Int))],[]⟩) ((fun j t=>absurd t (bk j))) ?_ fun k _ l=> ?_
 exact wo []
 refine w4 ?_
 cases d:(decide ((k:Int) < (a.length:Int)))
 have e:=aa d
 refine w6 ?_
 refine Qe<|fqB g ?_
 exact QpY ‹_› l (by omega)
 have e:=ab d
 refine w8 ?_
 obtain ⟨h,f⟩:=gx a k
 obtain ⟨i,c⟩:=gx b k
 apply dW (i8 16 _ _ _ _ _ _ _ _ [io 24 (lB (!(Ty.beq Qz h i)))]) [0,1,0,0,15,31,15,15,0]
 refine z8 ?_
 refine zz (fun _ m=>ac (Qak Qtk Qsj (m.w rfl) (m.w rfl) (p:=h) (q:=i) rfl rfl rfl) rfl) ?_
 exact zN
 cases n:(Ty.beq Qz h i)
 refine w4 ?_
 refine Qe<|fqB g ?_
 exact Qlm f c (by first | exact Qs1 ‹_› | assumption)
 refine w6 ?_
 refine Qc ?_
 refine lK_ ((Qm3 l f c (by first | exact (Ty.beq_iff _ _ _).1 ‹_› | assumption))) ?_
 exact wo []
 refine w3 ?_
 refine Qe<|fqB g ?_
 exact Qh3 ‹_›
end Go.Proofs.YtgpdhgadmjfokaaGreat
namespace Go.Proofs.YtgpdhgadmjfokaaGreat
open Go.RowKit
set_option maxRecDepth 100000
set_option maxHeartbeats 4000000
theorem Qy {A:Amb}{P:Program}{o:Oper}{s:St}{d:Nat}{b f:Bool}(e:b=f)(h:Does A P o s (s.put d (lf (dB b)))):Does A P o s (s.put d (lf (dB f))):=e▸h
abbrev DSg:=List (ByteArray×Int)×List ByteArray×List DAr
theorem Js (b:List QB)[Decidable (Xb b)]:FC Tryz.prog 211 [(false,[.dat (.sl 44 Y2) b])] [] 0 (Q7 (lf (dB (decide (Xb b))))):=Qaf fun f w g h=>by
 obtain ⟨v,rfl,e⟩:=h.leaf1
 exact (Qc0 v b w e).mono fun _ _ h=>VF h
theorem Hx (b:List QB)[Decidable (Xb b)]:FC Tryz.prog 207 [(false,[.dat (.sl 44 Y2) b])] [] 0 (Q7 (lf (dB (decide (Xb b))))):=Qaf fun f w g h=>by
 obtain ⟨v,rfl,e⟩:=h.leaf1
 exact (Jk v b w e).mono fun _ _ h=>VF h
def UV (n:Int)(l:QZ):Prop:=(0≤l.1∧l.1≤n - 1)∨(l.1= -1∧l.2=false)
instance (n:Int) (l:QZ):Decidable (UV n l):=inferInstanceAs (Decidable (_∨_))
def YH (s:ByteArray)(n:Int):Prop:=(∀c∈s.toList,c=48∨c=49)∧(s.size:Int)=n
instance (s:ByteArray) (n:Int):Decidable (YH s n):=inferInstanceAs (Decidable (_∧_))
section
variable {n:Int}{l:QZ}{s x y:ByteArray}{k:Nat}{c d:UInt8}{a:DAr}
theorem Qj3 (h:0≤l.1∧l.1≤n - 1):true=decide (UV n l):=(aT (.inl h)).symm
theorem Qpm (h:¬(0≤l.1∧l.1≤n - 1)):Ty.beq Qas l (-1,false)=decide (UV n l):=by
 rw[ce,Ty.beq_iff,aV]
 constructor
 ·rintro rfl; exact .inr ⟨rfl,rfl⟩
 ·rintro (b | b)
  ·exact absurd b h
  ·exact dy b.1 b.2
theorem QrC (h:¬(0≤l.1∧l.1≤n - 1))(e:l.1= -1):(!l.2)=decide (UV n l):=by
 rw[ce,aV]
 constructor
 ·intro b; exact .inr ⟨e,by simpa using b⟩
 ·rintro (b | b)
  ·exact absurd b h
  ·simp[b.2]
theorem QrB (h:¬(0≤l.1∧l.1≤n - 1))(e:¬l.1= -1):false=decide (UV n l):=(aI (by rintro (b | b); exact h b; exact e b.1)).symm
theorem Hh (h:s[((k:Int)).toNat]? =some c):s.toList[k]? =some c:=by
 have h:s[k]? =some c:=h
 rw[bt]
 obtain ⟨b,e⟩:∃b:k < s.size,s[k]=c:=by
  by_cases b:k < s.size
  ·rw[di s k b] at h; exact ⟨b,cG h⟩
  ·rw[getElem?_neg s k b] at h; cases h
 rw[aj (by simpa using b)]
 rw[← e]; simp; rfl
theorem KX (f:∀j,j < k→∀c,s.toList[j]? =some c→c=48∨c=49)(g:s[((k:Int)).toNat]? =some c)(h:c=48∨c=49):∀j,j < k+1→∀c,s.toList[j]? =some c→c=48∨c=49:=fun j i d b=>by
 by_cases e:j=k
 ·subst e; rw[Hh g] at b; cases b; exact h
 ·exact f j (by omega) d b
theorem QkZ (f:s[((k:Int)).toNat]? =some c)(b:¬c=48)(e:¬c=49):false=decide (YH s n):=(aI fun h=>by
 rcases h.1 c (ai (Hh f)) with h | h
 ·exact b h
 ·exact e h).symm
theorem QgS (e:∀j,j < k→∀c,s.toList[j]? =some c→c=48∨c=49)(g:s.size≤k):decide ((s.size:Int)=n)=decide (YH s n):=cV.2 ⟨fun h=>⟨fun c f=>by
 obtain ⟨j,b⟩:=aJ.1 f
 have:=(ae.1 b).1
 rw[X3] at this
 exact e j (by omega) c b,h⟩,fun h=>h.2⟩
def YW (a:DAr)(x y:ByteArray)(j:Nat):Prop:=if (j:Int)=a.2.1 then (decide (bAt x j=49)= !a.2.2.1∧decide (bAt y j=49)=a.2.2.1) else bAt x j=bAt y j
instance (a:DAr) (x y:ByteArray) (j:Nat):Decidable (YW a x y j):=by unfold YW; exact inferInstance
def Fit (a:DAr)(x y:ByteArray):Prop:=∀j,j < x.size→YW a x y j
instance (a:DAr) (x y:ByteArray):Decidable (Fit a x y):=by unfold Fit; exact inferInstance
theorem QgM (b:∀j,j < k→YW a x y j)(h:YW a x y k):∀j,j < k+1→YW a x y j:=fun j f=>by
 by_cases e:j=k
 ·subst e; exact h
 ·exact b j (by omega)
theorem Qij (e:k < x.size)(h:¬YW a x y k):false=decide (Fit a x y):=(aI fun b=>h (b k e)).symm
theorem Qqd (b:∀j,j < k→YW a x y j)(f:x.size≤k):true=decide (Fit a x y):=(aT fun j e=>b j (by omega)).symm
theorem KB (h:¬(k:Int)=a.2.1)(b:x[((k:Int)).toNat]? =some c)(e:y[((k:Int)).toNat]? =some d):YW a x y k↔c=d:=by
 unfold YW; rw[if_neg h,Qq b,Qq e]
theorem Qnd (h:(k:Int)=a.2.1)(b:x[((k:Int)).toNat]? =some c)(e:y[((k:Int)).toNat]? =some d):YW a x y k↔(decide (c=49)= !a.2.2.1∧decide (d=49)=a.2.2.1):=by
 unfold YW; rw[if_pos h,Qq b,Qq e]
theorem Qan (h:(k:Int)=a.2.1)(g:x[((k:Int)).toNat]? =some c)(b:(decide (c=49)==a.2.2.1)=true):¬YW a x y k:=by
 unfold YW; rw[if_pos h,Qq g]
 rintro ⟨e,_⟩
 rw[e] at b
 cases f:a.2.2.1 <;> rw[f] at b <;> cases b
theorem Qay (h:(k:Int)=a.2.1)(g:y[((k:Int)).toNat]? =some d)(b:(decide (d=49)==a.2.2.1)=false):¬YW a x y k:=by
 unfold YW; rw[if_pos h,Qq g]
 rintro ⟨_,e⟩
 rw[e] at b
 cases f:a.2.2.1 <;> rw[f] at b <;> cases b
theorem QeI (h:(k:Int)=a.2.1)(j:x[((k:Int)).toNat]? =some c)(m:y[((k:Int)).toNat]? =some d)(b:(decide (c=49)==a.2.2.1)=false)(e:(decide (d=49)==a.2.2.1)=true):YW a x y k:=by
 rw[Qnd h j m]
 cases f:a.2.2.1 <;> rw[f] at b e <;> cases g:decide (c=49) <;> rw[g] at b <;> cases i:decide (d=49) <;> rw[i] at e <;> first | exact ⟨rfl,rfl⟩ | exact absurd b (by decide) | exact absurd e (by decide)
def Hm (code:ByteArray)(sig:Int)(b:ByteArray):ByteArray:=(code.extract 0 sig.toNat++b)++code.extract (sig+1).toNat code.size
end
theorem U6 (l:QdA)(n:Int)(r:0≤n∧n≤1000000):FC Tryz.prog 213 [(true,[dI l.1,dB l.2]),(false,[dI n])] [] 0 (Q7 (lB (decide (UV n l)))):=by
 refine Qu Tryz.func213 rfl rfl Tryz.ntmps213 fun m f j g o i h=> ?_
 refine acG 0 0 fun _=> ?_
 refine acI 1 fun _=> ?_
 refine w_ ?_
 refine xbx 0 ?_
 refine w7 ?_
 refine lc (dK (Zd l.1 0 (n - 1)) Z3) ?_
 refine w_ ?_
 cases b:(decide (0≤l.1∧l.1≤(n - 1)))
 have e:=aa b
 refine w_ ?_
 refine lgy rfl rfl (Qi Va ⟨_,_,rfl,(Evl.ev (Qo rfl)),rfl⟩ (aq.1 rfl) rfl rfl)<|lgy rfl rfl (Qll Qpf Qo0 (Qr rfl) (Qr rfl) (p:=l) (q:=((-1),false)) rfl rfl rfl) ?_
 refine w3 ?_
 refine Qe<|fqB f ?_
 exact Qpm ‹_›
 have e:=ab b
 refine w6 ?_
 refine Qe<|fqB f ?_
 exact Qj3 ‹_›
theorem Qa2 (l:QdA)(n:Int)(r:0≤n∧n≤1000000):FC Tryz.prog 314 [(true,[dI l.1,dB l.2]),(false,[dI n])] [] 0 (Q7 (lB (decide (UV n l)))):=by
 refine Qu Tryz.func314 rfl rfl Tryz.ntmps314 fun p h o i q m j=> ?_
 refine acG 0 0 fun _=> ?_
 refine acI 1 fun _=> ?_
 refine w_ ?_
 refine xbx 0 ?_
 refine w7 ?_
 refine lc (dK (XO l.1 0 (n - 1)) WY) ?_
 refine w_ ?_
 cases b:(decide (0≤l.1∧l.1≤(n - 1)))
 have e:=aa b
 refine w4 ?_
 cases f:(decide (l.1=(-1)))
 have g:=aa f
 refine w7 ?_
 refine Qe<|fqB h ?_
 exact QrB ‹_› ‹_›
 have g:=ab f
 refine w7 ?_
 refine Qe<|fqB h ?_
 exact QrC ‹_› ‹_›
 have e:=ab b
 refine w4 ?_
 refine Qn rfl rfl rfl ?_ rfl
 refine Qn rfl rfl rfl ?_ rfl
 refine Qn rfl rfl rfl ?_ rfl
 refine w4 ?_
 refine Qe<|fqB h ?_
 exact Qj3 ‹_›
theorem Qcf (s:ByteArray)(n:Int):FC Tryz.prog 212 [(false,[dS s]),(false,[dI n])] [] 0 (Q7 (lB (decide (YH s n)))):=by
 refine Qu Tryz.func212 rfl rfl Tryz.ntmps212 fun z p w q A t r=> ?_
 refine acI 1 fun _=> ?_
 refine w8 ?_
 refine lpK s.size (fun k=>∀j,j < k→∀c,s.toList[j]? =some c→c=48∨c=49) (fun k=>⟨[(0,lf (dS s)),(1,lI n),(5,lI (k:Int))],[]⟩) ((fun j v=>absurd v (bk j))) ?_ fun k _ o=> ?_
 exact wo []
 refine w4 ?_
 refine alS 7 fun _=> ?_
 refine lc (Zq (Qa rfl) rfl Q9) ?_
 refine w2 ?_
 cases e:(decide ((k:Int) < (s.size:Int)))
 have f:=aa e
 refine w5 ?_
 refine alS 22 fun _=> ?_
 refine lc (Zq (Qa rfl) rfl Q9) ?_
 refine w4 ?_
 refine Qe<|fqB p ?_
 exact QgS o (by omega)
 have f:=ab e
 refine w7 ?_
 obtain ⟨b,u⟩:=gs s (((k:Int)).toNat)
 refine w_ ?_
 refine lc (QW (Qa rfl) (Qs 48 rfl) rfl) ?_
 refine w_ ?_
 cases g:(!decide (b=48))
 have h:(b=48):=QJ g
 refine w13 ?_
 refine Qc ?_
 refine lK_ ((KX o ‹_› (by first | exact .inl ‹_› | exact .inr ‹_›))) ?_
 exact wo []
 have h:¬(b=48):=QU g
 refine w3 ?_
 refine lgy rfl rfl (QW (Qa rfl) (Qs 49 rfl) rfl) ?_
 refine w2 ?_
 cases i:(!decide (b=49))
 have m:(b=49):=QJ i
 refine w7 ?_
 refine Qc ?_
 refine lK_ ((KX o ‹_› (by first | exact .inl ‹_› | exact .inr ‹_›))) ?_
 exact wo []
 have m:¬(b=49):=QU i
 refine w4 ?_
 refine Qe<|fqB p ?_
 exact QkZ (k:=k) ‹_› ‹_› ‹_›
theorem Qb7 (s:ByteArray)(n:Int):FC Tryz.prog 208 [(false,[dS s]),(false,[dI n])] [] 0 (Q7 (lB (decide (YH s n)))):=by
 refine Qu Tryz.func208 rfl rfl Tryz.ntmps208 fun z p w q A t r=> ?_
 refine acI 1 fun _=> ?_
 refine w8 ?_
 refine lpK s.size (fun k=>∀j,j < k→∀c,s.toList[j]? =some c→c=48∨c=49) (fun k=>⟨[(0,lf (dS s)),(1,lI n),(5,lI (k:Int))],[]⟩) ((fun j v=>absurd v (bk j))) ?_ fun k _ o=> ?_
 exact wo []
 refine w4 ?_
 refine alS 7 fun _=> ?_
 refine lc (Zq (Qa rfl) rfl Q9) ?_
 refine w2 ?_
 cases e:(decide ((k:Int) < (s.size:Int)))
 have f:=aa e
 refine w5 ?_
 refine alS 22 fun _=> ?_
 refine lc (Zq (Qa rfl) rfl Q9) ?_
 refine w4 ?_
 refine Qe<|fqB p ?_
 exact QgS o (by omega)
 have f:=ab e
 refine w7 ?_
 obtain ⟨b,u⟩:=gs s (((k:Int)).toNat)
 refine w_ ?_
 refine lc (QW (Qa rfl) (Qs 48 rfl) rfl) ?_
 refine w_ ?_
 cases g:(!decide (b=48))
 have h:(b=48):=QJ g
 refine w13 ?_
 refine Qc ?_
 refine lK_ ((KX o ‹_› (by first | exact .inl ‹_› | exact .inr ‹_›))) ?_
 exact wo []
 have h:¬(b=48):=QU g
 refine w3 ?_
 refine lgy rfl rfl (QW (Qa rfl) (Qs 49 rfl) rfl) ?_
 refine w2 ?_
 cases i:(!decide (b=49))
 have m:(b=49):=QJ i
 refine w7 ?_
 refine Qc ?_
 refine lK_ ((KX o ‹_› (by first | exact .inl ‹_› | exact .inr ‹_›))) ?_
 exact wo []
 have m:¬(b=49):=QU i
 refine w4 ?_
 refine Qe<|fqB p ?_
 exact QkZ (k:=k) ‹_› ‹_› ‹_›
theorem He (a:QeQ)(x:ByteArray)(y:ByteArray)(J:x.size≤y.size):FC Tryz.prog 214 [(true,[dI a.1,dI a.2.1,dB a.2.2.1,dI a.2.2.2]),(false,[dS x]),(false,[dS y])] [] 0 (Q7 (lB (decide (Fit a x y)))):=by
 refine Qu Tryz.func214 rfl rfl Tryz.ntmps214 fun L u K E M G F=> ?_
 refine acG 0 0 fun _=> ?_
 refine acG 0 1 fun _=> ?_
 refine acG 0 3 fun _=> ?_
 refine w_ ?_
 refine xbx 0 ?_
 refine w5 ?_
 refine alS 8 fun _=> ?_
 refine lc (Zq (Qa rfl) rfl Q9) ?_
 refine w3 ?_
 refine lpK x.size (fun k=>∀j,j < k→YW a x y j) (fun k=>⟨[(1,lf (dS x)),(2,lf (dS y)),(3,lP 0 0),(9,lI (x.size:Int)),(10,lI (k:Int))],[bx 0 46 [dI a.1,dI a.2.1,dB a.2.2.1,dI a.2.2.2]]⟩) ((fun j I=>absurd I (bk j))) ?_ fun k _ z=> ?_
 exact wo []
 refine w4 ?_
 cases p:(decide ((k:Int) < (x.size:Int)))
 have q:=aa p
 refine w6 ?_
 refine Qe<|fqB u ?_
 exact Qqd z (by omega)
 have q:=ab p
 refine w16 ?_
 cases r:(!decide ((k:Int)=a.2.1))
 have t:((k:Int)=a.2.1):=QJ r
 refine w_ ?_
 obtain ⟨w,H⟩:=gs x (((k:Int)).toNat)
 cases e:((decide (w=49))==a.2.2.1)
 obtain ⟨g,B⟩:=gs y (((k:Int)).toNat)
 apply dW (i3 26 _ _ _ (io 29 (lB (decide (w=49))) :: i2 30 _ _ (io 32 (lB false) :: i4 33 _ _ _ _ (io 37 (lB (decide (g=49))) :: i2 38 _ _ [io 40 (lB (!((decide (g=49))==a.2.2.1))),io 41 _,io 25 _])))) [0,1,0,0,15,15,0,0,0,256,0,0,3840,3840,0,0,0]
 refine z3 ?_
 refine zz (fun _ b=>ac (Qp (b.v rfl) (Qs 49 rfl) rfl) rfl) ?_
 refine z2 ?_
 refine zz (fun _ b=>ac (Qy (e) (KQ (b.v rfl) (b.v rfl) rfl Wp)) rfl) ?_
 refine z4 ?_
 refine zz (fun _ b=>day rfl (b.k rfl) (Qp (b.v rfl) (Qs 49 rfl) rfl) rfl) ?_
 refine z2 ?_
 refine zz (fun _ b=>day rfl (b.k rfl) (Yp (b.v rfl) (b.v rfl) rfl Wp) rfl) ?_
 exact y2
 cases A:((decide (g=49))==a.2.2.1)
 refine w4 ?_
 refine Qe<|fqB u ?_
 exact Qij (k:=k) (by omega) (fun h=>by first | exact absurd ((KB ‹_› ‹_› ‹_›).1 h) ‹_› | exact Qan ‹_› ‹_› ‹_› h | exact Qay ‹_› ‹_› ‹_› h)
 refine w6 ?_
 refine Qc ?_
 refine lK_ ((QgM z (by first | exact (KB ‹_› ‹_› ‹_›).2 ‹_› | exact QeI ‹_› ‹_› ‹_› ‹_› ‹_›))) ?_
 exact wo []
 apply dW (i3 26 _ _ _ (io 29 (lB (decide (w=49))) :: i2 30 _ _ (io 32 (lB true) :: i9 33 _ _ _ _ _ _ _ _ _ [io 25 _]))) [0,1,0,0,15,15,0,0,0,256,0,0,3840,3840,0,0,0]
 refine z3 ?_
 refine zz (fun _ b=>ac (Qp (b.v rfl) (Qs 49 rfl) rfl) rfl) ?_
 refine z2 ?_
 refine zz (fun _ b=>ac (Qy (e) (KQ (b.v rfl) (b.v rfl) rfl Wp)) rfl) ?_
 exact y10
 refine w4 ?_
 refine Qe<|fqB u ?_
 exact Qij (k:=k) (by omega) (fun h=>by first | exact absurd ((KB ‹_› ‹_› ‹_›).1 h) ‹_› | exact Qan ‹_› ‹_› ‹_› h | exact Qay ‹_› ‹_› ‹_› h)
 have t:¬((k:Int)=a.2.1):=QU r
 refine w_ ?_
 obtain ⟨i,C⟩:=gs x (((k:Int)).toNat)
 obtain ⟨m,D⟩:=gs y (((k:Int)).toNat)
 apply dW (i7 18 _ _ _ _ _ _ _ []) [0,1,0,7,15,7,0]
 exact y7
 cases f:(!decide (i=m))
 have o:(i=m):=QJ f
 refine w6 ?_
 refine Qc ?_
 refine lK_ ((QgM z (by first | exact (KB ‹_› ‹_› ‹_›).2 ‹_› | exact QeI ‹_› ‹_› ‹_› ‹_› ‹_›))) ?_
 exact wo []
 have o:¬(i=m):=QU f
 refine w4 ?_
 refine Qe<|fqB u ?_
 exact Qij (k:=k) (by omega) (fun h=>by first | exact absurd ((KB ‹_› ‹_› ‹_›).1 h) ‹_› | exact Qan ‹_› ‹_› ‹_› h | exact Qay ‹_› ‹_› ‹_› h)
theorem Vy (code:ByteArray)(sig:Int)(b:ByteArray)(q:0≤sig∧sig < (code.size:Int))(hb:code.size≤1000000∧b.size≤1000000):FC Tryz.prog 315 [(false,[dS code]),(false,[dI sig]),(false,[dS b])] [] 0 (Q7 (lf (dS (Hm code sig b)))):=by
 refine Qu Tryz.func315 rfl rfl Tryz.ntmps315 fun o j m f p i g=> ?_
 refine acI 1 fun _=> ?_
 refine w3 ?_
 apply dW (i2 7 _ _ (io 9 (lf (dS (code.extract 0 (sig).toNat))) :: io 10 _ :: io 11 (lf (dS ((code.extract 0 (sig).toNat)++b))) :: i3 12 _ _ _ [io 15 (lf (dS (code.extract (sig+1).toNat code.size))),io 16 (lf (dS (((code.extract 0 (sig).toNat)++b)++(code.extract (sig+1).toNat code.size)))),io 6 _])) [0,1,0,7,0,31,63,63,31,0,0]
 refine z2 ?_
 refine zz (fun _ e=>ac (show Does _ _ _ _ (St.put _ 9 (lf (dS (code.extract 0 (sig).toNat)))) from Q0 (l:=none) (h:=(some sig)) (e.v rfl) (by exact trivial) (by exact (e.v rfl)) Q9 rfl (by first | omega | (simp only[ao,ak]; omega)) (by first | omega | (simp only[ao,ak]; omega)) (by first | omega | (simp only[ao,ak]; omega))) rfl) ?_
 refine z_ ?_
 refine zz (fun _ e=>ac (Q8 (e.v rfl) (e.v rfl) rfl (by first | omega | (simp only[aQ,aS]; omega))) rfl) ?_
 refine z3 ?_
 refine zz (fun _ e=>ac (show Does _ _ _ _ (St.put _ 15 (lf (dS (code.extract (sig+1).toNat code.size)))) from Q0 (l:=(some (sig+1))) (h:=none) (e.v rfl) (by exact (e.v rfl)) (by exact trivial) Q9 rfl (by first | omega | (simp only[ao,ak]; omega)) (by first | omega | (simp only[ao,ak]; omega)) (by first | omega | (simp only[ao,ak]; omega))) rfl)<|zz (fun _ e=>ac (Q8 (e.v rfl) (e.v rfl) rfl (by first | omega | (simp only[aQ,aS]; omega))) rfl) ?_
 exact y1
 refine Qe<|fqS j ?_
 rfl
end Go.Proofs.YtgpdhgadmjfokaaGreat
namespace Go.Proofs.YtgpdhgadmjfokaaGreat
open Go.RowKit
set_option maxRecDepth 100000
set_option maxHeartbeats 4000000
def U1 (c:DSg)(i:Int):ByteArray:=(c.2.1[i.toNat]?).getD ByteArray.empty
def Y6 (c:DSg)(a:DAr):Prop:=(0≤a.1∧a.1≤(c.2.1.length:Int) - 1)∧(0≤a.2.2.2∧a.2.2.2≤(c.2.1.length:Int) - 1)∧UV (c.1.length:Int) (a.2.1,a.2.2.1)∧Fit a (U1 c a.1) (U1 c a.2.2.2)
instance (c:DSg) (a:DAr):Decidable (Y6 c a):=inferInstanceAs (Decidable (_∧_))
section
variable {c:DSg}{a:DAr}{x y b code:ByteArray}{n sig p:Int}{j k m:Nat}
theorem Wr (h:c.2.1[p.toNat]? =some x):U1 c p=x:=by unfold U1; rw[h]; rfl
theorem V2 (m:ByteArray)(p:Int):bAt m p=(m.toList[p.toNat]?).getD 0:=by
 unfold bAt
 rw[bt]
 by_cases h:p.toNat < m.size
 ·rw[di m p.toNat h,aj (by simpa using h)]
  rfl
 ·rw[getElem?_neg m p.toNat h,bu (by simpa using h)]
theorem QfS (g:x.size=y.size)(h:∀j:Nat,j < x.size→bAt x (j:Int)=bAt y (j:Int)):x=y:=by
 have e:x.toList=y.toList:=bF fun j=>by
  by_cases d:j < x.size
  ·have h1:=h j d
   rw[V2,V2] at h1
   have h2:j < x.toList.length:=by rw[X3]; exact d
   have h3:j < y.toList.length:=by rw[X3,← g]; exact d
   have f:((j:Int)).toNat=j:=rfl
   rw[f,aj h2,aj h3] at h1
   rw[aj h2,aj h3]
   exact congrArg some h1
  ·rw[bu (by rw[X3]; omega),bu (by rw[X3]; omega)]
 rw[bt,bt] at e
 exact ByteArray.ext (Array.toList_inj.1 e)
theorem QdV (code:ByteArray)(sig:Int)(b:ByteArray):(Hm code sig b).toList=code.toList.take sig.toNat++(b.toList++code.toList.drop (sig+1).toNat):=by
 have h:code.data.size=code.size:=rfl
 simp only[Hm,bt,ByteArray.data_append,ByteArray.data_extract,Array.toList_append,Array.toList_extract,aO]
 simp[h,List.extract_eq_take_drop]
 rw[bq (by simp[h])]
theorem QdL (h0:0≤sig)(h1:sig < code.size)(hb:b.size=1):(Hm code sig b).size=code.size:=by
 rw[← X3,QdV]
 simp only[ah,au,bw,X3,hb]
 omega
theorem QjM (h0:0≤sig)(h1:sig < code.size)(hb:b.size=1)(g:j < code.size):bAt (Hm code sig b) (j:Int)=if (j:Int)=sig then bAt b 0 else bAt code (j:Int):=by
 rw[V2,QdV,V2,V2]
 have i:=X3 code
 have f:=X3 b
 have d:((j:Int)).toNat=j:=rfl
 rw[d]
 by_cases e:(j:Int)=sig
 ·rw[if_pos e,be (by rw[au]; omega),bc (by rw[au]; omega)]
  rw[show j - (code.toList.take sig.toNat).length=((0:Int)).toNat by rw[au]; show _=0; omega]
 ·rw[if_neg e]
  by_cases h:(j:Int) < sig
  ·rw[bc (by rw[au]; omega),bm,if_pos (by omega)]
  ·rw[be (by rw[au]; omega),be (by rw[au]; omega),cE]
   congr 2
   rw[au]
   omega
theorem Qbo (h:YH x n)(e:j < x.size):bAt x (j:Int)=48∨bAt x (j:Int)=49:=by
 have h2:j < x.toList.length:=by rw[X3]; exact e
 rw[V2]
 have d:((j:Int)).toNat=j:=rfl
 rw[d,aj h2]
 exact h.1 _ (cJ h2)
theorem Qfw (b:Bool):bAt (YS b) 0=if b=true then 49 else 48:=by cases b <;> rfl
theorem X4 (b:Bool):(YS b).size=1:=rfl
theorem QbA {c:UInt8}{b:Bool}(h:c=48∨c=49):decide (c=49)=b↔c=if b=true then 49 else 48:=by
 rcases h with rfl | rfl <;> cases b <;> decide
theorem Qql (hx:YH x n)(hy:YH y n)(f:a.2.1 < 0):Fit a x y↔x=y:=by
 have d:x.size=y.size:=by have:=hx.2; have:=hy.2; omega
 constructor
 ·intro h
  refine QfS d fun j e=> ?_
  have:=h j e
  unfold YW at this
  rwa [if_neg (by omega)] at this
 ·rintro rfl j e
  unfold YW
  rw[if_neg (by omega)]
theorem Qkq (hx:YH x n)(hy:YH y n)(s:¬a.2.1 < 0)(r:a.2.1 < n):Fit a x y↔x=Hm y a.2.1 (YS (!a.2.2.1))∧y=Hm x a.2.1 (YS a.2.2.1):=by
 have o:=hx.2
 have q:=hy.2
 have t:=QdL (code:=y) (sig:=a.2.1) (b:=YS (!a.2.2.1)) (by omega) (by omega) (X4 _)
 have z2:=QdL (code:=x) (sig:=a.2.1) (b:=YS a.2.2.1) (by omega) (by omega) (X4 _)
 have f:=fun (j:Nat) d=>QjM (j:=j) (code:=y) (sig:=a.2.1) (b:=YS (!a.2.2.1)) (by omega) (by omega) (X4 _) d
 have g:=fun (j:Nat) d=>QjM (j:=j) (code:=x) (sig:=a.2.1) (b:=YS a.2.2.1) (by omega) (by omega) (X4 _) d
 constructor
 ·intro h
  constructor
  ·refine QfS (by omega) fun j d=> ?_
   rw[f j (by omega),Qfw]
   have h1:=h j d
   unfold YW at h1
   split
   ·rename_i e
    rw[if_pos e] at h1
    exact (QbA (Qbo hx d)).1 h1.1
   ·rename_i e
    rwa [if_neg e] at h1
  ·refine QfS (by omega) fun j d=> ?_
   rw[g j (by omega),Qfw]
   have h1:=h j (by omega)
   unfold YW at h1
   split
   ·rename_i e
    rw[if_pos e] at h1
    exact (QbA (Qbo hy d)).1 h1.2
   ·rename_i e
    rw[if_neg e] at h1
    exact h1.symm
 ·rintro ⟨i,l⟩ j d
  have h1:=f j (by omega)
  have h2:=g j d
  rw[← i,Qfw] at h1
  rw[← l,Qfw] at h2
  unfold YW
  split
  ·rename_i e
   rw[if_pos e] at h1 h2
   exact ⟨(QbA (Qbo hx d)).2 h1,(QbA (Qbo hy (by omega))).2 h2⟩
  ·rename_i e
   rwa [if_neg e] at h1
theorem Qqp (h:¬(0≤a.1∧a.1≤(c.2.1.length:Int) - 1)):false=decide (Y6 c a):=(aI fun g=>h g.1).symm
theorem QpP (h:¬(0≤a.2.2.2∧a.2.2.2≤(c.2.1.length:Int) - 1)):false=decide (Y6 c a):=(aI fun g=>h g.2.1).symm
theorem QpG (h:¬UV (c.1.length:Int) (a.2.1,a.2.2.1)):false=decide (Y6 c a):=(aI fun g=>h g.2.2.1).symm
theorem Qht (h3:UV (c.1.length:Int) (a.2.1,a.2.2.1))(d:¬a.2.1 < 0):a.2.1 < (c.1.length:Int):=by
 rcases h3 with h | h
 ·have h:0≤a.2.1∧a.2.1≤(c.1.length:Int) - 1:=h; omega
 ·have h:a.2.1= -1:=h.1; omega
section
variable (h1:0≤a.1∧a.1≤(c.2.1.length:Int) - 1)(h2:0≤a.2.2.2∧a.2.2.2≤(c.2.1.length:Int) - 1)(h3:UV (c.1.length:Int) (a.2.1,a.2.2.1))(hx:c.2.1[a.1.toNat]? =some x)(hy:c.2.1[a.2.2.2.toNat]? =some y)
include h1 h2 h3 hx hy
theorem Qe6:Y6 c a↔Fit a x y:=by
 unfold Y6
 rw[Wr hx,Wr hy]
 exact ⟨fun g=>g.2.2.2,fun g=>⟨h1,h2,h3,g⟩⟩
theorem Qqg (hb:∀x∈c.2.1,YH x (c.1.length:Int))(d:a.2.1 < 0):decide (x=y)=decide (Y6 c a):=cV.2 (by rw[Qe6 h1 h2 h3 hx hy,Qql (hb x (ai hx)) (hb y (ai hy)) d])
theorem Qoc (hb:∀x∈c.2.1,YH x (c.1.length:Int))(d:¬a.2.1 < 0)(h:¬x=Hm y a.2.1 (YS (!a.2.2.1))):false=decide (Y6 c a):=(aI fun g=>by
 rw[Qe6 h1 h2 h3 hx hy,Qkq (hb x (ai hx)) (hb y (ai hy)) d (Qht h3 d)] at g
 exact h g.1).symm
theorem QnQ (hb:∀x∈c.2.1,YH x (c.1.length:Int))(d:¬a.2.1 < 0)(h:x=Hm y a.2.1 (YS (!a.2.2.1))):decide (y=Hm x a.2.1 (YS a.2.2.1))=decide (Y6 c a):=cV.2 (by
 rw[Qe6 h1 h2 h3 hx hy,Qkq (hb x (ai hx)) (hb y (ai hy)) d (Qht h3 d)]
 exact ⟨fun g=>⟨h,g⟩,fun g=>g.2⟩)
end
end
theorem Qdw (c:Z9)(a:QeQ)(f:∀x∈c.2.1,YH x (c.1.length:Int))(F:c.1.length≤1000):FC Tryz.prog 209 [(true,[.dat Qj c.1, .dat Qm c.2.1, .dat Qw c.2.2]),(true,[dI a.1,dI a.2.1,dB a.2.2.1,dI a.2.2.2])] [] 0 (Q7 (lB (decide (Y6 c a)))):=by
 refine Qu Tryz.func209 rfl rfl Tryz.ntmps209 fun I l H C J E D=> ?_
 refine acG 1 0 fun _=> ?_
 refine acG 1 1 fun _=> ?_
 refine acG 1 3 fun _=> ?_
 refine w_ ?_
 refine xbx 0 ?_
 refine xbx 1 ?_
 refine w8 ?_
 refine alL 10 fun _=> ?_
 refine w2 ?_
 refine lc (dK (XO a.1 0 ((c.2.1.length:Int) - 1)) WY) ?_
 refine w2 ?_
 cases o:(decide (0≤a.1∧a.1≤((c.2.1.length:Int) - 1)))
 have q:=aa o
 refine w16 ?_
 refine w10 ?_
 refine Qe<|fqB l ?_
 exact Qqp ‹_›
 have q:=ab o
 refine w4 ?_
 refine alL 19 fun _=> ?_
 refine w2 ?_
 refine lgy rfl rfl (dK (XO a.2.2.2 0 ((c.2.1.length:Int) - 1)) WY) ?_
 refine w3 ?_
 cases r:(decide (0≤a.2.2.2∧a.2.2.2≤((c.2.1.length:Int) - 1)))
 have s:=aa r
 refine w16 ?_
 refine Qe<|fqB l ?_
 exact QpP ‹_›
 have s:=ab r
 refine w4 ?_
 refine lgy rfl rfl (Qi Va ⟨_,_,rfl,(Qr rfl),⟨_,_,rfl,(Qr rfl),rfl⟩⟩ (aq.1 rfl) rfl rfl) ?_
 refine w2 ?_
 refine alL 32 fun _=> ?_
 refine w_ ?_
 refine lgy rfl rfl (dK (Qa2 (a.2.1,a.2.2.1) (c.1.length:Int) (by omega)) Qh1) ?_
 refine w3 ?_
 cases t:(decide (UV (c.1.length:Int) (a.2.1,a.2.2.1)))
 have u:=aa t
 refine w4 ?_
 refine Qe<|fqB l ?_
 exact QpG ‹_›
 have u:=ab t
 refine w2 ?_
 obtain ⟨i,w⟩:=gx c.2.1 ((a.1).toNat)
 have A:=(f _ (ai w)).2
 obtain ⟨g,z⟩:=gx c.2.1 ((a.2.2.2).toNat)
 have B:=(f _ (ai z)).2
 apply dW (i9 37 _ _ _ _ _ _ _ _ _ (i3 46 _ _ _ (i2 5 _ _ []))) [0,0,3,3,0,0,63,63,255,255,63,63,4032,0]
 exact y14
 refine w6 ?_
 refine cd_ (fun _ _=> ?_) fun _ _=> ?_
 refine w_ ?_
 have G:=Qht (c:=c) (a:=a) ‹_› ‹_›
 cases d:(decide (i=(Hm g a.2.1 (YS (!a.2.2.1)))))
 have h:=aa d
 apply dW (i7 55 _ _ _ _ _ _ _ (io 62 (lf (dS (YS (!a.2.2.1)))) :: io 63 (lf (dS (Hm g a.2.1 (YS (!a.2.2.1))))) :: io 64 (lB false) :: i9 65 _ _ _ _ _ _ _ _ _ (i2 74 _ _ [io 4 _]))) [0,1,3,3,15,15,15,15,1,0,0,0,2048,6144,6144,30720,30720,30720,2048,0,0,0]
 refine z7 ?_
 refine zz (fun _ e=>ac (dK (Xg (!a.2.2.1)) W4) rfl) ?_
 refine zz (fun _ e=>ac (dK (Vy g a.2.1 (YS (!a.2.2.1)) (by omega) ⟨by omega,by rw[X4]; decide⟩) JA) rfl) ?_
 refine zz (fun _ e=>ac (Qy (d) (K3 (e.v rfl) (e.v rfl) rfl)) rfl) ?_
 exact y12
 refine Qe<|fqB l ?_
 exact Qoc ‹_› ‹_› ‹_› (x:=i) (y:=g) ‹_› ‹_› f ‹_› ‹_›
 have h:=ab d
 apply dW (i7 55 _ _ _ _ _ _ _ (io 62 (lf (dS (YS (!a.2.2.1)))) :: io 63 (lf (dS (Hm g a.2.1 (YS (!a.2.2.1))))) :: io 64 (lB true) :: i7 65 _ _ _ _ _ _ _ (io 72 (lf (dS (YS a.2.2.1))) :: io 73 (lf (dS (Hm i a.2.1 (YS a.2.2.1)))) :: i2 74 _ _ [io 4 _]))) [0,1,3,3,15,15,15,15,1,0,0,0,2048,6144,6144,30720,30720,30720,2048,0,0,0]
 refine z7 ?_
 refine zz (fun _ e=>ac (dK (Xg (!a.2.2.1)) W4) rfl) ?_
 refine zz (fun _ e=>ac (dK (Vy g a.2.1 (YS (!a.2.2.1)) (by omega) ⟨by omega,by rw[X4]; decide⟩) JA) rfl) ?_
 refine zz (fun _ e=>ac (Qy (d) (K3 (e.v rfl) (e.v rfl) rfl)) rfl) ?_
 refine z7 ?_
 refine zz (fun _ e=>day rfl (e.k rfl) (dK (Xg a.2.2.1) W4) rfl) ?_
 refine zz (fun _ e=>day rfl (e.k rfl) (dK (Vy i a.2.1 (YS a.2.2.1) (by omega) ⟨by omega,by rw[X4]; decide⟩) JA) rfl) ?_
 exact y3
 refine Qe<|fqB l ?_
 exact QnQ ‹_› ‹_› ‹_› (x:=i) (y:=g) ‹_› ‹_› f ‹_› ‹_›
 refine w6 ?_
 refine Qe<|fqB l ?_
 exact Qqg ‹_› ‹_› ‹_› (x:=i) (y:=g) ‹_› ‹_› f ‹_›
end Go.Proofs.YtgpdhgadmjfokaaGreat
